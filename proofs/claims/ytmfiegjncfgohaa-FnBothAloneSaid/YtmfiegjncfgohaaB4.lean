import Derived.Test.YtmfiegjncfgohaaB3
namespace Go.Proofs.Ytmfiegjncfgohaa.Den
open Go.RowKit
set_option linter.unusedSimpArgs false
set_option linter.unusedVariables false
set_option maxRecDepth 100000
set_option maxHeartbeats 1000000
def A98 : AFn := ⟨109, [.tmp 4],
   .seq (.reg [⟨some 2, .box 30 (.t 0), none, []⟩,
    ⟨some 4, .mov (.c (.bool false)), none, []⟩] [1, 2])
   (.seq (.reg [⟨some 8, .faddr 4 (.t 2), none, []⟩,
    ⟨some 9, .load1 (.t 8), none, []⟩,
    ⟨some 10, .mov (.t 1), none, []⟩,
    ⟨some 11, .iaddr 8 (.t 9) (.t 10), none, []⟩,
    ⟨some 12, .loadn 8 (.t 11), none, []⟩,
    ⟨some 5, .alloc 38 8 [.int .i64 0, .int .i64 0, .int .i64 0, .int .i64 0, .int .i64 0, .int .i64 0, .int .i64 0, .int .i64 0], none, []⟩,
    ⟨none, .store 8 (.t 5) (.t 12), none, []⟩] [1, 2, 5])
   (.seq (.reg [⟨some 13, .faddr 4 (.t 2), none, []⟩,
    ⟨some 14, .load1 (.t 13), none, []⟩,
    ⟨some 15, .len (.t 14), none, []⟩,
    ⟨some 6, .mov (.t 15), none, []⟩] [1, 2, 5, 6])
   (.seq (.seq (.reg [⟨some 16, .faddr 0 (.t 5), none, []⟩,
    ⟨some 17, .load1 (.t 16), none, []⟩,
    ⟨some 18, .call 90 [(.t 17), (.c (.int .i64 0)), (.c (.int .i64 9))], none, []⟩,
    ⟨some 19, .un .not (.t 18), none, []⟩,
    ⟨some 20, .mov (.t 19), none, []⟩,
    ⟨some 21, .faddr 1 (.t 5), (some (20, false)), []⟩,
    ⟨some 22, .load1 (.t 21), (some (20, false)), []⟩,
    ⟨some 23, .call 90 [(.t 22), (.c (.int .i64 0)), (.c (.int .i64 9))], (some (20, false)), []⟩,
    ⟨some 24, .un .not (.t 23), (some (20, false)), []⟩,
    ⟨some 25, .pick (.t 20) (.c (.bool true)) (.t 24), none, []⟩,
    ⟨some 26, .mov (.t 25), none, []⟩,
    ⟨some 27, .faddr 2 (.t 5), (some (26, false)), []⟩,
    ⟨some 28, .load1 (.t 27), (some (26, false)), []⟩,
    ⟨some 29, .call 90 [(.t 28), (.c (.int .i64 0)), (.c (.int .i64 9))], (some (26, false)), []⟩,
    ⟨some 30, .un .not (.t 29), (some (26, false)), []⟩,
    ⟨some 31, .pick (.t 26) (.c (.bool true)) (.t 30), none, []⟩,
    ⟨some 32, .mov (.t 31), none, []⟩,
    ⟨some 33, .faddr 5 (.t 5), (some (32, false)), []⟩,
    ⟨some 34, .load1 (.t 33), (some (32, false)), []⟩,
    ⟨some 35, .call 90 [(.t 34), (.c (.int .i64 0)), (.c (.int .i64 9))], (some (32, false)), []⟩,
    ⟨some 36, .un .not (.t 35), (some (32, false)), []⟩,
    ⟨some 37, .pick (.t 32) (.c (.bool true)) (.t 36), none, []⟩,
    ⟨some 38, .mov (.t 37), none, []⟩,
    ⟨some 39, .faddr 3 (.t 5), (some (38, false)), []⟩,
    ⟨some 40, .load1 (.t 39), (some (38, false)), []⟩,
    ⟨some 41, .call 90 [(.t 40), (.c (.int .i64 0)), (.c (.int .i64 6))], (some (38, false)), []⟩,
    ⟨some 42, .un .not (.t 41), (some (38, false)), []⟩,
    ⟨some 43, .pick (.t 38) (.c (.bool true)) (.t 42), none, []⟩,
    ⟨some 44, .mov (.t 43), none, []⟩,
    ⟨some 45, .faddr 6 (.t 5), (some (44, false)), []⟩,
    ⟨some 46, .load1 (.t 45), (some (44, false)), []⟩,
    ⟨some 47, .faddr 0 (.t 2), (some (44, false)), []⟩,
    ⟨some 48, .load1 (.t 47), (some (44, false)), []⟩,
    ⟨some 49, .len (.t 48), (some (44, false)), []⟩,
    ⟨some 50, .bin .sub (.t 49) (.c (.int .i64 1)), (some (44, false)), []⟩,
    ⟨some 51, .call 90 [(.t 46), (.c (.int .i64 0)), (.t 50)], (some (44, false)), []⟩,
    ⟨some 52, .un .not (.t 51), (some (44, false)), []⟩,
    ⟨some 53, .pick (.t 44) (.c (.bool true)) (.t 52), none, []⟩,
    ⟨some 54, .mov (.t 53), none, []⟩,
    ⟨some 55, .faddr 7 (.t 5), (some (54, false)), []⟩,
    ⟨some 56, .load1 (.t 55), (some (54, false)), []⟩,
    ⟨some 57, .call 90 [(.t 56), (.c (.int .i64 0)), (.c (.int .i64 2))], (some (54, false)), []⟩,
    ⟨some 58, .un .not (.t 57), (some (54, false)), []⟩,
    ⟨some 59, .pick (.t 54) (.c (.bool true)) (.t 58), none, []⟩] [1, 2, 5, 6, 59])
   (.cond (.t 59) (.seq (.reg [⟨some 4, .mov (.c (.bool false)), none, []⟩] [4])
   (.ret))
   (.skip)))
   (.seq (.seq (.dreg [(0, .light, ⟨some 60, .faddr 3 (.t 5), none, []⟩),
    (1, .light, ⟨some 61, .load1 (.t 60), none, []⟩),
    (2, .light, ⟨some 62, .bin .geq (.t 61) (.c (.int .i64 5)), none, []⟩),
    (3, .light, ⟨some 63, .faddr 4 (.t 5), none, []⟩),
    (4, .light, ⟨some 64, .load1 (.t 63), none, []⟩),
    (5, .light, ⟨some 65, .mov (.t 6), none, []⟩),
    (6, .heavy, ⟨some 66, .call 90 [(.t 64), (.c (.int .i64 1)), (.t 65)], none, [(.load1 (.t 60), 61, none)]⟩),
    (7, .light, ⟨some 67, .eqb true (.t 62) (.t 66), none, []⟩),
    (8, .light, ⟨some 68, .mov (.t 67), none, []⟩),
    (9, .light, ⟨some 69, .faddr 3 (.t 5), (some (68, false)), []⟩),
    (10, .light, ⟨some 70, .load1 (.t 69), (some (68, false)), []⟩),
    (11, .light, ⟨some 71, .bin .lss (.t 70) (.c (.int .i64 5)), (some (68, false)), []⟩),
    (12, .light, ⟨some 72, .mov (.t 71), (some (68, false)), []⟩),
    (13, .light, ⟨some 73, .faddr 4 (.t 5), (some (72, true)), []⟩),
    (14, .light, ⟨some 74, .load1 (.t 73), (some (72, true)), []⟩),
    (15, .light, ⟨some 75, .bin .neq (.t 74) (.c (.int .i64 0)), (some (72, true)), []⟩),
    (16, .light, ⟨some 76, .pick (.t 72) (.t 75) (.c (.bool false)), (some (68, false)), []⟩),
    (17, .light, ⟨some 77, .pick (.t 68) (.c (.bool true)) (.t 76), none, []⟩)] [1, 2, 5, 77])
   (.cond (.t 77) (.seq (.reg [⟨some 4, .mov (.c (.bool false)), none, []⟩] [4])
   (.ret))
   (.skip)))
   (.seq (.reg [⟨some 78, .faddr 3 (.t 2), none, []⟩,
    ⟨some 79, .load1 (.t 78), none, []⟩,
    ⟨some 80, .mov (.t 1), none, []⟩,
    ⟨some 81, .bin .add (.t 80) (.c (.int .i64 1)), none, []⟩,
    ⟨some 82, .bin .eql (.t 79) (.t 81), none, []⟩,
    ⟨some 7, .mov (.t 82), none, []⟩] [5, 7])
   (.seq (.seq (.reg [⟨some 83, .faddr 3 (.t 5), none, []⟩,
    ⟨some 84, .load1 (.t 83), none, []⟩] [5, 7, 84])
   (.block 0 (.seq (.seq (.reg [⟨some 86, .bin .eql (.t 84) (.c (.int .i64 2)), none, []⟩,
    ⟨some 85, .mov (.t 86), none, []⟩] [5, 7, 84, 85])
   (.cond (.t 85) (.skip)
   (.reg [⟨some 87, .bin .eql (.t 84) (.c (.int .i64 3)), none, []⟩,
    ⟨some 85, .mov (.t 87), none, []⟩] [5, 7, 84, 85])))
   (.cond (.t 85) (.seq (.reg [⟨some 88, .mov (.t 7), none, []⟩,
    ⟨some 89, .faddr 7 (.t 5), none, []⟩,
    ⟨some 90, .load1 (.t 89), none, []⟩,
    ⟨some 91, .bin .eql (.t 90) (.c (.int .i64 0)), none, []⟩,
    ⟨some 92, .eqb false (.t 88) (.t 91), none, []⟩,
    ⟨some 4, .mov (.t 92), none, []⟩] [4])
   (.ret))
   (.seq (.reg [⟨some 94, .bin .eql (.t 84) (.c (.int .i64 4)), none, []⟩,
    ⟨some 93, .mov (.t 94), none, []⟩] [5, 7, 93])
   (.cond (.t 93) (.seq (.reg [⟨some 95, .faddr 7 (.t 5), none, []⟩,
    ⟨some 96, .load1 (.t 95), none, []⟩,
    ⟨some 97, .bin .gtr (.t 96) (.c (.int .i64 0)), none, []⟩,
    ⟨some 98, .mov (.t 97), none, []⟩,
    ⟨some 99, .mov (.t 7), (some (98, true)), []⟩,
    ⟨some 100, .un .not (.t 99), (some (98, true)), []⟩,
    ⟨some 101, .pick (.t 98) (.t 100) (.c (.bool false)), none, []⟩,
    ⟨some 4, .mov (.t 101), none, []⟩] [4])
   (.ret))
   (.skip)))))))
   (.seq (.reg [⟨some 102, .faddr 7 (.t 5), none, []⟩,
    ⟨some 103, .load1 (.t 102), none, []⟩,
    ⟨some 104, .bin .eql (.t 103) (.c (.int .i64 0)), none, []⟩,
    ⟨some 105, .mov (.t 104), none, []⟩,
    ⟨some 106, .mov (.t 7), (some (105, true)), []⟩,
    ⟨some 107, .un .not (.t 106), (some (105, true)), []⟩,
    ⟨some 108, .pick (.t 105) (.t 107) (.c (.bool false)), none, []⟩,
    ⟨some 4, .mov (.t 108), none, []⟩] [4])
   (.ret))))))))⟩
theorem a98 : agreeFn Try.prog Try.f98 A98 = true := by kernel_rfl
def A30 : AFn := ⟨115, [.tmp 2],
   .seq (.reg [⟨some 1, .box 30 (.t 0), none, []⟩,
    ⟨some 2, .mov (.c (.bool false)), none, []⟩] [1])
   (.seq (.seq (.reg [⟨some 6, .faddr 4 (.t 1), none, []⟩,
    ⟨some 7, .load1 (.t 6), none, []⟩,
    ⟨some 8, .len (.t 7), none, []⟩,
    ⟨some 9, .call 90 [(.t 8), (.c (.int .i64 1)), (.c (.int .i64 6))], none, []⟩,
    ⟨some 10, .un .not (.t 9), none, []⟩,
    ⟨some 11, .mov (.t 10), none, []⟩,
    ⟨some 12, .faddr 0 (.t 1), (some (11, false)), []⟩,
    ⟨some 13, .load1 (.t 12), (some (11, false)), []⟩,
    ⟨some 14, .len (.t 13), (some (11, false)), []⟩,
    ⟨some 15, .call 90 [(.t 14), (.c (.int .i64 1)), (.c (.int .i64 60))], (some (11, false)), []⟩,
    ⟨some 16, .un .not (.t 15), (some (11, false)), []⟩,
    ⟨some 17, .pick (.t 11) (.c (.bool true)) (.t 16), none, []⟩,
    ⟨some 18, .mov (.t 17), none, []⟩,
    ⟨some 19, .faddr 5 (.t 1), (some (18, false)), []⟩,
    ⟨some 20, .load1 (.t 19), (some (18, false)), []⟩,
    ⟨some 21, .len (.t 20), (some (18, false)), []⟩,
    ⟨some 22, .bin .gtr (.t 21) (.c (.int .i64 60)), (some (18, false)), []⟩,
    ⟨some 23, .pick (.t 18) (.c (.bool true)) (.t 22), none, []⟩,
    ⟨some 24, .mov (.t 23), none, []⟩,
    ⟨some 25, .faddr 1 (.t 1), (some (24, false)), []⟩,
    ⟨some 26, .load1 (.t 25), (some (24, false)), []⟩,
    ⟨some 27, .call 90 [(.t 26), (.c (.int .i64 0)), (.c (.int .i64 9))], (some (24, false)), []⟩,
    ⟨some 28, .un .not (.t 27), (some (24, false)), []⟩,
    ⟨some 29, .pick (.t 24) (.c (.bool true)) (.t 28), none, []⟩,
    ⟨some 30, .mov (.t 29), none, []⟩,
    ⟨some 31, .faddr 2 (.t 1), (some (30, false)), []⟩,
    ⟨some 32, .load1 (.t 31), (some (30, false)), []⟩,
    ⟨some 33, .call 90 [(.t 32), (.c (.int .i64 0)), (.c (.int .i64 9))], (some (30, false)), []⟩,
    ⟨some 34, .un .not (.t 33), (some (30, false)), []⟩,
    ⟨some 35, .pick (.t 30) (.c (.bool true)) (.t 34), none, []⟩,
    ⟨some 36, .mov (.t 35), none, []⟩,
    ⟨some 37, .faddr 3 (.t 1), (some (36, false)), []⟩,
    ⟨some 38, .load1 (.t 37), (some (36, false)), []⟩,
    ⟨some 39, .faddr 4 (.t 1), (some (36, false)), []⟩,
    ⟨some 40, .load1 (.t 39), (some (36, false)), []⟩,
    ⟨some 41, .len (.t 40), (some (36, false)), []⟩,
    ⟨some 42, .call 90 [(.t 38), (.c (.int .i64 0)), (.t 41)], (some (36, false)), []⟩,
    ⟨some 43, .un .not (.t 42), (some (36, false)), []⟩,
    ⟨some 44, .pick (.t 36) (.c (.bool true)) (.t 43), none, []⟩] [1, 44])
   (.cond (.t 44) (.seq (.reg [⟨some 2, .mov (.c (.bool false)), none, []⟩] [2])
   (.ret))
   (.skip)))
   (.seq (.seq (.reg [⟨some 3, .mov (.c (.int .i64 0)), none, []⟩] [1, 3])
   (.block 0 (.loop (.seq (.seq (.reg [⟨some 45, .mov (.t 3), none, []⟩,
    ⟨some 46, .faddr 0 (.t 1), none, []⟩,
    ⟨some 47, .load1 (.t 46), none, []⟩,
    ⟨some 48, .len (.t 47), none, []⟩,
    ⟨some 49, .bin .lss (.t 45) (.t 48), none, []⟩] [1, 3, 49])
   (.cond (.t 49) (.skip)
   (.exit 0)))
   (.seq (.block 1 (.seq (.reg [⟨some 52, .faddr 0 (.t 1), none, []⟩,
    ⟨some 53, .load1 (.t 52), none, []⟩,
    ⟨some 54, .mov (.t 3), none, []⟩,
    ⟨some 55, .iaddr 1 (.t 53) (.t 54), none, []⟩,
    ⟨some 56, .load1 (.t 55), none, []⟩,
    ⟨some 57, .call 90 [(.t 56), (.c (.int .i64 0)), (.c (.int .i64 9))], none, []⟩,
    ⟨some 58, .un .not (.t 57), none, []⟩] [1, 3, 58])
   (.cond (.t 58) (.seq (.reg [⟨some 2, .mov (.c (.bool false)), none, []⟩] [2])
   (.ret))
   (.skip))))
   (.reg [⟨some 50, .mov (.t 3), none, []⟩,
    ⟨some 51, .bin .add (.t 50) (.c (.int .i64 1)), none, []⟩,
    ⟨some 3, .mov (.t 51), none, []⟩] [1, 3]))))))
   (.seq (.seq (.reg [⟨some 4, .mov (.c (.int .i64 0)), none, []⟩] [1, 4])
   (.block 2 (.loop (.seq (.seq (.reg [⟨some 59, .mov (.t 4), none, []⟩,
    ⟨some 60, .faddr 4 (.t 1), none, []⟩,
    ⟨some 61, .load1 (.t 60), none, []⟩,
    ⟨some 62, .len (.t 61), none, []⟩,
    ⟨some 63, .bin .lss (.t 59) (.t 62), none, []⟩] [1, 4, 63])
   (.cond (.t 63) (.skip)
   (.exit 2)))
   (.seq (.block 3 (.seq (.reg [⟨some 66, .loadn 6 (.t 1), none, []⟩,
    ⟨some 67, .mov (.t 4), none, []⟩,
    ⟨some 68, .call 98 [(.t 66), (.t 67)], none, []⟩,
    ⟨some 69, .un .not (.t 68), none, []⟩] [1, 4, 69])
   (.cond (.t 69) (.seq (.reg [⟨some 2, .mov (.c (.bool false)), none, []⟩] [2])
   (.ret))
   (.skip))))
   (.reg [⟨some 64, .mov (.t 4), none, []⟩,
    ⟨some 65, .bin .add (.t 64) (.c (.int .i64 1)), none, []⟩,
    ⟨some 4, .mov (.t 65), none, []⟩] [1, 4]))))))
   (.seq (.seq (.reg [⟨some 5, .mov (.c (.int .i64 0)), none, []⟩] [1, 5])
   (.block 4 (.loop (.seq (.seq (.reg [⟨some 70, .mov (.t 5), none, []⟩,
    ⟨some 71, .faddr 5 (.t 1), none, []⟩,
    ⟨some 72, .load1 (.t 71), none, []⟩,
    ⟨some 73, .len (.t 72), none, []⟩,
    ⟨some 74, .bin .lss (.t 70) (.t 73), none, []⟩] [1, 5, 74])
   (.cond (.t 74) (.skip)
   (.exit 4)))
   (.seq (.block 5 (.seq (.dreg [(0, .light, ⟨some 77, .faddr 5 (.t 1), none, []⟩),
    (1, .light, ⟨some 78, .load1 (.t 77), none, []⟩),
    (2, .light, ⟨some 79, .mov (.t 5), none, []⟩),
    (3, .light, ⟨some 80, .iaddr 3 (.t 78) (.t 79), none, []⟩),
    (4, .light, ⟨some 81, .faddr 0 (.t 80), none, []⟩),
    (5, .light, ⟨some 82, .load1 (.t 81), none, []⟩),
    (6, .light, ⟨some 83, .faddr 4 (.t 1), none, []⟩),
    (7, .light, ⟨some 84, .load1 (.t 83), none, []⟩),
    (8, .light, ⟨some 85, .len (.t 84), none, []⟩),
    (9, .light, ⟨some 86, .bin .sub (.t 85) (.c (.int .i64 1)), none, []⟩),
    (10, .heavy, ⟨some 87, .call 90 [(.t 82), (.c (.int .i64 0)), (.t 86)], none, []⟩),
    (11, .light, ⟨some 88, .un .not (.t 87), none, []⟩),
    (12, .light, ⟨some 89, .mov (.t 88), none, []⟩),
    (13, .light, ⟨some 90, .faddr 5 (.t 1), (some (89, false)), []⟩),
    (14, .light, ⟨some 91, .load1 (.t 90), (some (89, false)), []⟩),
    (15, .light, ⟨some 92, .mov (.t 5), (some (89, false)), []⟩),
    (16, .light, ⟨some 93, .iaddr 3 (.t 91) (.t 92), (some (89, false)), []⟩),
    (17, .light, ⟨some 94, .faddr 2 (.t 93), (some (89, false)), []⟩),
    (18, .light, ⟨some 95, .load1 (.t 94), (some (89, false)), []⟩),
    (19, .heavy, ⟨some 96, .call 90 [(.t 95), (.c (.int .i64 0)), (.c (.int .i64 9))], (some (89, false)), []⟩),
    (20, .light, ⟨some 97, .un .not (.t 96), (some (89, false)), []⟩),
    (21, .light, ⟨some 98, .pick (.t 89) (.c (.bool true)) (.t 97), none, []⟩)] [1, 5, 98])
   (.cond (.t 98) (.seq (.reg [⟨some 2, .mov (.c (.bool false)), none, []⟩] [2])
   (.ret))
   (.skip))))
   (.reg [⟨some 75, .mov (.t 5), none, []⟩,
    ⟨some 76, .bin .add (.t 75) (.c (.int .i64 1)), none, []⟩,
    ⟨some 5, .mov (.t 76), none, []⟩] [1, 5]))))))
   (.seq (.dreg [(0, .light, ⟨some 99, .faddr 3 (.t 1), none, []⟩),
    (1, .light, ⟨some 100, .load1 (.t 99), none, []⟩),
    (2, .light, ⟨some 101, .bin .eql (.t 100) (.c (.int .i64 0)), none, []⟩),
    (3, .light, ⟨some 102, .mov (.t 101), none, []⟩),
    (4, .light, ⟨some 103, .faddr 4 (.t 1), (some (102, false)), []⟩),
    (5, .light, ⟨some 104, .load1 (.t 103), (some (102, false)), []⟩),
    (6, .light, ⟨some 105, .faddr 3 (.t 1), (some (102, false)), []⟩),
    (7, .light, ⟨some 106, .load1 (.t 105), (some (102, false)), []⟩),
    (8, .light, ⟨some 107, .bin .sub (.t 106) (.c (.int .i64 1)), (some (102, false)), []⟩),
    (9, .light, ⟨some 108, .iaddr 8 (.t 104) (.t 107), (some (102, false)), []⟩),
    (10, .light, ⟨some 109, .faddr 1 (.t 108), (some (102, false)), []⟩),
    (11, .light, ⟨some 110, .load1 (.t 109), (some (102, false)), []⟩),
    (12, .light, ⟨some 111, .faddr 1 (.t 1), (some (102, false)), []⟩),
    (13, .light, ⟨some 112, .load1 (.t 111), (some (102, false)), []⟩),
    (14, .light, ⟨some 113, .bin .eql (.t 110) (.t 112), (some (102, false)), []⟩),
    (15, .light, ⟨some 114, .pick (.t 102) (.c (.bool true)) (.t 113), none, []⟩),
    (16, .light, ⟨some 2, .mov (.t 114), none, []⟩)] [2])
   (.ret))))))⟩
theorem a30 : agreeFn Try.prog Try.f30 A30 = true := by kernel_rfl
def wantS2 (b : Bo) (t : Nat) (x : Want) : Bool :=
  if x.phase = 2 ∨ x.phase = 3 then decide (b.mark = (t : Int) + 1) == decide (x.got = 0) else if x.phase = 4 then decide (0 < x.got) && !decide (b.mark = (t : Int) + 1) else decide (x.got = 0) && !decide (b.mark = (t : Int) + 1)
theorem wantS_split (b : Bo) (t : Nat) (x : Want) : wantS b t x = (sm x.if_ && (sm x.old && (sm x.new && (sm x.saw && (decide (0 ≤ x.phase ∧ x.phase ≤ 6) && (decide (0 ≤ x.from_ ∧ x.from_ ≤ (b.sn.length : Int) - 1) && (decide (0 ≤ x.got ∧ x.got ≤ 2) &&
  ((decide (5 ≤ x.phase) == decide (1 ≤ x.who ∧ x.who ≤ (b.wants.length : Int))) && ((!(decide (x.phase < 5) && !decide (x.who = 0))) && wantS2 b t x))))))))) := rfl
theorem b_l26Want (b : Bo) (t : Nat) (ht : t < b.wants.length) (h2 : b.wants.length ≤ 2000000) (h1 : b.sn.length ≤ 2000000) : Spec Try.prog 98 [bov b, .s (.int .i64 t)] (hp []) fun v G => v = .s (.bool (wantS b t b.wants[t])) := by
  refine spec_of_awp dS Try.func98 a98 (by simp [A98]) ?_
  have t0 : (0 : Int) ≤ (t : Int) := by omega
  have t1 : (t : Int) < (b.wants.length : Int) := by omega
  have w1 : IntKind.i64.wrap ((b.sn.length : Int) - 1) = (b.sn.length : Int) - 1 := wrap_id (by omega) (by omega)
  have w2 : IntKind.i64.wrap ((t : Int) + 1) = (t : Int) + 1 := wrap_id (by omega) (by omega)
  have hg := wants_get ht
  generalize hx : b.wants[t] = x at *
  rw [wantS_split]
  simp only [ne_eq, S1, S2, S3, S4, S5, S6, S7, S8, S9, S10, S11, S12, S13, guarded, opWp, onX, onO, onFn, chks, chkOne, xop, evf, fget, fput, fkeep, finit, aress, ares, abin, pickv, AV.cells, reduceCtorEq, reduceIte, Nat.reduceEqDiff, Nat.reduceAdd, bound, capsOf, Nat.reduceLeDiff, AHeap.cell, AHeap.row, AHeap.cells, AHeap.put, AHeap.has, afill, Nat.reduceLT, List.reduceReplicate, alen, afillRows, afresh, aappend, srcRows, Nat.reduceSub, Nat.reduceMul, ints_len, wants_len, evs_len, A98, bov, boF, hg, encW, t0, t1]
  refine c_l1In _ _ _ _ _ ?_
  rw [show decide (0 ≤ x.if_ ∧ x.if_ ≤ 9) = sm x.if_ from rfl]
  cases q1 : sm x.if_
  · simp only [ne_eq, S1, S2, S3, S4, S5, S6, S7, S8, S9, S10, S11, S12, S13, guarded, opWp, onX, onO, onFn, chks, chkOne, xop, evf, fget, fput, fkeep, finit, aress, ares, abin, pickv, AV.cells, reduceCtorEq, reduceIte, Nat.reduceEqDiff, Nat.reduceAdd, bound, capsOf, Nat.reduceLeDiff, AHeap.cell, AHeap.row, AHeap.cells, AHeap.put, AHeap.has, afill, Nat.reduceLT, List.reduceReplicate, alen, afillRows, afresh, aappend, srcRows, Nat.reduceSub, Nat.reduceMul, ints_len, wants_len, evs_len]
    rfl
  simp only [ne_eq, S1, S2, S3, S4, S5, S6, S7, S8, S9, S10, S11, S12, S13, guarded, opWp, onX, onO, onFn, chks, chkOne, xop, evf, fget, fput, fkeep, finit, aress, ares, abin, pickv, AV.cells, reduceCtorEq, reduceIte, Nat.reduceEqDiff, Nat.reduceAdd, bound, capsOf, Nat.reduceLeDiff, AHeap.cell, AHeap.row, AHeap.cells, AHeap.put, AHeap.has, afill, Nat.reduceLT, List.reduceReplicate, alen, afillRows, afresh, aappend, srcRows, Nat.reduceSub, Nat.reduceMul, ints_len, wants_len, evs_len]
  refine c_l1In _ _ _ _ _ ?_
  rw [show decide (0 ≤ x.old ∧ x.old ≤ 9) = sm x.old from rfl]
  cases q2 : sm x.old
  · simp only [ne_eq, S1, S2, S3, S4, S5, S6, S7, S8, S9, S10, S11, S12, S13, guarded, opWp, onX, onO, onFn, chks, chkOne, xop, evf, fget, fput, fkeep, finit, aress, ares, abin, pickv, AV.cells, reduceCtorEq, reduceIte, Nat.reduceEqDiff, Nat.reduceAdd, bound, capsOf, Nat.reduceLeDiff, AHeap.cell, AHeap.row, AHeap.cells, AHeap.put, AHeap.has, afill, Nat.reduceLT, List.reduceReplicate, alen, afillRows, afresh, aappend, srcRows, Nat.reduceSub, Nat.reduceMul, ints_len, wants_len, evs_len]
    rfl
  simp only [ne_eq, S1, S2, S3, S4, S5, S6, S7, S8, S9, S10, S11, S12, S13, guarded, opWp, onX, onO, onFn, chks, chkOne, xop, evf, fget, fput, fkeep, finit, aress, ares, abin, pickv, AV.cells, reduceCtorEq, reduceIte, Nat.reduceEqDiff, Nat.reduceAdd, bound, capsOf, Nat.reduceLeDiff, AHeap.cell, AHeap.row, AHeap.cells, AHeap.put, AHeap.has, afill, Nat.reduceLT, List.reduceReplicate, alen, afillRows, afresh, aappend, srcRows, Nat.reduceSub, Nat.reduceMul, ints_len, wants_len, evs_len]
  refine c_l1In _ _ _ _ _ ?_
  rw [show decide (0 ≤ x.new ∧ x.new ≤ 9) = sm x.new from rfl]
  cases q3 : sm x.new
  · simp only [ne_eq, S1, S2, S3, S4, S5, S6, S7, S8, S9, S10, S11, S12, S13, guarded, opWp, onX, onO, onFn, chks, chkOne, xop, evf, fget, fput, fkeep, finit, aress, ares, abin, pickv, AV.cells, reduceCtorEq, reduceIte, Nat.reduceEqDiff, Nat.reduceAdd, bound, capsOf, Nat.reduceLeDiff, AHeap.cell, AHeap.row, AHeap.cells, AHeap.put, AHeap.has, afill, Nat.reduceLT, List.reduceReplicate, alen, afillRows, afresh, aappend, srcRows, Nat.reduceSub, Nat.reduceMul, ints_len, wants_len, evs_len]
    rfl
  simp only [ne_eq, S1, S2, S3, S4, S5, S6, S7, S8, S9, S10, S11, S12, S13, guarded, opWp, onX, onO, onFn, chks, chkOne, xop, evf, fget, fput, fkeep, finit, aress, ares, abin, pickv, AV.cells, reduceCtorEq, reduceIte, Nat.reduceEqDiff, Nat.reduceAdd, bound, capsOf, Nat.reduceLeDiff, AHeap.cell, AHeap.row, AHeap.cells, AHeap.put, AHeap.has, afill, Nat.reduceLT, List.reduceReplicate, alen, afillRows, afresh, aappend, srcRows, Nat.reduceSub, Nat.reduceMul, ints_len, wants_len, evs_len]
  refine c_l1In _ _ _ _ _ ?_
  rw [show decide (0 ≤ x.saw ∧ x.saw ≤ 9) = sm x.saw from rfl]
  cases q4 : sm x.saw
  · simp only [ne_eq, S1, S2, S3, S4, S5, S6, S7, S8, S9, S10, S11, S12, S13, guarded, opWp, onX, onO, onFn, chks, chkOne, xop, evf, fget, fput, fkeep, finit, aress, ares, abin, pickv, AV.cells, reduceCtorEq, reduceIte, Nat.reduceEqDiff, Nat.reduceAdd, bound, capsOf, Nat.reduceLeDiff, AHeap.cell, AHeap.row, AHeap.cells, AHeap.put, AHeap.has, afill, Nat.reduceLT, List.reduceReplicate, alen, afillRows, afresh, aappend, srcRows, Nat.reduceSub, Nat.reduceMul, ints_len, wants_len, evs_len]
    rfl
  simp only [ne_eq, S1, S2, S3, S4, S5, S6, S7, S8, S9, S10, S11, S12, S13, guarded, opWp, onX, onO, onFn, chks, chkOne, xop, evf, fget, fput, fkeep, finit, aress, ares, abin, pickv, AV.cells, reduceCtorEq, reduceIte, Nat.reduceEqDiff, Nat.reduceAdd, bound, capsOf, Nat.reduceLeDiff, AHeap.cell, AHeap.row, AHeap.cells, AHeap.put, AHeap.has, afill, Nat.reduceLT, List.reduceReplicate, alen, afillRows, afresh, aappend, srcRows, Nat.reduceSub, Nat.reduceMul, ints_len, wants_len, evs_len]
  refine c_l1In _ _ _ _ _ ?_
  cases h3 : decide (0 ≤ x.phase ∧ x.phase ≤ 6)
  · simp only [ne_eq, S1, S2, S3, S4, S5, S6, S7, S8, S9, S10, S11, S12, S13, guarded, opWp, onX, onO, onFn, chks, chkOne, xop, evf, fget, fput, fkeep, finit, aress, ares, abin, pickv, AV.cells, reduceCtorEq, reduceIte, Nat.reduceEqDiff, Nat.reduceAdd, bound, capsOf, Nat.reduceLeDiff, AHeap.cell, AHeap.row, AHeap.cells, AHeap.put, AHeap.has, afill, Nat.reduceLT, List.reduceReplicate, alen, afillRows, afresh, aappend, srcRows, Nat.reduceSub, Nat.reduceMul, ints_len, wants_len, evs_len]
    rfl
  simp only [ne_eq, S1, S2, S3, S4, S5, S6, S7, S8, S9, S10, S11, S12, S13, guarded, opWp, onX, onO, onFn, chks, chkOne, xop, evf, fget, fput, fkeep, finit, aress, ares, abin, pickv, AV.cells, reduceCtorEq, reduceIte, Nat.reduceEqDiff, Nat.reduceAdd, bound, capsOf, Nat.reduceLeDiff, AHeap.cell, AHeap.row, AHeap.cells, AHeap.put, AHeap.has, afill, Nat.reduceLT, List.reduceReplicate, alen, afillRows, afresh, aappend, srcRows, Nat.reduceSub, Nat.reduceMul, ints_len, wants_len, evs_len, w1]
  refine c_l1In _ _ _ _ _ ?_
  cases h4 : decide (0 ≤ x.from_ ∧ x.from_ ≤ (b.sn.length : Int) - 1)
  · simp only [ne_eq, S1, S2, S3, S4, S5, S6, S7, S8, S9, S10, S11, S12, S13, guarded, opWp, onX, onO, onFn, chks, chkOne, xop, evf, fget, fput, fkeep, finit, aress, ares, abin, pickv, AV.cells, reduceCtorEq, reduceIte, Nat.reduceEqDiff, Nat.reduceAdd, bound, capsOf, Nat.reduceLeDiff, AHeap.cell, AHeap.row, AHeap.cells, AHeap.put, AHeap.has, afill, Nat.reduceLT, List.reduceReplicate, alen, afillRows, afresh, aappend, srcRows, Nat.reduceSub, Nat.reduceMul, ints_len, wants_len, evs_len]
    rfl
  simp only [ne_eq, S1, S2, S3, S4, S5, S6, S7, S8, S9, S10, S11, S12, S13, guarded, opWp, onX, onO, onFn, chks, chkOne, xop, evf, fget, fput, fkeep, finit, aress, ares, abin, pickv, AV.cells, reduceCtorEq, reduceIte, Nat.reduceEqDiff, Nat.reduceAdd, bound, capsOf, Nat.reduceLeDiff, AHeap.cell, AHeap.row, AHeap.cells, AHeap.put, AHeap.has, afill, Nat.reduceLT, List.reduceReplicate, alen, afillRows, afresh, aappend, srcRows, Nat.reduceSub, Nat.reduceMul, ints_len, wants_len, evs_len]
  refine c_l1In _ _ _ _ _ ?_
  cases h5 : decide (0 ≤ x.got ∧ x.got ≤ 2)
  · simp only [ne_eq, S1, S2, S3, S4, S5, S6, S7, S8, S9, S10, S11, S12, S13, guarded, opWp, onX, onO, onFn, chks, chkOne, xop, evf, fget, fput, fkeep, finit, aress, ares, abin, pickv, AV.cells, reduceCtorEq, reduceIte, Nat.reduceEqDiff, Nat.reduceAdd, bound, capsOf, Nat.reduceLeDiff, AHeap.cell, AHeap.row, AHeap.cells, AHeap.put, AHeap.has, afill, Nat.reduceLT, List.reduceReplicate, alen, afillRows, afresh, aappend, srcRows, Nat.reduceSub, Nat.reduceMul, ints_len, wants_len, evs_len]
    rfl
  rw [show ∀ y : Bool, (true && (true && (true && (true && (true && (true && (true && y))))))) = y from fun _ => rfl, wantS2]
  simp only [ne_eq, S1, S2, S3, S4, S5, S6, S7, S8, S9, S10, S11, S12, S13, guarded, opWp, onX, onO, onFn, chks, chkOne, xop, evf, fget, fput, fkeep, finit, aress, ares, abin, pickv, AV.cells, reduceCtorEq, reduceIte, Nat.reduceEqDiff, Nat.reduceAdd, bound, capsOf, Nat.reduceLeDiff, AHeap.cell, AHeap.row, AHeap.cells, AHeap.put, AHeap.has, afill, Nat.reduceLT, List.reduceReplicate, alen, afillRows, afresh, aappend, srcRows, Nat.reduceSub, Nat.reduceMul, ints_len, wants_len, evs_len]
  refine c_l1In _ _ _ _ _ ?_
  by_cases p5 : 5 ≤ x.phase
  · have p5' : ¬ x.phase < 5 := by omega
    have n2 : ¬ x.phase = 2 := by omega
    have n3 : ¬ x.phase = 3 := by omega
    have n4 : ¬ x.phase = 4 := by omega
    cases h6 : decide (1 ≤ x.who ∧ x.who ≤ (b.wants.length : Int))
    · simp only [ne_eq, S1, S2, S3, S4, S5, S6, S7, S8, S9, S10, S11, S12, S13, guarded, opWp, onX, onO, onFn, chks, chkOne, xop, evf, fget, fput, fkeep, finit, aress, ares, abin, pickv, AV.cells, reduceCtorEq, reduceIte, Nat.reduceEqDiff, Nat.reduceAdd, bound, capsOf, Nat.reduceLeDiff, AHeap.cell, AHeap.row, AHeap.cells, AHeap.put, AHeap.has, afill, Nat.reduceLT, List.reduceReplicate, alen, afillRows, afresh, aappend, srcRows, Nat.reduceSub, Nat.reduceMul, ints_len, wants_len, evs_len, p5]
      rfl
    by_cases g0 : x.got = 0
    · simp only [ne_eq, S1, S2, S3, S4, S5, S6, S7, S8, S9, S10, S11, S12, S13, guarded, opWp, onX, onO, onFn, chks, chkOne, xop, evf, fget, fput, fkeep, finit, aress, ares, abin, pickv, AV.cells, reduceCtorEq, reduceIte, Nat.reduceEqDiff, Nat.reduceAdd, bound, capsOf, Nat.reduceLeDiff, AHeap.cell, AHeap.row, AHeap.cells, AHeap.put, AHeap.has, afill, Nat.reduceLT, List.reduceReplicate, alen, afillRows, afresh, aappend, srcRows, Nat.reduceSub, Nat.reduceMul, ints_len, wants_len, evs_len, p5, p5', n2, n3, n4, w2, eq_true g0, or_self]
      cases decide (b.mark = (t : Int) + 1) <;> rfl
    · simp only [ne_eq, S1, S2, S3, S4, S5, S6, S7, S8, S9, S10, S11, S12, S13, guarded, opWp, onX, onO, onFn, chks, chkOne, xop, evf, fget, fput, fkeep, finit, aress, ares, abin, pickv, AV.cells, reduceCtorEq, reduceIte, Nat.reduceEqDiff, Nat.reduceAdd, bound, capsOf, Nat.reduceLeDiff, AHeap.cell, AHeap.row, AHeap.cells, AHeap.put, AHeap.has, afill, Nat.reduceLT, List.reduceReplicate, alen, afillRows, afresh, aappend, srcRows, Nat.reduceSub, Nat.reduceMul, ints_len, wants_len, evs_len, p5, p5', n2, n3, n4, w2, g0, or_self]
      rfl
  · have p5' : x.phase < 5 := by omega
    cases h6 : decide (1 ≤ x.who ∧ x.who ≤ (b.wants.length : Int))
    case true =>
      simp only [ne_eq, S1, S2, S3, S4, S5, S6, S7, S8, S9, S10, S11, S12, S13, guarded, opWp, onX, onO, onFn, chks, chkOne, xop, evf, fget, fput, fkeep, finit, aress, ares, abin, pickv, AV.cells, reduceCtorEq, reduceIte, Nat.reduceEqDiff, Nat.reduceAdd, bound, capsOf, Nat.reduceLeDiff, AHeap.cell, AHeap.row, AHeap.cells, AHeap.put, AHeap.has, afill, Nat.reduceLT, List.reduceReplicate, alen, afillRows, afresh, aappend, srcRows, Nat.reduceSub, Nat.reduceMul, ints_len, wants_len, evs_len, p5]
      rfl
    by_cases p6 : x.who = 0
    · by_cases n2 : x.phase = 2
      · simp only [ne_eq, S1, S2, S3, S4, S5, S6, S7, S8, S9, S10, S11, S12, S13, guarded, opWp, onX, onO, onFn, chks, chkOne, xop, evf, fget, fput, fkeep, finit, aress, ares, abin, pickv, AV.cells, reduceCtorEq, reduceIte, Nat.reduceEqDiff, Nat.reduceAdd, bound, capsOf, Nat.reduceLeDiff, AHeap.cell, AHeap.row, AHeap.cells, AHeap.put, AHeap.has, afill, Nat.reduceLT, List.reduceReplicate, alen, afillRows, afresh, aappend, srcRows, Nat.reduceSub, Nat.reduceMul, ints_len, wants_len, evs_len, p5, p5', eq_true p6, eq_true n2, w2, true_or]
        simp
      by_cases n3 : x.phase = 3
      · simp only [ne_eq, S1, S2, S3, S4, S5, S6, S7, S8, S9, S10, S11, S12, S13, guarded, opWp, onX, onO, onFn, chks, chkOne, xop, evf, fget, fput, fkeep, finit, aress, ares, abin, pickv, AV.cells, reduceCtorEq, reduceIte, Nat.reduceEqDiff, Nat.reduceAdd, bound, capsOf, Nat.reduceLeDiff, AHeap.cell, AHeap.row, AHeap.cells, AHeap.put, AHeap.has, afill, Nat.reduceLT, List.reduceReplicate, alen, afillRows, afresh, aappend, srcRows, Nat.reduceSub, Nat.reduceMul, ints_len, wants_len, evs_len, p5, p5', eq_true p6, n2, eq_true n3, w2, or_true]
        simp
      by_cases n4 : x.phase = 4
      · by_cases g0 : 0 < x.got
        · simp only [ne_eq, S1, S2, S3, S4, S5, S6, S7, S8, S9, S10, S11, S12, S13, guarded, opWp, onX, onO, onFn, chks, chkOne, xop, evf, fget, fput, fkeep, finit, aress, ares, abin, pickv, AV.cells, reduceCtorEq, reduceIte, Nat.reduceEqDiff, Nat.reduceAdd, bound, capsOf, Nat.reduceLeDiff, AHeap.cell, AHeap.row, AHeap.cells, AHeap.put, AHeap.has, afill, Nat.reduceLT, List.reduceReplicate, alen, afillRows, afresh, aappend, srcRows, Nat.reduceSub, Nat.reduceMul, ints_len, wants_len, evs_len, p5, p5', eq_true p6, n2, n3, eq_true n4, eq_true g0, w2, or_self]
          simp
        · simp only [ne_eq, S1, S2, S3, S4, S5, S6, S7, S8, S9, S10, S11, S12, S13, guarded, opWp, onX, onO, onFn, chks, chkOne, xop, evf, fget, fput, fkeep, finit, aress, ares, abin, pickv, AV.cells, reduceCtorEq, reduceIte, Nat.reduceEqDiff, Nat.reduceAdd, bound, capsOf, Nat.reduceLeDiff, AHeap.cell, AHeap.row, AHeap.cells, AHeap.put, AHeap.has, afill, Nat.reduceLT, List.reduceReplicate, alen, afillRows, afresh, aappend, srcRows, Nat.reduceSub, Nat.reduceMul, ints_len, wants_len, evs_len, p5, p5', eq_true p6, n2, n3, eq_true n4, g0, w2, or_self]
          simp
      · by_cases g0 : x.got = 0
        · simp only [ne_eq, S1, S2, S3, S4, S5, S6, S7, S8, S9, S10, S11, S12, S13, guarded, opWp, onX, onO, onFn, chks, chkOne, xop, evf, fget, fput, fkeep, finit, aress, ares, abin, pickv, AV.cells, reduceCtorEq, reduceIte, Nat.reduceEqDiff, Nat.reduceAdd, bound, capsOf, Nat.reduceLeDiff, AHeap.cell, AHeap.row, AHeap.cells, AHeap.put, AHeap.has, afill, Nat.reduceLT, List.reduceReplicate, alen, afillRows, afresh, aappend, srcRows, Nat.reduceSub, Nat.reduceMul, ints_len, wants_len, evs_len, p5, p5', eq_true p6, n2, n3, n4, eq_true g0, w2, or_self]
          simp
        · simp only [ne_eq, S1, S2, S3, S4, S5, S6, S7, S8, S9, S10, S11, S12, S13, guarded, opWp, onX, onO, onFn, chks, chkOne, xop, evf, fget, fput, fkeep, finit, aress, ares, abin, pickv, AV.cells, reduceCtorEq, reduceIte, Nat.reduceEqDiff, Nat.reduceAdd, bound, capsOf, Nat.reduceLeDiff, AHeap.cell, AHeap.row, AHeap.cells, AHeap.put, AHeap.has, afill, Nat.reduceLT, List.reduceReplicate, alen, afillRows, afresh, aappend, srcRows, Nat.reduceSub, Nat.reduceMul, ints_len, wants_len, evs_len, p5, p5', eq_true p6, n2, n3, n4, g0, w2, or_self]
          simp
    · simp only [ne_eq, S1, S2, S3, S4, S5, S6, S7, S8, S9, S10, S11, S12, S13, guarded, opWp, onX, onO, onFn, chks, chkOne, xop, evf, fget, fput, fkeep, finit, aress, ares, abin, pickv, AV.cells, reduceCtorEq, reduceIte, Nat.reduceEqDiff, Nat.reduceAdd, bound, capsOf, Nat.reduceLeDiff, AHeap.cell, AHeap.row, AHeap.cells, AHeap.put, AHeap.has, afill, Nat.reduceLT, List.reduceReplicate, alen, afillRows, afresh, aappend, srcRows, Nat.reduceSub, Nat.reduceMul, ints_len, wants_len, evs_len, p5, p5', p6]
      simp
theorem c_l26Want (b : Bo) (t : Nat) (ht : t < b.wants.length) (h2 : b.wants.length ≤ 2000000) (h1 : b.sn.length ≤ 2000000) (l : List (Option Blk)) (args : List AV) (ha : AVsLe (Lent l) args [bov b, .s (.int .i64 t)]) (K : AV → AHeap → Prop) (h : K (.s (.bool (wantS b t b.wants[t]))) (hp l)) : Spec Try.prog 98 args (hp l) K :=
  Spec.obs (b_l26Want b t ht h2 h1) ha rfl h
def headS (b : Bo) : Bool := decide (1 ≤ (b.wants.length : Int) ∧ (b.wants.length : Int) ≤ 6) && (decide (1 ≤ (b.sn.length : Int) ∧ (b.sn.length : Int) ≤ 60) && (!decide (60 < (b.evs.length : Int)) && (sm b.w && (sm b.w0 && decide (0 ≤ b.mark ∧ b.mark ≤ (b.wants.length : Int))))))
theorem bothS_split (b : Bo) : bothOk b = (headS b && (b.sn.all sm && (allAt (wantS b) 0 b.wants && (b.evs.all (evOk b.wants.length) && lastOk b)))) := by
  have e : decide (b.evs.length ≤ 60) = !decide (60 < (b.evs.length : Int)) := by
    rw [← decide_not]; congr 1; apply propext; omega
  simp only [bothOk, headOk, headS, e]
theorem b_sBothOk (b : Bo) (hb : Bs b) : Spec Try.prog 30 [bov b] (hp []) fun v G => v = .s (.bool (bothOk b)) := by
  rw [bothS_split, headS]
  obtain ⟨l1, l2, l3⟩ := hb
  have w1 : IntKind.i64.wrap ((b.wants.length : Int) - 1) = (b.wants.length : Int) - 1 := wrap_id (by omega) (by omega)
  refine spec_of_awp dS Try.func30 a30 (by simp [A30]) ?_
  simp only [ne_eq, S1, S2, S3, S4, S5, S6, S7, S8, S9, S10, S11, S12, S13, guarded, opWp, onX, onO, onFn, chks, chkOne, xop, evf, fget, fput, fkeep, finit, aress, ares, abin, pickv, AV.cells, reduceCtorEq, reduceIte, Nat.reduceEqDiff, Nat.reduceAdd, bound, capsOf, Nat.reduceLeDiff, AHeap.cell, AHeap.row, AHeap.cells, AHeap.put, AHeap.has, afill, Nat.reduceLT, List.reduceReplicate, alen, afillRows, afresh, aappend, srcRows, Nat.reduceSub, Nat.reduceMul, ints_len, wants_len, evs_len, A30, bov, boF]
  refine c_l1In _ _ _ _ _ ?_
  cases h1 : decide (1 ≤ (b.wants.length : Int) ∧ (b.wants.length : Int) ≤ 6)
  · simp only [ne_eq, S1, S2, S3, S4, S5, S6, S7, S8, S9, S10, S11, S12, S13, guarded, opWp, onX, onO, onFn, chks, chkOne, xop, evf, fget, fput, fkeep, finit, aress, ares, abin, pickv, AV.cells, reduceCtorEq, reduceIte, Nat.reduceEqDiff, Nat.reduceAdd, bound, capsOf, Nat.reduceLeDiff, AHeap.cell, AHeap.row, AHeap.cells, AHeap.put, AHeap.has, afill, Nat.reduceLT, List.reduceReplicate, alen, afillRows, afresh, aappend, srcRows, Nat.reduceSub, Nat.reduceMul, ints_len, wants_len, evs_len]
    rfl
  simp only [ne_eq, S1, S2, S3, S4, S5, S6, S7, S8, S9, S10, S11, S12, S13, guarded, opWp, onX, onO, onFn, chks, chkOne, xop, evf, fget, fput, fkeep, finit, aress, ares, abin, pickv, AV.cells, reduceCtorEq, reduceIte, Nat.reduceEqDiff, Nat.reduceAdd, bound, capsOf, Nat.reduceLeDiff, AHeap.cell, AHeap.row, AHeap.cells, AHeap.put, AHeap.has, afill, Nat.reduceLT, List.reduceReplicate, alen, afillRows, afresh, aappend, srcRows, Nat.reduceSub, Nat.reduceMul, ints_len, wants_len, evs_len]
  refine c_l1In _ _ _ _ _ ?_
  cases h2 : decide (1 ≤ (b.sn.length : Int) ∧ (b.sn.length : Int) ≤ 60)
  · simp only [ne_eq, S1, S2, S3, S4, S5, S6, S7, S8, S9, S10, S11, S12, S13, guarded, opWp, onX, onO, onFn, chks, chkOne, xop, evf, fget, fput, fkeep, finit, aress, ares, abin, pickv, AV.cells, reduceCtorEq, reduceIte, Nat.reduceEqDiff, Nat.reduceAdd, bound, capsOf, Nat.reduceLeDiff, AHeap.cell, AHeap.row, AHeap.cells, AHeap.put, AHeap.has, afill, Nat.reduceLT, List.reduceReplicate, alen, afillRows, afresh, aappend, srcRows, Nat.reduceSub, Nat.reduceMul, ints_len, wants_len, evs_len]
    rfl
  simp only [ne_eq, S1, S2, S3, S4, S5, S6, S7, S8, S9, S10, S11, S12, S13, guarded, opWp, onX, onO, onFn, chks, chkOne, xop, evf, fget, fput, fkeep, finit, aress, ares, abin, pickv, AV.cells, reduceCtorEq, reduceIte, Nat.reduceEqDiff, Nat.reduceAdd, bound, capsOf, Nat.reduceLeDiff, AHeap.cell, AHeap.row, AHeap.cells, AHeap.put, AHeap.has, afill, Nat.reduceLT, List.reduceReplicate, alen, afillRows, afresh, aappend, srcRows, Nat.reduceSub, Nat.reduceMul, ints_len, wants_len, evs_len]
  cases h3 : decide (60 < (b.evs.length : Int))
  case true =>
    simp only [ne_eq, S1, S2, S3, S4, S5, S6, S7, S8, S9, S10, S11, S12, S13, guarded, opWp, onX, onO, onFn, chks, chkOne, xop, evf, fget, fput, fkeep, finit, aress, ares, abin, pickv, AV.cells, reduceCtorEq, reduceIte, Nat.reduceEqDiff, Nat.reduceAdd, bound, capsOf, Nat.reduceLeDiff, AHeap.cell, AHeap.row, AHeap.cells, AHeap.put, AHeap.has, afill, Nat.reduceLT, List.reduceReplicate, alen, afillRows, afresh, aappend, srcRows, Nat.reduceSub, Nat.reduceMul, ints_len, wants_len, evs_len]
    rfl
  simp only [ne_eq, S1, S2, S3, S4, S5, S6, S7, S8, S9, S10, S11, S12, S13, guarded, opWp, onX, onO, onFn, chks, chkOne, xop, evf, fget, fput, fkeep, finit, aress, ares, abin, pickv, AV.cells, reduceCtorEq, reduceIte, Nat.reduceEqDiff, Nat.reduceAdd, bound, capsOf, Nat.reduceLeDiff, AHeap.cell, AHeap.row, AHeap.cells, AHeap.put, AHeap.has, afill, Nat.reduceLT, List.reduceReplicate, alen, afillRows, afresh, aappend, srcRows, Nat.reduceSub, Nat.reduceMul, ints_len, wants_len, evs_len]
  refine c_l1In _ _ _ _ _ ?_
  rw [show decide (0 ≤ b.w ∧ b.w ≤ 9) = sm b.w from rfl]
  cases h4 : sm b.w
  · simp only [ne_eq, S1, S2, S3, S4, S5, S6, S7, S8, S9, S10, S11, S12, S13, guarded, opWp, onX, onO, onFn, chks, chkOne, xop, evf, fget, fput, fkeep, finit, aress, ares, abin, pickv, AV.cells, reduceCtorEq, reduceIte, Nat.reduceEqDiff, Nat.reduceAdd, bound, capsOf, Nat.reduceLeDiff, AHeap.cell, AHeap.row, AHeap.cells, AHeap.put, AHeap.has, afill, Nat.reduceLT, List.reduceReplicate, alen, afillRows, afresh, aappend, srcRows, Nat.reduceSub, Nat.reduceMul, ints_len, wants_len, evs_len]
    rfl
  simp only [ne_eq, S1, S2, S3, S4, S5, S6, S7, S8, S9, S10, S11, S12, S13, guarded, opWp, onX, onO, onFn, chks, chkOne, xop, evf, fget, fput, fkeep, finit, aress, ares, abin, pickv, AV.cells, reduceCtorEq, reduceIte, Nat.reduceEqDiff, Nat.reduceAdd, bound, capsOf, Nat.reduceLeDiff, AHeap.cell, AHeap.row, AHeap.cells, AHeap.put, AHeap.has, afill, Nat.reduceLT, List.reduceReplicate, alen, afillRows, afresh, aappend, srcRows, Nat.reduceSub, Nat.reduceMul, ints_len, wants_len, evs_len]
  refine c_l1In _ _ _ _ _ ?_
  rw [show decide (0 ≤ b.w0 ∧ b.w0 ≤ 9) = sm b.w0 from rfl]
  cases h5 : sm b.w0
  · simp only [ne_eq, S1, S2, S3, S4, S5, S6, S7, S8, S9, S10, S11, S12, S13, guarded, opWp, onX, onO, onFn, chks, chkOne, xop, evf, fget, fput, fkeep, finit, aress, ares, abin, pickv, AV.cells, reduceCtorEq, reduceIte, Nat.reduceEqDiff, Nat.reduceAdd, bound, capsOf, Nat.reduceLeDiff, AHeap.cell, AHeap.row, AHeap.cells, AHeap.put, AHeap.has, afill, Nat.reduceLT, List.reduceReplicate, alen, afillRows, afresh, aappend, srcRows, Nat.reduceSub, Nat.reduceMul, ints_len, wants_len, evs_len]
    rfl
  simp only [ne_eq, S1, S2, S3, S4, S5, S6, S7, S8, S9, S10, S11, S12, S13, guarded, opWp, onX, onO, onFn, chks, chkOne, xop, evf, fget, fput, fkeep, finit, aress, ares, abin, pickv, AV.cells, reduceCtorEq, reduceIte, Nat.reduceEqDiff, Nat.reduceAdd, bound, capsOf, Nat.reduceLeDiff, AHeap.cell, AHeap.row, AHeap.cells, AHeap.put, AHeap.has, afill, Nat.reduceLT, List.reduceReplicate, alen, afillRows, afresh, aappend, srcRows, Nat.reduceSub, Nat.reduceMul, ints_len, wants_len, evs_len]
  refine c_l1In _ _ _ _ _ ?_
  cases h6 : decide (0 ≤ b.mark ∧ b.mark ≤ (b.wants.length : Int))
  · simp only [ne_eq, S1, S2, S3, S4, S5, S6, S7, S8, S9, S10, S11, S12, S13, guarded, opWp, onX, onO, onFn, chks, chkOne, xop, evf, fget, fput, fkeep, finit, aress, ares, abin, pickv, AV.cells, reduceCtorEq, reduceIte, Nat.reduceEqDiff, Nat.reduceAdd, bound, capsOf, Nat.reduceLeDiff, AHeap.cell, AHeap.row, AHeap.cells, AHeap.put, AHeap.has, afill, Nat.reduceLT, List.reduceReplicate, alen, afillRows, afresh, aappend, srcRows, Nat.reduceSub, Nat.reduceMul, ints_len, wants_len, evs_len]
    rfl
  rw [show ∀ y : Bool, ((true && (true && (true && (true && (true && true))))) && y) = y from fun _ => rfl]
  simp only [ne_eq, S1, S2, S3, S4, S5, S6, S7, S8, S9, S10, S11, S12, S13, guarded, opWp, onX, onO, onFn, chks, chkOne, xop, evf, fget, fput, fkeep, finit, aress, ares, abin, pickv, AV.cells, reduceCtorEq, reduceIte, Nat.reduceEqDiff, Nat.reduceAdd, bound, capsOf, Nat.reduceLeDiff, AHeap.cell, AHeap.row, AHeap.cells, AHeap.put, AHeap.has, afill, Nat.reduceLT, List.reduceReplicate, alen, afillRows, afresh, aappend, srcRows, Nat.reduceSub, Nat.reduceMul, ints_len, wants_len, evs_len]
  refine awp_loop (fun m s => ∃ (i : Nat), i + m = b.sn.length ∧ b.sn.all sm = (b.sn.drop i).all sm ∧ s = ⟨[(1, .s (.ptr 0 0 0)), (3, .s (.int .i64 i))], hp [some ⟨6, 30, [[.lst 1 (ints b.sn), .int .i64 b.w, .int .i64 b.w0, .int .i64 b.mark, .lst 8 (wants b.wants), .lst 3 (evs b.evs)]]⟩]⟩) b.sn.length ⟨_, W.refl (Nat.zero_le _), 0, by omega, rfl, rfl⟩ ?_
  rintro m s ⟨i, him, hf, rfl⟩
  by_cases hi : i < b.sn.length
  · have j1 : (i : Int) < (b.sn.length : Int) := by omega
    have j0 : (0 : Int) ≤ (i : Int) := by omega
    have w2 : IntKind.i64.wrap ((i : Int) + 1) = (i + 1 : Nat) := wrap_id (by omega) (by omega)
    rw [all_drop hi] at hf
    simp only [ne_eq, S1, S2, S3, S4, S5, S6, S7, S8, S9, S10, S11, S12, S13, guarded, opWp, onX, onO, onFn, chks, chkOne, xop, evf, fget, fput, fkeep, finit, aress, ares, abin, pickv, AV.cells, reduceCtorEq, reduceIte, Nat.reduceEqDiff, Nat.reduceAdd, bound, capsOf, Nat.reduceLeDiff, AHeap.cell, AHeap.row, AHeap.cells, AHeap.put, AHeap.has, afill, Nat.reduceLT, List.reduceReplicate, alen, afillRows, afresh, aappend, srcRows, Nat.reduceSub, Nat.reduceMul, ints_len, wants_len, evs_len, j1, j0, ints_get hi]
    refine c_l1In _ _ _ _ _ ?_
    rw [show decide (0 ≤ b.sn[i] ∧ b.sn[i] ≤ 9) = sm b.sn[i] from rfl]
    cases hx : sm b.sn[i]
    · simp only [ne_eq, S1, S2, S3, S4, S5, S6, S7, S8, S9, S10, S11, S12, S13, guarded, opWp, onX, onO, onFn, chks, chkOne, xop, evf, fget, fput, fkeep, finit, aress, ares, abin, pickv, AV.cells, reduceCtorEq, reduceIte, Nat.reduceEqDiff, Nat.reduceAdd, bound, capsOf, Nat.reduceLeDiff, AHeap.cell, AHeap.row, AHeap.cells, AHeap.put, AHeap.has, afill, Nat.reduceLT, List.reduceReplicate, alen, afillRows, afresh, aappend, srcRows, Nat.reduceSub, Nat.reduceMul, ints_len, wants_len, evs_len]
      rw [hf, hx]
      rfl
    · simp only [ne_eq, S1, S2, S3, S4, S5, S6, S7, S8, S9, S10, S11, S12, S13, guarded, opWp, onX, onO, onFn, chks, chkOne, xop, evf, fget, fput, fkeep, finit, aress, ares, abin, pickv, AV.cells, reduceCtorEq, reduceIte, Nat.reduceEqDiff, Nat.reduceAdd, bound, capsOf, Nat.reduceLeDiff, AHeap.cell, AHeap.row, AHeap.cells, AHeap.put, AHeap.has, afill, Nat.reduceLT, List.reduceReplicate, alen, afillRows, afresh, aappend, srcRows, Nat.reduceSub, Nat.reduceMul, ints_len, wants_len, evs_len, w2]
      exact ⟨m - 1, by omega, _, W.refl (Nat.zero_le _), i + 1, by omega, by rw [hf, hx]; rfl, rfl⟩
  have j1 : ¬ (i : Int) < (b.sn.length : Int) := by omega
  rw [List.drop_eq_nil_of_le (by omega)] at hf
  rw [hf, show ∀ y : Bool, (([] : List Int).all sm && y) = y from fun _ => rfl]
  simp only [ne_eq, S1, S2, S3, S4, S5, S6, S7, S8, S9, S10, S11, S12, S13, guarded, opWp, onX, onO, onFn, chks, chkOne, xop, evf, fget, fput, fkeep, finit, aress, ares, abin, pickv, AV.cells, reduceCtorEq, reduceIte, Nat.reduceEqDiff, Nat.reduceAdd, bound, capsOf, Nat.reduceLeDiff, AHeap.cell, AHeap.row, AHeap.cells, AHeap.put, AHeap.has, afill, Nat.reduceLT, List.reduceReplicate, alen, afillRows, afresh, aappend, srcRows, Nat.reduceSub, Nat.reduceMul, ints_len, wants_len, evs_len, j1]
  refine awp_loop (fun m s => ∃ (i : Nat), i + m = b.wants.length ∧ allAt (wantS b) 0 b.wants = allAt (wantS b) i (b.wants.drop i) ∧ s = ⟨[(1, .s (.ptr 0 0 0)), (4, .s (.int .i64 i))], hp [some ⟨6, 30, [[.lst 1 (ints b.sn), .int .i64 b.w, .int .i64 b.w0, .int .i64 b.mark, .lst 8 (wants b.wants), .lst 3 (evs b.evs)]]⟩]⟩) b.wants.length ⟨_, W.refl (Nat.zero_le _), 0, by omega, rfl, rfl⟩ ?_
  clear hf him j1 hi
  rintro m s ⟨i, him, hf, rfl⟩
  by_cases hi : i < b.wants.length
  · have j1 : (i : Int) < (b.wants.length : Int) := by omega
    have w2 : IntKind.i64.wrap ((i : Int) + 1) = (i + 1 : Nat) := wrap_id (by omega) (by omega)
    rw [allAt_drop hi] at hf
    simp only [ne_eq, S1, S2, S3, S4, S5, S6, S7, S8, S9, S10, S11, S12, S13, guarded, opWp, onX, onO, onFn, chks, chkOne, xop, evf, fget, fput, fkeep, finit, aress, ares, abin, pickv, AV.cells, reduceCtorEq, reduceIte, Nat.reduceEqDiff, Nat.reduceAdd, bound, capsOf, Nat.reduceLeDiff, AHeap.cell, AHeap.row, AHeap.cells, AHeap.put, AHeap.has, afill, Nat.reduceLT, List.reduceReplicate, alen, afillRows, afresh, aappend, srcRows, Nat.reduceSub, Nat.reduceMul, ints_len, wants_len, evs_len, j1]
    refine c_l26Want b i hi l2 l1 _ _ (by repeat' (first | exact AVsLe.nil | refine AVsLe.cons ?_ ?_ | exact AVLe.one AVLe0.no | refine AVLe.one (AVLe0.s ?_) | refine AVLe.one (AVLe0.agg ?_) | exact SVsLe.nil | refine SVsLe.cons ?_ ?_ | exact Wk.free rfl | exact Wk.lnils | exact Wk.lemp | exact Wk.frz (by simp) rfl rfl (by simp [ints_len]) (by simp [ints_len, List.take_of_length_le]) (ints_data _) | exact Wk.frz (by simp) rfl rfl (by simp [wants_len]) (by simp [wants_len, List.take_of_length_le]) (wants_data _) | exact Wk.frz (by simp) rfl rfl (by simp [evs_len]) (by simp [evs_len, List.take_of_length_le]) (evs_data _))) _ ?_
    cases hx : wantS b i b.wants[i]
    · simp only [ne_eq, S1, S2, S3, S4, S5, S6, S7, S8, S9, S10, S11, S12, S13, guarded, opWp, onX, onO, onFn, chks, chkOne, xop, evf, fget, fput, fkeep, finit, aress, ares, abin, pickv, AV.cells, reduceCtorEq, reduceIte, Nat.reduceEqDiff, Nat.reduceAdd, bound, capsOf, Nat.reduceLeDiff, AHeap.cell, AHeap.row, AHeap.cells, AHeap.put, AHeap.has, afill, Nat.reduceLT, List.reduceReplicate, alen, afillRows, afresh, aappend, srcRows, Nat.reduceSub, Nat.reduceMul, ints_len, wants_len, evs_len]
      rw [hf, hx]
      rfl
    · simp only [ne_eq, S1, S2, S3, S4, S5, S6, S7, S8, S9, S10, S11, S12, S13, guarded, opWp, onX, onO, onFn, chks, chkOne, xop, evf, fget, fput, fkeep, finit, aress, ares, abin, pickv, AV.cells, reduceCtorEq, reduceIte, Nat.reduceEqDiff, Nat.reduceAdd, bound, capsOf, Nat.reduceLeDiff, AHeap.cell, AHeap.row, AHeap.cells, AHeap.put, AHeap.has, afill, Nat.reduceLT, List.reduceReplicate, alen, afillRows, afresh, aappend, srcRows, Nat.reduceSub, Nat.reduceMul, ints_len, wants_len, evs_len, w2]
      exact ⟨m - 1, by omega, _, W.refl (Nat.zero_le _), i + 1, by omega, by rw [hf, hx]; rfl, rfl⟩
  have j1 : ¬ (i : Int) < (b.wants.length : Int) := by omega
  rw [List.drop_eq_nil_of_le (by omega)] at hf
  rw [hf, show ∀ y : Bool, (allAt (wantS b) i [] && y) = y from fun _ => rfl]
  simp only [ne_eq, S1, S2, S3, S4, S5, S6, S7, S8, S9, S10, S11, S12, S13, guarded, opWp, onX, onO, onFn, chks, chkOne, xop, evf, fget, fput, fkeep, finit, aress, ares, abin, pickv, AV.cells, reduceCtorEq, reduceIte, Nat.reduceEqDiff, Nat.reduceAdd, bound, capsOf, Nat.reduceLeDiff, AHeap.cell, AHeap.row, AHeap.cells, AHeap.put, AHeap.has, afill, Nat.reduceLT, List.reduceReplicate, alen, afillRows, afresh, aappend, srcRows, Nat.reduceSub, Nat.reduceMul, ints_len, wants_len, evs_len, j1]
  refine awp_loop (fun m s => ∃ (i : Nat), i + m = b.evs.length ∧ b.evs.all (evOk b.wants.length) = (b.evs.drop i).all (evOk b.wants.length) ∧ s = ⟨[(1, .s (.ptr 0 0 0)), (5, .s (.int .i64 i))], hp [some ⟨6, 30, [[.lst 1 (ints b.sn), .int .i64 b.w, .int .i64 b.w0, .int .i64 b.mark, .lst 8 (wants b.wants), .lst 3 (evs b.evs)]]⟩]⟩) b.evs.length ⟨_, W.refl (Nat.zero_le _), 0, by omega, rfl, rfl⟩ ?_
  clear hf him j1 hi
  rintro m s ⟨i, him, hf, rfl⟩
  by_cases hi : i < b.evs.length
  · have j1 : (i : Int) < (b.evs.length : Int) := by omega
    have j0 : (0 : Int) ≤ (i : Int) := by omega
    have w2 : IntKind.i64.wrap ((i : Int) + 1) = (i + 1 : Nat) := wrap_id (by omega) (by omega)
    rw [all_drop hi, evOk] at hf
    simp only [ne_eq, S1, S2, S3, S4, S5, S6, S7, S8, S9, S10, S11, S12, S13, guarded, opWp, onX, onO, onFn, chks, chkOne, xop, evf, fget, fput, fkeep, finit, aress, ares, abin, pickv, AV.cells, reduceCtorEq, reduceIte, Nat.reduceEqDiff, Nat.reduceAdd, bound, capsOf, Nat.reduceLeDiff, AHeap.cell, AHeap.row, AHeap.cells, AHeap.put, AHeap.has, afill, Nat.reduceLT, List.reduceReplicate, alen, afillRows, afresh, aappend, srcRows, Nat.reduceSub, Nat.reduceMul, ints_len, wants_len, evs_len, j1, j0, evs_get hi, encE, w1]
    refine c_l1In _ _ _ _ _ ?_
    cases hx : decide (0 ≤ b.evs[i].who ∧ b.evs[i].who ≤ (b.wants.length : Int) - 1)
    · simp only [ne_eq, S1, S2, S3, S4, S5, S6, S7, S8, S9, S10, S11, S12, S13, guarded, opWp, onX, onO, onFn, chks, chkOne, xop, evf, fget, fput, fkeep, finit, aress, ares, abin, pickv, AV.cells, reduceCtorEq, reduceIte, Nat.reduceEqDiff, Nat.reduceAdd, bound, capsOf, Nat.reduceLeDiff, AHeap.cell, AHeap.row, AHeap.cells, AHeap.put, AHeap.has, afill, Nat.reduceLT, List.reduceReplicate, alen, afillRows, afresh, aappend, srcRows, Nat.reduceSub, Nat.reduceMul, ints_len, wants_len, evs_len]
      rw [hf, hx]
      rfl
    simp only [ne_eq, S1, S2, S3, S4, S5, S6, S7, S8, S9, S10, S11, S12, S13, guarded, opWp, onX, onO, onFn, chks, chkOne, xop, evf, fget, fput, fkeep, finit, aress, ares, abin, pickv, AV.cells, reduceCtorEq, reduceIte, Nat.reduceEqDiff, Nat.reduceAdd, bound, capsOf, Nat.reduceLeDiff, AHeap.cell, AHeap.row, AHeap.cells, AHeap.put, AHeap.has, afill, Nat.reduceLT, List.reduceReplicate, alen, afillRows, afresh, aappend, srcRows, Nat.reduceSub, Nat.reduceMul, ints_len, wants_len, evs_len, j1, j0, evs_get hi, encE]
    refine c_l1In _ _ _ _ _ ?_
    rw [show decide (0 ≤ b.evs[i].saw ∧ b.evs[i].saw ≤ 9) = sm b.evs[i].saw from rfl]
    cases hy : sm b.evs[i].saw
    · simp only [ne_eq, S1, S2, S3, S4, S5, S6, S7, S8, S9, S10, S11, S12, S13, guarded, opWp, onX, onO, onFn, chks, chkOne, xop, evf, fget, fput, fkeep, finit, aress, ares, abin, pickv, AV.cells, reduceCtorEq, reduceIte, Nat.reduceEqDiff, Nat.reduceAdd, bound, capsOf, Nat.reduceLeDiff, AHeap.cell, AHeap.row, AHeap.cells, AHeap.put, AHeap.has, afill, Nat.reduceLT, List.reduceReplicate, alen, afillRows, afresh, aappend, srcRows, Nat.reduceSub, Nat.reduceMul, ints_len, wants_len, evs_len]
      rw [hf, hx, hy]
      rfl
    · simp only [ne_eq, S1, S2, S3, S4, S5, S6, S7, S8, S9, S10, S11, S12, S13, guarded, opWp, onX, onO, onFn, chks, chkOne, xop, evf, fget, fput, fkeep, finit, aress, ares, abin, pickv, AV.cells, reduceCtorEq, reduceIte, Nat.reduceEqDiff, Nat.reduceAdd, bound, capsOf, Nat.reduceLeDiff, AHeap.cell, AHeap.row, AHeap.cells, AHeap.put, AHeap.has, afill, Nat.reduceLT, List.reduceReplicate, alen, afillRows, afresh, aappend, srcRows, Nat.reduceSub, Nat.reduceMul, ints_len, wants_len, evs_len, w2]
      exact ⟨m - 1, by omega, _, W.refl (Nat.zero_le _), i + 1, by omega, by rw [hf, hx, hy]; rfl, rfl⟩
  have j1 : ¬ (i : Int) < (b.evs.length : Int) := by omega
  rw [List.drop_eq_nil_of_le (by omega)] at hf
  rw [hf, show ∀ y : Bool, (([] : List Ev).all (evOk b.wants.length) && y) = y from fun _ => rfl]
  simp only [decide_eq_true_eq] at h6
  by_cases hm : b.mark = 0
  · simp only [ne_eq, S1, S2, S3, S4, S5, S6, S7, S8, S9, S10, S11, S12, S13, guarded, opWp, onX, onO, onFn, chks, chkOne, xop, evf, fget, fput, fkeep, finit, aress, ares, abin, pickv, AV.cells, reduceCtorEq, reduceIte, Nat.reduceEqDiff, Nat.reduceAdd, bound, capsOf, Nat.reduceLeDiff, AHeap.cell, AHeap.row, AHeap.cells, AHeap.put, AHeap.has, afill, Nat.reduceLT, List.reduceReplicate, alen, afillRows, afresh, aappend, srcRows, Nat.reduceSub, Nat.reduceMul, ints_len, wants_len, evs_len, j1, eq_true hm]
    simp [lastOk, hm]
  · have hk : (b.mark - 1).toNat < b.wants.length := by omega
    have k0 : (0 : Int) ≤ b.mark - 1 := by omega
    have k1 : b.mark - 1 < (b.wants.length : Int) := by omega
    have w3 : IntKind.i64.wrap (b.mark - 1) = b.mark - 1 := wrap_id (by omega) (by omega)
    have hg : b.wants.getD (b.mark - 1).toNat default = b.wants[(b.mark - 1).toNat] := by rw [List.getD_eq_getElem?_getD, List.getElem?_eq_getElem hk]; rfl
    rw [lastOk, hg]
    have hg2 := wants_get hk
    generalize b.wants[(b.mark - 1).toNat] = x at *
    simp only [ne_eq, S1, S2, S3, S4, S5, S6, S7, S8, S9, S10, S11, S12, S13, guarded, opWp, onX, onO, onFn, chks, chkOne, xop, evf, fget, fput, fkeep, finit, aress, ares, abin, pickv, AV.cells, reduceCtorEq, reduceIte, Nat.reduceEqDiff, Nat.reduceAdd, bound, capsOf, Nat.reduceLeDiff, AHeap.cell, AHeap.row, AHeap.cells, AHeap.put, AHeap.has, afill, Nat.reduceLT, List.reduceReplicate, alen, afillRows, afresh, aappend, srcRows, Nat.reduceSub, Nat.reduceMul, ints_len, wants_len, evs_len, j1, hm, k0, k1, w3, hg2, encW]
    rfl
theorem c_sBothOk (b : Bo) (hb : Bs b) (l : List (Option Blk)) (args : List AV) (ha : AVsLe (Lent l) args [bov b]) (K : AV → AHeap → Prop) (h : K (.s (.bool (bothOk b))) (hp l)) : Spec Try.prog 30 args (hp l) K := Spec.obs (b_sBothOk b hb) ha rfl h
end Go.Proofs.Ytmfiegjncfgohaa.Den
