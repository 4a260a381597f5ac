import Derived.Test.YtgpeboajnhlfnaaB19
namespace Go.Proofs.Ytgpeboajnhlfnaa.Den
open Go.RowKit
set_option linter.unusedSimpArgs false
set_option linter.unusedVariables false
set_option maxRecDepth 100000
set_option maxHeartbeats 4000000
def A10 : AFn := ⟨74, [.tmp 4],
   .seq (.reg [⟨some 2, .box 44 (.t 0), none, []⟩,
    ⟨some 4, .mov (.c (.bool false)), none, []⟩] [1, 2])
   (.seq (.reg [⟨some 5, .mov (.c (.int .i64 1048576)), none, []⟩] [1, 2, 5])
   (.seq (.reg [⟨some 13, .loadn 6 (.t 2), none, []⟩,
    ⟨some 14, .mov (.t 5), none, []⟩,
    ⟨some 15, .call 23 [(.t 13), (.t 14)], none, []⟩,
    ⟨some 5, .mov (.t 15), none, []⟩] [1, 2, 5])
   (.seq (.seq (.reg [⟨some 16, .mov (.t 5), none, []⟩,
    ⟨some 17, .bin .lss (.t 16) (.c (.int .i64 0)), none, []⟩] [1, 2, 17])
   (.cond (.t 17) (.seq (.reg [⟨some 4, .mov (.c (.bool true)), none, []⟩] [4])
   (.ret))
   (.skip)))
   (.seq (.reg [⟨some 18, .loadn 6 (.t 2), none, []⟩,
    ⟨some 19, .call 25 [(.t 18)], none, []⟩,
    ⟨some 20, .mov (.t 1), none, []⟩,
    ⟨some 21, .call 35 [(.t 19), (.t 20)], none, []⟩,
    ⟨some 6, .alloc 30 6 [.nils, .int .i64 0, .int .i64 0, .int .i64 0, .nils, .nils], none, []⟩,
    ⟨none, .store 6 (.t 6) (.t 21), none, []⟩] [1, 2, 6])
   (.seq (.reg [⟨some 22, .loadn 6 (.t 2), none, []⟩,
    ⟨some 23, .call 25 [(.t 22)], none, []⟩,
    ⟨some 7, .alloc 30 6 [.nils, .int .i64 0, .int .i64 0, .int .i64 0, .nils, .nils], none, []⟩,
    ⟨none, .store 6 (.t 7) (.t 23), none, []⟩] [1, 2, 6, 7])
   (.seq (.reg [⟨some 24, .loadn 6 (.t 7), none, []⟩,
    ⟨some 25, .mov (.t 1), none, []⟩,
    ⟨some 26, .call 36 [(.t 24), (.t 25)], none, []⟩,
    ⟨some 8, .alloc 30 6 [.nils, .int .i64 0, .int .i64 0, .int .i64 0, .nils, .nils], none, []⟩,
    ⟨none, .store 6 (.t 8) (.t 26), none, []⟩] [1, 2, 6, 7, 8])
   (.seq (.seq (.reg [⟨some 27, .loadn 6 (.t 8), none, []⟩,
    ⟨some 28, .loadn 6 (.t 6), none, []⟩,
    ⟨some 29, .call 27 [(.t 27), (.t 28)], none, []⟩,
    ⟨some 30, .un .not (.t 29), none, []⟩] [1, 2, 6, 7, 8, 30])
   (.cond (.t 30) (.seq (.reg [⟨some 4, .mov (.c (.bool false)), none, []⟩] [4])
   (.ret))
   (.skip)))
   (.seq (.seq (.dreg [(0, .light, ⟨some 31, .loadn 6 (.t 7), none, []⟩),
    (1, .light, ⟨some 32, .loadn 6 (.t 2), none, []⟩),
    (2, .heavy, ⟨some 33, .call 25 [(.t 32)], none, [(.loadn 6 (.t 7), 31, none)]⟩),
    (3, .heavy, ⟨some 34, .call 27 [(.t 31), (.t 33)], none, []⟩),
    (4, .light, ⟨some 35, .un .not (.t 34), none, []⟩)] [1, 2, 6, 7, 8, 35])
   (.cond (.t 35) (.seq (.reg [⟨some 4, .mov (.c (.bool false)), none, []⟩] [4])
   (.ret))
   (.skip)))
   (.seq (.reg [⟨some 9, .mov (.c (.int .i64 1)), none, []⟩] [1, 2, 6, 7, 8, 9])
   (.seq (.reg [⟨some 36, .loadn 6 (.t 7), none, []⟩,
    ⟨some 37, .mov (.t 9), none, []⟩,
    ⟨some 38, .call 33 [(.t 36), (.t 37)], none, []⟩,
    ⟨some 9, .mov (.t 38), none, []⟩] [1, 2, 6, 8, 9])
   (.seq (.seq (.reg [⟨some 39, .mov (.t 9), none, []⟩,
    ⟨some 40, .bin .lss (.t 39) (.c (.int .i64 0)), none, []⟩,
    ⟨some 41, .mov (.t 40), none, []⟩,
    ⟨some 42, .loadn 6 (.t 8), (some (41, false)), []⟩,
    ⟨some 43, .loadn 6 (.t 6), (some (41, false)), []⟩,
    ⟨some 44, .call 27 [(.t 42), (.t 43)], (some (41, false)), []⟩,
    ⟨some 45, .un .not (.t 44), (some (41, false)), []⟩,
    ⟨some 46, .pick (.t 41) (.c (.bool true)) (.t 45), none, []⟩] [1, 2, 6, 8, 46])
   (.cond (.t 46) (.seq (.reg [⟨some 4, .mov (.c (.bool false)), none, []⟩] [4])
   (.ret))
   (.skip)))
   (.seq (.reg [⟨some 10, .mov (.c (.int .i64 1)), none, []⟩] [1, 2, 6, 8, 10])
   (.seq (.reg [⟨some 47, .loadn 6 (.t 8), none, []⟩,
    ⟨some 48, .mov (.t 10), none, []⟩,
    ⟨some 49, .call 33 [(.t 47), (.t 48)], none, []⟩,
    ⟨some 10, .mov (.t 49), none, []⟩] [1, 2, 6, 8, 10])
   (.seq (.reg [⟨some 11, .mov (.c (.int .i64 1)), none, []⟩] [1, 2, 6, 8, 10, 11])
   (.seq (.reg [⟨some 50, .loadn 6 (.t 8), none, []⟩,
    ⟨some 51, .mov (.t 11), none, []⟩,
    ⟨some 52, .call 34 [(.t 50), (.t 51)], none, []⟩,
    ⟨some 11, .mov (.t 52), none, []⟩] [1, 2, 6, 8, 10, 11])
   (.seq (.seq (.reg [⟨some 53, .mov (.t 11), none, []⟩,
    ⟨some 54, .bin .lss (.t 53) (.c (.int .i64 0)), none, []⟩] [1, 2, 6, 8, 10, 11, 54])
   (.cond (.t 54) (.seq (.reg [⟨some 4, .mov (.c (.bool false)), none, []⟩] [4])
   (.ret))
   (.skip)))
   (.seq (.seq (.reg [⟨some 55, .mov (.t 11), none, []⟩,
    ⟨some 56, .mov (.t 10), none, []⟩,
    ⟨some 57, .bin .neq (.t 55) (.t 56), none, []⟩] [1, 2, 6, 8, 10, 57])
   (.cond (.t 57) (.seq (.reg [⟨some 4, .mov (.c (.bool false)), none, []⟩] [4])
   (.ret))
   (.skip)))
   (.seq (.reg [⟨some 58, .loadn 6 (.t 2), none, []⟩,
    ⟨some 59, .call 25 [(.t 58)], none, []⟩,
    ⟨some 60, .mov (.t 1), none, []⟩,
    ⟨some 61, .call 36 [(.t 59), (.t 60)], none, []⟩,
    ⟨some 12, .alloc 30 6 [.nils, .int .i64 0, .int .i64 0, .int .i64 0, .nils, .nils], none, []⟩,
    ⟨none, .store 6 (.t 12) (.t 61), none, []⟩] [6, 8, 10, 12])
   (.seq (.seq (.reg [⟨some 62, .loadn 6 (.t 12), none, []⟩,
    ⟨some 63, .loadn 6 (.t 6), none, []⟩,
    ⟨some 64, .call 27 [(.t 62), (.t 63)], none, []⟩,
    ⟨some 65, .un .not (.t 64), none, []⟩] [8, 10, 65])
   (.cond (.t 65) (.seq (.reg [⟨some 4, .mov (.c (.bool false)), none, []⟩] [4])
   (.ret))
   (.skip)))
   (.seq (.reg [⟨some 11, .mov (.c (.int .i64 1)), none, []⟩] [8, 10, 11])
   (.seq (.reg [⟨some 66, .loadn 6 (.t 8), none, []⟩,
    ⟨some 67, .mov (.t 11), none, []⟩,
    ⟨some 68, .call 34 [(.t 66), (.t 67)], none, []⟩,
    ⟨some 11, .mov (.t 68), none, []⟩] [10, 11])
   (.seq (.seq (.reg [⟨some 69, .mov (.t 11), none, []⟩,
    ⟨some 70, .bin .lss (.t 69) (.c (.int .i64 0)), none, []⟩] [10, 11, 70])
   (.cond (.t 70) (.seq (.reg [⟨some 4, .mov (.c (.bool false)), none, []⟩] [4])
   (.ret))
   (.skip)))
   (.seq (.seq (.reg [⟨some 71, .mov (.t 11), none, []⟩,
    ⟨some 72, .mov (.t 10), none, []⟩,
    ⟨some 73, .bin .neq (.t 71) (.t 72), none, []⟩] [73])
   (.cond (.t 73) (.seq (.reg [⟨some 4, .mov (.c (.bool false)), none, []⟩] [4])
   (.ret))
   (.skip)))
   (.seq (.reg [⟨some 4, .mov (.c (.bool true)), none, []⟩] [4])
   (.ret)))))))))))))))))))))))))⟩
theorem a10 : agreeFn Try.prog Try.f10 A10 = true := by kernel_rfl
def A8 : AFn := ⟨27, [.tmp 2],
   .seq (.reg [⟨some 1, .box 44 (.t 0), none, []⟩,
    ⟨some 2, .mov (.c (.bool false)), none, []⟩] [1])
   (.seq (.reg [⟨some 3, .mov (.c (.int .i64 1048576)), none, []⟩] [1, 3])
   (.seq (.reg [⟨some 7, .loadn 6 (.t 1), none, []⟩,
    ⟨some 8, .mov (.t 3), none, []⟩,
    ⟨some 9, .call 23 [(.t 7), (.t 8)], none, []⟩,
    ⟨some 3, .mov (.t 9), none, []⟩] [1, 3])
   (.seq (.seq (.reg [⟨some 10, .mov (.t 3), none, []⟩,
    ⟨some 11, .bin .lss (.t 10) (.c (.int .i64 0)), none, []⟩] [1, 11])
   (.cond (.t 11) (.seq (.reg [⟨some 2, .mov (.c (.bool true)), none, []⟩] [2])
   (.ret))
   (.skip)))
   (.seq (.reg [⟨some 12, .loadn 6 (.t 1), none, []⟩,
    ⟨some 13, .call 25 [(.t 12)], none, []⟩,
    ⟨some 14, .call 28 [(.t 13)], none, []⟩,
    ⟨some 4, .mov (.t 14), none, []⟩] [1, 4])
   (.seq (.reg [⟨some 15, .loadn 6 (.t 1), none, []⟩,
    ⟨some 16, .call 25 [(.t 15)], none, []⟩,
    ⟨some 5, .alloc 30 6 [.nils, .int .i64 0, .int .i64 0, .int .i64 0, .nils, .nils], none, []⟩,
    ⟨none, .store 6 (.t 5) (.t 16), none, []⟩] [1, 4, 5])
   (.seq (.reg [⟨some 17, .loadn 6 (.t 5), none, []⟩,
    ⟨some 18, .call 19 [(.t 17)], none, []⟩,
    ⟨some 6, .mov (.t 18), none, []⟩] [1, 4, 5, 6])
   (.seq (.seq (.reg [⟨some 19, .mov (.t 6), none, []⟩,
    ⟨some 20, .mov (.t 4), none, []⟩,
    ⟨some 21, .eqb true (.t 19) (.t 20), none, []⟩] [1, 5, 21])
   (.cond (.t 21) (.seq (.reg [⟨some 2, .mov (.c (.bool false)), none, []⟩] [2])
   (.ret))
   (.skip)))
   (.seq (.seq (.dreg [(0, .light, ⟨some 22, .loadn 6 (.t 5), none, []⟩),
    (1, .light, ⟨some 23, .loadn 6 (.t 1), none, []⟩),
    (2, .heavy, ⟨some 24, .call 25 [(.t 23)], none, [(.loadn 6 (.t 5), 22, none)]⟩),
    (3, .heavy, ⟨some 25, .call 27 [(.t 22), (.t 24)], none, []⟩),
    (4, .light, ⟨some 26, .un .not (.t 25), none, []⟩)] [26])
   (.cond (.t 26) (.seq (.reg [⟨some 2, .mov (.c (.bool false)), none, []⟩] [2])
   (.ret))
   (.skip)))
   (.seq (.reg [⟨some 2, .mov (.c (.bool true)), none, []⟩] [2])
   (.ret))))))))))⟩
theorem a8 : agreeFn Try.prog Try.f8 A8 = true := by kernel_rfl
def A13 : AFn := ⟨90, [.tmp 4],
   .seq (.reg [⟨some 2, .box 44 (.t 0), none, []⟩,
    ⟨some 4, .mov (.c (.bool false)), none, []⟩] [1, 2])
   (.seq (.seq (.reg [⟨some 14, .mov (.t 1), none, []⟩,
    ⟨some 15, .len (.t 14), none, []⟩,
    ⟨some 16, .bin .gtr (.t 15) (.c (.int .i64 1048576)), none, []⟩] [1, 2, 16])
   (.cond (.t 16) (.seq (.reg [⟨some 4, .mov (.c (.bool true)), none, []⟩] [4])
   (.ret))
   (.skip)))
   (.seq (.reg [⟨some 5, .mov (.c (.int .i64 1048576)), none, []⟩] [1, 2, 5])
   (.seq (.reg [⟨some 17, .loadn 6 (.t 2), none, []⟩,
    ⟨some 18, .mov (.t 5), none, []⟩,
    ⟨some 19, .call 23 [(.t 17), (.t 18)], none, []⟩,
    ⟨some 5, .mov (.t 19), none, []⟩] [1, 2, 5])
   (.seq (.seq (.reg [⟨some 20, .mov (.t 5), none, []⟩,
    ⟨some 21, .bin .lss (.t 20) (.c (.int .i64 0)), none, []⟩] [1, 2, 21])
   (.cond (.t 21) (.seq (.reg [⟨some 4, .mov (.c (.bool true)), none, []⟩] [4])
   (.ret))
   (.skip)))
   (.seq (.reg [⟨some 22, .loadn 6 (.t 2), none, []⟩,
    ⟨some 23, .call 25 [(.t 22)], none, []⟩,
    ⟨some 24, .mov (.t 1), none, []⟩,
    ⟨some 25, .call 44 [(.t 24)], none, []⟩,
    ⟨some 26, .call 21 [(.t 23), (.t 25)], none, []⟩,
    ⟨some 6, .alloc 30 6 [.nils, .int .i64 0, .int .i64 0, .int .i64 0, .nils, .nils], none, []⟩,
    ⟨none, .store 6 (.t 6) (.t 26), none, []⟩] [1, 2, 6])
   (.seq (.reg [⟨some 27, .loadn 6 (.t 2), none, []⟩,
    ⟨some 28, .call 25 [(.t 27)], none, []⟩,
    ⟨some 7, .alloc 30 6 [.nils, .int .i64 0, .int .i64 0, .int .i64 0, .nils, .nils], none, []⟩,
    ⟨none, .store 6 (.t 7) (.t 28), none, []⟩] [1, 2, 6, 7])
   (.seq (.reg [⟨some 29, .mov (.t 1), none, []⟩,
    ⟨some 30, .call 44 [(.t 29)], none, []⟩,
    ⟨some 8, .mov (.t 30), none, []⟩] [1, 2, 6, 7, 8])
   (.seq (.reg [⟨some 31, .loadn 6 (.t 7), none, []⟩,
    ⟨some 32, .mov (.t 8), none, []⟩,
    ⟨some 33, .call 18 [(.t 31), (.t 32)], none, []⟩,
    ⟨some 9, .alloc 30 6 [.nils, .int .i64 0, .int .i64 0, .int .i64 0, .nils, .nils], none, []⟩,
    ⟨none, .store 6 (.t 9) (.t 33), none, []⟩] [1, 2, 6, 7, 8, 9])
   (.seq (.seq (.reg [⟨some 34, .loadn 6 (.t 9), none, []⟩,
    ⟨some 35, .loadn 6 (.t 6), none, []⟩,
    ⟨some 36, .call 27 [(.t 34), (.t 35)], none, []⟩,
    ⟨some 37, .un .not (.t 36), none, []⟩] [1, 2, 6, 7, 8, 9, 37])
   (.cond (.t 37) (.seq (.reg [⟨some 4, .mov (.c (.bool false)), none, []⟩] [4])
   (.ret))
   (.skip)))
   (.seq (.seq (.dreg [(0, .light, ⟨some 38, .loadn 6 (.t 7), none, []⟩),
    (1, .light, ⟨some 39, .loadn 6 (.t 2), none, []⟩),
    (2, .heavy, ⟨some 40, .call 25 [(.t 39)], none, [(.loadn 6 (.t 7), 38, none)]⟩),
    (3, .heavy, ⟨some 41, .call 27 [(.t 38), (.t 40)], none, []⟩),
    (4, .light, ⟨some 42, .un .not (.t 41), none, []⟩)] [1, 2, 6, 7, 8, 9, 42])
   (.cond (.t 42) (.seq (.reg [⟨some 4, .mov (.c (.bool false)), none, []⟩] [4])
   (.ret))
   (.skip)))
   (.seq (.seq (.reg [⟨some 43, .mov (.t 8), none, []⟩,
    ⟨some 44, .mov (.t 1), none, []⟩,
    ⟨some 45, .call 44 [(.t 44)], none, []⟩,
    ⟨some 46, .call 45 [(.t 43), (.t 45)], none, []⟩,
    ⟨some 47, .un .not (.t 46), none, []⟩] [1, 2, 6, 7, 8, 9, 47])
   (.cond (.t 47) (.seq (.reg [⟨some 4, .mov (.c (.bool false)), none, []⟩] [4])
   (.ret))
   (.skip)))
   (.seq (.reg [⟨some 10, .mov (.c (.int .i64 1)), none, []⟩] [1, 2, 6, 7, 8, 9, 10])
   (.seq (.reg [⟨some 48, .loadn 6 (.t 7), none, []⟩,
    ⟨some 49, .mov (.t 10), none, []⟩,
    ⟨some 50, .call 33 [(.t 48), (.t 49)], none, []⟩,
    ⟨some 10, .mov (.t 50), none, []⟩] [1, 2, 6, 8, 9, 10])
   (.seq (.reg [⟨some 51, .mov (.t 8), none, []⟩,
    ⟨some 52, .mov (.t 10), none, []⟩,
    ⟨some 53, .call 46 [(.t 51), (.t 52)], none, []⟩,
    ⟨some 10, .mov (.t 53), none, []⟩] [1, 2, 6, 9, 10])
   (.seq (.seq (.reg [⟨some 54, .mov (.t 10), none, []⟩,
    ⟨some 55, .bin .lss (.t 54) (.c (.int .i64 0)), none, []⟩,
    ⟨some 56, .mov (.t 55), none, []⟩,
    ⟨some 57, .loadn 6 (.t 9), (some (56, false)), []⟩,
    ⟨some 58, .loadn 6 (.t 6), (some (56, false)), []⟩,
    ⟨some 59, .call 27 [(.t 57), (.t 58)], (some (56, false)), []⟩,
    ⟨some 60, .un .not (.t 59), (some (56, false)), []⟩,
    ⟨some 61, .pick (.t 56) (.c (.bool true)) (.t 60), none, []⟩] [1, 2, 6, 9, 61])
   (.cond (.t 61) (.seq (.reg [⟨some 4, .mov (.c (.bool false)), none, []⟩] [4])
   (.ret))
   (.skip)))
   (.seq (.reg [⟨some 11, .mov (.c (.int .i64 1)), none, []⟩] [1, 2, 6, 9, 11])
   (.seq (.reg [⟨some 62, .loadn 6 (.t 9), none, []⟩,
    ⟨some 63, .mov (.t 11), none, []⟩,
    ⟨some 64, .call 33 [(.t 62), (.t 63)], none, []⟩,
    ⟨some 11, .mov (.t 64), none, []⟩] [1, 2, 6, 9, 11])
   (.seq (.reg [⟨some 12, .mov (.c (.int .i64 1)), none, []⟩] [1, 2, 6, 9, 11, 12])
   (.seq (.reg [⟨some 65, .loadn 6 (.t 9), none, []⟩,
    ⟨some 66, .mov (.t 12), none, []⟩,
    ⟨some 67, .call 34 [(.t 65), (.t 66)], none, []⟩,
    ⟨some 12, .mov (.t 67), none, []⟩] [1, 2, 6, 9, 11, 12])
   (.seq (.seq (.reg [⟨some 68, .mov (.t 12), none, []⟩,
    ⟨some 69, .bin .lss (.t 68) (.c (.int .i64 0)), none, []⟩] [1, 2, 6, 9, 11, 12, 69])
   (.cond (.t 69) (.seq (.reg [⟨some 4, .mov (.c (.bool false)), none, []⟩] [4])
   (.ret))
   (.skip)))
   (.seq (.seq (.reg [⟨some 70, .mov (.t 12), none, []⟩,
    ⟨some 71, .mov (.t 11), none, []⟩,
    ⟨some 72, .bin .neq (.t 70) (.t 71), none, []⟩] [1, 2, 6, 9, 11, 72])
   (.cond (.t 72) (.seq (.reg [⟨some 4, .mov (.c (.bool false)), none, []⟩] [4])
   (.ret))
   (.skip)))
   (.seq (.reg [⟨some 73, .loadn 6 (.t 2), none, []⟩,
    ⟨some 74, .call 25 [(.t 73)], none, []⟩,
    ⟨some 75, .mov (.t 1), none, []⟩,
    ⟨some 76, .call 44 [(.t 75)], none, []⟩,
    ⟨some 77, .call 18 [(.t 74), (.t 76)], none, []⟩,
    ⟨some 13, .alloc 30 6 [.nils, .int .i64 0, .int .i64 0, .int .i64 0, .nils, .nils], none, []⟩,
    ⟨none, .store 6 (.t 13) (.t 77), none, []⟩] [6, 9, 11, 13])
   (.seq (.seq (.reg [⟨some 78, .loadn 6 (.t 13), none, []⟩,
    ⟨some 79, .loadn 6 (.t 6), none, []⟩,
    ⟨some 80, .call 27 [(.t 78), (.t 79)], none, []⟩,
    ⟨some 81, .un .not (.t 80), none, []⟩] [9, 11, 81])
   (.cond (.t 81) (.seq (.reg [⟨some 4, .mov (.c (.bool false)), none, []⟩] [4])
   (.ret))
   (.skip)))
   (.seq (.reg [⟨some 12, .mov (.c (.int .i64 1)), none, []⟩] [9, 11, 12])
   (.seq (.reg [⟨some 82, .loadn 6 (.t 9), none, []⟩,
    ⟨some 83, .mov (.t 12), none, []⟩,
    ⟨some 84, .call 34 [(.t 82), (.t 83)], none, []⟩,
    ⟨some 12, .mov (.t 84), none, []⟩] [11, 12])
   (.seq (.seq (.reg [⟨some 85, .mov (.t 12), none, []⟩,
    ⟨some 86, .bin .lss (.t 85) (.c (.int .i64 0)), none, []⟩] [11, 12, 86])
   (.cond (.t 86) (.seq (.reg [⟨some 4, .mov (.c (.bool false)), none, []⟩] [4])
   (.ret))
   (.skip)))
   (.seq (.seq (.reg [⟨some 87, .mov (.t 12), none, []⟩,
    ⟨some 88, .mov (.t 11), none, []⟩,
    ⟨some 89, .bin .neq (.t 87) (.t 88), none, []⟩] [89])
   (.cond (.t 89) (.seq (.reg [⟨some 4, .mov (.c (.bool false)), none, []⟩] [4])
   (.ret))
   (.skip)))
   (.seq (.reg [⟨some 4, .mov (.c (.bool true)), none, []⟩] [4])
   (.ret)))))))))))))))))))))))))))))⟩
theorem a13 : agreeFn Try.prog Try.f13 A13 = true := by kernel_rfl
def A9 : AFn := ⟨106, [.tmp 6],
   .seq (.reg [⟨some 6, .mov (.c (.bool false)), none, []⟩] [0, 1, 2])
   (.seq (.reg [⟨some 7, .mov (.c (.int .i64 1048576)), none, []⟩] [0, 1, 2, 7])
   (.seq (.reg [⟨some 18, .mov (.t 2), none, []⟩,
    ⟨some 19, .mov (.t 7), none, []⟩,
    ⟨some 20, .call 29 [(.t 18), (.t 19)], none, []⟩,
    ⟨some 7, .mov (.t 20), none, []⟩] [0, 1, 2, 7])
   (.seq (.seq (.reg [⟨some 21, .mov (.t 7), none, []⟩,
    ⟨some 22, .bin .lss (.t 21) (.c (.int .i64 0)), none, []⟩] [0, 1, 2, 22])
   (.cond (.t 22) (.seq (.reg [⟨some 6, .mov (.c (.bool true)), none, []⟩] [6])
   (.ret))
   (.skip)))
   (.seq (.reg [⟨some 24, .mov (.t 0), none, []⟩,
    ⟨some 25, .mov (.t 1), none, []⟩,
    ⟨some 26, .mov (.t 2), none, []⟩,
    ⟨some 27, .call 30 [(.t 26)], none, []⟩,
    ⟨some 28, .call 17 [(.t 24), (.t 25), (.t 27)], none, []⟩,
    ⟨some 23, .mov (.t 28), none, []⟩,
    ⟨some 29, .extract (.t 23) 0, none, []⟩,
    ⟨some 30, .extract (.t 23) 1, none, []⟩,
    ⟨some 8, .alloc 30 6 [.nils, .int .i64 0, .int .i64 0, .int .i64 0, .nils, .nils], none, []⟩,
    ⟨none, .store 6 (.t 8) (.t 29), none, []⟩,
    ⟨some 9, .mov (.t 30), none, []⟩] [0, 1, 2, 8, 9])
   (.seq (.reg [⟨some 31, .mov (.t 2), none, []⟩,
    ⟨some 32, .call 30 [(.t 31)], none, []⟩,
    ⟨some 10, .mov (.t 32), none, []⟩] [0, 1, 2, 8, 9, 10])
   (.seq (.reg [⟨some 34, .mov (.t 0), none, []⟩,
    ⟨some 35, .mov (.t 1), none, []⟩,
    ⟨some 36, .mov (.t 10), none, []⟩,
    ⟨some 37, .call 16 [(.t 34), (.t 35), (.t 36)], none, []⟩,
    ⟨some 33, .mov (.t 37), none, []⟩,
    ⟨some 38, .extract (.t 33) 0, none, []⟩,
    ⟨some 39, .extract (.t 33) 1, none, []⟩,
    ⟨some 11, .alloc 30 6 [.nils, .int .i64 0, .int .i64 0, .int .i64 0, .nils, .nils], none, []⟩,
    ⟨none, .store 6 (.t 11) (.t 38), none, []⟩,
    ⟨some 12, .mov (.t 39), none, []⟩] [0, 1, 2, 8, 9, 10, 11, 12])
   (.seq (.seq (.reg [⟨some 40, .loadn 6 (.t 11), none, []⟩,
    ⟨some 41, .loadn 6 (.t 8), none, []⟩,
    ⟨some 42, .call 27 [(.t 40), (.t 41)], none, []⟩,
    ⟨some 43, .un .not (.t 42), none, []⟩,
    ⟨some 44, .mov (.t 43), none, []⟩,
    ⟨some 45, .mov (.t 12), (some (44, false)), []⟩,
    ⟨some 46, .mov (.t 9), (some (44, false)), []⟩,
    ⟨some 47, .eqb true (.t 45) (.t 46), (some (44, false)), []⟩,
    ⟨some 48, .pick (.t 44) (.c (.bool true)) (.t 47), none, []⟩] [0, 1, 2, 8, 9, 10, 11, 12, 48])
   (.cond (.t 48) (.seq (.reg [⟨some 6, .mov (.c (.bool false)), none, []⟩] [6])
   (.ret))
   (.skip)))
   (.seq (.seq (.reg [⟨some 49, .mov (.t 10), none, []⟩,
    ⟨some 50, .mov (.t 2), none, []⟩,
    ⟨some 51, .call 30 [(.t 50)], none, []⟩,
    ⟨some 52, .call 31 [(.t 49), (.t 51)], none, []⟩,
    ⟨some 53, .un .not (.t 52), none, []⟩] [0, 1, 2, 8, 9, 10, 11, 12, 53])
   (.cond (.t 53) (.seq (.reg [⟨some 6, .mov (.c (.bool false)), none, []⟩] [6])
   (.ret))
   (.skip)))
   (.seq (.reg [⟨some 13, .mov (.c (.int .i64 1)), none, []⟩] [0, 1, 2, 8, 9, 10, 11, 12, 13])
   (.seq (.reg [⟨some 54, .mov (.t 10), none, []⟩,
    ⟨some 55, .mov (.t 13), none, []⟩,
    ⟨some 56, .call 32 [(.t 54), (.t 55)], none, []⟩,
    ⟨some 13, .mov (.t 56), none, []⟩] [0, 1, 2, 8, 9, 11, 12, 13])
   (.seq (.seq (.reg [⟨some 57, .mov (.t 13), none, []⟩,
    ⟨some 58, .bin .lss (.t 57) (.c (.int .i64 0)), none, []⟩,
    ⟨some 59, .mov (.t 58), none, []⟩,
    ⟨some 60, .loadn 6 (.t 11), (some (59, false)), []⟩,
    ⟨some 61, .loadn 6 (.t 8), (some (59, false)), []⟩,
    ⟨some 62, .call 27 [(.t 60), (.t 61)], (some (59, false)), []⟩,
    ⟨some 63, .un .not (.t 62), (some (59, false)), []⟩,
    ⟨some 64, .pick (.t 59) (.c (.bool true)) (.t 63), none, []⟩,
    ⟨some 65, .mov (.t 64), none, []⟩,
    ⟨some 66, .mov (.t 12), (some (65, false)), []⟩,
    ⟨some 67, .mov (.t 9), (some (65, false)), []⟩,
    ⟨some 68, .eqb true (.t 66) (.t 67), (some (65, false)), []⟩,
    ⟨some 69, .pick (.t 65) (.c (.bool true)) (.t 68), none, []⟩] [0, 1, 2, 8, 9, 11, 69])
   (.cond (.t 69) (.seq (.reg [⟨some 6, .mov (.c (.bool false)), none, []⟩] [6])
   (.ret))
   (.skip)))
   (.seq (.reg [⟨some 14, .mov (.c (.int .i64 1)), none, []⟩] [0, 1, 2, 8, 9, 11, 14])
   (.seq (.reg [⟨some 70, .loadn 6 (.t 11), none, []⟩,
    ⟨some 71, .mov (.t 14), none, []⟩,
    ⟨some 72, .call 33 [(.t 70), (.t 71)], none, []⟩,
    ⟨some 14, .mov (.t 72), none, []⟩] [0, 1, 2, 8, 9, 11, 14])
   (.seq (.reg [⟨some 15, .mov (.c (.int .i64 1)), none, []⟩] [0, 1, 2, 8, 9, 11, 14, 15])
   (.seq (.reg [⟨some 73, .loadn 6 (.t 11), none, []⟩,
    ⟨some 74, .mov (.t 15), none, []⟩,
    ⟨some 75, .call 34 [(.t 73), (.t 74)], none, []⟩,
    ⟨some 15, .mov (.t 75), none, []⟩] [0, 1, 2, 8, 9, 11, 14, 15])
   (.seq (.seq (.reg [⟨some 76, .mov (.t 15), none, []⟩,
    ⟨some 77, .bin .lss (.t 76) (.c (.int .i64 0)), none, []⟩] [0, 1, 2, 8, 9, 11, 14, 15, 77])
   (.cond (.t 77) (.seq (.reg [⟨some 6, .mov (.c (.bool false)), none, []⟩] [6])
   (.ret))
   (.skip)))
   (.seq (.seq (.reg [⟨some 78, .mov (.t 15), none, []⟩,
    ⟨some 79, .mov (.t 14), none, []⟩,
    ⟨some 80, .bin .neq (.t 78) (.t 79), none, []⟩] [0, 1, 2, 8, 9, 11, 14, 80])
   (.cond (.t 80) (.seq (.reg [⟨some 6, .mov (.c (.bool false)), none, []⟩] [6])
   (.ret))
   (.skip)))
   (.seq (.reg [⟨some 82, .mov (.t 0), none, []⟩,
    ⟨some 83, .mov (.t 1), none, []⟩,
    ⟨some 84, .mov (.t 2), none, []⟩,
    ⟨some 85, .call 30 [(.t 84)], none, []⟩,
    ⟨some 86, .call 16 [(.t 82), (.t 83), (.t 85)], none, []⟩,
    ⟨some 81, .mov (.t 86), none, []⟩,
    ⟨some 87, .extract (.t 81) 0, none, []⟩,
    ⟨some 88, .extract (.t 81) 1, none, []⟩,
    ⟨some 16, .alloc 30 6 [.nils, .int .i64 0, .int .i64 0, .int .i64 0, .nils, .nils], none, []⟩,
    ⟨none, .store 6 (.t 16) (.t 87), none, []⟩,
    ⟨some 17, .mov (.t 88), none, []⟩] [8, 9, 11, 14, 16, 17])
   (.seq (.seq (.reg [⟨some 89, .loadn 6 (.t 16), none, []⟩,
    ⟨some 90, .loadn 6 (.t 8), none, []⟩,
    ⟨some 91, .call 27 [(.t 89), (.t 90)], none, []⟩,
    ⟨some 92, .un .not (.t 91), none, []⟩,
    ⟨some 93, .mov (.t 92), none, []⟩,
    ⟨some 94, .mov (.t 17), (some (93, false)), []⟩,
    ⟨some 95, .mov (.t 9), (some (93, false)), []⟩,
    ⟨some 96, .eqb true (.t 94) (.t 95), (some (93, false)), []⟩,
    ⟨some 97, .pick (.t 93) (.c (.bool true)) (.t 96), none, []⟩] [11, 14, 97])
   (.cond (.t 97) (.seq (.reg [⟨some 6, .mov (.c (.bool false)), none, []⟩] [6])
   (.ret))
   (.skip)))
   (.seq (.reg [⟨some 15, .mov (.c (.int .i64 1)), none, []⟩] [11, 14, 15])
   (.seq (.reg [⟨some 98, .loadn 6 (.t 11), none, []⟩,
    ⟨some 99, .mov (.t 15), none, []⟩,
    ⟨some 100, .call 34 [(.t 98), (.t 99)], none, []⟩,
    ⟨some 15, .mov (.t 100), none, []⟩] [14, 15])
   (.seq (.seq (.reg [⟨some 101, .mov (.t 15), none, []⟩,
    ⟨some 102, .bin .lss (.t 101) (.c (.int .i64 0)), none, []⟩] [14, 15, 102])
   (.cond (.t 102) (.seq (.reg [⟨some 6, .mov (.c (.bool false)), none, []⟩] [6])
   (.ret))
   (.skip)))
   (.seq (.seq (.reg [⟨some 103, .mov (.t 15), none, []⟩,
    ⟨some 104, .mov (.t 14), none, []⟩,
    ⟨some 105, .bin .neq (.t 103) (.t 104), none, []⟩] [105])
   (.cond (.t 105) (.seq (.reg [⟨some 6, .mov (.c (.bool false)), none, []⟩] [6])
   (.ret))
   (.skip)))
   (.seq (.reg [⟨some 6, .mov (.c (.bool true)), none, []⟩] [6])
   (.ret)))))))))))))))))))))))))⟩
theorem a9 : agreeFn Try.prog Try.f9 A9 = true := by kernel_rfl
theorem setS_bs {b : Bo} (h : Bt b) (a : Int) : Bs (setS b a) := (setS_bt h a).bs
theorem law_FnExactBothJudge' (b : Bo) (l1 : b.sn.length ≤ maxLen) (l2 : b.wants.length ≤ maxLen) (l3 : b.evs.length ≤ maxLen) : Spec Try.prog 8 [bov b] (hp []) fun v _ => v = .s (.bool true) := by
  refine spec_of_awp dS Try.func8 a8 (by simp [A8]) ?_
  simp only [ne_eq, S1, S2, S3, S4, S5, S6, S7, S8, S9, S10, S11, S12, S13, guarded, opWp, onX, onO, onFn, chks, chkOne, xop, evf, fget, fput, fkeep, finit, aress, ares, abin, pickv, AV.cells, reduceCtorEq, reduceIte, Nat.reduceEqDiff, Nat.reduceAdd, bound, capsOf, Nat.reduceLeDiff, AHeap.cell, AHeap.row, AHeap.cells, AHeap.put, AHeap.has, afill, Nat.reduceLT, List.reduceReplicate, alen, afillRows, afresh, aappend, srcRows, Nat.reduceSub, Nat.reduceMul, ints_len, wants_len, evs_len, A8, bov, boF]
  refine Spec.obs (b_szBoth b 1048576 (by decide) (by decide) l1 l2 l3) (by rw [bov, boF]; exact (by repeat' (first | exact AVsLe.nil | refine AVsLe.cons ?_ ?_ | exact AVLe.one AVLe0.no | refine AVLe.one (AVLe0.s ?_) | refine AVLe.one (AVLe0.agg ?_) | exact SVsLe.nil | refine SVsLe.cons ?_ ?_ | exact Wk.free rfl | exact Wk.lnils | exact Wk.lemp | exact Wk.frz (by simp) rfl rfl (by simp [ints_len, markB_sn, markB_wants, markB_evs, markInts_len, markWants_len]) (by simp [ints_len, List.take_of_length_le, markB_sn, markB_wants, markB_evs, markInts_len, markWants_len]) (ints_data _) | exact Wk.frz (by simp) rfl rfl (by simp [wants_len, markB_sn, markB_wants, markB_evs, markInts_len, markWants_len]) (by simp [wants_len, List.take_of_length_le, markB_sn, markB_wants, markB_evs, markInts_len, markWants_len]) (wants_data _) | exact Wk.frz (by simp) rfl rfl (by simp [evs_len, markB_sn, markB_wants, markB_evs, markInts_len, markWants_len]) (by simp [evs_len, List.take_of_length_le, markB_sn, markB_wants, markB_evs, markInts_len, markWants_len]) (evs_data _)))) rfl ?_
  by_cases q : szB 1048576 b < 0
  · simp only [ne_eq, S1, S2, S3, S4, S5, S6, S7, S8, S9, S10, S11, S12, S13, guarded, opWp, onX, onO, onFn, chks, chkOne, xop, evf, fget, fput, fkeep, finit, aress, ares, abin, pickv, AV.cells, reduceCtorEq, reduceIte, Nat.reduceEqDiff, Nat.reduceAdd, bound, capsOf, Nat.reduceLeDiff, AHeap.cell, AHeap.row, AHeap.cells, AHeap.put, AHeap.has, afill, Nat.reduceLT, List.reduceReplicate, alen, afillRows, afresh, aappend, srcRows, Nat.reduceSub, Nat.reduceMul, ints_len, wants_len, evs_len, q]
  have hb := szB_ok q
  have hs := hb.bs
  simp only [ne_eq, S1, S2, S3, S4, S5, S6, S7, S8, S9, S10, S11, S12, S13, guarded, opWp, onX, onO, onFn, chks, chkOne, xop, evf, fget, fput, fkeep, finit, aress, ares, abin, pickv, AV.cells, reduceCtorEq, reduceIte, Nat.reduceEqDiff, Nat.reduceAdd, bound, capsOf, Nat.reduceLeDiff, AHeap.cell, AHeap.row, AHeap.cells, AHeap.put, AHeap.has, afill, Nat.reduceLT, List.reduceReplicate, alen, afillRows, afresh, aappend, srcRows, Nat.reduceSub, Nat.reduceMul, ints_len, wants_len, evs_len, q]
  refine c_toBoth b hs _ _ (by rw [bov, boF]; exact (by repeat' (first | exact AVsLe.nil | refine AVsLe.cons ?_ ?_ | exact AVLe.one AVLe0.no | refine AVLe.one (AVLe0.s ?_) | refine AVLe.one (AVLe0.agg ?_) | exact SVsLe.nil | refine SVsLe.cons ?_ ?_ | exact Wk.free rfl | exact Wk.lnils | exact Wk.lemp | exact Wk.frz (by simp) rfl rfl (by simp [ints_len, markB_sn, markB_wants, markB_evs, markInts_len, markWants_len]) (by simp [ints_len, List.take_of_length_le, markB_sn, markB_wants, markB_evs, markInts_len, markWants_len]) (ints_data _) | exact Wk.frz (by simp) rfl rfl (by simp [wants_len, markB_sn, markB_wants, markB_evs, markInts_len, markWants_len]) (by simp [wants_len, List.take_of_length_le, markB_sn, markB_wants, markB_evs, markInts_len, markWants_len]) (wants_data _) | exact Wk.frz (by simp) rfl rfl (by simp [evs_len, markB_sn, markB_wants, markB_evs, markInts_len, markWants_len]) (by simp [evs_len, List.take_of_length_le, markB_sn, markB_wants, markB_evs, markInts_len, markWants_len]) (evs_data _)))) _ ?_
  simp only [ne_eq, S1, S2, S3, S4, S5, S6, S7, S8, S9, S10, S11, S12, S13, guarded, opWp, onX, onO, onFn, chks, chkOne, xop, evf, fget, fput, fkeep, finit, aress, ares, abin, pickv, AV.cells, reduceCtorEq, reduceIte, Nat.reduceEqDiff, Nat.reduceAdd, bound, capsOf, Nat.reduceLeDiff, AHeap.cell, AHeap.row, AHeap.cells, AHeap.put, AHeap.has, afill, Nat.reduceLT, List.reduceReplicate, alen, afillRows, afresh, aappend, srcRows, Nat.reduceSub, Nat.reduceMul, ints_len, wants_len, evs_len, ownB, blksB]
  refine c_sJudge b hb _ _ (by rw [bov, boF]; exact (by repeat' (first | exact AVsLe.nil | refine AVsLe.cons ?_ ?_ | exact AVLe.one AVLe0.no | refine AVLe.one (AVLe0.s ?_) | refine AVLe.one (AVLe0.agg ?_) | exact SVsLe.nil | refine SVsLe.cons ?_ ?_ | exact Wk.free rfl | exact Wk.lnils | exact Wk.lemp | exact Wk.frz (by simp) rfl rfl (by simp [ints_len, markB_sn, markB_wants, markB_evs, markInts_len, markWants_len]) (by simp [ints_len, List.take_of_length_le, markB_sn, markB_wants, markB_evs, markInts_len, markWants_len]) (ints_data _) | exact Wk.frz (by simp) rfl rfl (by simp [wants_len, markB_sn, markB_wants, markB_evs, markInts_len, markWants_len]) (by simp [wants_len, List.take_of_length_le, markB_sn, markB_wants, markB_evs, markInts_len, markWants_len]) (wants_data _) | exact Wk.frz (by simp) rfl rfl (by simp [evs_len, markB_sn, markB_wants, markB_evs, markInts_len, markWants_len]) (by simp [evs_len, List.take_of_length_le, markB_sn, markB_wants, markB_evs, markInts_len, markWants_len]) (evs_data _)))) _ ?_
  simp only [ne_eq, S1, S2, S3, S4, S5, S6, S7, S8, S9, S10, S11, S12, S13, guarded, opWp, onX, onO, onFn, chks, chkOne, xop, evf, fget, fput, fkeep, finit, aress, ares, abin, pickv, AV.cells, reduceCtorEq, reduceIte, Nat.reduceEqDiff, Nat.reduceAdd, bound, capsOf, Nat.reduceLeDiff, AHeap.cell, AHeap.row, AHeap.cells, AHeap.put, AHeap.has, afill, Nat.reduceLT, List.reduceReplicate, alen, afillRows, afresh, aappend, srcRows, Nat.reduceSub, Nat.reduceMul, ints_len, wants_len, evs_len]
  refine c_toBoth b hs _ _ (by rw [bov, boF]; exact (by repeat' (first | exact AVsLe.nil | refine AVsLe.cons ?_ ?_ | exact AVLe.one AVLe0.no | refine AVLe.one (AVLe0.s ?_) | refine AVLe.one (AVLe0.agg ?_) | exact SVsLe.nil | refine SVsLe.cons ?_ ?_ | exact Wk.free rfl | exact Wk.lnils | exact Wk.lemp | exact Wk.frz (by simp) rfl rfl (by simp [ints_len, markB_sn, markB_wants, markB_evs, markInts_len, markWants_len]) (by simp [ints_len, List.take_of_length_le, markB_sn, markB_wants, markB_evs, markInts_len, markWants_len]) (ints_data _) | exact Wk.frz (by simp) rfl rfl (by simp [wants_len, markB_sn, markB_wants, markB_evs, markInts_len, markWants_len]) (by simp [wants_len, List.take_of_length_le, markB_sn, markB_wants, markB_evs, markInts_len, markWants_len]) (wants_data _) | exact Wk.frz (by simp) rfl rfl (by simp [evs_len, markB_sn, markB_wants, markB_evs, markInts_len, markWants_len]) (by simp [evs_len, List.take_of_length_le, markB_sn, markB_wants, markB_evs, markInts_len, markWants_len]) (evs_data _)))) _ ?_
  simp only [ne_eq, S1, S2, S3, S4, S5, S6, S7, S8, S9, S10, S11, S12, S13, guarded, opWp, onX, onO, onFn, chks, chkOne, xop, evf, fget, fput, fkeep, finit, aress, ares, abin, pickv, AV.cells, reduceCtorEq, reduceIte, Nat.reduceEqDiff, Nat.reduceAdd, bound, capsOf, Nat.reduceLeDiff, AHeap.cell, AHeap.row, AHeap.cells, AHeap.put, AHeap.has, afill, Nat.reduceLT, List.reduceReplicate, alen, afillRows, afresh, aappend, srcRows, Nat.reduceSub, Nat.reduceMul, ints_len, wants_len, evs_len, ownB, blksB]
  refine c_iJudge b hb _ _ (by rw [bov, boF]; exact (by repeat' (first | exact AVsLe.nil | refine AVsLe.cons ?_ ?_ | exact AVLe.one AVLe0.no | refine AVLe.one (AVLe0.s ?_) | refine AVLe.one (AVLe0.agg ?_) | exact SVsLe.nil | refine SVsLe.cons ?_ ?_ | exact Wk.free rfl | exact Wk.lnils | exact Wk.lemp | exact Wk.frz (by simp) rfl rfl (by simp [ints_len, markB_sn, markB_wants, markB_evs, markInts_len, markWants_len]) (by simp [ints_len, List.take_of_length_le, markB_sn, markB_wants, markB_evs, markInts_len, markWants_len]) (ints_data _) | exact Wk.frz (by simp) rfl rfl (by simp [wants_len, markB_sn, markB_wants, markB_evs, markInts_len, markWants_len]) (by simp [wants_len, List.take_of_length_le, markB_sn, markB_wants, markB_evs, markInts_len, markWants_len]) (wants_data _) | exact Wk.frz (by simp) rfl rfl (by simp [evs_len, markB_sn, markB_wants, markB_evs, markInts_len, markWants_len]) (by simp [evs_len, List.take_of_length_le, markB_sn, markB_wants, markB_evs, markInts_len, markWants_len]) (evs_data _)))) _ ?_
  simp only [ne_eq, S1, S2, S3, S4, S5, S6, S7, S8, S9, S10, S11, S12, S13, guarded, opWp, onX, onO, onFn, chks, chkOne, xop, evf, fget, fput, fkeep, finit, aress, ares, abin, pickv, AV.cells, reduceCtorEq, reduceIte, Nat.reduceEqDiff, Nat.reduceAdd, bound, capsOf, Nat.reduceLeDiff, AHeap.cell, AHeap.row, AHeap.cells, AHeap.put, AHeap.has, afill, Nat.reduceLT, List.reduceReplicate, alen, afillRows, afresh, aappend, srcRows, Nat.reduceSub, Nat.reduceMul, ints_len, wants_len, evs_len, not_true_eq_false]
  refine c_toBoth b hs _ _ (by rw [bov, boF]; exact (by repeat' (first | exact AVsLe.nil | refine AVsLe.cons ?_ ?_ | exact AVLe.one AVLe0.no | refine AVLe.one (AVLe0.s ?_) | refine AVLe.one (AVLe0.agg ?_) | exact SVsLe.nil | refine SVsLe.cons ?_ ?_ | exact Wk.free rfl | exact Wk.lnils | exact Wk.lemp | exact Wk.frz (by simp) rfl rfl (by simp [ints_len, markB_sn, markB_wants, markB_evs, markInts_len, markWants_len]) (by simp [ints_len, List.take_of_length_le, markB_sn, markB_wants, markB_evs, markInts_len, markWants_len]) (ints_data _) | exact Wk.frz (by simp) rfl rfl (by simp [wants_len, markB_sn, markB_wants, markB_evs, markInts_len, markWants_len]) (by simp [wants_len, List.take_of_length_le, markB_sn, markB_wants, markB_evs, markInts_len, markWants_len]) (wants_data _) | exact Wk.frz (by simp) rfl rfl (by simp [evs_len, markB_sn, markB_wants, markB_evs, markInts_len, markWants_len]) (by simp [evs_len, List.take_of_length_le, markB_sn, markB_wants, markB_evs, markInts_len, markWants_len]) (evs_data _)))) _ ?_
  simp only [ne_eq, S1, S2, S3, S4, S5, S6, S7, S8, S9, S10, S11, S12, S13, guarded, opWp, onX, onO, onFn, chks, chkOne, xop, evf, fget, fput, fkeep, finit, aress, ares, abin, pickv, AV.cells, reduceCtorEq, reduceIte, Nat.reduceEqDiff, Nat.reduceAdd, bound, capsOf, Nat.reduceLeDiff, AHeap.cell, AHeap.row, AHeap.cells, AHeap.put, AHeap.has, afill, Nat.reduceLT, List.reduceReplicate, alen, afillRows, afresh, aappend, srcRows, Nat.reduceSub, Nat.reduceMul, ints_len, wants_len, evs_len, ownB, blksB]
  refine Spec.obs (b_eqBoth b b hs hs) (by rw [bov, boF]; exact (by repeat' (first | exact AVsLe.nil | refine AVsLe.cons ?_ ?_ | exact AVLe.one AVLe0.no | refine AVLe.one (AVLe0.s ?_) | refine AVLe.one (AVLe0.agg ?_) | exact SVsLe.nil | refine SVsLe.cons ?_ ?_ | exact Wk.free rfl | exact Wk.lnils | exact Wk.lemp | exact Wk.frz (by simp) rfl rfl (by simp [ints_len, markB_sn, markB_wants, markB_evs, markInts_len, markWants_len]) (by simp [ints_len, List.take_of_length_le, markB_sn, markB_wants, markB_evs, markInts_len, markWants_len]) (ints_data _) | exact Wk.frz (by simp) rfl rfl (by simp [wants_len, markB_sn, markB_wants, markB_evs, markInts_len, markWants_len]) (by simp [wants_len, List.take_of_length_le, markB_sn, markB_wants, markB_evs, markInts_len, markWants_len]) (wants_data _) | exact Wk.frz (by simp) rfl rfl (by simp [evs_len, markB_sn, markB_wants, markB_evs, markInts_len, markWants_len]) (by simp [evs_len, List.take_of_length_le, markB_sn, markB_wants, markB_evs, markInts_len, markWants_len]) (evs_data _)))) rfl ?_
  simp only [ne_eq, S1, S2, S3, S4, S5, S6, S7, S8, S9, S10, S11, S12, S13, guarded, opWp, onX, onO, onFn, chks, chkOne, xop, evf, fget, fput, fkeep, finit, aress, ares, abin, pickv, AV.cells, reduceCtorEq, reduceIte, Nat.reduceEqDiff, Nat.reduceAdd, bound, capsOf, Nat.reduceLeDiff, AHeap.cell, AHeap.row, AHeap.cells, AHeap.put, AHeap.has, afill, Nat.reduceLT, List.reduceReplicate, alen, afillRows, afresh, aappend, srcRows, Nat.reduceSub, Nat.reduceMul, ints_len, wants_len, evs_len]
theorem law_FnExactBothJudge (xs : List AV) (h : tyAs Try.prog 9 [44] xs) : Spec Try.prog 8 xs (hp []) fun v _ => v = .s (.bool true) := by
  obtain ⟨x, xs, rfl, h0, h⟩ := tyAs_cons h
  obtain rfl := tyAs_nil h
  obtain ⟨b, rfl, l1, l2, l3⟩ := both_of h0
  exact law_FnExactBothJudge' b l1 l2 l3
theorem law_FnExactBothSet' (b : Bo) (a : Int) (l1 : b.sn.length ≤ maxLen) (l2 : b.wants.length ≤ maxLen) (l3 : b.evs.length ≤ maxLen) : Spec Try.prog 10 [bov b, .s (.int .i64 a)] (hp []) fun v _ => v = .s (.bool true) := by
  refine spec_of_awp dS Try.func10 a10 (by simp [A10]) ?_
  simp only [ne_eq, S1, S2, S3, S4, S5, S6, S7, S8, S9, S10, S11, S12, S13, guarded, opWp, onX, onO, onFn, chks, chkOne, xop, evf, fget, fput, fkeep, finit, aress, ares, abin, pickv, AV.cells, reduceCtorEq, reduceIte, Nat.reduceEqDiff, Nat.reduceAdd, bound, capsOf, Nat.reduceLeDiff, AHeap.cell, AHeap.row, AHeap.cells, AHeap.put, AHeap.has, afill, Nat.reduceLT, List.reduceReplicate, alen, afillRows, afresh, aappend, srcRows, Nat.reduceSub, Nat.reduceMul, ints_len, wants_len, evs_len, A10, bov, boF]
  refine Spec.obs (b_szBoth b 1048576 (by decide) (by decide) l1 l2 l3) (by rw [bov, boF]; exact (by repeat' (first | exact AVsLe.nil | refine AVsLe.cons ?_ ?_ | exact AVLe.one AVLe0.no | refine AVLe.one (AVLe0.s ?_) | refine AVLe.one (AVLe0.agg ?_) | exact SVsLe.nil | refine SVsLe.cons ?_ ?_ | exact Wk.free rfl | exact Wk.lnils | exact Wk.lemp | exact Wk.frz (by simp) rfl rfl (by simp [ints_len, markB_sn, markB_wants, markB_evs, markInts_len, markWants_len]) (by simp [ints_len, List.take_of_length_le, markB_sn, markB_wants, markB_evs, markInts_len, markWants_len]) (ints_data _) | exact Wk.frz (by simp) rfl rfl (by simp [wants_len, markB_sn, markB_wants, markB_evs, markInts_len, markWants_len]) (by simp [wants_len, List.take_of_length_le, markB_sn, markB_wants, markB_evs, markInts_len, markWants_len]) (wants_data _) | exact Wk.frz (by simp) rfl rfl (by simp [evs_len, markB_sn, markB_wants, markB_evs, markInts_len, markWants_len]) (by simp [evs_len, List.take_of_length_le, markB_sn, markB_wants, markB_evs, markInts_len, markWants_len]) (evs_data _)))) rfl ?_
  by_cases q : szB 1048576 b < 0
  · simp only [ne_eq, S1, S2, S3, S4, S5, S6, S7, S8, S9, S10, S11, S12, S13, guarded, opWp, onX, onO, onFn, chks, chkOne, xop, evf, fget, fput, fkeep, finit, aress, ares, abin, pickv, AV.cells, reduceCtorEq, reduceIte, Nat.reduceEqDiff, Nat.reduceAdd, bound, capsOf, Nat.reduceLeDiff, AHeap.cell, AHeap.row, AHeap.cells, AHeap.put, AHeap.has, afill, Nat.reduceLT, List.reduceReplicate, alen, afillRows, afresh, aappend, srcRows, Nat.reduceSub, Nat.reduceMul, ints_len, wants_len, evs_len, q]
  have hb := szB_ok q
  have hs := hb.bs
  simp only [ne_eq, S1, S2, S3, S4, S5, S6, S7, S8, S9, S10, S11, S12, S13, guarded, opWp, onX, onO, onFn, chks, chkOne, xop, evf, fget, fput, fkeep, finit, aress, ares, abin, pickv, AV.cells, reduceCtorEq, reduceIte, Nat.reduceEqDiff, Nat.reduceAdd, bound, capsOf, Nat.reduceLeDiff, AHeap.cell, AHeap.row, AHeap.cells, AHeap.put, AHeap.has, afill, Nat.reduceLT, List.reduceReplicate, alen, afillRows, afresh, aappend, srcRows, Nat.reduceSub, Nat.reduceMul, ints_len, wants_len, evs_len, q]
  refine c_toBoth b hs _ _ (by rw [bov, boF]; exact (by repeat' (first | exact AVsLe.nil | refine AVsLe.cons ?_ ?_ | exact AVLe.one AVLe0.no | refine AVLe.one (AVLe0.s ?_) | refine AVLe.one (AVLe0.agg ?_) | exact SVsLe.nil | refine SVsLe.cons ?_ ?_ | exact Wk.free rfl | exact Wk.lnils | exact Wk.lemp | exact Wk.frz (by simp) rfl rfl (by simp [ints_len, markB_sn, markB_wants, markB_evs, markInts_len, markWants_len]) (by simp [ints_len, List.take_of_length_le, markB_sn, markB_wants, markB_evs, markInts_len, markWants_len]) (ints_data _) | exact Wk.frz (by simp) rfl rfl (by simp [wants_len, markB_sn, markB_wants, markB_evs, markInts_len, markWants_len]) (by simp [wants_len, List.take_of_length_le, markB_sn, markB_wants, markB_evs, markInts_len, markWants_len]) (wants_data _) | exact Wk.frz (by simp) rfl rfl (by simp [evs_len, markB_sn, markB_wants, markB_evs, markInts_len, markWants_len]) (by simp [evs_len, List.take_of_length_le, markB_sn, markB_wants, markB_evs, markInts_len, markWants_len]) (evs_data _)))) _ ?_
  simp only [ne_eq, S1, S2, S3, S4, S5, S6, S7, S8, S9, S10, S11, S12, S13, guarded, opWp, onX, onO, onFn, chks, chkOne, xop, evf, fget, fput, fkeep, finit, aress, ares, abin, pickv, AV.cells, reduceCtorEq, reduceIte, Nat.reduceEqDiff, Nat.reduceAdd, bound, capsOf, Nat.reduceLeDiff, AHeap.cell, AHeap.row, AHeap.cells, AHeap.put, AHeap.has, afill, Nat.reduceLT, List.reduceReplicate, alen, afillRows, afresh, aappend, srcRows, Nat.reduceSub, Nat.reduceMul, ints_len, wants_len, evs_len, ownB, blksB]
  refine c_sSet b a hb _ _ (by rw [bov, boF]; exact (by repeat' (first | exact AVsLe.nil | refine AVsLe.cons ?_ ?_ | exact AVLe.one AVLe0.no | refine AVLe.one (AVLe0.s ?_) | refine AVLe.one (AVLe0.agg ?_) | exact SVsLe.nil | refine SVsLe.cons ?_ ?_ | exact Wk.free rfl | exact Wk.lnils | exact Wk.lemp | exact Wk.frz (by simp) rfl rfl (by simp [ints_len, markB_sn, markB_wants, markB_evs, markInts_len, markWants_len]) (by simp [ints_len, List.take_of_length_le, markB_sn, markB_wants, markB_evs, markInts_len, markWants_len]) (ints_data _) | exact Wk.frz (by simp) rfl rfl (by simp [wants_len, markB_sn, markB_wants, markB_evs, markInts_len, markWants_len]) (by simp [wants_len, List.take_of_length_le, markB_sn, markB_wants, markB_evs, markInts_len, markWants_len]) (wants_data _) | exact Wk.frz (by simp) rfl rfl (by simp [evs_len, markB_sn, markB_wants, markB_evs, markInts_len, markWants_len]) (by simp [evs_len, List.take_of_length_le, markB_sn, markB_wants, markB_evs, markInts_len, markWants_len]) (evs_data _)))) _ ?_
  have hr := setS_bs hb a
  generalize hw : setS b a = r at hr ⊢
  simp only [ne_eq, S1, S2, S3, S4, S5, S6, S7, S8, S9, S10, S11, S12, S13, guarded, opWp, onX, onO, onFn, chks, chkOne, xop, evf, fget, fput, fkeep, finit, aress, ares, abin, pickv, AV.cells, reduceCtorEq, reduceIte, Nat.reduceEqDiff, Nat.reduceAdd, bound, capsOf, Nat.reduceLeDiff, AHeap.cell, AHeap.row, AHeap.cells, AHeap.put, AHeap.has, afill, Nat.reduceLT, List.reduceReplicate, alen, afillRows, afresh, aappend, srcRows, Nat.reduceSub, Nat.reduceMul, ints_len, wants_len, evs_len, ownB, blksB]
  refine c_toBoth b hs _ _ (by rw [bov, boF]; exact (by repeat' (first | exact AVsLe.nil | refine AVsLe.cons ?_ ?_ | exact AVLe.one AVLe0.no | refine AVLe.one (AVLe0.s ?_) | refine AVLe.one (AVLe0.agg ?_) | exact SVsLe.nil | refine SVsLe.cons ?_ ?_ | exact Wk.free rfl | exact Wk.lnils | exact Wk.lemp | exact Wk.frz (by simp) rfl rfl (by simp [ints_len, markB_sn, markB_wants, markB_evs, markInts_len, markWants_len]) (by simp [ints_len, List.take_of_length_le, markB_sn, markB_wants, markB_evs, markInts_len, markWants_len]) (ints_data _) | exact Wk.frz (by simp) rfl rfl (by simp [wants_len, markB_sn, markB_wants, markB_evs, markInts_len, markWants_len]) (by simp [wants_len, List.take_of_length_le, markB_sn, markB_wants, markB_evs, markInts_len, markWants_len]) (wants_data _) | exact Wk.frz (by simp) rfl rfl (by simp [evs_len, markB_sn, markB_wants, markB_evs, markInts_len, markWants_len]) (by simp [evs_len, List.take_of_length_le, markB_sn, markB_wants, markB_evs, markInts_len, markWants_len]) (evs_data _)))) _ ?_
  simp only [ne_eq, S1, S2, S3, S4, S5, S6, S7, S8, S9, S10, S11, S12, S13, guarded, opWp, onX, onO, onFn, chks, chkOne, xop, evf, fget, fput, fkeep, finit, aress, ares, abin, pickv, AV.cells, reduceCtorEq, reduceIte, Nat.reduceEqDiff, Nat.reduceAdd, bound, capsOf, Nat.reduceLeDiff, AHeap.cell, AHeap.row, AHeap.cells, AHeap.put, AHeap.has, afill, Nat.reduceLT, List.reduceReplicate, alen, afillRows, afresh, aappend, srcRows, Nat.reduceSub, Nat.reduceMul, ints_len, wants_len, evs_len, ownB, blksB]
  refine c_iSet b a hb _ _ (by rw [bov, boF]; exact (by repeat' (first | exact AVsLe.nil | refine AVsLe.cons ?_ ?_ | exact AVLe.one AVLe0.no | refine AVLe.one (AVLe0.s ?_) | refine AVLe.one (AVLe0.agg ?_) | exact SVsLe.nil | refine SVsLe.cons ?_ ?_ | exact Wk.free rfl | exact Wk.lnils | exact Wk.lemp | exact Wk.frz (by simp) rfl rfl (by simp [ints_len, markB_sn, markB_wants, markB_evs, markInts_len, markWants_len]) (by simp [ints_len, List.take_of_length_le, markB_sn, markB_wants, markB_evs, markInts_len, markWants_len]) (ints_data _) | exact Wk.frz (by simp) rfl rfl (by simp [wants_len, markB_sn, markB_wants, markB_evs, markInts_len, markWants_len]) (by simp [wants_len, List.take_of_length_le, markB_sn, markB_wants, markB_evs, markInts_len, markWants_len]) (wants_data _) | exact Wk.frz (by simp) rfl rfl (by simp [evs_len, markB_sn, markB_wants, markB_evs, markInts_len, markWants_len]) (by simp [evs_len, List.take_of_length_le, markB_sn, markB_wants, markB_evs, markInts_len, markWants_len]) (evs_data _)))) _ ?_
  rw [hw]
  simp only [ne_eq, S1, S2, S3, S4, S5, S6, S7, S8, S9, S10, S11, S12, S13, guarded, opWp, onX, onO, onFn, chks, chkOne, xop, evf, fget, fput, fkeep, finit, aress, ares, abin, pickv, AV.cells, reduceCtorEq, reduceIte, Nat.reduceEqDiff, Nat.reduceAdd, bound, capsOf, Nat.reduceLeDiff, AHeap.cell, AHeap.row, AHeap.cells, AHeap.put, AHeap.has, afill, Nat.reduceLT, List.reduceReplicate, alen, afillRows, afresh, aappend, srcRows, Nat.reduceSub, Nat.reduceMul, ints_len, wants_len, evs_len, ownB, blksB]
  refine Spec.obs (b_eqBoth r r hr hr) (by rw [bov, boF]; exact (by repeat' (first | exact AVsLe.nil | refine AVsLe.cons ?_ ?_ | exact AVLe.one AVLe0.no | refine AVLe.one (AVLe0.s ?_) | refine AVLe.one (AVLe0.agg ?_) | exact SVsLe.nil | refine SVsLe.cons ?_ ?_ | exact Wk.free rfl | exact Wk.lnils | exact Wk.lemp | exact Wk.frz (by simp) rfl rfl (by simp [ints_len, markB_sn, markB_wants, markB_evs, markInts_len, markWants_len]) (by simp [ints_len, List.take_of_length_le, markB_sn, markB_wants, markB_evs, markInts_len, markWants_len]) (ints_data _) | exact Wk.frz (by simp) rfl rfl (by simp [wants_len, markB_sn, markB_wants, markB_evs, markInts_len, markWants_len]) (by simp [wants_len, List.take_of_length_le, markB_sn, markB_wants, markB_evs, markInts_len, markWants_len]) (wants_data _) | exact Wk.frz (by simp) rfl rfl (by simp [evs_len, markB_sn, markB_wants, markB_evs, markInts_len, markWants_len]) (by simp [evs_len, List.take_of_length_le, markB_sn, markB_wants, markB_evs, markInts_len, markWants_len]) (evs_data _)))) rfl ?_
  simp only [ne_eq, S1, S2, S3, S4, S5, S6, S7, S8, S9, S10, S11, S12, S13, guarded, opWp, onX, onO, onFn, chks, chkOne, xop, evf, fget, fput, fkeep, finit, aress, ares, abin, pickv, AV.cells, reduceCtorEq, reduceIte, Nat.reduceEqDiff, Nat.reduceAdd, bound, capsOf, Nat.reduceLeDiff, AHeap.cell, AHeap.row, AHeap.cells, AHeap.put, AHeap.has, afill, Nat.reduceLT, List.reduceReplicate, alen, afillRows, afresh, aappend, srcRows, Nat.reduceSub, Nat.reduceMul, ints_len, wants_len, evs_len]
  refine c_toBoth b hs _ _ (by rw [bov, boF]; exact (by repeat' (first | exact AVsLe.nil | refine AVsLe.cons ?_ ?_ | exact AVLe.one AVLe0.no | refine AVLe.one (AVLe0.s ?_) | refine AVLe.one (AVLe0.agg ?_) | exact SVsLe.nil | refine SVsLe.cons ?_ ?_ | exact Wk.free rfl | exact Wk.lnils | exact Wk.lemp | exact Wk.frz (by simp) rfl rfl (by simp [ints_len, markB_sn, markB_wants, markB_evs, markInts_len, markWants_len]) (by simp [ints_len, List.take_of_length_le, markB_sn, markB_wants, markB_evs, markInts_len, markWants_len]) (ints_data _) | exact Wk.frz (by simp) rfl rfl (by simp [wants_len, markB_sn, markB_wants, markB_evs, markInts_len, markWants_len]) (by simp [wants_len, List.take_of_length_le, markB_sn, markB_wants, markB_evs, markInts_len, markWants_len]) (wants_data _) | exact Wk.frz (by simp) rfl rfl (by simp [evs_len, markB_sn, markB_wants, markB_evs, markInts_len, markWants_len]) (by simp [evs_len, List.take_of_length_le, markB_sn, markB_wants, markB_evs, markInts_len, markWants_len]) (evs_data _)))) _ ?_
  simp only [ne_eq, S1, S2, S3, S4, S5, S6, S7, S8, S9, S10, S11, S12, S13, guarded, opWp, onX, onO, onFn, chks, chkOne, xop, evf, fget, fput, fkeep, finit, aress, ares, abin, pickv, AV.cells, reduceCtorEq, reduceIte, Nat.reduceEqDiff, Nat.reduceAdd, bound, capsOf, Nat.reduceLeDiff, AHeap.cell, AHeap.row, AHeap.cells, AHeap.put, AHeap.has, afill, Nat.reduceLT, List.reduceReplicate, alen, afillRows, afresh, aappend, srcRows, Nat.reduceSub, Nat.reduceMul, ints_len, wants_len, evs_len, ownB, blksB]
  refine Spec.obs (b_eqBoth b b hs hs) (by rw [bov, boF]; exact (by repeat' (first | exact AVsLe.nil | refine AVsLe.cons ?_ ?_ | exact AVLe.one AVLe0.no | refine AVLe.one (AVLe0.s ?_) | refine AVLe.one (AVLe0.agg ?_) | exact SVsLe.nil | refine SVsLe.cons ?_ ?_ | exact Wk.free rfl | exact Wk.lnils | exact Wk.lemp | exact Wk.frz (by simp) rfl rfl (by simp [ints_len, markB_sn, markB_wants, markB_evs, markInts_len, markWants_len]) (by simp [ints_len, List.take_of_length_le, markB_sn, markB_wants, markB_evs, markInts_len, markWants_len]) (ints_data _) | exact Wk.frz (by simp) rfl rfl (by simp [wants_len, markB_sn, markB_wants, markB_evs, markInts_len, markWants_len]) (by simp [wants_len, List.take_of_length_le, markB_sn, markB_wants, markB_evs, markInts_len, markWants_len]) (wants_data _) | exact Wk.frz (by simp) rfl rfl (by simp [evs_len, markB_sn, markB_wants, markB_evs, markInts_len, markWants_len]) (by simp [evs_len, List.take_of_length_le, markB_sn, markB_wants, markB_evs, markInts_len, markWants_len]) (evs_data _)))) rfl ?_
  simp only [ne_eq, S1, S2, S3, S4, S5, S6, S7, S8, S9, S10, S11, S12, S13, guarded, opWp, onX, onO, onFn, chks, chkOne, xop, evf, fget, fput, fkeep, finit, aress, ares, abin, pickv, AV.cells, reduceCtorEq, reduceIte, Nat.reduceEqDiff, Nat.reduceAdd, bound, capsOf, Nat.reduceLeDiff, AHeap.cell, AHeap.row, AHeap.cells, AHeap.put, AHeap.has, afill, Nat.reduceLT, List.reduceReplicate, alen, afillRows, afresh, aappend, srcRows, Nat.reduceSub, Nat.reduceMul, ints_len, wants_len, evs_len]
  refine c_markBoth b 1 hs (by decide) (by decide) rfl rfl rfl _ ?_
  simp only [ne_eq, S1, S2, S3, S4, S5, S6, S7, S8, S9, S10, S11, S12, S13, guarded, opWp, onX, onO, onFn, chks, chkOne, xop, evf, fget, fput, fkeep, finit, aress, ares, abin, pickv, AV.cells, reduceCtorEq, reduceIte, Nat.reduceEqDiff, Nat.reduceAdd, bound, capsOf, Nat.reduceLeDiff, AHeap.cell, AHeap.row, AHeap.cells, AHeap.put, AHeap.has, afill, Nat.reduceLT, List.reduceReplicate, alen, afillRows, afresh, aappend, srcRows, Nat.reduceSub, Nat.reduceMul, ints_len, wants_len, evs_len, markN_nn]
  refine Spec.obs (b_eqBoth r r hr hr) (by rw [bov, boF]; exact (by repeat' (first | exact AVsLe.nil | refine AVsLe.cons ?_ ?_ | exact AVLe.one AVLe0.no | refine AVLe.one (AVLe0.s ?_) | refine AVLe.one (AVLe0.agg ?_) | exact SVsLe.nil | refine SVsLe.cons ?_ ?_ | exact Wk.free rfl | exact Wk.lnils | exact Wk.lemp | exact Wk.frz (by simp) rfl rfl (by simp [ints_len, markB_sn, markB_wants, markB_evs, markInts_len, markWants_len]) (by simp [ints_len, List.take_of_length_le, markB_sn, markB_wants, markB_evs, markInts_len, markWants_len]) (ints_data _) | exact Wk.frz (by simp) rfl rfl (by simp [wants_len, markB_sn, markB_wants, markB_evs, markInts_len, markWants_len]) (by simp [wants_len, List.take_of_length_le, markB_sn, markB_wants, markB_evs, markInts_len, markWants_len]) (wants_data _) | exact Wk.frz (by simp) rfl rfl (by simp [evs_len, markB_sn, markB_wants, markB_evs, markInts_len, markWants_len]) (by simp [evs_len, List.take_of_length_le, markB_sn, markB_wants, markB_evs, markInts_len, markWants_len]) (evs_data _)))) rfl ?_
  simp only [ne_eq, S1, S2, S3, S4, S5, S6, S7, S8, S9, S10, S11, S12, S13, guarded, opWp, onX, onO, onFn, chks, chkOne, xop, evf, fget, fput, fkeep, finit, aress, ares, abin, pickv, AV.cells, reduceCtorEq, reduceIte, Nat.reduceEqDiff, Nat.reduceAdd, bound, capsOf, Nat.reduceLeDiff, AHeap.cell, AHeap.row, AHeap.cells, AHeap.put, AHeap.has, afill, Nat.reduceLT, List.reduceReplicate, alen, afillRows, afresh, aappend, srcRows, Nat.reduceSub, Nat.reduceMul, ints_len, wants_len, evs_len]
  refine c_markBoth r 1 hr (by decide) (by decide) rfl rfl rfl _ ?_
  simp only [ne_eq, S1, S2, S3, S4, S5, S6, S7, S8, S9, S10, S11, S12, S13, guarded, opWp, onX, onO, onFn, chks, chkOne, xop, evf, fget, fput, fkeep, finit, aress, ares, abin, pickv, AV.cells, reduceCtorEq, reduceIte, Nat.reduceEqDiff, Nat.reduceAdd, bound, capsOf, Nat.reduceLeDiff, AHeap.cell, AHeap.row, AHeap.cells, AHeap.put, AHeap.has, afill, Nat.reduceLT, List.reduceReplicate, alen, afillRows, afresh, aappend, srcRows, Nat.reduceSub, Nat.reduceMul, ints_len, wants_len, evs_len]
  refine Spec.obs (b_heldBoth r 1 hr (by decide)) (by rw [bov, boF, markB]; exact (by repeat' (first | exact AVsLe.nil | refine AVsLe.cons ?_ ?_ | exact AVLe.one AVLe0.no | refine AVLe.one (AVLe0.s ?_) | refine AVLe.one (AVLe0.agg ?_) | exact SVsLe.nil | refine SVsLe.cons ?_ ?_ | exact Wk.free rfl | exact Wk.lnils | exact Wk.lemp | exact Wk.frz (by simp) rfl rfl (by simp [ints_len, markB_sn, markB_wants, markB_evs, markInts_len, markWants_len]) (by simp [ints_len, List.take_of_length_le, markB_sn, markB_wants, markB_evs, markInts_len, markWants_len]) (ints_data _) | exact Wk.frz (by simp) rfl rfl (by simp [wants_len, markB_sn, markB_wants, markB_evs, markInts_len, markWants_len]) (by simp [wants_len, List.take_of_length_le, markB_sn, markB_wants, markB_evs, markInts_len, markWants_len]) (wants_data _) | exact Wk.frz (by simp) rfl rfl (by simp [evs_len, markB_sn, markB_wants, markB_evs, markInts_len, markWants_len]) (by simp [evs_len, List.take_of_length_le, markB_sn, markB_wants, markB_evs, markInts_len, markWants_len]) (evs_data _)))) rfl ?_
  simp only [ne_eq, S1, S2, S3, S4, S5, S6, S7, S8, S9, S10, S11, S12, S13, guarded, opWp, onX, onO, onFn, chks, chkOne, xop, evf, fget, fput, fkeep, finit, aress, ares, abin, pickv, AV.cells, reduceCtorEq, reduceIte, Nat.reduceEqDiff, Nat.reduceAdd, bound, capsOf, Nat.reduceLeDiff, AHeap.cell, AHeap.row, AHeap.cells, AHeap.put, AHeap.has, afill, Nat.reduceLT, List.reduceReplicate, alen, afillRows, afresh, aappend, srcRows, Nat.reduceSub, Nat.reduceMul, ints_len, wants_len, evs_len, markN_nn]
  refine c_toBoth b hs _ _ (by rw [bov, boF]; exact (by repeat' (first | exact AVsLe.nil | refine AVsLe.cons ?_ ?_ | exact AVLe.one AVLe0.no | refine AVLe.one (AVLe0.s ?_) | refine AVLe.one (AVLe0.agg ?_) | exact SVsLe.nil | refine SVsLe.cons ?_ ?_ | exact Wk.free rfl | exact Wk.lnils | exact Wk.lemp | exact Wk.frz (by simp) rfl rfl (by simp [ints_len, markB_sn, markB_wants, markB_evs, markInts_len, markWants_len]) (by simp [ints_len, List.take_of_length_le, markB_sn, markB_wants, markB_evs, markInts_len, markWants_len]) (ints_data _) | exact Wk.frz (by simp) rfl rfl (by simp [wants_len, markB_sn, markB_wants, markB_evs, markInts_len, markWants_len]) (by simp [wants_len, List.take_of_length_le, markB_sn, markB_wants, markB_evs, markInts_len, markWants_len]) (wants_data _) | exact Wk.frz (by simp) rfl rfl (by simp [evs_len, markB_sn, markB_wants, markB_evs, markInts_len, markWants_len]) (by simp [evs_len, List.take_of_length_le, markB_sn, markB_wants, markB_evs, markInts_len, markWants_len]) (evs_data _)))) _ ?_
  simp only [ne_eq, S1, S2, S3, S4, S5, S6, S7, S8, S9, S10, S11, S12, S13, guarded, opWp, onX, onO, onFn, chks, chkOne, xop, evf, fget, fput, fkeep, finit, aress, ares, abin, pickv, AV.cells, reduceCtorEq, reduceIte, Nat.reduceEqDiff, Nat.reduceAdd, bound, capsOf, Nat.reduceLeDiff, AHeap.cell, AHeap.row, AHeap.cells, AHeap.put, AHeap.has, afill, Nat.reduceLT, List.reduceReplicate, alen, afillRows, afresh, aappend, srcRows, Nat.reduceSub, Nat.reduceMul, ints_len, wants_len, evs_len, ownB, blksB]
  refine c_iSet b a hb _ _ (by rw [bov, boF]; exact (by repeat' (first | exact AVsLe.nil | refine AVsLe.cons ?_ ?_ | exact AVLe.one AVLe0.no | refine AVLe.one (AVLe0.s ?_) | refine AVLe.one (AVLe0.agg ?_) | exact SVsLe.nil | refine SVsLe.cons ?_ ?_ | exact Wk.free rfl | exact Wk.lnils | exact Wk.lemp | exact Wk.frz (by simp) rfl rfl (by simp [ints_len, markB_sn, markB_wants, markB_evs, markInts_len, markWants_len]) (by simp [ints_len, List.take_of_length_le, markB_sn, markB_wants, markB_evs, markInts_len, markWants_len]) (ints_data _) | exact Wk.frz (by simp) rfl rfl (by simp [wants_len, markB_sn, markB_wants, markB_evs, markInts_len, markWants_len]) (by simp [wants_len, List.take_of_length_le, markB_sn, markB_wants, markB_evs, markInts_len, markWants_len]) (wants_data _) | exact Wk.frz (by simp) rfl rfl (by simp [evs_len, markB_sn, markB_wants, markB_evs, markInts_len, markWants_len]) (by simp [evs_len, List.take_of_length_le, markB_sn, markB_wants, markB_evs, markInts_len, markWants_len]) (evs_data _)))) _ ?_
  rw [hw]
  simp only [ne_eq, S1, S2, S3, S4, S5, S6, S7, S8, S9, S10, S11, S12, S13, guarded, opWp, onX, onO, onFn, chks, chkOne, xop, evf, fget, fput, fkeep, finit, aress, ares, abin, pickv, AV.cells, reduceCtorEq, reduceIte, Nat.reduceEqDiff, Nat.reduceAdd, bound, capsOf, Nat.reduceLeDiff, AHeap.cell, AHeap.row, AHeap.cells, AHeap.put, AHeap.has, afill, Nat.reduceLT, List.reduceReplicate, alen, afillRows, afresh, aappend, srcRows, Nat.reduceSub, Nat.reduceMul, ints_len, wants_len, evs_len, ownB, blksB]
  refine Spec.obs (b_eqBoth r r hr hr) (by rw [bov, boF]; exact (by repeat' (first | exact AVsLe.nil | refine AVsLe.cons ?_ ?_ | exact AVLe.one AVLe0.no | refine AVLe.one (AVLe0.s ?_) | refine AVLe.one (AVLe0.agg ?_) | exact SVsLe.nil | refine SVsLe.cons ?_ ?_ | exact Wk.free rfl | exact Wk.lnils | exact Wk.lemp | exact Wk.frz (by simp) rfl rfl (by simp [ints_len, markB_sn, markB_wants, markB_evs, markInts_len, markWants_len]) (by simp [ints_len, List.take_of_length_le, markB_sn, markB_wants, markB_evs, markInts_len, markWants_len]) (ints_data _) | exact Wk.frz (by simp) rfl rfl (by simp [wants_len, markB_sn, markB_wants, markB_evs, markInts_len, markWants_len]) (by simp [wants_len, List.take_of_length_le, markB_sn, markB_wants, markB_evs, markInts_len, markWants_len]) (wants_data _) | exact Wk.frz (by simp) rfl rfl (by simp [evs_len, markB_sn, markB_wants, markB_evs, markInts_len, markWants_len]) (by simp [evs_len, List.take_of_length_le, markB_sn, markB_wants, markB_evs, markInts_len, markWants_len]) (evs_data _)))) rfl ?_
  simp only [ne_eq, S1, S2, S3, S4, S5, S6, S7, S8, S9, S10, S11, S12, S13, guarded, opWp, onX, onO, onFn, chks, chkOne, xop, evf, fget, fput, fkeep, finit, aress, ares, abin, pickv, AV.cells, reduceCtorEq, reduceIte, Nat.reduceEqDiff, Nat.reduceAdd, bound, capsOf, Nat.reduceLeDiff, AHeap.cell, AHeap.row, AHeap.cells, AHeap.put, AHeap.has, afill, Nat.reduceLT, List.reduceReplicate, alen, afillRows, afresh, aappend, srcRows, Nat.reduceSub, Nat.reduceMul, ints_len, wants_len, evs_len]
  refine Spec.obs (b_heldBoth r 1 hr (by decide)) (by rw [bov, boF, markB]; exact (by repeat' (first | exact AVsLe.nil | refine AVsLe.cons ?_ ?_ | exact AVLe.one AVLe0.no | refine AVLe.one (AVLe0.s ?_) | refine AVLe.one (AVLe0.agg ?_) | exact SVsLe.nil | refine SVsLe.cons ?_ ?_ | exact Wk.free rfl | exact Wk.lnils | exact Wk.lemp | exact Wk.frz (by simp) rfl rfl (by simp [ints_len, markB_sn, markB_wants, markB_evs, markInts_len, markWants_len]) (by simp [ints_len, List.take_of_length_le, markB_sn, markB_wants, markB_evs, markInts_len, markWants_len]) (ints_data _) | exact Wk.frz (by simp) rfl rfl (by simp [wants_len, markB_sn, markB_wants, markB_evs, markInts_len, markWants_len]) (by simp [wants_len, List.take_of_length_le, markB_sn, markB_wants, markB_evs, markInts_len, markWants_len]) (wants_data _) | exact Wk.frz (by simp) rfl rfl (by simp [evs_len, markB_sn, markB_wants, markB_evs, markInts_len, markWants_len]) (by simp [evs_len, List.take_of_length_le, markB_sn, markB_wants, markB_evs, markInts_len, markWants_len]) (evs_data _)))) rfl ?_
  simp only [ne_eq, S1, S2, S3, S4, S5, S6, S7, S8, S9, S10, S11, S12, S13, guarded, opWp, onX, onO, onFn, chks, chkOne, xop, evf, fget, fput, fkeep, finit, aress, ares, abin, pickv, AV.cells, reduceCtorEq, reduceIte, Nat.reduceEqDiff, Nat.reduceAdd, bound, capsOf, Nat.reduceLeDiff, AHeap.cell, AHeap.row, AHeap.cells, AHeap.put, AHeap.has, afill, Nat.reduceLT, List.reduceReplicate, alen, afillRows, afresh, aappend, srcRows, Nat.reduceSub, Nat.reduceMul, ints_len, wants_len, evs_len, markN_nn]
theorem law_FnExactBothSet (xs : List AV) (h : tyAs Try.prog 9 [44, 3] xs) : Spec Try.prog 10 xs (hp []) fun v _ => v = .s (.bool true) := by
  obtain ⟨x, xs, rfl, h0, h⟩ := tyAs_cons h
  obtain ⟨y, xs, rfl, h1, h⟩ := tyAs_cons h
  obtain rfl := tyAs_nil h
  obtain ⟨b, rfl, l1, l2, l3⟩ := both_of h0
  obtain ⟨i, rfl, _⟩ := tyA_int Try.underlying3 h1
  exact law_FnExactBothSet' b i l1 l2 l3
theorem law_FnExactBothRun' (b : Bo) (who : List Int) (l1 : b.sn.length ≤ maxLen) (l2 : b.wants.length ≤ maxLen) (l3 : b.evs.length ≤ maxLen) (hwm : who.length ≤ maxLen) : Spec Try.prog 13 [bov b, .s (.lst 1 (ints who))] (hp []) fun v _ => v = .s (.bool true) := by
  refine spec_of_awp dS Try.func13 a13 (by simp [A13]) ?_
  by_cases hbig : (1048576 : Int) < (who.length : Int)
  · simp only [ne_eq, S1, S2, S3, S4, S5, S6, S7, S8, S9, S10, S11, S12, S13, guarded, opWp, onX, onO, onFn, chks, chkOne, xop, evf, fget, fput, fkeep, finit, aress, ares, abin, pickv, AV.cells, reduceCtorEq, reduceIte, Nat.reduceEqDiff, Nat.reduceAdd, bound, capsOf, Nat.reduceLeDiff, AHeap.cell, AHeap.row, AHeap.cells, AHeap.put, AHeap.has, afill, Nat.reduceLT, List.reduceReplicate, alen, afillRows, afresh, aappend, srcRows, Nat.reduceSub, Nat.reduceMul, ints_len, wants_len, evs_len, A13, bov, boF, eq_true hbig]
  have hwl : who.length ≤ 2000000 := by omega
  simp only [ne_eq, S1, S2, S3, S4, S5, S6, S7, S8, S9, S10, S11, S12, S13, guarded, opWp, onX, onO, onFn, chks, chkOne, xop, evf, fget, fput, fkeep, finit, aress, ares, abin, pickv, AV.cells, reduceCtorEq, reduceIte, Nat.reduceEqDiff, Nat.reduceAdd, bound, capsOf, Nat.reduceLeDiff, AHeap.cell, AHeap.row, AHeap.cells, AHeap.put, AHeap.has, afill, Nat.reduceLT, List.reduceReplicate, alen, afillRows, afresh, aappend, srcRows, Nat.reduceSub, Nat.reduceMul, ints_len, wants_len, evs_len, A13, bov, boF, hbig]
  refine Spec.obs (b_szBoth b 1048576 (by decide) (by decide) l1 l2 l3) (by rw [bov, boF]; exact (by repeat' (first | exact AVsLe.nil | refine AVsLe.cons ?_ ?_ | exact AVLe.one AVLe0.no | refine AVLe.one (AVLe0.s ?_) | refine AVLe.one (AVLe0.agg ?_) | exact SVsLe.nil | refine SVsLe.cons ?_ ?_ | exact Wk.free rfl | exact Wk.lnils | exact Wk.lemp | exact Wk.frz (by simp) rfl rfl (by simp [ints_len, markB_sn, markB_wants, markB_evs, markInts_len, markWants_len]) (by simp [ints_len, List.take_of_length_le, markB_sn, markB_wants, markB_evs, markInts_len, markWants_len]) (ints_data _) | exact Wk.frz (by simp) rfl rfl (by simp [wants_len, markB_sn, markB_wants, markB_evs, markInts_len, markWants_len]) (by simp [wants_len, List.take_of_length_le, markB_sn, markB_wants, markB_evs, markInts_len, markWants_len]) (wants_data _) | exact Wk.frz (by simp) rfl rfl (by simp [evs_len, markB_sn, markB_wants, markB_evs, markInts_len, markWants_len]) (by simp [evs_len, List.take_of_length_le, markB_sn, markB_wants, markB_evs, markInts_len, markWants_len]) (evs_data _)))) rfl ?_
  by_cases q : szB 1048576 b < 0
  · simp only [ne_eq, S1, S2, S3, S4, S5, S6, S7, S8, S9, S10, S11, S12, S13, guarded, opWp, onX, onO, onFn, chks, chkOne, xop, evf, fget, fput, fkeep, finit, aress, ares, abin, pickv, AV.cells, reduceCtorEq, reduceIte, Nat.reduceEqDiff, Nat.reduceAdd, bound, capsOf, Nat.reduceLeDiff, AHeap.cell, AHeap.row, AHeap.cells, AHeap.put, AHeap.has, afill, Nat.reduceLT, List.reduceReplicate, alen, afillRows, afresh, aappend, srcRows, Nat.reduceSub, Nat.reduceMul, ints_len, wants_len, evs_len, q]
  have hb := szB_ok q
  have hs := hb.bs
  simp only [ne_eq, S1, S2, S3, S4, S5, S6, S7, S8, S9, S10, S11, S12, S13, guarded, opWp, onX, onO, onFn, chks, chkOne, xop, evf, fget, fput, fkeep, finit, aress, ares, abin, pickv, AV.cells, reduceCtorEq, reduceIte, Nat.reduceEqDiff, Nat.reduceAdd, bound, capsOf, Nat.reduceLeDiff, AHeap.cell, AHeap.row, AHeap.cells, AHeap.put, AHeap.has, afill, Nat.reduceLT, List.reduceReplicate, alen, afillRows, afresh, aappend, srcRows, Nat.reduceSub, Nat.reduceMul, ints_len, wants_len, evs_len, q]
  refine c_toBoth b hs _ _ (by rw [bov, boF]; exact (by repeat' (first | exact AVsLe.nil | refine AVsLe.cons ?_ ?_ | exact AVLe.one AVLe0.no | refine AVLe.one (AVLe0.s ?_) | refine AVLe.one (AVLe0.agg ?_) | exact SVsLe.nil | refine SVsLe.cons ?_ ?_ | exact Wk.free rfl | exact Wk.lnils | exact Wk.lemp | exact Wk.frz (by simp) rfl rfl (by simp [ints_len, markB_sn, markB_wants, markB_evs, markInts_len, markWants_len]) (by simp [ints_len, List.take_of_length_le, markB_sn, markB_wants, markB_evs, markInts_len, markWants_len]) (ints_data _) | exact Wk.frz (by simp) rfl rfl (by simp [wants_len, markB_sn, markB_wants, markB_evs, markInts_len, markWants_len]) (by simp [wants_len, List.take_of_length_le, markB_sn, markB_wants, markB_evs, markInts_len, markWants_len]) (wants_data _) | exact Wk.frz (by simp) rfl rfl (by simp [evs_len, markB_sn, markB_wants, markB_evs, markInts_len, markWants_len]) (by simp [evs_len, List.take_of_length_le, markB_sn, markB_wants, markB_evs, markInts_len, markWants_len]) (evs_data _)))) _ ?_
  simp only [ne_eq, S1, S2, S3, S4, S5, S6, S7, S8, S9, S10, S11, S12, S13, guarded, opWp, onX, onO, onFn, chks, chkOne, xop, evf, fget, fput, fkeep, finit, aress, ares, abin, pickv, AV.cells, reduceCtorEq, reduceIte, Nat.reduceEqDiff, Nat.reduceAdd, bound, capsOf, Nat.reduceLeDiff, AHeap.cell, AHeap.row, AHeap.cells, AHeap.put, AHeap.has, afill, Nat.reduceLT, List.reduceReplicate, alen, afillRows, afresh, aappend, srcRows, Nat.reduceSub, Nat.reduceMul, ints_len, wants_len, evs_len, ownB, blksB]
  refine c_toIntS who hwl _ _ (by repeat' (first | exact AVsLe.nil | refine AVsLe.cons ?_ ?_ | exact AVLe.one AVLe0.no | refine AVLe.one (AVLe0.s ?_) | refine AVLe.one (AVLe0.agg ?_) | exact SVsLe.nil | refine SVsLe.cons ?_ ?_ | exact Wk.free rfl | exact Wk.lnils | exact Wk.lemp | exact Wk.frz (by simp) rfl rfl (by simp [ints_len, markB_sn, markB_wants, markB_evs, markInts_len, markWants_len]) (by simp [ints_len, List.take_of_length_le, markB_sn, markB_wants, markB_evs, markInts_len, markWants_len]) (ints_data _) | exact Wk.frz (by simp) rfl rfl (by simp [wants_len, markB_sn, markB_wants, markB_evs, markInts_len, markWants_len]) (by simp [wants_len, List.take_of_length_le, markB_sn, markB_wants, markB_evs, markInts_len, markWants_len]) (wants_data _) | exact Wk.frz (by simp) rfl rfl (by simp [evs_len, markB_sn, markB_wants, markB_evs, markInts_len, markWants_len]) (by simp [evs_len, List.take_of_length_le, markB_sn, markB_wants, markB_evs, markInts_len, markWants_len]) (evs_data _))) _ ?_
  simp only [ne_eq, S1, S2, S3, S4, S5, S6, S7, S8, S9, S10, S11, S12, S13, guarded, opWp, onX, onO, onFn, chks, chkOne, xop, evf, fget, fput, fkeep, finit, aress, ares, abin, pickv, AV.cells, reduceCtorEq, reduceIte, Nat.reduceEqDiff, Nat.reduceAdd, bound, capsOf, Nat.reduceLeDiff, AHeap.cell, AHeap.row, AHeap.cells, AHeap.put, AHeap.has, afill, Nat.reduceLT, List.reduceReplicate, alen, afillRows, afresh, aappend, srcRows, Nat.reduceSub, Nat.reduceMul, ints_len, wants_len, evs_len]
  refine c_sRun b who hb hwm _ _ (by rw [bov, boF]; exact (by repeat' (first | exact AVsLe.nil | refine AVsLe.cons ?_ ?_ | exact AVLe.one AVLe0.no | refine AVLe.one (AVLe0.s ?_) | refine AVLe.one (AVLe0.agg ?_) | exact SVsLe.nil | refine SVsLe.cons ?_ ?_ | exact Wk.free rfl | exact Wk.lnils | exact Wk.lemp | exact Wk.frz (by simp) rfl rfl (by simp [ints_len, markB_sn, markB_wants, markB_evs, markInts_len, markWants_len]) (by simp [ints_len, List.take_of_length_le, markB_sn, markB_wants, markB_evs, markInts_len, markWants_len]) (ints_data _) | exact Wk.frz (by simp) rfl rfl (by simp [wants_len, markB_sn, markB_wants, markB_evs, markInts_len, markWants_len]) (by simp [wants_len, List.take_of_length_le, markB_sn, markB_wants, markB_evs, markInts_len, markWants_len]) (wants_data _) | exact Wk.frz (by simp) rfl rfl (by simp [evs_len, markB_sn, markB_wants, markB_evs, markInts_len, markWants_len]) (by simp [evs_len, List.take_of_length_le, markB_sn, markB_wants, markB_evs, markInts_len, markWants_len]) (evs_data _)))) _ ?_
  have hr := (runB_bt hb who).bs
  generalize hw : runB b who = r at hr ⊢
  simp only [ne_eq, S1, S2, S3, S4, S5, S6, S7, S8, S9, S10, S11, S12, S13, guarded, opWp, onX, onO, onFn, chks, chkOne, xop, evf, fget, fput, fkeep, finit, aress, ares, abin, pickv, AV.cells, reduceCtorEq, reduceIte, Nat.reduceEqDiff, Nat.reduceAdd, bound, capsOf, Nat.reduceLeDiff, AHeap.cell, AHeap.row, AHeap.cells, AHeap.put, AHeap.has, afill, Nat.reduceLT, List.reduceReplicate, alen, afillRows, afresh, aappend, srcRows, Nat.reduceSub, Nat.reduceMul, ints_len, wants_len, evs_len, ownB, blksB]
  refine c_toBoth b hs _ _ (by rw [bov, boF]; exact (by repeat' (first | exact AVsLe.nil | refine AVsLe.cons ?_ ?_ | exact AVLe.one AVLe0.no | refine AVLe.one (AVLe0.s ?_) | refine AVLe.one (AVLe0.agg ?_) | exact SVsLe.nil | refine SVsLe.cons ?_ ?_ | exact Wk.free rfl | exact Wk.lnils | exact Wk.lemp | exact Wk.frz (by simp) rfl rfl (by simp [ints_len, markB_sn, markB_wants, markB_evs, markInts_len, markWants_len]) (by simp [ints_len, List.take_of_length_le, markB_sn, markB_wants, markB_evs, markInts_len, markWants_len]) (ints_data _) | exact Wk.frz (by simp) rfl rfl (by simp [wants_len, markB_sn, markB_wants, markB_evs, markInts_len, markWants_len]) (by simp [wants_len, List.take_of_length_le, markB_sn, markB_wants, markB_evs, markInts_len, markWants_len]) (wants_data _) | exact Wk.frz (by simp) rfl rfl (by simp [evs_len, markB_sn, markB_wants, markB_evs, markInts_len, markWants_len]) (by simp [evs_len, List.take_of_length_le, markB_sn, markB_wants, markB_evs, markInts_len, markWants_len]) (evs_data _)))) _ ?_
  simp only [ne_eq, S1, S2, S3, S4, S5, S6, S7, S8, S9, S10, S11, S12, S13, guarded, opWp, onX, onO, onFn, chks, chkOne, xop, evf, fget, fput, fkeep, finit, aress, ares, abin, pickv, AV.cells, reduceCtorEq, reduceIte, Nat.reduceEqDiff, Nat.reduceAdd, bound, capsOf, Nat.reduceLeDiff, AHeap.cell, AHeap.row, AHeap.cells, AHeap.put, AHeap.has, afill, Nat.reduceLT, List.reduceReplicate, alen, afillRows, afresh, aappend, srcRows, Nat.reduceSub, Nat.reduceMul, ints_len, wants_len, evs_len, ownB, blksB]
  refine c_toIntS who hwl _ _ (by repeat' (first | exact AVsLe.nil | refine AVsLe.cons ?_ ?_ | exact AVLe.one AVLe0.no | refine AVLe.one (AVLe0.s ?_) | refine AVLe.one (AVLe0.agg ?_) | exact SVsLe.nil | refine SVsLe.cons ?_ ?_ | exact Wk.free rfl | exact Wk.lnils | exact Wk.lemp | exact Wk.frz (by simp) rfl rfl (by simp [ints_len, markB_sn, markB_wants, markB_evs, markInts_len, markWants_len]) (by simp [ints_len, List.take_of_length_le, markB_sn, markB_wants, markB_evs, markInts_len, markWants_len]) (ints_data _) | exact Wk.frz (by simp) rfl rfl (by simp [wants_len, markB_sn, markB_wants, markB_evs, markInts_len, markWants_len]) (by simp [wants_len, List.take_of_length_le, markB_sn, markB_wants, markB_evs, markInts_len, markWants_len]) (wants_data _) | exact Wk.frz (by simp) rfl rfl (by simp [evs_len, markB_sn, markB_wants, markB_evs, markInts_len, markWants_len]) (by simp [evs_len, List.take_of_length_le, markB_sn, markB_wants, markB_evs, markInts_len, markWants_len]) (evs_data _))) _ ?_
  simp only [ne_eq, S1, S2, S3, S4, S5, S6, S7, S8, S9, S10, S11, S12, S13, guarded, opWp, onX, onO, onFn, chks, chkOne, xop, evf, fget, fput, fkeep, finit, aress, ares, abin, pickv, AV.cells, reduceCtorEq, reduceIte, Nat.reduceEqDiff, Nat.reduceAdd, bound, capsOf, Nat.reduceLeDiff, AHeap.cell, AHeap.row, AHeap.cells, AHeap.put, AHeap.has, afill, Nat.reduceLT, List.reduceReplicate, alen, afillRows, afresh, aappend, srcRows, Nat.reduceSub, Nat.reduceMul, ints_len, wants_len, evs_len]
  refine c_iRun b who hb _ _ (by rw [bov, boF]; exact (by repeat' (first | exact AVsLe.nil | refine AVsLe.cons ?_ ?_ | exact AVLe.one AVLe0.no | refine AVLe.one (AVLe0.s ?_) | refine AVLe.one (AVLe0.agg ?_) | exact SVsLe.nil | refine SVsLe.cons ?_ ?_ | exact Wk.free rfl | exact Wk.lnils | exact Wk.lemp | exact Wk.frz (by simp) rfl rfl (by simp [ints_len, markB_sn, markB_wants, markB_evs, markInts_len, markWants_len]) (by simp [ints_len, List.take_of_length_le, markB_sn, markB_wants, markB_evs, markInts_len, markWants_len]) (ints_data _) | exact Wk.frz (by simp) rfl rfl (by simp [wants_len, markB_sn, markB_wants, markB_evs, markInts_len, markWants_len]) (by simp [wants_len, List.take_of_length_le, markB_sn, markB_wants, markB_evs, markInts_len, markWants_len]) (wants_data _) | exact Wk.frz (by simp) rfl rfl (by simp [evs_len, markB_sn, markB_wants, markB_evs, markInts_len, markWants_len]) (by simp [evs_len, List.take_of_length_le, markB_sn, markB_wants, markB_evs, markInts_len, markWants_len]) (evs_data _)))) _ ?_
  rw [hw]
  simp only [ne_eq, S1, S2, S3, S4, S5, S6, S7, S8, S9, S10, S11, S12, S13, guarded, opWp, onX, onO, onFn, chks, chkOne, xop, evf, fget, fput, fkeep, finit, aress, ares, abin, pickv, AV.cells, reduceCtorEq, reduceIte, Nat.reduceEqDiff, Nat.reduceAdd, bound, capsOf, Nat.reduceLeDiff, AHeap.cell, AHeap.row, AHeap.cells, AHeap.put, AHeap.has, afill, Nat.reduceLT, List.reduceReplicate, alen, afillRows, afresh, aappend, srcRows, Nat.reduceSub, Nat.reduceMul, ints_len, wants_len, evs_len, ownB, blksB]
  refine Spec.obs (b_eqBoth r r hr hr) (by rw [bov, boF]; exact (by repeat' (first | exact AVsLe.nil | refine AVsLe.cons ?_ ?_ | exact AVLe.one AVLe0.no | refine AVLe.one (AVLe0.s ?_) | refine AVLe.one (AVLe0.agg ?_) | exact SVsLe.nil | refine SVsLe.cons ?_ ?_ | exact Wk.free rfl | exact Wk.lnils | exact Wk.lemp | exact Wk.frz (by simp) rfl rfl (by simp [ints_len, markB_sn, markB_wants, markB_evs, markInts_len, markWants_len]) (by simp [ints_len, List.take_of_length_le, markB_sn, markB_wants, markB_evs, markInts_len, markWants_len]) (ints_data _) | exact Wk.frz (by simp) rfl rfl (by simp [wants_len, markB_sn, markB_wants, markB_evs, markInts_len, markWants_len]) (by simp [wants_len, List.take_of_length_le, markB_sn, markB_wants, markB_evs, markInts_len, markWants_len]) (wants_data _) | exact Wk.frz (by simp) rfl rfl (by simp [evs_len, markB_sn, markB_wants, markB_evs, markInts_len, markWants_len]) (by simp [evs_len, List.take_of_length_le, markB_sn, markB_wants, markB_evs, markInts_len, markWants_len]) (evs_data _)))) rfl ?_
  simp only [ne_eq, S1, S2, S3, S4, S5, S6, S7, S8, S9, S10, S11, S12, S13, guarded, opWp, onX, onO, onFn, chks, chkOne, xop, evf, fget, fput, fkeep, finit, aress, ares, abin, pickv, AV.cells, reduceCtorEq, reduceIte, Nat.reduceEqDiff, Nat.reduceAdd, bound, capsOf, Nat.reduceLeDiff, AHeap.cell, AHeap.row, AHeap.cells, AHeap.put, AHeap.has, afill, Nat.reduceLT, List.reduceReplicate, alen, afillRows, afresh, aappend, srcRows, Nat.reduceSub, Nat.reduceMul, ints_len, wants_len, evs_len]
  refine c_toBoth b hs _ _ (by rw [bov, boF]; exact (by repeat' (first | exact AVsLe.nil | refine AVsLe.cons ?_ ?_ | exact AVLe.one AVLe0.no | refine AVLe.one (AVLe0.s ?_) | refine AVLe.one (AVLe0.agg ?_) | exact SVsLe.nil | refine SVsLe.cons ?_ ?_ | exact Wk.free rfl | exact Wk.lnils | exact Wk.lemp | exact Wk.frz (by simp) rfl rfl (by simp [ints_len, markB_sn, markB_wants, markB_evs, markInts_len, markWants_len]) (by simp [ints_len, List.take_of_length_le, markB_sn, markB_wants, markB_evs, markInts_len, markWants_len]) (ints_data _) | exact Wk.frz (by simp) rfl rfl (by simp [wants_len, markB_sn, markB_wants, markB_evs, markInts_len, markWants_len]) (by simp [wants_len, List.take_of_length_le, markB_sn, markB_wants, markB_evs, markInts_len, markWants_len]) (wants_data _) | exact Wk.frz (by simp) rfl rfl (by simp [evs_len, markB_sn, markB_wants, markB_evs, markInts_len, markWants_len]) (by simp [evs_len, List.take_of_length_le, markB_sn, markB_wants, markB_evs, markInts_len, markWants_len]) (evs_data _)))) _ ?_
  simp only [ne_eq, S1, S2, S3, S4, S5, S6, S7, S8, S9, S10, S11, S12, S13, guarded, opWp, onX, onO, onFn, chks, chkOne, xop, evf, fget, fput, fkeep, finit, aress, ares, abin, pickv, AV.cells, reduceCtorEq, reduceIte, Nat.reduceEqDiff, Nat.reduceAdd, bound, capsOf, Nat.reduceLeDiff, AHeap.cell, AHeap.row, AHeap.cells, AHeap.put, AHeap.has, afill, Nat.reduceLT, List.reduceReplicate, alen, afillRows, afresh, aappend, srcRows, Nat.reduceSub, Nat.reduceMul, ints_len, wants_len, evs_len, ownB, blksB]
  refine Spec.obs (b_eqBoth b b hs hs) (by rw [bov, boF]; exact (by repeat' (first | exact AVsLe.nil | refine AVsLe.cons ?_ ?_ | exact AVLe.one AVLe0.no | refine AVLe.one (AVLe0.s ?_) | refine AVLe.one (AVLe0.agg ?_) | exact SVsLe.nil | refine SVsLe.cons ?_ ?_ | exact Wk.free rfl | exact Wk.lnils | exact Wk.lemp | exact Wk.frz (by simp) rfl rfl (by simp [ints_len, markB_sn, markB_wants, markB_evs, markInts_len, markWants_len]) (by simp [ints_len, List.take_of_length_le, markB_sn, markB_wants, markB_evs, markInts_len, markWants_len]) (ints_data _) | exact Wk.frz (by simp) rfl rfl (by simp [wants_len, markB_sn, markB_wants, markB_evs, markInts_len, markWants_len]) (by simp [wants_len, List.take_of_length_le, markB_sn, markB_wants, markB_evs, markInts_len, markWants_len]) (wants_data _) | exact Wk.frz (by simp) rfl rfl (by simp [evs_len, markB_sn, markB_wants, markB_evs, markInts_len, markWants_len]) (by simp [evs_len, List.take_of_length_le, markB_sn, markB_wants, markB_evs, markInts_len, markWants_len]) (evs_data _)))) rfl ?_
  simp only [ne_eq, S1, S2, S3, S4, S5, S6, S7, S8, S9, S10, S11, S12, S13, guarded, opWp, onX, onO, onFn, chks, chkOne, xop, evf, fget, fput, fkeep, finit, aress, ares, abin, pickv, AV.cells, reduceCtorEq, reduceIte, Nat.reduceEqDiff, Nat.reduceAdd, bound, capsOf, Nat.reduceLeDiff, AHeap.cell, AHeap.row, AHeap.cells, AHeap.put, AHeap.has, afill, Nat.reduceLT, List.reduceReplicate, alen, afillRows, afresh, aappend, srcRows, Nat.reduceSub, Nat.reduceMul, ints_len, wants_len, evs_len]
  refine c_toIntS who hwl _ _ (by repeat' (first | exact AVsLe.nil | refine AVsLe.cons ?_ ?_ | exact AVLe.one AVLe0.no | refine AVLe.one (AVLe0.s ?_) | refine AVLe.one (AVLe0.agg ?_) | exact SVsLe.nil | refine SVsLe.cons ?_ ?_ | exact Wk.free rfl | exact Wk.lnils | exact Wk.lemp | exact Wk.frz (by simp) rfl rfl (by simp [ints_len, markB_sn, markB_wants, markB_evs, markInts_len, markWants_len]) (by simp [ints_len, List.take_of_length_le, markB_sn, markB_wants, markB_evs, markInts_len, markWants_len]) (ints_data _) | exact Wk.frz (by simp) rfl rfl (by simp [wants_len, markB_sn, markB_wants, markB_evs, markInts_len, markWants_len]) (by simp [wants_len, List.take_of_length_le, markB_sn, markB_wants, markB_evs, markInts_len, markWants_len]) (wants_data _) | exact Wk.frz (by simp) rfl rfl (by simp [evs_len, markB_sn, markB_wants, markB_evs, markInts_len, markWants_len]) (by simp [evs_len, List.take_of_length_le, markB_sn, markB_wants, markB_evs, markInts_len, markWants_len]) (evs_data _))) _ ?_
  simp only [ne_eq, S1, S2, S3, S4, S5, S6, S7, S8, S9, S10, S11, S12, S13, guarded, opWp, onX, onO, onFn, chks, chkOne, xop, evf, fget, fput, fkeep, finit, aress, ares, abin, pickv, AV.cells, reduceCtorEq, reduceIte, Nat.reduceEqDiff, Nat.reduceAdd, bound, capsOf, Nat.reduceLeDiff, AHeap.cell, AHeap.row, AHeap.cells, AHeap.put, AHeap.has, afill, Nat.reduceLT, List.reduceReplicate, alen, afillRows, afresh, aappend, srcRows, Nat.reduceSub, Nat.reduceMul, ints_len, wants_len, evs_len]
  refine Spec.obs (b_eqIntS who who hwl hwl) (by repeat' (first | exact AVsLe.nil | refine AVsLe.cons ?_ ?_ | exact AVLe.one AVLe0.no | refine AVLe.one (AVLe0.s ?_) | refine AVLe.one (AVLe0.agg ?_) | exact SVsLe.nil | refine SVsLe.cons ?_ ?_ | exact Wk.free rfl | exact Wk.lnils | exact Wk.lemp | exact Wk.frz (by simp) rfl rfl (by simp [ints_len, markB_sn, markB_wants, markB_evs, markInts_len, markWants_len]) (by simp [ints_len, List.take_of_length_le, markB_sn, markB_wants, markB_evs, markInts_len, markWants_len]) (ints_data _) | exact Wk.frz (by simp) rfl rfl (by simp [wants_len, markB_sn, markB_wants, markB_evs, markInts_len, markWants_len]) (by simp [wants_len, List.take_of_length_le, markB_sn, markB_wants, markB_evs, markInts_len, markWants_len]) (wants_data _) | exact Wk.frz (by simp) rfl rfl (by simp [evs_len, markB_sn, markB_wants, markB_evs, markInts_len, markWants_len]) (by simp [evs_len, List.take_of_length_le, markB_sn, markB_wants, markB_evs, markInts_len, markWants_len]) (evs_data _))) rfl ?_
  simp only [ne_eq, S1, S2, S3, S4, S5, S6, S7, S8, S9, S10, S11, S12, S13, guarded, opWp, onX, onO, onFn, chks, chkOne, xop, evf, fget, fput, fkeep, finit, aress, ares, abin, pickv, AV.cells, reduceCtorEq, reduceIte, Nat.reduceEqDiff, Nat.reduceAdd, bound, capsOf, Nat.reduceLeDiff, AHeap.cell, AHeap.row, AHeap.cells, AHeap.put, AHeap.has, afill, Nat.reduceLT, List.reduceReplicate, alen, afillRows, afresh, aappend, srcRows, Nat.reduceSub, Nat.reduceMul, ints_len, wants_len, evs_len]
  refine c_markBoth b 1 hs (by decide) (by decide) rfl rfl rfl _ ?_
  simp only [ne_eq, S1, S2, S3, S4, S5, S6, S7, S8, S9, S10, S11, S12, S13, guarded, opWp, onX, onO, onFn, chks, chkOne, xop, evf, fget, fput, fkeep, finit, aress, ares, abin, pickv, AV.cells, reduceCtorEq, reduceIte, Nat.reduceEqDiff, Nat.reduceAdd, bound, capsOf, Nat.reduceLeDiff, AHeap.cell, AHeap.row, AHeap.cells, AHeap.put, AHeap.has, afill, Nat.reduceLT, List.reduceReplicate, alen, afillRows, afresh, aappend, srcRows, Nat.reduceSub, Nat.reduceMul, ints_len, wants_len, evs_len, markN_nn]
  refine c_markIntS who (markN b 1) hwl (by have h1 := hs.sn; have h2 := hs.wants; have h3 := hs.evs; unfold markN; omega) rfl _ ?_
  have qn : ¬ ((markN b 1 + who.length : Nat) : Int) < 0 := by omega
  simp only [ne_eq, S1, S2, S3, S4, S5, S6, S7, S8, S9, S10, S11, S12, S13, guarded, opWp, onX, onO, onFn, chks, chkOne, xop, evf, fget, fput, fkeep, finit, aress, ares, abin, pickv, AV.cells, reduceCtorEq, reduceIte, Nat.reduceEqDiff, Nat.reduceAdd, bound, capsOf, Nat.reduceLeDiff, AHeap.cell, AHeap.row, AHeap.cells, AHeap.put, AHeap.has, afill, Nat.reduceLT, List.reduceReplicate, alen, afillRows, afresh, aappend, srcRows, Nat.reduceSub, Nat.reduceMul, ints_len, wants_len, evs_len, qn]
  refine Spec.obs (b_eqBoth r r hr hr) (by rw [bov, boF]; exact (by repeat' (first | exact AVsLe.nil | refine AVsLe.cons ?_ ?_ | exact AVLe.one AVLe0.no | refine AVLe.one (AVLe0.s ?_) | refine AVLe.one (AVLe0.agg ?_) | exact SVsLe.nil | refine SVsLe.cons ?_ ?_ | exact Wk.free rfl | exact Wk.lnils | exact Wk.lemp | exact Wk.frz (by simp) rfl rfl (by simp [ints_len, markB_sn, markB_wants, markB_evs, markInts_len, markWants_len]) (by simp [ints_len, List.take_of_length_le, markB_sn, markB_wants, markB_evs, markInts_len, markWants_len]) (ints_data _) | exact Wk.frz (by simp) rfl rfl (by simp [wants_len, markB_sn, markB_wants, markB_evs, markInts_len, markWants_len]) (by simp [wants_len, List.take_of_length_le, markB_sn, markB_wants, markB_evs, markInts_len, markWants_len]) (wants_data _) | exact Wk.frz (by simp) rfl rfl (by simp [evs_len, markB_sn, markB_wants, markB_evs, markInts_len, markWants_len]) (by simp [evs_len, List.take_of_length_le, markB_sn, markB_wants, markB_evs, markInts_len, markWants_len]) (evs_data _)))) rfl ?_
  simp only [ne_eq, S1, S2, S3, S4, S5, S6, S7, S8, S9, S10, S11, S12, S13, guarded, opWp, onX, onO, onFn, chks, chkOne, xop, evf, fget, fput, fkeep, finit, aress, ares, abin, pickv, AV.cells, reduceCtorEq, reduceIte, Nat.reduceEqDiff, Nat.reduceAdd, bound, capsOf, Nat.reduceLeDiff, AHeap.cell, AHeap.row, AHeap.cells, AHeap.put, AHeap.has, afill, Nat.reduceLT, List.reduceReplicate, alen, afillRows, afresh, aappend, srcRows, Nat.reduceSub, Nat.reduceMul, ints_len, wants_len, evs_len]
  refine c_markBoth r 1 hr (by decide) (by decide) rfl rfl rfl _ ?_
  simp only [ne_eq, S1, S2, S3, S4, S5, S6, S7, S8, S9, S10, S11, S12, S13, guarded, opWp, onX, onO, onFn, chks, chkOne, xop, evf, fget, fput, fkeep, finit, aress, ares, abin, pickv, AV.cells, reduceCtorEq, reduceIte, Nat.reduceEqDiff, Nat.reduceAdd, bound, capsOf, Nat.reduceLeDiff, AHeap.cell, AHeap.row, AHeap.cells, AHeap.put, AHeap.has, afill, Nat.reduceLT, List.reduceReplicate, alen, afillRows, afresh, aappend, srcRows, Nat.reduceSub, Nat.reduceMul, ints_len, wants_len, evs_len]
  refine Spec.obs (b_heldBoth r 1 hr (by decide)) (by rw [bov, boF, markB]; exact (by repeat' (first | exact AVsLe.nil | refine AVsLe.cons ?_ ?_ | exact AVLe.one AVLe0.no | refine AVLe.one (AVLe0.s ?_) | refine AVLe.one (AVLe0.agg ?_) | exact SVsLe.nil | refine SVsLe.cons ?_ ?_ | exact Wk.free rfl | exact Wk.lnils | exact Wk.lemp | exact Wk.frz (by simp) rfl rfl (by simp [ints_len, markB_sn, markB_wants, markB_evs, markInts_len, markWants_len]) (by simp [ints_len, List.take_of_length_le, markB_sn, markB_wants, markB_evs, markInts_len, markWants_len]) (ints_data _) | exact Wk.frz (by simp) rfl rfl (by simp [wants_len, markB_sn, markB_wants, markB_evs, markInts_len, markWants_len]) (by simp [wants_len, List.take_of_length_le, markB_sn, markB_wants, markB_evs, markInts_len, markWants_len]) (wants_data _) | exact Wk.frz (by simp) rfl rfl (by simp [evs_len, markB_sn, markB_wants, markB_evs, markInts_len, markWants_len]) (by simp [evs_len, List.take_of_length_le, markB_sn, markB_wants, markB_evs, markInts_len, markWants_len]) (evs_data _)))) rfl ?_
  simp only [ne_eq, S1, S2, S3, S4, S5, S6, S7, S8, S9, S10, S11, S12, S13, guarded, opWp, onX, onO, onFn, chks, chkOne, xop, evf, fget, fput, fkeep, finit, aress, ares, abin, pickv, AV.cells, reduceCtorEq, reduceIte, Nat.reduceEqDiff, Nat.reduceAdd, bound, capsOf, Nat.reduceLeDiff, AHeap.cell, AHeap.row, AHeap.cells, AHeap.put, AHeap.has, afill, Nat.reduceLT, List.reduceReplicate, alen, afillRows, afresh, aappend, srcRows, Nat.reduceSub, Nat.reduceMul, ints_len, wants_len, evs_len, markN_nn]
  refine c_toBoth b hs _ _ (by rw [bov, boF]; exact (by repeat' (first | exact AVsLe.nil | refine AVsLe.cons ?_ ?_ | exact AVLe.one AVLe0.no | refine AVLe.one (AVLe0.s ?_) | refine AVLe.one (AVLe0.agg ?_) | exact SVsLe.nil | refine SVsLe.cons ?_ ?_ | exact Wk.free rfl | exact Wk.lnils | exact Wk.lemp | exact Wk.frz (by simp) rfl rfl (by simp [ints_len, markB_sn, markB_wants, markB_evs, markInts_len, markWants_len]) (by simp [ints_len, List.take_of_length_le, markB_sn, markB_wants, markB_evs, markInts_len, markWants_len]) (ints_data _) | exact Wk.frz (by simp) rfl rfl (by simp [wants_len, markB_sn, markB_wants, markB_evs, markInts_len, markWants_len]) (by simp [wants_len, List.take_of_length_le, markB_sn, markB_wants, markB_evs, markInts_len, markWants_len]) (wants_data _) | exact Wk.frz (by simp) rfl rfl (by simp [evs_len, markB_sn, markB_wants, markB_evs, markInts_len, markWants_len]) (by simp [evs_len, List.take_of_length_le, markB_sn, markB_wants, markB_evs, markInts_len, markWants_len]) (evs_data _)))) _ ?_
  simp only [ne_eq, S1, S2, S3, S4, S5, S6, S7, S8, S9, S10, S11, S12, S13, guarded, opWp, onX, onO, onFn, chks, chkOne, xop, evf, fget, fput, fkeep, finit, aress, ares, abin, pickv, AV.cells, reduceCtorEq, reduceIte, Nat.reduceEqDiff, Nat.reduceAdd, bound, capsOf, Nat.reduceLeDiff, AHeap.cell, AHeap.row, AHeap.cells, AHeap.put, AHeap.has, afill, Nat.reduceLT, List.reduceReplicate, alen, afillRows, afresh, aappend, srcRows, Nat.reduceSub, Nat.reduceMul, ints_len, wants_len, evs_len, ownB, blksB]
  refine c_toIntS who hwl _ _ (by repeat' (first | exact AVsLe.nil | refine AVsLe.cons ?_ ?_ | exact AVLe.one AVLe0.no | refine AVLe.one (AVLe0.s ?_) | refine AVLe.one (AVLe0.agg ?_) | exact SVsLe.nil | refine SVsLe.cons ?_ ?_ | exact Wk.free rfl | exact Wk.lnils | exact Wk.lemp | exact Wk.frz (by simp) rfl rfl (by simp [ints_len, markB_sn, markB_wants, markB_evs, markInts_len, markWants_len]) (by simp [ints_len, List.take_of_length_le, markB_sn, markB_wants, markB_evs, markInts_len, markWants_len]) (ints_data _) | exact Wk.frz (by simp) rfl rfl (by simp [wants_len, markB_sn, markB_wants, markB_evs, markInts_len, markWants_len]) (by simp [wants_len, List.take_of_length_le, markB_sn, markB_wants, markB_evs, markInts_len, markWants_len]) (wants_data _) | exact Wk.frz (by simp) rfl rfl (by simp [evs_len, markB_sn, markB_wants, markB_evs, markInts_len, markWants_len]) (by simp [evs_len, List.take_of_length_le, markB_sn, markB_wants, markB_evs, markInts_len, markWants_len]) (evs_data _))) _ ?_
  simp only [ne_eq, S1, S2, S3, S4, S5, S6, S7, S8, S9, S10, S11, S12, S13, guarded, opWp, onX, onO, onFn, chks, chkOne, xop, evf, fget, fput, fkeep, finit, aress, ares, abin, pickv, AV.cells, reduceCtorEq, reduceIte, Nat.reduceEqDiff, Nat.reduceAdd, bound, capsOf, Nat.reduceLeDiff, AHeap.cell, AHeap.row, AHeap.cells, AHeap.put, AHeap.has, afill, Nat.reduceLT, List.reduceReplicate, alen, afillRows, afresh, aappend, srcRows, Nat.reduceSub, Nat.reduceMul, ints_len, wants_len, evs_len]
  refine c_iRun b who hb _ _ (by rw [bov, boF]; exact (by repeat' (first | exact AVsLe.nil | refine AVsLe.cons ?_ ?_ | exact AVLe.one AVLe0.no | refine AVLe.one (AVLe0.s ?_) | refine AVLe.one (AVLe0.agg ?_) | exact SVsLe.nil | refine SVsLe.cons ?_ ?_ | exact Wk.free rfl | exact Wk.lnils | exact Wk.lemp | exact Wk.frz (by simp) rfl rfl (by simp [ints_len, markB_sn, markB_wants, markB_evs, markInts_len, markWants_len]) (by simp [ints_len, List.take_of_length_le, markB_sn, markB_wants, markB_evs, markInts_len, markWants_len]) (ints_data _) | exact Wk.frz (by simp) rfl rfl (by simp [wants_len, markB_sn, markB_wants, markB_evs, markInts_len, markWants_len]) (by simp [wants_len, List.take_of_length_le, markB_sn, markB_wants, markB_evs, markInts_len, markWants_len]) (wants_data _) | exact Wk.frz (by simp) rfl rfl (by simp [evs_len, markB_sn, markB_wants, markB_evs, markInts_len, markWants_len]) (by simp [evs_len, List.take_of_length_le, markB_sn, markB_wants, markB_evs, markInts_len, markWants_len]) (evs_data _)))) _ ?_
  rw [hw]
  simp only [ne_eq, S1, S2, S3, S4, S5, S6, S7, S8, S9, S10, S11, S12, S13, guarded, opWp, onX, onO, onFn, chks, chkOne, xop, evf, fget, fput, fkeep, finit, aress, ares, abin, pickv, AV.cells, reduceCtorEq, reduceIte, Nat.reduceEqDiff, Nat.reduceAdd, bound, capsOf, Nat.reduceLeDiff, AHeap.cell, AHeap.row, AHeap.cells, AHeap.put, AHeap.has, afill, Nat.reduceLT, List.reduceReplicate, alen, afillRows, afresh, aappend, srcRows, Nat.reduceSub, Nat.reduceMul, ints_len, wants_len, evs_len, ownB, blksB]
  refine Spec.obs (b_eqBoth r r hr hr) (by rw [bov, boF]; exact (by repeat' (first | exact AVsLe.nil | refine AVsLe.cons ?_ ?_ | exact AVLe.one AVLe0.no | refine AVLe.one (AVLe0.s ?_) | refine AVLe.one (AVLe0.agg ?_) | exact SVsLe.nil | refine SVsLe.cons ?_ ?_ | exact Wk.free rfl | exact Wk.lnils | exact Wk.lemp | exact Wk.frz (by simp) rfl rfl (by simp [ints_len, markB_sn, markB_wants, markB_evs, markInts_len, markWants_len]) (by simp [ints_len, List.take_of_length_le, markB_sn, markB_wants, markB_evs, markInts_len, markWants_len]) (ints_data _) | exact Wk.frz (by simp) rfl rfl (by simp [wants_len, markB_sn, markB_wants, markB_evs, markInts_len, markWants_len]) (by simp [wants_len, List.take_of_length_le, markB_sn, markB_wants, markB_evs, markInts_len, markWants_len]) (wants_data _) | exact Wk.frz (by simp) rfl rfl (by simp [evs_len, markB_sn, markB_wants, markB_evs, markInts_len, markWants_len]) (by simp [evs_len, List.take_of_length_le, markB_sn, markB_wants, markB_evs, markInts_len, markWants_len]) (evs_data _)))) rfl ?_
  simp only [ne_eq, S1, S2, S3, S4, S5, S6, S7, S8, S9, S10, S11, S12, S13, guarded, opWp, onX, onO, onFn, chks, chkOne, xop, evf, fget, fput, fkeep, finit, aress, ares, abin, pickv, AV.cells, reduceCtorEq, reduceIte, Nat.reduceEqDiff, Nat.reduceAdd, bound, capsOf, Nat.reduceLeDiff, AHeap.cell, AHeap.row, AHeap.cells, AHeap.put, AHeap.has, afill, Nat.reduceLT, List.reduceReplicate, alen, afillRows, afresh, aappend, srcRows, Nat.reduceSub, Nat.reduceMul, ints_len, wants_len, evs_len]
  refine Spec.obs (b_heldBoth r 1 hr (by decide)) (by rw [bov, boF, markB]; exact (by repeat' (first | exact AVsLe.nil | refine AVsLe.cons ?_ ?_ | exact AVLe.one AVLe0.no | refine AVLe.one (AVLe0.s ?_) | refine AVLe.one (AVLe0.agg ?_) | exact SVsLe.nil | refine SVsLe.cons ?_ ?_ | exact Wk.free rfl | exact Wk.lnils | exact Wk.lemp | exact Wk.frz (by simp) rfl rfl (by simp [ints_len, markB_sn, markB_wants, markB_evs, markInts_len, markWants_len]) (by simp [ints_len, List.take_of_length_le, markB_sn, markB_wants, markB_evs, markInts_len, markWants_len]) (ints_data _) | exact Wk.frz (by simp) rfl rfl (by simp [wants_len, markB_sn, markB_wants, markB_evs, markInts_len, markWants_len]) (by simp [wants_len, List.take_of_length_le, markB_sn, markB_wants, markB_evs, markInts_len, markWants_len]) (wants_data _) | exact Wk.frz (by simp) rfl rfl (by simp [evs_len, markB_sn, markB_wants, markB_evs, markInts_len, markWants_len]) (by simp [evs_len, List.take_of_length_le, markB_sn, markB_wants, markB_evs, markInts_len, markWants_len]) (evs_data _)))) rfl ?_
  simp only [ne_eq, S1, S2, S3, S4, S5, S6, S7, S8, S9, S10, S11, S12, S13, guarded, opWp, onX, onO, onFn, chks, chkOne, xop, evf, fget, fput, fkeep, finit, aress, ares, abin, pickv, AV.cells, reduceCtorEq, reduceIte, Nat.reduceEqDiff, Nat.reduceAdd, bound, capsOf, Nat.reduceLeDiff, AHeap.cell, AHeap.row, AHeap.cells, AHeap.put, AHeap.has, afill, Nat.reduceLT, List.reduceReplicate, alen, afillRows, afresh, aappend, srcRows, Nat.reduceSub, Nat.reduceMul, ints_len, wants_len, evs_len, markN_nn]
theorem law_FnExactBothRun (xs : List AV) (h : tyAs Try.prog 9 [44, 25] xs) : Spec Try.prog 13 xs (hp []) fun v _ => v = .s (.bool true) := by
  obtain ⟨x, xs, rfl, h0, h⟩ := tyAs_cons h
  obtain ⟨y, xs, rfl, h1, h⟩ := tyAs_cons h
  obtain rfl := tyAs_nil h
  obtain ⟨b, rfl, l1, l2, l3⟩ := both_of h0
  obtain ⟨rows, rfl, hb, hr⟩ := tyA_slice Try.underlying25 h1
  obtain ⟨l0, rfl⟩ := rows_of (f := fun x => [SV.int .i64 x]) fun r h => (by obtain ⟨x, hx, _⟩ := tyP_int Try.underlying3 (hr r h); exact ⟨x, hx⟩)
  exact law_FnExactBothRun' b l0 l1 l2 l3 (by simpa using hb)
end Go.Proofs.Ytgpeboajnhlfnaa.Den
