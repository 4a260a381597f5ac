import Derived.Test.YtpidphppldimkaaProg
import Derived.Test.YtpidphppldimkaaDenT
namespace Go.Proofs.Ytpidphppldimkaa.Den
open Go.RowKit
set_option maxRecDepth 100000
def A3 : AFn := ⟨160, [.tmp 2],
   .seq (.reg [⟨some 2, .mov (.c (.bool false)), none, []⟩] [0])
   (.seq (.seq (.reg [⟨some 20, .mov (.t 0), none, []⟩,
    ⟨some 21, .call 14 [(.t 20)], none, []⟩] [0, 21])
   (.cond (.t 21) (.seq (.reg [⟨some 2, .mov (.c (.bool true)), none, []⟩] [2])
   (.ret))
   (.skip)))
   (.seq (.reg [⟨some 23, .mov (.t 0), none, []⟩,
    ⟨some 24, .call 16 [(.t 23), (.c (.int .i64 0))], none, []⟩,
    ⟨some 25, .bin .rem (.t 24) (.c (.int .i64 4)), none, []⟩,
    ⟨some 26, .bin .add (.c (.int .i64 1)) (.t 25), none, []⟩,
    ⟨some 27, .call 15 [(.t 26)], none, []⟩,
    ⟨some 22, .mov (.t 27), none, []⟩,
    ⟨some 28, .extract (.t 22) 0, none, []⟩,
    ⟨some 29, .extract (.t 22) 1, none, []⟩,
    ⟨some 3, .alloc 27 3 [.int .i64 0, .nils, .nils], none, []⟩,
    ⟨none, .store 3 (.t 3) (.t 28), none, []⟩,
    ⟨some 4, .mov (.t 29), none, []⟩] [0, 3, 4])
   (.seq (.reg [⟨some 31, .mov (.t 0), none, []⟩,
    ⟨some 32, .call 16 [(.t 31), (.c (.int .i64 0))], none, []⟩,
    ⟨some 33, .bin .rem (.t 32) (.c (.int .i64 4)), none, []⟩,
    ⟨some 34, .bin .add (.c (.int .i64 1)) (.t 33), none, []⟩,
    ⟨some 35, .call 17 [(.t 34)], none, []⟩,
    ⟨some 30, .mov (.t 35), none, []⟩,
    ⟨some 36, .extract (.t 30) 0, none, []⟩,
    ⟨some 37, .extract (.t 30) 1, none, []⟩,
    ⟨some 5, .alloc 27 3 [.int .i64 0, .nils, .nils], none, []⟩,
    ⟨none, .store 3 (.t 5) (.t 36), none, []⟩,
    ⟨some 6, .mov (.t 37), none, []⟩] [0, 3, 4, 6])
   (.seq (.seq (.reg [⟨some 38, .mov (.t 4), none, []⟩,
    ⟨some 39, .mov (.t 6), none, []⟩,
    ⟨some 40, .eqb true (.t 38) (.t 39), none, []⟩,
    ⟨some 41, .mov (.t 40), none, []⟩,
    ⟨some 42, .mov (.t 4), (some (41, false)), []⟩,
    ⟨some 43, .un .not (.t 42), (some (41, false)), []⟩,
    ⟨some 44, .pick (.t 41) (.c (.bool true)) (.t 43), none, []⟩] [0, 3, 44])
   (.cond (.t 44) (.seq (.reg [⟨some 2, .mov (.c (.bool false)), none, []⟩] [2])
   (.ret))
   (.skip)))
   (.seq (.reg [⟨some 45, .faddr 1 (.t 3), none, []⟩,
    ⟨some 46, .load1 (.t 45), none, []⟩,
    ⟨some 47, .len (.t 46), none, []⟩,
    ⟨some 48, .mkslice 24 1 24 [.nils] (.t 47) (.t 47), none, []⟩,
    ⟨some 7, .mov (.t 48), none, []⟩] [0, 3, 7])
   (.seq (.reg [⟨some 8, .mov (.c (.int .i64 1)), none, []⟩] [0, 3, 7, 8])
   (.seq (.seq (.reg [⟨some 9, .mov (.c (.int .i64 1)), none, []⟩] [0, 3, 7, 8, 9])
   (.block 0 (.loop (.seq (.seq (.reg [⟨some 49, .mov (.t 9), none, []⟩,
    ⟨some 50, .bin .lss (.t 49) (.c (.int .i64 40)), none, []⟩] [0, 3, 7, 8, 9, 50])
   (.cond (.t 50) (.skip)
   (.exit 0)))
   (.seq (.block 1 (.seq (.dreg [(0, .light, ⟨some 53, .mov (.t 0), none, []⟩),
    (1, .light, ⟨some 54, .mov (.t 9), none, []⟩),
    (4, .light, ⟨some 57, .faddr 1 (.t 3), none, []⟩),
    (5, .light, ⟨some 58, .load1 (.t 57), none, []⟩),
    (6, .light, ⟨some 59, .len (.t 58), none, []⟩),
    (2, .heavy, ⟨some 55, .call 16 [(.t 53), (.t 54)], none, [(.load1 (.t 57), 58, none)]⟩),
    (3, .light, ⟨some 56, .bin .quo (.t 55) (.c (.int .i64 8)), none, []⟩),
    (7, .light, ⟨some 60, .bin .rem (.t 56) (.t 59), none, []⟩),
    (8, .light, ⟨some 10, .mov (.t 60), none, []⟩)] [0, 3, 7, 8, 9, 10])
   (.seq (.reg [⟨some 61, .mov (.t 0), none, []⟩,
    ⟨some 62, .mov (.t 9), none, []⟩,
    ⟨some 63, .call 16 [(.t 61), (.t 62)], none, []⟩,
    ⟨some 64, .bin .rem (.t 63) (.c (.int .i64 6)), none, []⟩] [0, 3, 7, 8, 9, 10, 64])
   (.block 2 (.seq (.reg [⟨some 93, .bin .eql (.t 64) (.c (.int .i64 0)), none, []⟩,
    ⟨some 92, .mov (.t 93), none, []⟩] [0, 3, 7, 8, 9, 10, 64, 92])
   (.cond (.t 92) (.reg [⟨some 95, .loadn 3 (.t 3), none, []⟩,
    ⟨some 96, .mov (.t 10), none, []⟩,
    ⟨some 97, .call 18 [(.t 95), (.t 96)], none, []⟩,
    ⟨some 94, .mov (.t 97), none, []⟩,
    ⟨some 98, .extract (.t 94) 0, none, []⟩,
    ⟨some 99, .extract (.t 94) 1, none, []⟩,
    ⟨none, .store 3 (.t 3) (.t 98), none, []⟩] [0, 3, 7, 8, 9])
   (.seq (.reg [⟨some 101, .bin .eql (.t 64) (.c (.int .i64 1)), none, []⟩,
    ⟨some 100, .mov (.t 101), none, []⟩] [0, 3, 7, 8, 9, 10, 64, 100])
   (.cond (.t 100) (.seq (.reg [⟨some 103, .loadn 3 (.t 3), none, []⟩,
    ⟨some 104, .mov (.t 10), none, []⟩,
    ⟨some 105, .call 19 [(.t 103), (.t 104)], none, []⟩,
    ⟨some 102, .mov (.t 105), none, []⟩,
    ⟨some 106, .extract (.t 102) 0, none, []⟩,
    ⟨some 107, .extract (.t 102) 1, none, []⟩,
    ⟨some 11, .alloc 27 3 [.int .i64 0, .nils, .nils], none, []⟩,
    ⟨none, .store 3 (.t 11) (.t 106), none, []⟩,
    ⟨some 12, .mov (.t 107), none, []⟩] [0, 3, 7, 8, 9, 10, 11, 12])
   (.seq (.reg [⟨some 108, .loadn 3 (.t 11), none, []⟩,
    ⟨none, .store 3 (.t 3) (.t 108), none, []⟩] [0, 3, 7, 8, 9, 10, 12])
   (.seq (.reg [⟨some 109, .mov (.t 12), none, []⟩] [0, 3, 7, 8, 9, 10, 109])
   (.cond (.t 109) (.reg [⟨some 110, .mov (.t 7), none, []⟩,
    ⟨some 111, .mov (.t 10), none, []⟩,
    ⟨some 112, .iaddr 1 (.t 110) (.t 111), none, []⟩,
    ⟨none, .store 1 (.t 112) (.c (.nils)), none, []⟩] [0, 3, 7, 8, 9])
   (.skip)))))
   (.seq (.seq (.reg [⟨some 114, .bin .eql (.t 64) (.c (.int .i64 2)), none, []⟩,
    ⟨some 113, .mov (.t 114), none, []⟩] [0, 3, 7, 8, 9, 64, 113])
   (.cond (.t 113) (.skip)
   (.reg [⟨some 115, .bin .eql (.t 64) (.c (.int .i64 3)), none, []⟩,
    ⟨some 113, .mov (.t 115), none, []⟩] [0, 3, 7, 8, 9, 64, 113])))
   (.cond (.t 113) (.seq (.reg [⟨some 117, .loadn 3 (.t 3), none, []⟩,
    ⟨some 118, .mov (.t 8), none, []⟩,
    ⟨some 119, .call 20 [(.t 117), (.t 118)], none, []⟩,
    ⟨some 116, .mov (.t 119), none, []⟩,
    ⟨some 120, .extract (.t 116) 0, none, []⟩,
    ⟨some 121, .extract (.t 116) 1, none, []⟩,
    ⟨some 13, .alloc 27 3 [.int .i64 0, .nils, .nils], none, []⟩,
    ⟨none, .store 3 (.t 13) (.t 120), none, []⟩,
    ⟨some 14, .mov (.t 121), none, []⟩] [0, 3, 7, 8, 9, 13, 14])
   (.seq (.reg [⟨some 122, .loadn 3 (.t 13), none, []⟩,
    ⟨none, .store 3 (.t 3) (.t 122), none, []⟩] [0, 3, 7, 8, 9, 14])
   (.seq (.seq (.reg [⟨some 15, .mov (.c (.int .i64 0)), none, []⟩] [0, 3, 7, 8, 9, 14, 15])
   (.block 7 (.loop (.seq (.seq (.reg [⟨some 123, .mov (.t 15), none, []⟩,
    ⟨some 124, .faddr 1 (.t 3), none, []⟩,
    ⟨some 125, .load1 (.t 124), none, []⟩,
    ⟨some 126, .len (.t 125), none, []⟩,
    ⟨some 127, .bin .lss (.t 123) (.t 126), none, []⟩,
    ⟨some 128, .mov (.t 127), none, []⟩,
    ⟨some 129, .mov (.t 14), (some (128, true)), []⟩,
    ⟨some 130, .pick (.t 128) (.t 129) (.c (.bool false)), none, []⟩] [0, 3, 7, 8, 9, 14, 15, 130])
   (.cond (.t 130) (.skip)
   (.exit 7)))
   (.seq (.block 8 (.seq (.reg [⟨some 133, .faddr 1 (.t 3), none, []⟩,
    ⟨some 134, .load1 (.t 133), none, []⟩,
    ⟨some 135, .mov (.t 15), none, []⟩,
    ⟨some 136, .iaddr 1 (.t 134) (.t 135), none, []⟩,
    ⟨some 137, .load1 (.t 136), none, []⟩,
    ⟨some 138, .bin .gtr (.t 137) (.c (.int .i64 0)), none, []⟩] [0, 3, 7, 8, 9, 14, 15, 138])
   (.cond (.t 138) (.reg [⟨some 139, .mov (.t 7), none, []⟩,
    ⟨some 140, .mov (.t 15), none, []⟩,
    ⟨some 141, .mov (.t 7), none, []⟩,
    ⟨some 142, .mov (.t 15), none, []⟩,
    ⟨some 143, .iaddr 1 (.t 141) (.t 142), none, []⟩,
    ⟨some 144, .load1 (.t 143), none, []⟩,
    ⟨some 145, .mov (.t 8), none, []⟩,
    ⟨some 146, .mkrow 3 1 [.int .i64 0] 1 [(0, (.t 145))], none, []⟩,
    ⟨some 147, .append 3 1 8 (.t 144) (.t 146), none, []⟩,
    ⟨some 148, .iaddr 1 (.t 139) (.t 140), none, []⟩,
    ⟨none, .store 1 (.t 148) (.t 147), none, []⟩] [0, 3, 7, 8, 9, 14, 15])
   (.skip))))
   (.reg [⟨some 131, .mov (.t 15), none, []⟩,
    ⟨some 132, .bin .add (.t 131) (.c (.int .i64 1)), none, []⟩,
    ⟨some 15, .mov (.t 132), none, []⟩] [0, 3, 7, 8, 9, 14, 15]))))))
   (.reg [⟨some 149, .mov (.t 8), none, []⟩,
    ⟨some 150, .bin .add (.t 149) (.c (.int .i64 1)), none, []⟩,
    ⟨some 8, .mov (.t 150), none, []⟩] [0, 3, 7, 8, 9]))))
   (.seq (.reg [⟨some 152, .bin .eql (.t 64) (.c (.int .i64 4)), none, []⟩,
    ⟨some 151, .mov (.t 152), none, []⟩] [0, 3, 7, 8, 9, 151])
   (.cond (.t 151) (.reg [⟨some 154, .loadn 3 (.t 3), none, []⟩,
    ⟨some 155, .call 21 [(.t 154)], none, []⟩,
    ⟨some 153, .mov (.t 155), none, []⟩,
    ⟨some 156, .extract (.t 153) 0, none, []⟩,
    ⟨some 157, .extract (.t 153) 1, none, []⟩,
    ⟨none, .store 3 (.t 3) (.t 156), none, []⟩] [0, 3, 7, 8, 9])
   (.seq (.reg [⟨some 66, .loadn 3 (.t 3), none, []⟩,
    ⟨some 67, .call 22 [(.t 66)], none, []⟩,
    ⟨some 65, .mov (.t 67), none, []⟩,
    ⟨some 68, .extract (.t 65) 0, none, []⟩,
    ⟨some 69, .extract (.t 65) 1, none, []⟩,
    ⟨some 16, .alloc 27 3 [.int .i64 0, .nils, .nils], none, []⟩,
    ⟨none, .store 3 (.t 16) (.t 68), none, []⟩,
    ⟨some 17, .mov (.t 69), none, []⟩] [0, 3, 7, 8, 9, 16, 17])
   (.seq (.reg [⟨some 70, .loadn 3 (.t 16), none, []⟩,
    ⟨none, .store 3 (.t 3) (.t 70), none, []⟩] [0, 3, 7, 8, 9, 17])
   (.seq (.reg [⟨some 18, .mov (.c (.int .i64 0)), none, []⟩] [0, 3, 7, 8, 9, 17, 18])
   (.block 3 (.loop (.seq (.seq (.reg [⟨some 71, .mov (.t 18), none, []⟩,
    ⟨some 72, .mov (.t 7), none, []⟩,
    ⟨some 73, .len (.t 72), none, []⟩,
    ⟨some 74, .bin .lss (.t 71) (.t 73), none, []⟩] [0, 3, 7, 8, 9, 17, 18, 74])
   (.cond (.t 74) (.skip)
   (.exit 3)))
   (.seq (.block 4 (.seq (.reg [⟨some 19, .mov (.c (.int .i64 0)), none, []⟩] [0, 3, 7, 8, 9, 17, 18, 19])
   (.block 5 (.loop (.seq (.seq (.reg [⟨some 77, .mov (.t 19), none, []⟩,
    ⟨some 78, .mov (.t 17), none, []⟩,
    ⟨some 79, .len (.t 78), none, []⟩,
    ⟨some 80, .bin .lss (.t 77) (.t 79), none, []⟩] [0, 3, 7, 8, 9, 17, 18, 19, 80])
   (.cond (.t 80) (.skip)
   (.exit 5)))
   (.seq (.block 6 (.seq (.dreg [(0, .light, ⟨some 83, .mov (.t 7), none, []⟩),
    (1, .light, ⟨some 84, .mov (.t 18), none, []⟩),
    (2, .light, ⟨some 85, .iaddr 1 (.t 83) (.t 84), none, []⟩),
    (3, .light, ⟨some 86, .load1 (.t 85), none, []⟩),
    (4, .light, ⟨some 87, .mov (.t 17), none, []⟩),
    (5, .light, ⟨some 88, .mov (.t 19), none, []⟩),
    (6, .light, ⟨some 89, .iaddr 1 (.t 87) (.t 88), none, []⟩),
    (7, .light, ⟨some 90, .load1 (.t 89), none, []⟩),
    (8, .heavy, ⟨some 91, .call 23 [(.t 86), (.t 90)], none, []⟩)] [0, 3, 7, 8, 9, 17, 18, 19, 91])
   (.cond (.t 91) (.seq (.reg [⟨some 2, .mov (.c (.bool false)), none, []⟩] [2])
   (.ret))
   (.skip))))
   (.reg [⟨some 81, .mov (.t 19), none, []⟩,
    ⟨some 82, .bin .add (.t 81) (.c (.int .i64 1)), none, []⟩,
    ⟨some 19, .mov (.t 82), none, []⟩] [0, 3, 7, 8, 9, 17, 18, 19])))))))
   (.reg [⟨some 75, .mov (.t 18), none, []⟩,
    ⟨some 76, .bin .add (.t 75) (.c (.int .i64 1)), none, []⟩,
    ⟨some 18, .mov (.t 76), none, []⟩] [0, 3, 7, 8, 9, 17, 18]))))))))))))))))))))
   (.reg [⟨some 51, .mov (.t 9), none, []⟩,
    ⟨some 52, .bin .add (.t 51) (.c (.int .i64 1)), none, []⟩,
    ⟨some 9, .mov (.t 52), none, []⟩] [0, 3, 7, 8, 9]))))))
   (.seq (.reg [⟨some 158, .loadn 3 (.t 3), none, []⟩,
    ⟨some 159, .call 24 [(.t 158)], none, []⟩,
    ⟨some 2, .mov (.t 159), none, []⟩] [2])
   (.ret)))))))))⟩
theorem a3 : agreeFn Try.prog Try.f3 A3 = true := by kernel_rfl
def A14 : AFn := ⟨6, [.tmp 2],
   .seq (.reg [⟨some 2, .mov (.c (.bool false)), none, []⟩] [0])
   (.seq (.reg [⟨some 3, .mov (.t 0), none, []⟩,
    ⟨some 4, .len (.t 3), none, []⟩,
    ⟨some 5, .bin .gtr (.t 4) (.c (.int .i64 1048576)), none, []⟩,
    ⟨some 2, .mov (.t 5), none, []⟩] [2])
   (.ret))⟩
theorem a14 : agreeFn Try.prog Try.f14 A14 = true := by kernel_rfl
def A15 : AFn := ⟨11, [.celln 2 3, .tmp 3],
   .seq (.reg [⟨some 2, .alloc 27 3 [.int .i64 0, .nils, .nils], none, []⟩,
    ⟨some 3, .mov (.c (.bool false)), none, []⟩] [0, 2])
   (.seq (.seq (.reg [⟨some 4, .mov (.t 0), none, []⟩,
    ⟨some 5, .call 48 [(.t 4), (.c (.int .i64 1)), (.c (.int .i64 4))], none, []⟩,
    ⟨some 6, .un .not (.t 5), none, []⟩] [0, 2, 6])
   (.cond (.t 6) (.seq (.reg [⟨some 7, .build [.int .i64 0, .nils, .nils] [], none, []⟩,
    ⟨none, .store 3 (.t 2) (.t 7), none, []⟩,
    ⟨some 3, .mov (.c (.bool false)), none, []⟩] [2, 3])
   (.ret))
   (.skip)))
   (.seq (.reg [⟨some 8, .mov (.t 0), none, []⟩,
    ⟨some 9, .mkslice 3 1 8 [.int .i64 0] (.t 8) (.t 8), none, []⟩,
    ⟨some 10, .build [.int .i64 0, .nils, .nils] [(0, 1, (.c (.int .i64 1))), (1, 1, (.t 9))], none, []⟩,
    ⟨none, .store 3 (.t 2) (.t 10), none, []⟩,
    ⟨some 3, .mov (.c (.bool true)), none, []⟩] [2, 3])
   (.ret)))⟩
theorem a15 : agreeFn Try.prog Try.f15 A15 = true := by kernel_rfl
def A16 : AFn := ⟨20, [.tmp 4],
   .seq (.reg [⟨some 4, .mov (.c (.int .i64 0)), none, []⟩] [0, 1])
   (.seq (.seq (.reg [⟨some 5, .mov (.t 1), none, []⟩,
    ⟨some 6, .mov (.t 0), none, []⟩,
    ⟨some 7, .len (.t 6), none, []⟩,
    ⟨some 8, .bin .lss (.t 5) (.t 7), none, []⟩] [0, 1, 8])
   (.cond (.t 8) (.seq (.reg [⟨some 9, .mov (.t 0), none, []⟩,
    ⟨some 10, .mov (.t 1), none, []⟩,
    ⟨some 11, .iaddr 1 (.t 9) (.t 10), none, []⟩,
    ⟨some 12, .load1 (.t 11), none, []⟩,
    ⟨some 13, .toInt .i64 (.t 12), none, []⟩,
    ⟨some 4, .mov (.t 13), none, []⟩] [4])
   (.ret))
   (.skip)))
   (.seq (.reg [⟨some 14, .mov (.t 1), none, []⟩,
    ⟨some 15, .bin .mul (.t 14) (.c (.int .i64 7)), none, []⟩,
    ⟨some 16, .mov (.t 0), none, []⟩,
    ⟨some 17, .len (.t 16), none, []⟩,
    ⟨some 18, .bin .add (.t 15) (.t 17), none, []⟩,
    ⟨some 19, .bin .rem (.t 18) (.c (.int .i64 256)), none, []⟩,
    ⟨some 4, .mov (.t 19), none, []⟩] [4])
   (.ret)))⟩
theorem a16 : agreeFn Try.prog Try.f16 A16 = true := by kernel_rfl
def A17 : AFn := ⟨16, [.celln 2 3, .tmp 3],
   .seq (.reg [⟨some 2, .alloc 27 3 [.int .i64 0, .nils, .nils], none, []⟩,
    ⟨some 3, .mov (.c (.bool false)), none, []⟩] [0, 2])
   (.seq (.reg [⟨some 5, .build [.int .i64 0, .nils, .nils] [(0, 1, (.c (.int .i64 1)))], none, []⟩,
    ⟨some 4, .alloc 27 3 [.int .i64 0, .nils, .nils], none, []⟩,
    ⟨none, .store 3 (.t 4) (.t 5), none, []⟩] [0, 2, 4])
   (.seq (.seq (.reg [⟨some 6, .mov (.t 0), none, []⟩,
    ⟨some 7, .call 49 [(.t 6), (.c (.int .i64 1)), (.c (.int .i64 4))], none, []⟩] [0, 2, 4, 7])
   (.cond (.t 7) (.reg [⟨some 8, .mov (.t 0), none, []⟩,
    ⟨some 9, .mkslice 3 1 8 [.int .i64 0] (.t 8) (.t 8), none, []⟩,
    ⟨some 10, .faddr 1 (.t 4), none, []⟩,
    ⟨none, .store 1 (.t 10) (.t 9), none, []⟩] [2, 4])
   (.skip)))
   (.seq (.seq (.reg [⟨some 11, .loadn 3 (.t 4), none, []⟩,
    ⟨some 12, .call 29 [(.t 11)], none, []⟩,
    ⟨some 13, .un .not (.t 12), none, []⟩] [2, 4, 13])
   (.cond (.t 13) (.seq (.reg [⟨some 14, .build [.int .i64 0, .nils, .nils] [], none, []⟩,
    ⟨none, .store 3 (.t 2) (.t 14), none, []⟩,
    ⟨some 3, .mov (.c (.bool false)), none, []⟩] [2, 3])
   (.ret))
   (.skip)))
   (.seq (.reg [⟨some 15, .loadn 3 (.t 4), none, []⟩,
    ⟨none, .store 3 (.t 2) (.t 15), none, []⟩,
    ⟨some 3, .mov (.c (.bool true)), none, []⟩] [2, 3])
   (.ret)))))⟩
theorem a17 : agreeFn Try.prog Try.f17 A17 = true := by kernel_rfl
def A18 : AFn := ⟨11, [.celln 4 3, .tmp 5],
   .seq (.reg [⟨some 2, .box 27 (.t 0), none, []⟩,
    ⟨some 4, .alloc 27 3 [.int .i64 0, .nils, .nils], none, []⟩,
    ⟨some 5, .mov (.c (.bool false)), none, []⟩] [1, 2, 4])
   (.seq (.reg [⟨some 6, .loadn 3 (.t 2), none, []⟩,
    ⟨some 7, .mov (.t 1), none, []⟩,
    ⟨some 8, .call 50 [(.t 6), (.t 7), (.c (.bool true))], none, []⟩,
    ⟨some 9, .extract (.t 8) 0, none, []⟩,
    ⟨some 10, .extract (.t 8) 1, none, []⟩,
    ⟨none, .store 3 (.t 4) (.t 9), none, []⟩,
    ⟨some 5, .mov (.t 10), none, []⟩] [4, 5])
   (.ret))⟩
theorem a18 : agreeFn Try.prog Try.f18 A18 = true := by kernel_rfl
def A19 : AFn := ⟨11, [.celln 4 3, .tmp 5],
   .seq (.reg [⟨some 2, .box 27 (.t 0), none, []⟩,
    ⟨some 4, .alloc 27 3 [.int .i64 0, .nils, .nils], none, []⟩,
    ⟨some 5, .mov (.c (.bool false)), none, []⟩] [1, 2, 4])
   (.seq (.reg [⟨some 6, .loadn 3 (.t 2), none, []⟩,
    ⟨some 7, .mov (.t 1), none, []⟩,
    ⟨some 8, .call 50 [(.t 6), (.t 7), (.c (.bool false))], none, []⟩,
    ⟨some 9, .extract (.t 8) 0, none, []⟩,
    ⟨some 10, .extract (.t 8) 1, none, []⟩,
    ⟨none, .store 3 (.t 4) (.t 9), none, []⟩,
    ⟨some 5, .mov (.t 10), none, []⟩] [4, 5])
   (.ret))⟩
theorem a19 : agreeFn Try.prog Try.f19 A19 = true := by kernel_rfl
def A20 : AFn := ⟨29, [.celln 4 3, .tmp 5],
   .seq (.reg [⟨some 2, .box 27 (.t 0), none, []⟩,
    ⟨some 4, .alloc 27 3 [.int .i64 0, .nils, .nils], none, []⟩,
    ⟨some 5, .mov (.c (.bool false)), none, []⟩] [1, 2, 4])
   (.seq (.reg [⟨some 7, .loadn 3 (.t 2), none, []⟩,
    ⟨some 8, .call 51 [(.t 7)], none, []⟩,
    ⟨some 6, .alloc 27 3 [.int .i64 0, .nils, .nils], none, []⟩,
    ⟨none, .store 3 (.t 6) (.t 8), none, []⟩] [1, 2, 4, 6])
   (.seq (.reg [⟨some 9, .faddr 2 (.t 6), none, []⟩,
    ⟨some 10, .load1 (.t 9), none, []⟩,
    ⟨some 11, .mov (.t 1), none, []⟩,
    ⟨some 12, .faddr 0 (.t 2), none, []⟩,
    ⟨some 13, .load1 (.t 12), none, []⟩,
    ⟨some 14, .build [.int .i64 0, .int .i64 0] [(0, 1, (.t 11)), (1, 1, (.t 13))], none, []⟩,
    ⟨some 15, .mkrow 58 2 [.int .i64 0, .int .i64 0] 1 [(0, (.t 14))], none, []⟩,
    ⟨some 16, .append 58 2 16 (.t 10) (.t 15), none, []⟩,
    ⟨some 17, .faddr 2 (.t 6), none, []⟩,
    ⟨none, .store 1 (.t 17) (.t 16), none, []⟩] [2, 4, 6])
   (.seq (.seq (.reg [⟨some 18, .loadn 3 (.t 2), none, []⟩,
    ⟨some 19, .call 24 [(.t 18)], none, []⟩,
    ⟨some 20, .un .not (.t 19), none, []⟩,
    ⟨some 21, .mov (.t 20), none, []⟩,
    ⟨some 22, .loadn 3 (.t 6), (some (21, false)), []⟩,
    ⟨some 23, .call 24 [(.t 22)], (some (21, false)), []⟩,
    ⟨some 24, .un .not (.t 23), (some (21, false)), []⟩,
    ⟨some 25, .pick (.t 21) (.c (.bool true)) (.t 24), none, []⟩] [2, 4, 6, 25])
   (.cond (.t 25) (.seq (.reg [⟨some 26, .loadn 3 (.t 2), none, []⟩,
    ⟨some 27, .call 51 [(.t 26)], none, []⟩,
    ⟨none, .store 3 (.t 4) (.t 27), none, []⟩,
    ⟨some 5, .mov (.c (.bool false)), none, []⟩] [4, 5])
   (.ret))
   (.skip)))
   (.seq (.reg [⟨some 28, .loadn 3 (.t 6), none, []⟩,
    ⟨none, .store 3 (.t 4) (.t 28), none, []⟩,
    ⟨some 5, .mov (.c (.bool true)), none, []⟩] [4, 5])
   (.ret)))))⟩
theorem a20 : agreeFn Try.prog Try.f20 A20 = true := by kernel_rfl
def A21 : AFn := ⟨22, [.celln 2 3, .tmp 3],
   .seq (.reg [⟨some 1, .box 27 (.t 0), none, []⟩,
    ⟨some 2, .alloc 27 3 [.int .i64 0, .nils, .nils], none, []⟩,
    ⟨some 3, .mov (.c (.bool false)), none, []⟩] [1, 2])
   (.seq (.reg [⟨some 5, .loadn 3 (.t 1), none, []⟩,
    ⟨some 6, .call 51 [(.t 5)], none, []⟩,
    ⟨some 4, .alloc 27 3 [.int .i64 0, .nils, .nils], none, []⟩,
    ⟨none, .store 3 (.t 4) (.t 6), none, []⟩] [1, 2, 4])
   (.seq (.reg [⟨some 7, .faddr 0 (.t 4), none, []⟩,
    ⟨some 8, .load1 (.t 7), none, []⟩,
    ⟨some 9, .bin .add (.t 8) (.c (.int .i64 1)), none, []⟩,
    ⟨some 10, .faddr 0 (.t 4), none, []⟩,
    ⟨none, .store 1 (.t 10) (.t 9), none, []⟩] [1, 2, 4])
   (.seq (.seq (.reg [⟨some 11, .loadn 3 (.t 1), none, []⟩,
    ⟨some 12, .call 24 [(.t 11)], none, []⟩,
    ⟨some 13, .un .not (.t 12), none, []⟩,
    ⟨some 14, .mov (.t 13), none, []⟩,
    ⟨some 15, .loadn 3 (.t 4), (some (14, false)), []⟩,
    ⟨some 16, .call 24 [(.t 15)], (some (14, false)), []⟩,
    ⟨some 17, .un .not (.t 16), (some (14, false)), []⟩,
    ⟨some 18, .pick (.t 14) (.c (.bool true)) (.t 17), none, []⟩] [1, 2, 4, 18])
   (.cond (.t 18) (.seq (.reg [⟨some 19, .loadn 3 (.t 1), none, []⟩,
    ⟨some 20, .call 51 [(.t 19)], none, []⟩,
    ⟨none, .store 3 (.t 2) (.t 20), none, []⟩,
    ⟨some 3, .mov (.c (.bool false)), none, []⟩] [2, 3])
   (.ret))
   (.skip)))
   (.seq (.reg [⟨some 21, .loadn 3 (.t 4), none, []⟩,
    ⟨none, .store 3 (.t 2) (.t 21), none, []⟩,
    ⟨some 3, .mov (.c (.bool true)), none, []⟩] [2, 3])
   (.ret)))))⟩
theorem a21 : agreeFn Try.prog Try.f21 A21 = true := by kernel_rfl
def A22 : AFn := ⟨44, [.celln 2 3, .tmp 3],
   .seq (.reg [⟨some 1, .box 27 (.t 0), none, []⟩,
    ⟨some 2, .alloc 27 3 [.int .i64 0, .nils, .nils], none, []⟩,
    ⟨some 3, .mov (.c (.nils)), none, []⟩] [1, 2])
   (.seq (.reg [⟨some 8, .loadn 3 (.t 1), none, []⟩,
    ⟨some 9, .call 51 [(.t 8)], none, []⟩,
    ⟨none, .store 3 (.t 1) (.t 9), none, []⟩] [1, 2])
   (.seq (.reg [⟨some 10, .mkrow 3 1 [.int .i64 0] 0 [], none, []⟩,
    ⟨some 4, .mov (.t 10), none, []⟩] [1, 2, 4])
   (.seq (.seq (.reg [⟨some 11, .loadn 3 (.t 1), none, []⟩,
    ⟨some 12, .call 24 [(.t 11)], none, []⟩,
    ⟨some 13, .un .not (.t 12), none, []⟩] [1, 2, 4, 13])
   (.cond (.t 13) (.seq (.reg [⟨some 14, .loadn 3 (.t 1), none, []⟩,
    ⟨some 15, .mov (.t 4), none, []⟩,
    ⟨none, .store 3 (.t 2) (.t 14), none, []⟩,
    ⟨some 3, .mov (.t 15), none, []⟩] [2, 3])
   (.ret))
   (.skip)))
   (.seq (.reg [⟨some 16, .mkrow 58 2 [.int .i64 0, .int .i64 0] 0 [], none, []⟩,
    ⟨some 5, .mov (.t 16), none, []⟩] [1, 2, 4, 5])
   (.seq (.seq (.reg [⟨some 17, .faddr 2 (.t 1), none, []⟩,
    ⟨some 18, .load1 (.t 17), none, []⟩,
    ⟨some 19, .len (.t 18), none, []⟩,
    ⟨some 20, .mov (.c (.int .i64 0)), none, []⟩] [1, 2, 4, 5, 18, 19, 20])
   (.block 0 (.loop (.seq (.reg [⟨some 21, .bin .lss (.t 20) (.t 19), none, []⟩] [1, 2, 4, 5, 18, 19, 20, 21])
   (.seq (.cond (.t 21) (.skip)
   (.exit 0))
   (.seq (.block 1 (.seq (.reg [⟨some 22, .iaddr 2 (.t 18) (.t 20), none, []⟩,
    ⟨some 23, .loadn 2 (.t 22), none, []⟩,
    ⟨some 7, .alloc 58 2 [.int .i64 0, .int .i64 0], none, []⟩,
    ⟨none, .store 2 (.t 7) (.t 23), none, []⟩] [1, 2, 4, 5, 7, 18, 19, 20])
   (.seq (.reg [⟨some 24, .faddr 1 (.t 7), none, []⟩,
    ⟨some 25, .load1 (.t 24), none, []⟩,
    ⟨some 26, .faddr 0 (.t 1), none, []⟩,
    ⟨some 27, .load1 (.t 26), none, []⟩,
    ⟨some 28, .bin .sub (.t 27) (.c (.int .i64 2)), none, []⟩,
    ⟨some 29, .bin .leq (.t 25) (.t 28), none, []⟩] [1, 2, 4, 5, 7, 18, 19, 20, 29])
   (.cond (.t 29) (.reg [⟨some 30, .mov (.t 4), none, []⟩,
    ⟨some 31, .faddr 0 (.t 7), none, []⟩,
    ⟨some 32, .load1 (.t 31), none, []⟩,
    ⟨some 33, .mkrow 3 1 [.int .i64 0] 1 [(0, (.t 32))], none, []⟩,
    ⟨some 34, .append 3 1 8 (.t 30) (.t 33), none, []⟩,
    ⟨some 4, .mov (.t 34), none, []⟩] [1, 2, 4, 5, 18, 19, 20])
   (.reg [⟨some 35, .mov (.t 5), none, []⟩,
    ⟨some 36, .loadn 2 (.t 7), none, []⟩,
    ⟨some 37, .mkrow 58 2 [.int .i64 0, .int .i64 0] 1 [(0, (.t 36))], none, []⟩,
    ⟨some 38, .append 58 2 16 (.t 35) (.t 37), none, []⟩,
    ⟨some 5, .mov (.t 38), none, []⟩] [1, 2, 4, 5, 18, 19, 20])))))
   (.reg [⟨some 39, .bin .add (.t 20) (.c (.int .i64 1)), none, []⟩,
    ⟨some 20, .mov (.t 39), none, []⟩] [1, 2, 4, 5, 18, 19, 20])))))))
   (.seq (.reg [⟨some 40, .mov (.t 5), none, []⟩,
    ⟨some 41, .faddr 2 (.t 1), none, []⟩,
    ⟨none, .store 1 (.t 41) (.t 40), none, []⟩] [1, 2, 4])
   (.seq (.reg [⟨some 42, .loadn 3 (.t 1), none, []⟩,
    ⟨some 43, .mov (.t 4), none, []⟩,
    ⟨none, .store 3 (.t 2) (.t 42), none, []⟩,
    ⟨some 3, .mov (.t 43), none, []⟩] [2, 3])
   (.ret))))))))⟩
theorem a22 : agreeFn Try.prog Try.f22 A22 = true := by kernel_rfl
def A23 : AFn := ⟨18, [.tmp 4],
   .seq (.reg [⟨some 4, .mov (.c (.bool false)), none, []⟩] [0, 1])
   (.seq (.seq (.reg [⟨some 5, .mov (.c (.int .i64 0)), none, []⟩] [0, 1, 5])
   (.block 0 (.loop (.seq (.seq (.reg [⟨some 6, .mov (.t 5), none, []⟩,
    ⟨some 7, .mov (.t 0), none, []⟩,
    ⟨some 8, .len (.t 7), none, []⟩,
    ⟨some 9, .bin .lss (.t 6) (.t 8), none, []⟩] [0, 1, 5, 9])
   (.cond (.t 9) (.skip)
   (.exit 0)))
   (.seq (.block 1 (.seq (.reg [⟨some 12, .mov (.t 0), none, []⟩,
    ⟨some 13, .mov (.t 5), none, []⟩,
    ⟨some 14, .iaddr 1 (.t 12) (.t 13), none, []⟩,
    ⟨some 15, .load1 (.t 14), none, []⟩,
    ⟨some 16, .mov (.t 1), none, []⟩,
    ⟨some 17, .bin .eql (.t 15) (.t 16), none, []⟩] [0, 1, 5, 17])
   (.cond (.t 17) (.seq (.reg [⟨some 4, .mov (.c (.bool true)), none, []⟩] [4])
   (.ret))
   (.skip))))
   (.reg [⟨some 10, .mov (.t 5), none, []⟩,
    ⟨some 11, .bin .add (.t 10) (.c (.int .i64 1)), none, []⟩,
    ⟨some 5, .mov (.t 11), none, []⟩] [0, 1, 5]))))))
   (.seq (.reg [⟨some 4, .mov (.c (.bool false)), none, []⟩] [4])
   (.ret)))⟩
theorem a23 : agreeFn Try.prog Try.f23 A23 = true := by kernel_rfl
def A24 : AFn := ⟨77, [.tmp 2],
   .seq (.reg [⟨some 1, .box 27 (.t 0), none, []⟩,
    ⟨some 2, .mov (.c (.bool false)), none, []⟩] [1])
   (.seq (.seq (.reg [⟨some 7, .faddr 1 (.t 1), none, []⟩,
    ⟨some 8, .load1 (.t 7), none, []⟩,
    ⟨some 9, .len (.t 8), none, []⟩,
    ⟨some 10, .mov (.c (.int .i64 0)), none, []⟩] [1, 8, 9, 10])
   (.block 0 (.loop (.seq (.reg [⟨some 11, .bin .lss (.t 10) (.t 9), none, []⟩] [1, 8, 9, 10, 11])
   (.seq (.cond (.t 11) (.skip)
   (.exit 0))
   (.seq (.block 1 (.seq (.reg [⟨some 12, .iaddr 1 (.t 8) (.t 10), none, []⟩,
    ⟨some 13, .load1 (.t 12), none, []⟩,
    ⟨some 4, .mov (.t 13), none, []⟩] [1, 4, 8, 9, 10])
   (.seq (.reg [⟨some 14, .mov (.t 4), none, []⟩,
    ⟨some 15, .bin .neq (.t 14) (.c (.int .i64 0)), none, []⟩,
    ⟨some 16, .mov (.t 15), none, []⟩,
    ⟨some 17, .mov (.t 4), (some (16, true)), []⟩,
    ⟨some 18, .bin .lss (.t 17) (.c (.int .i64 1)), (some (16, true)), []⟩,
    ⟨some 19, .mov (.t 18), (some (16, true)), []⟩,
    ⟨some 20, .mov (.t 4), (some (19, false)), []⟩,
    ⟨some 21, .faddr 0 (.t 1), (some (19, false)), []⟩,
    ⟨some 22, .load1 (.t 21), (some (19, false)), []⟩,
    ⟨some 23, .bin .neq (.t 20) (.t 22), (some (19, false)), []⟩,
    ⟨some 24, .mov (.t 23), (some (19, false)), []⟩,
    ⟨some 25, .mov (.t 4), (some (24, true)), []⟩,
    ⟨some 26, .faddr 0 (.t 1), (some (24, true)), []⟩,
    ⟨some 27, .load1 (.t 26), (some (24, true)), []⟩,
    ⟨some 28, .bin .sub (.t 27) (.c (.int .i64 1)), (some (24, true)), []⟩,
    ⟨some 29, .bin .neq (.t 25) (.t 28), (some (24, true)), []⟩,
    ⟨some 30, .pick (.t 24) (.t 29) (.c (.bool false)), (some (19, false)), []⟩,
    ⟨some 31, .pick (.t 19) (.c (.bool true)) (.t 30), (some (16, true)), []⟩,
    ⟨some 32, .pick (.t 16) (.t 31) (.c (.bool false)), none, []⟩] [1, 8, 9, 10, 32])
   (.cond (.t 32) (.seq (.reg [⟨some 2, .mov (.c (.bool false)), none, []⟩] [2])
   (.ret))
   (.skip)))))
   (.reg [⟨some 33, .bin .add (.t 10) (.c (.int .i64 1)), none, []⟩,
    ⟨some 10, .mov (.t 33), none, []⟩] [1, 8, 9, 10])))))))
   (.seq (.seq (.reg [⟨some 34, .faddr 2 (.t 1), none, []⟩,
    ⟨some 35, .load1 (.t 34), none, []⟩,
    ⟨some 36, .len (.t 35), none, []⟩,
    ⟨some 37, .mov (.c (.int .i64 0)), none, []⟩] [1, 35, 36, 37])
   (.block 2 (.loop (.seq (.reg [⟨some 38, .bin .lss (.t 37) (.t 36), none, []⟩] [1, 35, 36, 37, 38])
   (.seq (.cond (.t 38) (.skip)
   (.exit 2))
   (.seq (.block 3 (.seq (.reg [⟨some 39, .mov (.t 37), none, []⟩,
    ⟨some 40, .iaddr 2 (.t 35) (.t 37), none, []⟩,
    ⟨some 41, .loadn 2 (.t 40), none, []⟩,
    ⟨some 6, .alloc 58 2 [.int .i64 0, .int .i64 0], none, []⟩,
    ⟨some 5, .mov (.t 39), none, []⟩,
    ⟨none, .store 2 (.t 6) (.t 41), none, []⟩] [1, 5, 6, 35, 36, 37])
   (.seq (.reg [⟨some 42, .faddr 1 (.t 6), none, []⟩,
    ⟨some 43, .load1 (.t 42), none, []⟩,
    ⟨some 44, .faddr 0 (.t 1), none, []⟩,
    ⟨some 45, .load1 (.t 44), none, []⟩,
    ⟨some 46, .call 48 [(.t 43), (.c (.int .i64 1)), (.t 45)], none, []⟩,
    ⟨some 47, .un .not (.t 46), none, []⟩,
    ⟨some 48, .mov (.t 47), none, []⟩,
    ⟨some 49, .faddr 0 (.t 6), (some (48, false)), []⟩,
    ⟨some 50, .load1 (.t 49), (some (48, false)), []⟩,
    ⟨some 51, .bin .lss (.t 50) (.c (.int .i64 1)), (some (48, false)), []⟩,
    ⟨some 52, .pick (.t 48) (.c (.bool true)) (.t 51), none, []⟩,
    ⟨some 53, .mov (.t 52), none, []⟩,
    ⟨some 54, .faddr 2 (.t 1), (some (53, false)), []⟩,
    ⟨some 55, .load1 (.t 54), (some (53, false)), []⟩,
    ⟨some 56, .mov (.t 5), (some (53, false)), []⟩,
    ⟨some 57, .slice 2 (.t 55) none (some (.t 56)) none, (some (53, false)), []⟩,
    ⟨some 58, .mkfn 53 [(.t 6)], (some (53, false)), []⟩,
    ⟨some 59, .call 52 [(.t 57), (.t 58)], (some (53, false)), []⟩,
    ⟨some 60, .pick (.t 53) (.c (.bool true)) (.t 59), none, []⟩] [1, 35, 36, 37, 60])
   (.cond (.t 60) (.seq (.reg [⟨some 2, .mov (.c (.bool false)), none, []⟩] [2])
   (.ret))
   (.skip)))))
   (.reg [⟨some 61, .bin .add (.t 37) (.c (.int .i64 1)), none, []⟩,
    ⟨some 37, .mov (.t 61), none, []⟩] [1, 35, 36, 37])))))))
   (.seq (.reg [⟨some 62, .faddr 0 (.t 1), none, []⟩,
    ⟨some 63, .load1 (.t 62), none, []⟩,
    ⟨some 64, .call 48 [(.t 63), (.c (.int .i64 1)), (.c (.int .i64 1000))], none, []⟩,
    ⟨some 65, .mov (.t 64), none, []⟩,
    ⟨some 66, .faddr 1 (.t 1), (some (65, true)), []⟩,
    ⟨some 67, .load1 (.t 66), (some (65, true)), []⟩,
    ⟨some 68, .len (.t 67), (some (65, true)), []⟩,
    ⟨some 69, .call 48 [(.t 68), (.c (.int .i64 1)), (.c (.int .i64 4))], (some (65, true)), []⟩,
    ⟨some 70, .pick (.t 65) (.t 69) (.c (.bool false)), none, []⟩,
    ⟨some 71, .mov (.t 70), none, []⟩,
    ⟨some 72, .faddr 2 (.t 1), (some (71, true)), []⟩,
    ⟨some 73, .load1 (.t 72), (some (71, true)), []⟩,
    ⟨some 74, .len (.t 73), (some (71, true)), []⟩,
    ⟨some 75, .bin .leq (.t 74) (.c (.int .i64 30)), (some (71, true)), []⟩,
    ⟨some 76, .pick (.t 71) (.t 75) (.c (.bool false)), none, []⟩,
    ⟨some 2, .mov (.t 76), none, []⟩] [2])
   (.ret))))⟩
theorem a24 : agreeFn Try.prog Try.f24 A24 = true := by kernel_rfl
def A29 : AFn := ⟨95, [.tmp 2],
   .seq (.reg [⟨some 1, .box 27 (.t 0), none, []⟩,
    ⟨some 2, .mov (.c (.bool false)), none, []⟩] [1])
   (.seq (.seq (.reg [⟨some 6, .faddr 0 (.t 1), none, []⟩,
    ⟨some 7, .load1 (.t 6), none, []⟩,
    ⟨some 8, .call 49 [(.t 7), (.c (.int .i64 1)), (.c (.int .i64 1000))], none, []⟩,
    ⟨some 9, .un .not (.t 8), none, []⟩,
    ⟨some 10, .mov (.t 9), none, []⟩,
    ⟨some 11, .faddr 1 (.t 1), (some (10, false)), []⟩,
    ⟨some 12, .load1 (.t 11), (some (10, false)), []⟩,
    ⟨some 13, .len (.t 12), (some (10, false)), []⟩,
    ⟨some 14, .call 49 [(.t 13), (.c (.int .i64 1)), (.c (.int .i64 4))], (some (10, false)), []⟩,
    ⟨some 15, .un .not (.t 14), (some (10, false)), []⟩,
    ⟨some 16, .pick (.t 10) (.c (.bool true)) (.t 15), none, []⟩,
    ⟨some 17, .mov (.t 16), none, []⟩,
    ⟨some 18, .faddr 2 (.t 1), (some (17, false)), []⟩,
    ⟨some 19, .load1 (.t 18), (some (17, false)), []⟩,
    ⟨some 20, .len (.t 19), (some (17, false)), []⟩,
    ⟨some 21, .bin .gtr (.t 20) (.c (.int .i64 30)), (some (17, false)), []⟩,
    ⟨some 22, .pick (.t 17) (.c (.bool true)) (.t 21), none, []⟩] [1, 22])
   (.cond (.t 22) (.seq (.reg [⟨some 2, .mov (.c (.bool false)), none, []⟩] [2])
   (.ret))
   (.skip)))
   (.seq (.seq (.reg [⟨some 3, .mov (.c (.int .i64 0)), none, []⟩] [1, 3])
   (.block 0 (.loop (.seq (.seq (.reg [⟨some 23, .mov (.t 3), none, []⟩,
    ⟨some 24, .faddr 1 (.t 1), none, []⟩,
    ⟨some 25, .load1 (.t 24), none, []⟩,
    ⟨some 26, .len (.t 25), none, []⟩,
    ⟨some 27, .bin .lss (.t 23) (.t 26), none, []⟩] [1, 3, 27])
   (.cond (.t 27) (.skip)
   (.exit 0)))
   (.seq (.block 1 (.seq (.dreg [(0, .light, ⟨some 30, .faddr 1 (.t 1), none, []⟩),
    (1, .light, ⟨some 31, .load1 (.t 30), none, []⟩),
    (2, .light, ⟨some 32, .mov (.t 3), none, []⟩),
    (3, .light, ⟨some 33, .iaddr 1 (.t 31) (.t 32), none, []⟩),
    (4, .light, ⟨some 34, .load1 (.t 33), none, []⟩),
    (5, .light, ⟨some 35, .bin .neq (.t 34) (.c (.int .i64 0)), none, []⟩),
    (6, .light, ⟨some 36, .mov (.t 35), none, []⟩),
    (7, .light, ⟨some 37, .faddr 1 (.t 1), (some (36, true)), []⟩),
    (8, .light, ⟨some 38, .load1 (.t 37), (some (36, true)), []⟩),
    (9, .light, ⟨some 39, .mov (.t 3), (some (36, true)), []⟩),
    (10, .light, ⟨some 40, .iaddr 1 (.t 38) (.t 39), (some (36, true)), []⟩),
    (11, .light, ⟨some 41, .load1 (.t 40), (some (36, true)), []⟩),
    (12, .light, ⟨some 42, .faddr 0 (.t 1), (some (36, true)), []⟩),
    (13, .light, ⟨some 43, .load1 (.t 42), (some (36, true)), []⟩),
    (14, .light, ⟨some 44, .bin .sub (.t 43) (.c (.int .i64 1)), (some (36, true)), []⟩),
    (16, .light, ⟨some 46, .faddr 0 (.t 1), (some (36, true)), []⟩),
    (17, .light, ⟨some 47, .load1 (.t 46), (some (36, true)), []⟩),
    (15, .heavy, ⟨some 45, .call 59 [(.t 44), (.c (.int .i64 1))], (some (36, true)), [(.load1 (.t 37), 38, some (36, true)), (.iaddr 1 (.t 38) (.t 39), 40, some (36, true)), (.load1 (.t 40), 41, some (36, true)), (.load1 (.t 46), 47, some (36, true))]⟩),
    (18, .heavy, ⟨some 48, .call 49 [(.t 41), (.t 45), (.t 47)], (some (36, true)), []⟩),
    (19, .light, ⟨some 49, .un .not (.t 48), (some (36, true)), []⟩),
    (20, .light, ⟨some 50, .pick (.t 36) (.t 49) (.c (.bool false)), none, []⟩)] [1, 3, 50])
   (.cond (.t 50) (.seq (.reg [⟨some 2, .mov (.c (.bool false)), none, []⟩] [2])
   (.ret))
   (.skip))))
   (.reg [⟨some 28, .mov (.t 3), none, []⟩,
    ⟨some 29, .bin .add (.t 28) (.c (.int .i64 1)), none, []⟩,
    ⟨some 3, .mov (.t 29), none, []⟩] [1, 3]))))))
   (.seq (.seq (.reg [⟨some 4, .mov (.c (.int .i64 0)), none, []⟩] [1, 4])
   (.block 2 (.loop (.seq (.seq (.reg [⟨some 51, .mov (.t 4), none, []⟩,
    ⟨some 52, .faddr 2 (.t 1), none, []⟩,
    ⟨some 53, .load1 (.t 52), none, []⟩,
    ⟨some 54, .len (.t 53), none, []⟩,
    ⟨some 55, .bin .lss (.t 51) (.t 54), none, []⟩] [1, 4, 55])
   (.cond (.t 55) (.skip)
   (.exit 2)))
   (.seq (.block 3 (.seq (.seq (.dreg [(0, .light, ⟨some 58, .faddr 2 (.t 1), none, []⟩),
    (1, .light, ⟨some 59, .load1 (.t 58), none, []⟩),
    (2, .light, ⟨some 60, .mov (.t 4), none, []⟩),
    (3, .light, ⟨some 61, .iaddr 2 (.t 59) (.t 60), none, []⟩),
    (4, .light, ⟨some 62, .faddr 0 (.t 61), none, []⟩),
    (5, .light, ⟨some 63, .load1 (.t 62), none, []⟩),
    (6, .light, ⟨some 64, .bin .lss (.t 63) (.c (.int .i64 1)), none, []⟩),
    (7, .light, ⟨some 65, .mov (.t 64), none, []⟩),
    (8, .light, ⟨some 66, .faddr 2 (.t 1), (some (65, false)), []⟩),
    (9, .light, ⟨some 67, .load1 (.t 66), (some (65, false)), []⟩),
    (10, .light, ⟨some 68, .mov (.t 4), (some (65, false)), []⟩),
    (11, .light, ⟨some 69, .iaddr 2 (.t 67) (.t 68), (some (65, false)), []⟩),
    (12, .light, ⟨some 70, .faddr 1 (.t 69), (some (65, false)), []⟩),
    (13, .light, ⟨some 71, .load1 (.t 70), (some (65, false)), []⟩),
    (14, .light, ⟨some 72, .faddr 0 (.t 1), (some (65, false)), []⟩),
    (15, .light, ⟨some 73, .load1 (.t 72), (some (65, false)), []⟩),
    (16, .heavy, ⟨some 74, .call 49 [(.t 71), (.c (.int .i64 1)), (.t 73)], (some (65, false)), []⟩),
    (17, .light, ⟨some 75, .un .not (.t 74), (some (65, false)), []⟩),
    (18, .light, ⟨some 76, .pick (.t 65) (.c (.bool true)) (.t 75), none, []⟩)] [1, 4, 76])
   (.cond (.t 76) (.seq (.reg [⟨some 2, .mov (.c (.bool false)), none, []⟩] [2])
   (.ret))
   (.skip)))
   (.seq (.reg [⟨some 5, .mov (.c (.int .i64 0)), none, []⟩] [1, 4, 5])
   (.block 4 (.loop (.seq (.seq (.reg [⟨some 77, .mov (.t 5), none, []⟩,
    ⟨some 78, .mov (.t 4), none, []⟩,
    ⟨some 79, .bin .lss (.t 77) (.t 78), none, []⟩] [1, 4, 5, 79])
   (.cond (.t 79) (.skip)
   (.exit 4)))
   (.seq (.block 5 (.seq (.dreg [(0, .light, ⟨some 82, .faddr 2 (.t 1), none, []⟩),
    (1, .light, ⟨some 83, .load1 (.t 82), none, []⟩),
    (2, .light, ⟨some 84, .mov (.t 5), none, []⟩),
    (3, .light, ⟨some 85, .iaddr 2 (.t 83) (.t 84), none, []⟩),
    (4, .light, ⟨some 86, .faddr 0 (.t 85), none, []⟩),
    (5, .light, ⟨some 87, .load1 (.t 86), none, []⟩),
    (6, .light, ⟨some 88, .faddr 2 (.t 1), none, []⟩),
    (7, .light, ⟨some 89, .load1 (.t 88), none, []⟩),
    (8, .light, ⟨some 90, .mov (.t 4), none, []⟩),
    (9, .light, ⟨some 91, .iaddr 2 (.t 89) (.t 90), none, []⟩),
    (10, .light, ⟨some 92, .faddr 0 (.t 91), none, []⟩),
    (11, .light, ⟨some 93, .load1 (.t 92), none, []⟩),
    (12, .light, ⟨some 94, .bin .eql (.t 87) (.t 93), none, []⟩)] [1, 4, 5, 94])
   (.cond (.t 94) (.seq (.reg [⟨some 2, .mov (.c (.bool false)), none, []⟩] [2])
   (.ret))
   (.skip))))
   (.reg [⟨some 80, .mov (.t 5), none, []⟩,
    ⟨some 81, .bin .add (.t 80) (.c (.int .i64 1)), none, []⟩,
    ⟨some 5, .mov (.t 81), none, []⟩] [1, 4, 5]))))))))
   (.reg [⟨some 56, .mov (.t 4), none, []⟩,
    ⟨some 57, .bin .add (.t 56) (.c (.int .i64 1)), none, []⟩,
    ⟨some 4, .mov (.t 57), none, []⟩] [1, 4]))))))
   (.seq (.reg [⟨some 2, .mov (.c (.bool true)), none, []⟩] [2])
   (.ret)))))⟩
theorem a29 : agreeFn Try.prog Try.f29 A29 = true := by kernel_rfl
def A48 : AFn := ⟨15, [.tmp 6],
   .seq (.reg [⟨some 6, .mov (.c (.bool false)), none, []⟩] [0, 1, 2])
   (.seq (.reg [⟨some 7, .mov (.t 0), none, []⟩,
    ⟨some 8, .mov (.t 1), none, []⟩,
    ⟨some 9, .bin .geq (.t 7) (.t 8), none, []⟩,
    ⟨some 10, .mov (.t 9), none, []⟩,
    ⟨some 11, .mov (.t 0), (some (10, true)), []⟩,
    ⟨some 12, .mov (.t 2), (some (10, true)), []⟩,
    ⟨some 13, .bin .leq (.t 11) (.t 12), (some (10, true)), []⟩,
    ⟨some 14, .pick (.t 10) (.t 13) (.c (.bool false)), none, []⟩,
    ⟨some 6, .mov (.t 14), none, []⟩] [6])
   (.ret))⟩
theorem a48 : agreeFn Try.prog Try.f48 A48 = true := by kernel_rfl
def A49 : AFn := ⟨15, [.tmp 6],
   .seq (.reg [⟨some 6, .mov (.c (.bool false)), none, []⟩] [0, 1, 2])
   (.seq (.reg [⟨some 7, .mov (.t 0), none, []⟩,
    ⟨some 8, .mov (.t 1), none, []⟩,
    ⟨some 9, .bin .geq (.t 7) (.t 8), none, []⟩,
    ⟨some 10, .mov (.t 9), none, []⟩,
    ⟨some 11, .mov (.t 0), (some (10, true)), []⟩,
    ⟨some 12, .mov (.t 2), (some (10, true)), []⟩,
    ⟨some 13, .bin .leq (.t 11) (.t 12), (some (10, true)), []⟩,
    ⟨some 14, .pick (.t 10) (.t 13) (.c (.bool false)), none, []⟩,
    ⟨some 6, .mov (.t 14), none, []⟩] [6])
   (.ret))⟩
theorem a49 : agreeFn Try.prog Try.f49 A49 = true := by kernel_rfl
def A50 : AFn := ⟨45, [.celln 6 3, .tmp 7],
   .seq (.reg [⟨some 3, .box 27 (.t 0), none, []⟩,
    ⟨some 6, .alloc 27 3 [.int .i64 0, .nils, .nils], none, []⟩,
    ⟨some 7, .mov (.c (.bool false)), none, []⟩] [1, 2, 3, 6])
   (.seq (.reg [⟨some 8, .loadn 3 (.t 3), none, []⟩,
    ⟨some 9, .call 51 [(.t 8)], none, []⟩,
    ⟨none, .store 3 (.t 3) (.t 9), none, []⟩] [1, 2, 3, 6])
   (.seq (.seq (.reg [⟨some 10, .loadn 3 (.t 3), none, []⟩,
    ⟨some 11, .call 24 [(.t 10)], none, []⟩,
    ⟨some 12, .un .not (.t 11), none, []⟩,
    ⟨some 13, .mov (.t 12), none, []⟩,
    ⟨some 14, .mov (.t 1), (some (13, false)), []⟩,
    ⟨some 15, .faddr 1 (.t 3), (some (13, false)), []⟩,
    ⟨some 16, .load1 (.t 15), (some (13, false)), []⟩,
    ⟨some 17, .len (.t 16), (some (13, false)), []⟩,
    ⟨some 18, .bin .sub (.t 17) (.c (.int .i64 1)), (some (13, false)), []⟩,
    ⟨some 19, .call 48 [(.t 14), (.c (.int .i64 0)), (.t 18)], (some (13, false)), []⟩,
    ⟨some 20, .un .not (.t 19), (some (13, false)), []⟩,
    ⟨some 21, .pick (.t 13) (.c (.bool true)) (.t 20), none, []⟩,
    ⟨some 22, .mov (.t 21), none, []⟩,
    ⟨some 23, .faddr 1 (.t 3), (some (22, false)), []⟩,
    ⟨some 24, .load1 (.t 23), (some (22, false)), []⟩,
    ⟨some 25, .mov (.t 1), (some (22, false)), []⟩,
    ⟨some 26, .iaddr 1 (.t 24) (.t 25), (some (22, false)), []⟩,
    ⟨some 27, .load1 (.t 26), (some (22, false)), []⟩,
    ⟨some 28, .bin .neq (.t 27) (.c (.int .i64 0)), (some (22, false)), []⟩,
    ⟨some 29, .mov (.t 2), (some (22, false)), []⟩,
    ⟨some 30, .eqb false (.t 28) (.t 29), (some (22, false)), []⟩,
    ⟨some 31, .pick (.t 22) (.c (.bool true)) (.t 30), none, []⟩] [1, 2, 3, 6, 31])
   (.cond (.t 31) (.seq (.reg [⟨some 32, .loadn 3 (.t 3), none, []⟩,
    ⟨none, .store 3 (.t 6) (.t 32), none, []⟩,
    ⟨some 7, .mov (.c (.bool false)), none, []⟩] [6, 7])
   (.ret))
   (.skip)))
   (.seq (.reg [⟨some 33, .faddr 1 (.t 3), none, []⟩,
    ⟨some 34, .load1 (.t 33), none, []⟩,
    ⟨some 35, .mov (.t 1), none, []⟩,
    ⟨some 36, .iaddr 1 (.t 34) (.t 35), none, []⟩,
    ⟨none, .store 1 (.t 36) (.c (.int .i64 0)), none, []⟩] [1, 2, 3, 6])
   (.seq (.seq (.reg [⟨some 37, .mov (.t 2), none, []⟩] [1, 3, 6, 37])
   (.cond (.t 37) (.reg [⟨some 38, .faddr 1 (.t 3), none, []⟩,
    ⟨some 39, .load1 (.t 38), none, []⟩,
    ⟨some 40, .mov (.t 1), none, []⟩,
    ⟨some 41, .faddr 0 (.t 3), none, []⟩,
    ⟨some 42, .load1 (.t 41), none, []⟩,
    ⟨some 43, .iaddr 1 (.t 39) (.t 40), none, []⟩,
    ⟨none, .store 1 (.t 43) (.t 42), none, []⟩] [3, 6])
   (.skip)))
   (.seq (.reg [⟨some 44, .loadn 3 (.t 3), none, []⟩,
    ⟨none, .store 3 (.t 6) (.t 44), none, []⟩,
    ⟨some 7, .mov (.c (.bool true)), none, []⟩] [6, 7])
   (.ret))))))⟩
theorem a50 : agreeFn Try.prog Try.f50 A50 = true := by kernel_rfl
def A51 : AFn := ⟨12, [.celln 2 3],
   .seq (.reg [⟨some 1, .box 27 (.t 0), none, []⟩,
    ⟨some 2, .alloc 27 3 [.int .i64 0, .nils, .nils], none, []⟩] [1, 2])
   (.seq (.dreg [(0, .light, ⟨some 3, .faddr 0 (.t 1), none, []⟩),
    (1, .light, ⟨some 4, .load1 (.t 3), none, []⟩),
    (2, .light, ⟨some 5, .faddr 1 (.t 1), none, []⟩),
    (3, .light, ⟨some 6, .load1 (.t 5), none, []⟩),
    (5, .light, ⟨some 8, .faddr 2 (.t 1), none, []⟩),
    (6, .light, ⟨some 9, .load1 (.t 8), none, []⟩),
    (4, .heavy, ⟨some 7, .call 67 [(.t 6)], none, [(.load1 (.t 3), 4, none), (.load1 (.t 8), 9, none)]⟩),
    (7, .heavy, ⟨some 10, .call 68 [(.t 9)], none, [(.load1 (.t 3), 4, none)]⟩),
    (8, .light, ⟨some 11, .build [.int .i64 0, .nils, .nils] [(0, 1, (.t 4)), (1, 1, (.t 7)), (2, 1, (.t 10))], none, []⟩),
    (9, .heavy, ⟨none, .store 3 (.t 2) (.t 11), none, []⟩)] [2])
   (.ret))⟩
theorem a51 : agreeFn Try.prog Try.f51 A51 = true := by kernel_rfl
def A52 : AFn := ⟨9, [.tmp 4],
   .seq (.reg [⟨some 4, .mov (.c (.bool false)), none, []⟩] [0, 1])
   (.seq (.reg [⟨some 5, .mov (.t 0), none, []⟩,
    ⟨some 6, .mov (.t 1), none, []⟩,
    ⟨some 7, .call 69 [(.t 5), (.t 6)], none, []⟩,
    ⟨some 8, .bin .geq (.t 7) (.c (.int .i64 0)), none, []⟩,
    ⟨some 4, .mov (.t 8), none, []⟩] [4])
   (.ret))⟩
theorem a52 : agreeFn Try.prog Try.f52 A52 = true := by kernel_rfl
def A53 : AFn := ⟨9, [.tmp 3],
   .seq (.reg [⟨some 2, .box 58 (.t 0), none, []⟩,
    ⟨some 3, .mov (.c (.bool false)), none, []⟩] [1, 2])
   (.seq (.reg [⟨some 4, .faddr 0 (.t 2), none, []⟩,
    ⟨some 5, .load1 (.t 4), none, []⟩,
    ⟨some 6, .faddr 0 (.t 1), none, []⟩,
    ⟨some 7, .load1 (.t 6), none, []⟩,
    ⟨some 8, .bin .eql (.t 5) (.t 7), none, []⟩,
    ⟨some 3, .mov (.t 8), none, []⟩] [3])
   (.ret))⟩
theorem a53 : agreeFn Try.prog Try.f53 A53 = true := by kernel_rfl
def A59 : AFn := ⟨10, [.tmp 4],
   .seq (.reg [⟨some 4, .mov (.c (.int .i64 0)), none, []⟩] [0, 1])
   (.seq (.seq (.reg [⟨some 5, .mov (.t 0), none, []⟩,
    ⟨some 6, .mov (.t 1), none, []⟩,
    ⟨some 7, .bin .gtr (.t 5) (.t 6), none, []⟩] [0, 1, 7])
   (.cond (.t 7) (.seq (.reg [⟨some 8, .mov (.t 0), none, []⟩,
    ⟨some 4, .mov (.t 8), none, []⟩] [4])
   (.ret))
   (.skip)))
   (.seq (.reg [⟨some 9, .mov (.t 1), none, []⟩,
    ⟨some 4, .mov (.t 9), none, []⟩] [4])
   (.ret)))⟩
theorem a59 : agreeFn Try.prog Try.f59 A59 = true := by kernel_rfl
def A67 : AFn := ⟨8, [.tmp 2],
   .seq (.reg [⟨some 2, .mov (.c (.nils)), none, []⟩] [0])
   (.seq (.seq (.reg [⟨some 3, .mov (.t 0), none, []⟩,
    ⟨some 4, .eqnil false (.t 3) (.c (.nils)), none, []⟩] [0, 4])
   (.cond (.t 4) (.seq (.reg [⟨some 2, .mov (.c (.nils)), none, []⟩] [2])
   (.ret))
   (.skip)))
   (.seq (.reg [⟨some 5, .mkrow 3 1 [.int .i64 0] 0 [], none, []⟩,
    ⟨some 6, .mov (.t 0), none, []⟩,
    ⟨some 7, .append 3 1 8 (.t 5) (.t 6), none, []⟩,
    ⟨some 2, .mov (.t 7), none, []⟩] [2])
   (.ret)))⟩
theorem a67 : agreeFn Try.prog Try.f67 A67 = true := by kernel_rfl
def A68 : AFn := ⟨8, [.tmp 2],
   .seq (.reg [⟨some 2, .mov (.c (.nils)), none, []⟩] [0])
   (.seq (.seq (.reg [⟨some 3, .mov (.t 0), none, []⟩,
    ⟨some 4, .eqnil false (.t 3) (.c (.nils)), none, []⟩] [0, 4])
   (.cond (.t 4) (.seq (.reg [⟨some 2, .mov (.c (.nils)), none, []⟩] [2])
   (.ret))
   (.skip)))
   (.seq (.reg [⟨some 5, .mkrow 58 2 [.int .i64 0, .int .i64 0] 0 [], none, []⟩,
    ⟨some 6, .mov (.t 0), none, []⟩,
    ⟨some 7, .append 58 2 16 (.t 5) (.t 6), none, []⟩,
    ⟨some 2, .mov (.t 7), none, []⟩] [2])
   (.ret)))⟩
theorem a68 : agreeFn Try.prog Try.f68 A68 = true := by kernel_rfl
def A69 : AFn := ⟨19, [.tmp 4],
   .seq (.reg [⟨some 4, .mov (.c (.int .i64 0)), none, []⟩] [0, 1])
   (.seq (.seq (.reg [⟨some 6, .mov (.t 0), none, []⟩,
    ⟨some 7, .len (.t 6), none, []⟩,
    ⟨some 8, .mov (.c (.int .i64 0)), none, []⟩] [0, 1, 7, 8])
   (.block 0 (.loop (.seq (.reg [⟨some 9, .bin .lss (.t 8) (.t 7), none, []⟩] [0, 1, 7, 8, 9])
   (.seq (.cond (.t 9) (.skip)
   (.exit 0))
   (.seq (.block 1 (.seq (.reg [⟨some 10, .mov (.t 8), none, []⟩,
    ⟨some 5, .mov (.t 10), none, []⟩] [0, 1, 5, 7, 8])
   (.seq (.reg [⟨some 11, .mov (.t 1), none, []⟩,
    ⟨some 12, .mov (.t 0), none, []⟩,
    ⟨some 13, .mov (.t 5), none, []⟩,
    ⟨some 14, .iaddr 2 (.t 12) (.t 13), none, []⟩,
    ⟨some 15, .loadn 2 (.t 14), none, []⟩,
    ⟨some 16, .callv (.t 11) [(.t 15)], none, []⟩] [0, 1, 5, 7, 8, 16])
   (.cond (.t 16) (.seq (.reg [⟨some 17, .mov (.t 5), none, []⟩,
    ⟨some 4, .mov (.t 17), none, []⟩] [4])
   (.ret))
   (.skip)))))
   (.reg [⟨some 18, .bin .add (.t 8) (.c (.int .i64 1)), none, []⟩,
    ⟨some 8, .mov (.t 18), none, []⟩] [0, 1, 7, 8])))))))
   (.seq (.reg [⟨some 4, .mov (.c (.int .i64 (-1))), none, []⟩] [4])
   (.ret)))⟩
theorem a69 : agreeFn Try.prog Try.f69 A69 = true := by kernel_rfl
end Go.Proofs.Ytpidphppldimkaa.Den
