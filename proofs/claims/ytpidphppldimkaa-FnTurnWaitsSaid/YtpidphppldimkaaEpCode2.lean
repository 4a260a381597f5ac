import Derived.Test.YtpidphppldimkaaEpCode
namespace Go.Proofs.Ytpidphppldimkaa.Den
open Go.RowKit
set_option maxRecDepth 100000
def A63 : AFn := ⟨32, [.tmp 2],
   .seq (.reg [⟨some 2, .mov (.c (.nilp)), none, []⟩] [0])
   (.seq (.reg [⟨some 5, .mov (.t 0), none, []⟩,
    ⟨some 6, .len (.t 5), none, []⟩,
    ⟨some 7, .bin .add (.c (.int .i64 27323)) (.t 6), none, []⟩,
    ⟨some 3, .mov (.t 7), none, []⟩] [0, 3])
   (.seq (.seq (.reg [⟨some 4, .mov (.c (.int .i64 0)), none, []⟩] [0, 3, 4])
   (.block 0 (.loop (.seq (.seq (.reg [⟨some 8, .mov (.t 4), none, []⟩,
    ⟨some 9, .mov (.t 0), none, []⟩,
    ⟨some 10, .len (.t 9), none, []⟩,
    ⟨some 11, .bin .lss (.t 8) (.t 10), none, []⟩,
    ⟨some 12, .mov (.t 11), none, []⟩,
    ⟨some 13, .mov (.t 4), (some (12, true)), []⟩,
    ⟨some 14, .bin .lss (.t 13) (.c (.int .i64 4000)), (some (12, true)), []⟩,
    ⟨some 15, .pick (.t 12) (.t 14) (.c (.bool false)), none, []⟩] [0, 3, 4, 15])
   (.cond (.t 15) (.skip)
   (.exit 0)))
   (.seq (.block 1 (.reg [⟨some 18, .mov (.t 3), none, []⟩,
    ⟨some 19, .bin .mul (.t 18) (.c (.int .i64 131)), none, []⟩,
    ⟨some 20, .mov (.t 0), none, []⟩,
    ⟨some 21, .mov (.t 4), none, []⟩,
    ⟨some 22, .iaddr 1 (.t 20) (.t 21), none, []⟩,
    ⟨some 23, .load1 (.t 22), none, []⟩,
    ⟨some 24, .toInt .i64 (.t 23), none, []⟩,
    ⟨some 25, .bin .add (.t 19) (.t 24), none, []⟩,
    ⟨some 26, .bin .add (.t 25) (.c (.int .i64 7)), none, []⟩,
    ⟨some 27, .bin .and (.t 26) (.c (.int .i64 1073741823)), none, []⟩,
    ⟨some 3, .mov (.t 27), none, []⟩] [0, 3, 4]))
   (.reg [⟨some 16, .mov (.t 4), none, []⟩,
    ⟨some 17, .bin .add (.t 16) (.c (.int .i64 1)), none, []⟩,
    ⟨some 4, .mov (.t 17), none, []⟩] [0, 3, 4]))))))
   (.seq (.reg [⟨some 28, .mov (.t 0), none, []⟩,
    ⟨some 29, .mov (.t 3), none, []⟩,
    ⟨some 30, .build [.nils, .int .i64 0, .int .i64 0] [(0, 1, (.t 28)), (2, 1, (.t 29))], none, []⟩,
    ⟨some 31, .box 78 (.t 30), none, []⟩,
    ⟨some 2, .mov (.t 31), none, []⟩] [2])
   (.ret))))⟩
theorem a63 : agreeFn Try.prog Try.f63 A63 = true := by kernel_rfl
def A65 : AFn := ⟨10, [.tmp 4],
   .seq (.reg [⟨some 4, .mov (.c (.int .i64 0)), none, []⟩] [0, 1])
   (.seq (.seq (.reg [⟨some 5, .mov (.t 0), none, []⟩,
    ⟨some 6, .mov (.t 1), none, []⟩,
    ⟨some 7, .bin .lss (.t 5) (.t 6), none, []⟩] [0, 1, 7])
   (.cond (.t 7) (.seq (.reg [⟨some 8, .mov (.t 0), none, []⟩,
    ⟨some 4, .mov (.t 8), none, []⟩] [4])
   (.ret))
   (.skip)))
   (.seq (.reg [⟨some 9, .mov (.t 1), none, []⟩,
    ⟨some 4, .mov (.t 9), none, []⟩] [4])
   (.ret)))⟩
theorem a65 : agreeFn Try.prog Try.f65 A65 = true := by kernel_rfl
def A66 : AFn := ⟨37, [.tmp 4],
   .seq (.reg [⟨some 4, .mov (.c (.int .i64 0)), none, []⟩] [0, 1])
   (.seq (.seq (.reg [⟨some 9, .mov (.t 1), none, []⟩,
    ⟨some 10, .bin .leq (.t 9) (.c (.int .i64 0)), none, []⟩] [0, 1, 10])
   (.cond (.t 10) (.seq (.reg [⟨some 4, .mov (.c (.int .i64 0)), none, []⟩] [4])
   (.ret))
   (.skip)))
   (.seq (.seq (.reg [⟨some 11, .mov (.t 1), none, []⟩,
    ⟨some 12, .bin .leq (.t 11) (.c (.int .i64 256)), none, []⟩] [0, 1, 12])
   (.cond (.t 12) (.seq (.reg [⟨some 13, .mov (.t 0), none, []⟩,
    ⟨some 14, .call 74 [(.t 13)], none, []⟩,
    ⟨some 15, .mov (.t 1), none, []⟩,
    ⟨some 16, .bin .rem (.t 14) (.t 15), none, []⟩,
    ⟨some 4, .mov (.t 16), none, []⟩] [4])
   (.ret))
   (.skip)))
   (.seq (.reg [⟨some 17, .mov (.t 0), none, []⟩,
    ⟨some 18, .call 74 [(.t 17)], none, []⟩,
    ⟨some 5, .mov (.t 18), none, []⟩] [0, 1, 5])
   (.seq (.reg [⟨some 19, .mov (.t 0), none, []⟩,
    ⟨some 20, .call 74 [(.t 19)], none, []⟩,
    ⟨some 6, .mov (.t 20), none, []⟩] [0, 1, 5, 6])
   (.seq (.reg [⟨some 21, .mov (.t 0), none, []⟩,
    ⟨some 22, .call 74 [(.t 21)], none, []⟩,
    ⟨some 7, .mov (.t 22), none, []⟩] [0, 1, 5, 6, 7])
   (.seq (.reg [⟨some 23, .mov (.t 0), none, []⟩,
    ⟨some 24, .call 74 [(.t 23)], none, []⟩,
    ⟨some 8, .mov (.t 24), none, []⟩] [1, 5, 6, 7, 8])
   (.seq (.reg [⟨some 25, .mov (.t 5), none, []⟩,
    ⟨some 26, .bin .mul (.t 25) (.c (.int .i64 16777216)), none, []⟩,
    ⟨some 27, .mov (.t 6), none, []⟩,
    ⟨some 28, .bin .mul (.t 27) (.c (.int .i64 65536)), none, []⟩,
    ⟨some 29, .bin .add (.t 26) (.t 28), none, []⟩,
    ⟨some 30, .mov (.t 7), none, []⟩,
    ⟨some 31, .bin .mul (.t 30) (.c (.int .i64 256)), none, []⟩,
    ⟨some 32, .bin .add (.t 29) (.t 31), none, []⟩,
    ⟨some 33, .mov (.t 8), none, []⟩,
    ⟨some 34, .bin .add (.t 32) (.t 33), none, []⟩,
    ⟨some 35, .mov (.t 1), none, []⟩,
    ⟨some 36, .bin .rem (.t 34) (.t 35), none, []⟩,
    ⟨some 4, .mov (.t 36), none, []⟩] [4])
   (.ret))))))))⟩
theorem a66 : agreeFn Try.prog Try.f66 A66 = true := by kernel_rfl
def A73 : AFn := ⟨12, [.tmp 4],
   .seq (.reg [⟨some 4, .mov (.c (.int .i64 0)), none, []⟩] [0, 1])
   (.seq (.reg [⟨some 5, .mov (.t 1), none, []⟩,
    ⟨some 6, .mov (.t 0), none, []⟩,
    ⟨some 7, .mov (.t 1), none, []⟩,
    ⟨some 8, .len (.t 7), none, []⟩,
    ⟨some 9, .call 66 [(.t 6), (.t 8)], none, []⟩,
    ⟨some 10, .iaddr 1 (.t 5) (.t 9), none, []⟩,
    ⟨some 11, .load1 (.t 10), none, []⟩,
    ⟨some 4, .mov (.t 11), none, []⟩] [4])
   (.ret))⟩
theorem a73 : agreeFn Try.prog Try.f73 A73 = true := by kernel_rfl
def A74 : AFn := ⟨58, [.tmp 2],
   .seq (.reg [⟨some 2, .mov (.c (.int .i64 0)), none, []⟩] [0])
   (.seq (.reg [⟨some 4, .mov (.t 0), none, []⟩,
    ⟨some 5, .mov (.t 0), none, []⟩,
    ⟨some 6, .nilck (.t 5), none, []⟩,
    ⟨some 7, .faddr 2 (.t 6), none, []⟩,
    ⟨some 8, .load1 (.t 7), none, []⟩,
    ⟨some 9, .bin .mul (.t 8) (.c (.int .i64 6364136223846793005)), none, []⟩,
    ⟨some 10, .bin .add (.t 9) (.c (.int .i64 1442695040888963407)), none, []⟩,
    ⟨some 11, .nilck (.t 4), none, []⟩,
    ⟨some 12, .faddr 2 (.t 11), none, []⟩,
    ⟨none, .store 1 (.t 12) (.t 10), none, []⟩] [0])
   (.seq (.dreg [(0, .light, ⟨some 13, .mov (.t 0), none, []⟩),
    (1, .light, ⟨some 14, .nilck (.t 13), none, []⟩),
    (2, .light, ⟨some 15, .faddr 2 (.t 14), none, []⟩),
    (3, .light, ⟨some 16, .load1 (.t 15), none, []⟩),
    (4, .light, ⟨some 17, .bin .shr (.t 16) (.c (.int .u64 33)), none, []⟩),
    (5, .light, ⟨some 18, .mov (.t 0), none, []⟩),
    (6, .light, ⟨some 19, .nilck (.t 18), none, []⟩),
    (7, .light, ⟨some 20, .faddr 2 (.t 19), none, []⟩),
    (8, .light, ⟨some 21, .load1 (.t 20), none, []⟩),
    (9, .light, ⟨some 22, .bin .shr (.t 21) (.c (.int .u64 45)), none, []⟩),
    (10, .light, ⟨some 23, .bin .xor (.t 17) (.t 22), none, []⟩),
    (11, .light, ⟨some 24, .bin .and (.t 23) (.c (.int .i64 255)), none, []⟩),
    (12, .light, ⟨some 3, .mov (.t 24), none, []⟩)] [0, 3])
   (.seq (.seq (.dreg [(0, .light, ⟨some 25, .mov (.t 0), none, []⟩),
    (1, .light, ⟨some 26, .nilck (.t 25), none, []⟩),
    (2, .light, ⟨some 27, .faddr 1 (.t 26), none, []⟩),
    (3, .light, ⟨some 28, .load1 (.t 27), none, []⟩),
    (4, .light, ⟨some 29, .mov (.t 0), none, []⟩),
    (5, .light, ⟨some 30, .nilck (.t 29), none, []⟩),
    (6, .light, ⟨some 31, .faddr 0 (.t 30), none, []⟩),
    (7, .light, ⟨some 32, .load1 (.t 31), none, []⟩),
    (8, .light, ⟨some 33, .len (.t 32), none, []⟩),
    (9, .light, ⟨some 34, .bin .lss (.t 28) (.t 33), none, []⟩)] [0, 3, 34])
   (.cond (.t 34) (.seq (.dreg [(0, .light, ⟨some 35, .mov (.t 3), none, []⟩),
    (1, .light, ⟨some 36, .mov (.t 0), none, []⟩),
    (2, .light, ⟨some 37, .nilck (.t 36), none, []⟩),
    (3, .light, ⟨some 38, .faddr 0 (.t 37), none, []⟩),
    (4, .light, ⟨some 39, .load1 (.t 38), none, []⟩),
    (5, .light, ⟨some 40, .mov (.t 0), none, []⟩),
    (6, .light, ⟨some 41, .nilck (.t 40), none, []⟩),
    (7, .light, ⟨some 42, .faddr 1 (.t 41), none, []⟩),
    (8, .light, ⟨some 43, .load1 (.t 42), none, []⟩),
    (9, .light, ⟨some 44, .iaddr 1 (.t 39) (.t 43), none, []⟩),
    (10, .light, ⟨some 45, .load1 (.t 44), none, []⟩),
    (11, .light, ⟨some 46, .toInt .i64 (.t 45), none, []⟩),
    (12, .light, ⟨some 47, .bin .add (.t 35) (.t 46), none, []⟩),
    (13, .light, ⟨some 48, .bin .and (.t 47) (.c (.int .i64 255)), none, []⟩),
    (14, .heavy, ⟨some 3, .mov (.t 48), none, []⟩)] [0, 3])
   (.reg [⟨some 49, .mov (.t 0), none, []⟩,
    ⟨some 50, .mov (.t 0), none, []⟩,
    ⟨some 51, .nilck (.t 50), none, []⟩,
    ⟨some 52, .faddr 1 (.t 51), none, []⟩,
    ⟨some 53, .load1 (.t 52), none, []⟩,
    ⟨some 54, .bin .add (.t 53) (.c (.int .i64 1)), none, []⟩,
    ⟨some 55, .nilck (.t 49), none, []⟩,
    ⟨some 56, .faddr 1 (.t 55), none, []⟩,
    ⟨none, .store 1 (.t 56) (.t 54), none, []⟩] [3]))
   (.skip)))
   (.seq (.reg [⟨some 57, .mov (.t 3), none, []⟩,
    ⟨some 2, .mov (.t 57), none, []⟩] [2])
   (.ret)))))⟩
theorem a74 : agreeFn Try.prog Try.f74 A74 = true := by kernel_rfl
def A30 : AFn := ⟨16, [.celln 2 3],
   .seq (.reg [⟨some 1, .box 43 (.t 0), none, []⟩,
    ⟨some 2, .alloc 27 3 [.int .i64 0, .nils, .nils], none, []⟩] [1, 2])
   (.seq (.reg [⟨some 3, .alloc 27 3 [.int .i64 0, .nils, .nils], none, []⟩] [1, 2, 3])
   (.seq (.reg [⟨some 4, .faddr 0 (.t 1), none, []⟩,
    ⟨some 5, .load1 (.t 4), none, []⟩,
    ⟨some 6, .faddr 0 (.t 3), none, []⟩,
    ⟨none, .store 1 (.t 6) (.t 5), none, []⟩] [1, 2, 3])
   (.seq (.reg [⟨some 7, .faddr 1 (.t 1), none, []⟩,
    ⟨some 8, .load1 (.t 7), none, []⟩,
    ⟨some 9, .call 60 [(.t 8)], none, []⟩,
    ⟨some 10, .faddr 1 (.t 3), none, []⟩,
    ⟨none, .store 1 (.t 10) (.t 9), none, []⟩] [1, 2, 3])
   (.seq (.reg [⟨some 11, .faddr 2 (.t 1), none, []⟩,
    ⟨some 12, .load1 (.t 11), none, []⟩,
    ⟨some 13, .call 61 [(.t 12)], none, []⟩,
    ⟨some 14, .faddr 2 (.t 3), none, []⟩,
    ⟨none, .store 1 (.t 14) (.t 13), none, []⟩] [2, 3])
   (.seq (.reg [⟨some 15, .loadn 3 (.t 3), none, []⟩,
    ⟨none, .store 3 (.t 2) (.t 15), none, []⟩] [2])
   (.ret))))))⟩
theorem a30 : agreeFn Try.prog Try.f30 A30 = true := by kernel_rfl
def A31 : AFn := ⟨6, [.celln 2 3],
   .seq (.reg [⟨some 2, .alloc 27 3 [.int .i64 0, .nils, .nils], none, []⟩] [0, 2])
   (.seq (.reg [⟨some 3, .mov (.t 0), none, []⟩,
    ⟨some 4, .call 63 [(.t 3)], none, []⟩,
    ⟨some 5, .call 62 [(.t 4)], none, []⟩,
    ⟨none, .store 3 (.t 2) (.t 5), none, []⟩] [2])
   (.ret))⟩
theorem a31 : agreeFn Try.prog Try.f31 A31 = true := by kernel_rfl
def A32 : AFn := ⟨29, [.celln 4 3, .tmp 5],
   .seq (.reg [⟨some 2, .box 27 (.t 0), none, []⟩,
    ⟨some 4, .alloc 27 3 [.int .i64 0, .nils, .nils], none, []⟩,
    ⟨some 5, .mov (.c (.bool false)), none, []⟩] [1, 2, 4])
   (.seq (.reg [⟨some 7, .loadn 3 (.t 2), none, []⟩,
    ⟨some 8, .call 64 [(.t 7)], none, []⟩,
    ⟨some 6, .alloc 27 3 [.int .i64 0, .nils, .nils], none, []⟩,
    ⟨none, .store 3 (.t 6) (.t 8), none, []⟩] [1, 2, 4, 6])
   (.seq (.reg [⟨some 9, .faddr 2 (.t 6), none, []⟩,
    ⟨some 10, .load1 (.t 9), none, []⟩,
    ⟨some 11, .mov (.t 1), none, []⟩,
    ⟨some 12, .faddr 0 (.t 2), none, []⟩,
    ⟨some 13, .load1 (.t 12), none, []⟩,
    ⟨some 14, .build [.int .i64 0, .int .i64 0] [(0, 1, (.t 11)), (1, 1, (.t 13))], none, []⟩,
    ⟨some 15, .mkrow 58 2 [.int .i64 0, .int .i64 0] 1 [(0, (.t 14))], none, []⟩,
    ⟨some 16, .append 58 2 16 (.t 10) (.t 15), none, []⟩,
    ⟨some 17, .faddr 2 (.t 6), none, []⟩,
    ⟨none, .store 1 (.t 17) (.t 16), none, []⟩] [2, 4, 6])
   (.seq (.seq (.reg [⟨some 18, .loadn 3 (.t 2), none, []⟩,
    ⟨some 19, .call 29 [(.t 18)], none, []⟩,
    ⟨some 20, .un .not (.t 19), none, []⟩,
    ⟨some 21, .mov (.t 20), none, []⟩,
    ⟨some 22, .loadn 3 (.t 6), (some (21, false)), []⟩,
    ⟨some 23, .call 29 [(.t 22)], (some (21, false)), []⟩,
    ⟨some 24, .un .not (.t 23), (some (21, false)), []⟩,
    ⟨some 25, .pick (.t 21) (.c (.bool true)) (.t 24), none, []⟩] [2, 4, 6, 25])
   (.cond (.t 25) (.seq (.reg [⟨some 26, .loadn 3 (.t 2), none, []⟩,
    ⟨some 27, .call 64 [(.t 26)], none, []⟩,
    ⟨none, .store 3 (.t 4) (.t 27), none, []⟩,
    ⟨some 5, .mov (.c (.bool false)), none, []⟩] [4, 5])
   (.ret))
   (.skip)))
   (.seq (.reg [⟨some 28, .loadn 3 (.t 6), none, []⟩,
    ⟨none, .store 3 (.t 4) (.t 28), none, []⟩,
    ⟨some 5, .mov (.c (.bool true)), none, []⟩] [4, 5])
   (.ret)))))⟩
theorem a32 : agreeFn Try.prog Try.f32 A32 = true := by kernel_rfl
def A33 : AFn := ⟨37, [.celln 4 3, .tmp 5],
   .seq (.reg [⟨some 2, .box 27 (.t 0), none, []⟩,
    ⟨some 4, .alloc 27 3 [.int .i64 0, .nils, .nils], none, []⟩,
    ⟨some 5, .mov (.c (.bool false)), none, []⟩] [1, 2, 4])
   (.seq (.reg [⟨some 7, .loadn 3 (.t 2), none, []⟩,
    ⟨some 8, .call 64 [(.t 7)], none, []⟩,
    ⟨some 6, .alloc 27 3 [.int .i64 0, .nils, .nils], none, []⟩,
    ⟨none, .store 3 (.t 6) (.t 8), none, []⟩] [1, 2, 4, 6])
   (.seq (.seq (.reg [⟨some 9, .loadn 3 (.t 2), none, []⟩,
    ⟨some 10, .call 29 [(.t 9)], none, []⟩,
    ⟨some 11, .un .not (.t 10), none, []⟩,
    ⟨some 12, .mov (.t 11), none, []⟩,
    ⟨some 13, .mov (.t 1), (some (12, false)), []⟩,
    ⟨some 14, .faddr 1 (.t 2), (some (12, false)), []⟩,
    ⟨some 15, .load1 (.t 14), (some (12, false)), []⟩,
    ⟨some 16, .len (.t 15), (some (12, false)), []⟩,
    ⟨some 17, .bin .sub (.t 16) (.c (.int .i64 1)), (some (12, false)), []⟩,
    ⟨some 18, .call 49 [(.t 13), (.c (.int .i64 0)), (.t 17)], (some (12, false)), []⟩,
    ⟨some 19, .un .not (.t 18), (some (12, false)), []⟩,
    ⟨some 20, .pick (.t 12) (.c (.bool true)) (.t 19), none, []⟩,
    ⟨some 21, .mov (.t 20), none, []⟩,
    ⟨some 22, .faddr 1 (.t 2), (some (21, false)), []⟩,
    ⟨some 23, .load1 (.t 22), (some (21, false)), []⟩,
    ⟨some 24, .mov (.t 1), (some (21, false)), []⟩,
    ⟨some 25, .iaddr 1 (.t 23) (.t 24), (some (21, false)), []⟩,
    ⟨some 26, .load1 (.t 25), (some (21, false)), []⟩,
    ⟨some 27, .bin .neq (.t 26) (.c (.int .i64 0)), (some (21, false)), []⟩,
    ⟨some 28, .pick (.t 21) (.c (.bool true)) (.t 27), none, []⟩] [1, 2, 4, 6, 28])
   (.cond (.t 28) (.seq (.reg [⟨some 29, .loadn 3 (.t 6), none, []⟩,
    ⟨none, .store 3 (.t 4) (.t 29), none, []⟩,
    ⟨some 5, .mov (.c (.bool false)), none, []⟩] [4, 5])
   (.ret))
   (.skip)))
   (.seq (.reg [⟨some 30, .faddr 1 (.t 6), none, []⟩,
    ⟨some 31, .load1 (.t 30), none, []⟩,
    ⟨some 32, .mov (.t 1), none, []⟩,
    ⟨some 33, .faddr 0 (.t 2), none, []⟩,
    ⟨some 34, .load1 (.t 33), none, []⟩,
    ⟨some 35, .iaddr 1 (.t 31) (.t 32), none, []⟩,
    ⟨none, .store 1 (.t 35) (.t 34), none, []⟩] [4, 6])
   (.seq (.reg [⟨some 36, .loadn 3 (.t 6), none, []⟩,
    ⟨none, .store 3 (.t 4) (.t 36), none, []⟩,
    ⟨some 5, .mov (.c (.bool true)), none, []⟩] [4, 5])
   (.ret)))))⟩
theorem a33 : agreeFn Try.prog Try.f33 A33 = true := by kernel_rfl
def A34 : AFn := ⟨35, [.celln 4 3, .tmp 5],
   .seq (.reg [⟨some 2, .box 27 (.t 0), none, []⟩,
    ⟨some 4, .alloc 27 3 [.int .i64 0, .nils, .nils], none, []⟩,
    ⟨some 5, .mov (.c (.bool false)), none, []⟩] [1, 2, 4])
   (.seq (.reg [⟨some 7, .loadn 3 (.t 2), none, []⟩,
    ⟨some 8, .call 64 [(.t 7)], none, []⟩,
    ⟨some 6, .alloc 27 3 [.int .i64 0, .nils, .nils], none, []⟩,
    ⟨none, .store 3 (.t 6) (.t 8), none, []⟩] [1, 2, 4, 6])
   (.seq (.seq (.reg [⟨some 9, .loadn 3 (.t 2), none, []⟩,
    ⟨some 10, .call 29 [(.t 9)], none, []⟩,
    ⟨some 11, .un .not (.t 10), none, []⟩,
    ⟨some 12, .mov (.t 11), none, []⟩,
    ⟨some 13, .mov (.t 1), (some (12, false)), []⟩,
    ⟨some 14, .faddr 1 (.t 2), (some (12, false)), []⟩,
    ⟨some 15, .load1 (.t 14), (some (12, false)), []⟩,
    ⟨some 16, .len (.t 15), (some (12, false)), []⟩,
    ⟨some 17, .bin .sub (.t 16) (.c (.int .i64 1)), (some (12, false)), []⟩,
    ⟨some 18, .call 49 [(.t 13), (.c (.int .i64 0)), (.t 17)], (some (12, false)), []⟩,
    ⟨some 19, .un .not (.t 18), (some (12, false)), []⟩,
    ⟨some 20, .pick (.t 12) (.c (.bool true)) (.t 19), none, []⟩,
    ⟨some 21, .mov (.t 20), none, []⟩,
    ⟨some 22, .faddr 1 (.t 2), (some (21, false)), []⟩,
    ⟨some 23, .load1 (.t 22), (some (21, false)), []⟩,
    ⟨some 24, .mov (.t 1), (some (21, false)), []⟩,
    ⟨some 25, .iaddr 1 (.t 23) (.t 24), (some (21, false)), []⟩,
    ⟨some 26, .load1 (.t 25), (some (21, false)), []⟩,
    ⟨some 27, .bin .eql (.t 26) (.c (.int .i64 0)), (some (21, false)), []⟩,
    ⟨some 28, .pick (.t 21) (.c (.bool true)) (.t 27), none, []⟩] [1, 4, 6, 28])
   (.cond (.t 28) (.seq (.reg [⟨some 29, .loadn 3 (.t 6), none, []⟩,
    ⟨none, .store 3 (.t 4) (.t 29), none, []⟩,
    ⟨some 5, .mov (.c (.bool false)), none, []⟩] [4, 5])
   (.ret))
   (.skip)))
   (.seq (.reg [⟨some 30, .faddr 1 (.t 6), none, []⟩,
    ⟨some 31, .load1 (.t 30), none, []⟩,
    ⟨some 32, .mov (.t 1), none, []⟩,
    ⟨some 33, .iaddr 1 (.t 31) (.t 32), none, []⟩,
    ⟨none, .store 1 (.t 33) (.c (.int .i64 0)), none, []⟩] [4, 6])
   (.seq (.reg [⟨some 34, .loadn 3 (.t 6), none, []⟩,
    ⟨none, .store 3 (.t 4) (.t 34), none, []⟩,
    ⟨some 5, .mov (.c (.bool true)), none, []⟩] [4, 5])
   (.ret)))))⟩
theorem a34 : agreeFn Try.prog Try.f34 A34 = true := by kernel_rfl
def A35 : AFn := ⟨23, [.celln 2 3, .tmp 3],
   .seq (.reg [⟨some 1, .box 27 (.t 0), none, []⟩,
    ⟨some 2, .alloc 27 3 [.int .i64 0, .nils, .nils], none, []⟩,
    ⟨some 3, .mov (.c (.bool false)), none, []⟩] [1, 2])
   (.seq (.reg [⟨some 5, .loadn 3 (.t 1), none, []⟩,
    ⟨some 6, .call 64 [(.t 5)], none, []⟩,
    ⟨some 4, .alloc 27 3 [.int .i64 0, .nils, .nils], none, []⟩,
    ⟨none, .store 3 (.t 4) (.t 6), none, []⟩] [1, 2, 4])
   (.seq (.reg [⟨some 7, .faddr 0 (.t 1), none, []⟩,
    ⟨some 8, .load1 (.t 7), none, []⟩,
    ⟨some 9, .call 65 [(.t 8), (.c (.int .i64 1000))], none, []⟩,
    ⟨some 10, .bin .add (.t 9) (.c (.int .i64 1)), none, []⟩,
    ⟨some 11, .faddr 0 (.t 4), none, []⟩,
    ⟨none, .store 1 (.t 11) (.t 10), none, []⟩] [1, 2, 4])
   (.seq (.seq (.reg [⟨some 12, .loadn 3 (.t 1), none, []⟩,
    ⟨some 13, .call 29 [(.t 12)], none, []⟩,
    ⟨some 14, .un .not (.t 13), none, []⟩,
    ⟨some 15, .mov (.t 14), none, []⟩,
    ⟨some 16, .loadn 3 (.t 4), (some (15, false)), []⟩,
    ⟨some 17, .call 29 [(.t 16)], (some (15, false)), []⟩,
    ⟨some 18, .un .not (.t 17), (some (15, false)), []⟩,
    ⟨some 19, .pick (.t 15) (.c (.bool true)) (.t 18), none, []⟩] [1, 2, 4, 19])
   (.cond (.t 19) (.seq (.reg [⟨some 20, .loadn 3 (.t 1), none, []⟩,
    ⟨some 21, .call 64 [(.t 20)], none, []⟩,
    ⟨none, .store 3 (.t 2) (.t 21), none, []⟩,
    ⟨some 3, .mov (.c (.bool false)), none, []⟩] [2, 3])
   (.ret))
   (.skip)))
   (.seq (.reg [⟨some 22, .loadn 3 (.t 4), none, []⟩,
    ⟨none, .store 3 (.t 2) (.t 22), none, []⟩,
    ⟨some 3, .mov (.c (.bool true)), none, []⟩] [2, 3])
   (.ret)))))⟩
theorem a35 : agreeFn Try.prog Try.f35 A35 = true := by kernel_rfl
def A36 : AFn := ⟨14, [.celln 2 3, .tmp 3],
   .seq (.reg [⟨some 2, .alloc 27 3 [.int .i64 0, .nils, .nils], none, []⟩,
    ⟨some 3, .mov (.c (.int .i64 0)), none, []⟩] [0, 2])
   (.seq (.reg [⟨some 6, .mov (.t 0), none, []⟩,
    ⟨some 7, .call 63 [(.t 6)], none, []⟩,
    ⟨some 4, .mov (.t 7), none, []⟩] [2, 4])
   (.seq (.reg [⟨some 8, .mov (.t 4), none, []⟩,
    ⟨some 9, .call 62 [(.t 8)], none, []⟩,
    ⟨some 5, .alloc 27 3 [.int .i64 0, .nils, .nils], none, []⟩,
    ⟨none, .store 3 (.t 5) (.t 9), none, []⟩] [2, 4, 5])
   (.seq (.dreg [(0, .light, ⟨some 10, .loadn 3 (.t 5), none, []⟩),
    (1, .light, ⟨some 11, .mov (.t 4), none, []⟩),
    (2, .heavy, ⟨some 12, .call 66 [(.t 11), (.c (.int .i64 6))], none, [(.loadn 3 (.t 5), 10, none)]⟩),
    (3, .light, ⟨some 13, .bin .sub (.t 12) (.c (.int .i64 1)), none, []⟩),
    (4, .heavy, ⟨none, .store 3 (.t 2) (.t 10), none, []⟩),
    (5, .light, ⟨some 3, .mov (.t 13), none, []⟩)] [2, 3])
   (.ret))))⟩
theorem a36 : agreeFn Try.prog Try.f36 A36 = true := by kernel_rfl
def A38 : AFn := ⟨59, [.celln 2 3, .tmp 3],
   .seq (.reg [⟨some 1, .box 27 (.t 0), none, []⟩,
    ⟨some 2, .alloc 27 3 [.int .i64 0, .nils, .nils], none, []⟩,
    ⟨some 3, .mov (.c (.nils)), none, []⟩] [1, 2])
   (.seq (.reg [⟨some 7, .mkrow 3 1 [.int .i64 0] 0 [], none, []⟩,
    ⟨some 4, .mov (.t 7), none, []⟩] [1, 2, 4])
   (.seq (.seq (.reg [⟨some 8, .loadn 3 (.t 1), none, []⟩,
    ⟨some 9, .call 29 [(.t 8)], none, []⟩,
    ⟨some 10, .un .not (.t 9), none, []⟩] [1, 2, 4, 10])
   (.cond (.t 10) (.seq (.reg [⟨some 11, .loadn 3 (.t 1), none, []⟩,
    ⟨some 12, .call 64 [(.t 11)], none, []⟩,
    ⟨some 13, .mov (.t 4), none, []⟩,
    ⟨none, .store 3 (.t 2) (.t 12), none, []⟩,
    ⟨some 3, .mov (.t 13), none, []⟩] [2, 3])
   (.ret))
   (.skip)))
   (.seq (.dreg [(0, .light, ⟨some 14, .faddr 0 (.t 1), none, []⟩),
    (1, .light, ⟨some 15, .load1 (.t 14), none, []⟩),
    (3, .light, ⟨some 17, .faddr 1 (.t 1), none, []⟩),
    (4, .light, ⟨some 18, .load1 (.t 17), none, []⟩),
    (2, .float, ⟨some 16, .mkrow 3 1 [.int .i64 0] 0 [], none, []⟩),
    (5, .heavy, ⟨some 19, .append 3 1 8 (.t 16) (.t 18), none, [(.load1 (.t 14), 15, none)]⟩),
    (6, .light, ⟨some 20, .build [.int .i64 0, .nils, .nils] [(0, 1, (.t 15)), (1, 1, (.t 19))], none, []⟩),
    (7, .float, ⟨some 5, .alloc 27 3 [.int .i64 0, .nils, .nils], none, []⟩),
    (8, .heavy, ⟨none, .store 3 (.t 5) (.t 20), none, []⟩)] [1, 2, 4, 5])
   (.seq (.seq (.reg [⟨some 6, .mov (.c (.int .i64 0)), none, []⟩] [1, 2, 4, 5, 6])
   (.block 0 (.loop (.seq (.seq (.reg [⟨some 21, .mov (.t 6), none, []⟩,
    ⟨some 22, .faddr 2 (.t 1), none, []⟩,
    ⟨some 23, .load1 (.t 22), none, []⟩,
    ⟨some 24, .len (.t 23), none, []⟩,
    ⟨some 25, .bin .lss (.t 21) (.t 24), none, []⟩] [1, 2, 4, 5, 6, 25])
   (.cond (.t 25) (.skip)
   (.exit 0)))
   (.seq (.block 1 (.seq (.dreg [(0, .light, ⟨some 28, .faddr 2 (.t 1), none, []⟩),
    (1, .light, ⟨some 29, .load1 (.t 28), none, []⟩),
    (2, .light, ⟨some 30, .mov (.t 6), none, []⟩),
    (3, .light, ⟨some 31, .iaddr 2 (.t 29) (.t 30), none, []⟩),
    (4, .light, ⟨some 32, .faddr 1 (.t 31), none, []⟩),
    (5, .light, ⟨some 33, .load1 (.t 32), none, []⟩),
    (6, .light, ⟨some 34, .faddr 0 (.t 1), none, []⟩),
    (7, .light, ⟨some 35, .load1 (.t 34), none, []⟩),
    (8, .light, ⟨some 36, .bin .sub (.t 35) (.c (.int .i64 2)), none, []⟩),
    (9, .light, ⟨some 37, .bin .leq (.t 33) (.t 36), none, []⟩)] [1, 2, 4, 5, 6, 37])
   (.cond (.t 37) (.reg [⟨some 38, .mov (.t 4), none, []⟩,
    ⟨some 39, .faddr 2 (.t 1), none, []⟩,
    ⟨some 40, .load1 (.t 39), none, []⟩,
    ⟨some 41, .mov (.t 6), none, []⟩,
    ⟨some 42, .iaddr 2 (.t 40) (.t 41), none, []⟩,
    ⟨some 43, .faddr 0 (.t 42), none, []⟩,
    ⟨some 44, .load1 (.t 43), none, []⟩,
    ⟨some 45, .mkrow 3 1 [.int .i64 0] 1 [(0, (.t 44))], none, []⟩,
    ⟨some 46, .append 3 1 8 (.t 38) (.t 45), none, []⟩,
    ⟨some 4, .mov (.t 46), none, []⟩] [1, 2, 4, 5, 6])
   (.dreg [(0, .light, ⟨some 47, .faddr 2 (.t 5), none, []⟩),
    (1, .light, ⟨some 48, .load1 (.t 47), none, []⟩),
    (2, .light, ⟨some 49, .faddr 2 (.t 1), none, []⟩),
    (3, .light, ⟨some 50, .load1 (.t 49), none, []⟩),
    (4, .light, ⟨some 51, .mov (.t 6), none, []⟩),
    (5, .light, ⟨some 52, .iaddr 2 (.t 50) (.t 51), none, []⟩),
    (6, .light, ⟨some 53, .loadn 2 (.t 52), none, []⟩),
    (7, .heavy, ⟨some 54, .mkrow 58 2 [.int .i64 0, .int .i64 0] 1 [(0, (.t 53))], none, [(.load1 (.t 47), 48, none)]⟩),
    (8, .heavy, ⟨some 55, .append 58 2 16 (.t 48) (.t 54), none, []⟩),
    (9, .light, ⟨some 56, .faddr 2 (.t 5), none, []⟩),
    (10, .heavy, ⟨none, .store 1 (.t 56) (.t 55), none, []⟩)] [1, 2, 4, 5, 6]))))
   (.reg [⟨some 26, .mov (.t 6), none, []⟩,
    ⟨some 27, .bin .add (.t 26) (.c (.int .i64 1)), none, []⟩,
    ⟨some 6, .mov (.t 27), none, []⟩] [1, 2, 4, 5, 6]))))))
   (.seq (.reg [⟨some 57, .loadn 3 (.t 5), none, []⟩,
    ⟨some 58, .mov (.t 4), none, []⟩,
    ⟨none, .store 3 (.t 2) (.t 57), none, []⟩,
    ⟨some 3, .mov (.t 58), none, []⟩] [2, 3])
   (.ret))))))⟩
theorem a38 : agreeFn Try.prog Try.f38 A38 = true := by kernel_rfl
def A43 : AFn := ⟨14, [.celln 2 3, .tmp 3],
   .seq (.reg [⟨some 2, .alloc 27 3 [.int .i64 0, .nils, .nils], none, []⟩,
    ⟨some 3, .mov (.c (.int .i64 0)), none, []⟩] [0, 2])
   (.seq (.reg [⟨some 6, .mov (.t 0), none, []⟩,
    ⟨some 7, .call 63 [(.t 6)], none, []⟩,
    ⟨some 4, .mov (.t 7), none, []⟩] [2, 4])
   (.seq (.reg [⟨some 8, .mov (.t 4), none, []⟩,
    ⟨some 9, .call 62 [(.t 8)], none, []⟩,
    ⟨some 5, .alloc 27 3 [.int .i64 0, .nils, .nils], none, []⟩,
    ⟨none, .store 3 (.t 5) (.t 9), none, []⟩] [2, 4, 5])
   (.seq (.dreg [(0, .light, ⟨some 10, .loadn 3 (.t 5), none, []⟩),
    (1, .light, ⟨some 11, .mov (.t 4), none, []⟩),
    (2, .heavy, ⟨some 12, .call 66 [(.t 11), (.c (.int .i64 14))], none, [(.loadn 3 (.t 5), 10, none)]⟩),
    (3, .light, ⟨some 13, .bin .sub (.t 12) (.c (.int .i64 1)), none, []⟩),
    (4, .heavy, ⟨none, .store 3 (.t 2) (.t 10), none, []⟩),
    (5, .light, ⟨some 3, .mov (.t 13), none, []⟩)] [2, 3])
   (.ret))))⟩
theorem a43 : agreeFn Try.prog Try.f43 A43 = true := by kernel_rfl
def A44 : AFn := ⟨6, [.celln 2 3],
   .seq (.reg [⟨some 2, .alloc 27 3 [.int .i64 0, .nils, .nils], none, []⟩] [0, 2])
   (.seq (.reg [⟨some 3, .mov (.t 0), none, []⟩,
    ⟨some 4, .call 63 [(.t 3)], none, []⟩,
    ⟨some 5, .call 62 [(.t 4)], none, []⟩,
    ⟨none, .store 3 (.t 2) (.t 5), none, []⟩] [2])
   (.ret))⟩
theorem a44 : agreeFn Try.prog Try.f44 A44 = true := by kernel_rfl
def A45 : AFn := ⟨6, [.celln 2 3],
   .seq (.reg [⟨some 2, .alloc 27 3 [.int .i64 0, .nils, .nils], none, []⟩] [0, 2])
   (.seq (.reg [⟨some 3, .mov (.t 0), none, []⟩,
    ⟨some 4, .call 63 [(.t 3)], none, []⟩,
    ⟨some 5, .call 62 [(.t 4)], none, []⟩,
    ⟨none, .store 3 (.t 2) (.t 5), none, []⟩] [2])
   (.ret))⟩
theorem a45 : agreeFn Try.prog Try.f45 A45 = true := by kernel_rfl
def A46 : AFn := ⟨7, [.tmp 2],
   .seq (.reg [⟨some 2, .mov (.c (.int .i64 0)), none, []⟩] [0])
   (.seq (.reg [⟨some 3, .mov (.t 0), none, []⟩,
    ⟨some 4, .call 63 [(.t 3)], none, []⟩,
    ⟨some 5, .call 66 [(.t 4), (.c (.int .i64 7))], none, []⟩,
    ⟨some 6, .bin .sub (.t 5) (.c (.int .i64 1)), none, []⟩,
    ⟨some 2, .mov (.t 6), none, []⟩] [2])
   (.ret))⟩
theorem a46 : agreeFn Try.prog Try.f46 A46 = true := by kernel_rfl
def A42 : AFn := ⟨14, [.celln 2 3, .tmp 3],
   .seq (.reg [⟨some 2, .alloc 27 3 [.int .i64 0, .nils, .nils], none, []⟩,
    ⟨some 3, .mov (.c (.int .i64 0)), none, []⟩] [0, 2])
   (.seq (.reg [⟨some 6, .mov (.t 0), none, []⟩,
    ⟨some 7, .call 63 [(.t 6)], none, []⟩,
    ⟨some 4, .mov (.t 7), none, []⟩] [2, 4])
   (.seq (.reg [⟨some 8, .mov (.t 4), none, []⟩,
    ⟨some 9, .call 62 [(.t 8)], none, []⟩,
    ⟨some 5, .alloc 27 3 [.int .i64 0, .nils, .nils], none, []⟩,
    ⟨none, .store 3 (.t 5) (.t 9), none, []⟩] [2, 4, 5])
   (.seq (.dreg [(0, .light, ⟨some 10, .loadn 3 (.t 5), none, []⟩),
    (1, .light, ⟨some 11, .mov (.t 4), none, []⟩),
    (2, .heavy, ⟨some 12, .call 66 [(.t 11), (.c (.int .i64 6))], none, [(.loadn 3 (.t 5), 10, none)]⟩),
    (3, .light, ⟨some 13, .bin .sub (.t 12) (.c (.int .i64 1)), none, []⟩),
    (4, .heavy, ⟨none, .store 3 (.t 2) (.t 10), none, []⟩),
    (5, .light, ⟨some 3, .mov (.t 13), none, []⟩)] [2, 3])
   (.ret))))⟩
theorem a42 : agreeFn Try.prog Try.f42 A42 = true := by kernel_rfl
def A47 : AFn := ⟨26, [.tmp 4],
   .seq (.reg [⟨some 4, .mov (.c (.bool false)), none, []⟩] [0, 1])
   (.seq (.seq (.reg [⟨some 6, .mov (.t 0), none, []⟩,
    ⟨some 7, .len (.t 6), none, []⟩,
    ⟨some 8, .mov (.t 1), none, []⟩,
    ⟨some 9, .len (.t 8), none, []⟩,
    ⟨some 10, .bin .neq (.t 7) (.t 9), none, []⟩] [0, 1, 10])
   (.cond (.t 10) (.seq (.reg [⟨some 4, .mov (.c (.bool false)), none, []⟩] [4])
   (.ret))
   (.skip)))
   (.seq (.seq (.reg [⟨some 5, .mov (.c (.int .i64 0)), none, []⟩] [0, 1, 5])
   (.block 0 (.loop (.seq (.seq (.reg [⟨some 11, .mov (.t 5), none, []⟩,
    ⟨some 12, .mov (.t 0), none, []⟩,
    ⟨some 13, .len (.t 12), none, []⟩,
    ⟨some 14, .bin .lss (.t 11) (.t 13), none, []⟩] [0, 1, 5, 14])
   (.cond (.t 14) (.skip)
   (.exit 0)))
   (.seq (.block 1 (.seq (.dreg [(0, .light, ⟨some 17, .mov (.t 0), none, []⟩),
    (1, .light, ⟨some 18, .mov (.t 5), none, []⟩),
    (2, .light, ⟨some 19, .iaddr 1 (.t 17) (.t 18), none, []⟩),
    (3, .light, ⟨some 20, .load1 (.t 19), none, []⟩),
    (4, .light, ⟨some 21, .mov (.t 1), none, []⟩),
    (5, .light, ⟨some 22, .mov (.t 5), none, []⟩),
    (6, .light, ⟨some 23, .iaddr 1 (.t 21) (.t 22), none, []⟩),
    (7, .light, ⟨some 24, .load1 (.t 23), none, []⟩),
    (8, .light, ⟨some 25, .bin .neq (.t 20) (.t 24), none, []⟩)] [0, 1, 5, 25])
   (.cond (.t 25) (.seq (.reg [⟨some 4, .mov (.c (.bool false)), none, []⟩] [4])
   (.ret))
   (.skip))))
   (.reg [⟨some 15, .mov (.t 5), none, []⟩,
    ⟨some 16, .bin .add (.t 15) (.c (.int .i64 1)), none, []⟩,
    ⟨some 5, .mov (.t 16), none, []⟩] [0, 1, 5]))))))
   (.seq (.reg [⟨some 4, .mov (.c (.bool true)), none, []⟩] [4])
   (.ret))))⟩
theorem a47 : agreeFn Try.prog Try.f47 A47 = true := by kernel_rfl
def A62 : AFn := ⟨35, [.celln 2 3],
   .seq (.reg [⟨some 2, .alloc 27 3 [.int .i64 0, .nils, .nils], none, []⟩] [0, 2])
   (.seq (.reg [⟨some 4, .mov (.t 0), none, []⟩,
    ⟨some 5, .call 72 [(.t 4)], none, []⟩,
    ⟨some 3, .alloc 27 3 [.int .i64 0, .nils, .nils], none, []⟩,
    ⟨none, .store 3 (.t 3) (.t 5), none, []⟩] [0, 2, 3])
   (.seq (.seq (.reg [⟨some 6, .mov (.t 0), none, []⟩,
    ⟨some 7, .call 66 [(.t 6), (.c (.int .i64 10))], none, []⟩] [0, 2, 3, 7])
   (.block 0 (.seq (.reg [⟨some 9, .bin .eql (.t 7) (.c (.int .i64 0)), none, []⟩,
    ⟨some 8, .mov (.t 9), none, []⟩] [0, 2, 3, 7, 8])
   (.cond (.t 8) (.reg [⟨some 10, .mov (.t 0), none, []⟩,
    ⟨some 11, .mkrow 3 1 [.int .i64 0] 5 [(0, (.c (.int .i64 0))), (1, (.c (.int .i64 1))), (2, (.c (.int .i64 1000))), (3, (.c (.int .i64 1001))), (4, (.c (.int .i64 (-9223372036854775808))))], none, []⟩,
    ⟨some 12, .call 73 [(.t 10), (.t 11)], none, []⟩,
    ⟨some 13, .faddr 0 (.t 3), none, []⟩,
    ⟨none, .store 1 (.t 13) (.t 12), none, []⟩] [2, 3])
   (.seq (.reg [⟨some 15, .bin .eql (.t 7) (.c (.int .i64 1)), none, []⟩,
    ⟨some 14, .mov (.t 15), none, []⟩] [0, 2, 3, 7, 14])
   (.cond (.t 14) (.dreg [(0, .light, ⟨some 16, .faddr 1 (.t 3), none, []⟩),
    (1, .light, ⟨some 17, .load1 (.t 16), none, []⟩),
    (2, .light, ⟨some 18, .mov (.t 0), none, []⟩),
    (3, .float, ⟨some 19, .mkrow 3 1 [.int .i64 0] 4 [(0, (.c (.int .i64 (-1)))), (1, (.c (.int .i64 0))), (2, (.c (.int .i64 1))), (3, (.c (.int .i64 9)))], none, []⟩),
    (4, .heavy, ⟨some 20, .call 73 [(.t 18), (.t 19)], none, [(.load1 (.t 16), 17, none)]⟩),
    (5, .light, ⟨some 21, .iaddr 1 (.t 17) (.c (.int .i64 0)), none, []⟩),
    (6, .heavy, ⟨none, .store 1 (.t 21) (.t 20), none, []⟩)] [2, 3])
   (.seq (.reg [⟨some 23, .bin .eql (.t 7) (.c (.int .i64 2)), none, []⟩,
    ⟨some 22, .mov (.t 23), none, []⟩] [0, 2, 3, 22])
   (.cond (.t 22) (.dreg [(0, .light, ⟨some 24, .faddr 2 (.t 3), none, []⟩),
    (1, .light, ⟨some 25, .load1 (.t 24), none, []⟩),
    (2, .light, ⟨some 26, .mov (.t 0), none, []⟩),
    (4, .light, ⟨some 28, .mov (.t 0), none, []⟩),
    (3, .heavy, ⟨some 27, .call 66 [(.t 26), (.c (.int .i64 5))], none, [(.load1 (.t 24), 25, none)]⟩),
    (5, .heavy, ⟨some 29, .call 66 [(.t 28), (.c (.int .i64 4))], none, [(.load1 (.t 24), 25, none)]⟩),
    (6, .light, ⟨some 30, .build [.int .i64 0, .int .i64 0] [(0, 1, (.t 27)), (1, 1, (.t 29))], none, []⟩),
    (7, .heavy, ⟨some 31, .mkrow 58 2 [.int .i64 0, .int .i64 0] 1 [(0, (.t 30))], none, [(.load1 (.t 24), 25, none)]⟩),
    (8, .heavy, ⟨some 32, .append 58 2 16 (.t 25) (.t 31), none, []⟩),
    (9, .light, ⟨some 33, .faddr 2 (.t 3), none, []⟩),
    (10, .heavy, ⟨none, .store 1 (.t 33) (.t 32), none, []⟩)] [2, 3])
   (.skip)))))))))
   (.seq (.reg [⟨some 34, .loadn 3 (.t 3), none, []⟩,
    ⟨none, .store 3 (.t 2) (.t 34), none, []⟩] [2])
   (.ret))))⟩
theorem a62 : agreeFn Try.prog Try.f62 A62 = true := by kernel_rfl
def A64 : AFn := ⟨14, [.celln 2 3],
   .seq (.reg [⟨some 1, .box 27 (.t 0), none, []⟩,
    ⟨some 2, .alloc 27 3 [.int .i64 0, .nils, .nils], none, []⟩] [1, 2])
   (.seq (.dreg [(0, .light, ⟨some 3, .faddr 0 (.t 1), none, []⟩),
    (1, .light, ⟨some 4, .load1 (.t 3), none, []⟩),
    (3, .light, ⟨some 6, .faddr 1 (.t 1), none, []⟩),
    (4, .light, ⟨some 7, .load1 (.t 6), none, []⟩),
    (7, .light, ⟨some 10, .faddr 2 (.t 1), none, []⟩),
    (8, .light, ⟨some 11, .load1 (.t 10), none, []⟩),
    (2, .float, ⟨some 5, .mkrow 3 1 [.int .i64 0] 0 [], none, []⟩),
    (5, .heavy, ⟨some 8, .append 3 1 8 (.t 5) (.t 7), none, [(.load1 (.t 3), 4, none), (.load1 (.t 10), 11, none)]⟩),
    (6, .float, ⟨some 9, .mkrow 58 2 [.int .i64 0, .int .i64 0] 0 [], none, []⟩),
    (9, .heavy, ⟨some 12, .append 58 2 16 (.t 9) (.t 11), none, [(.load1 (.t 3), 4, none)]⟩),
    (10, .light, ⟨some 13, .build [.int .i64 0, .nils, .nils] [(0, 1, (.t 4)), (1, 1, (.t 8)), (2, 1, (.t 12))], none, []⟩),
    (11, .heavy, ⟨none, .store 3 (.t 2) (.t 13), none, []⟩)] [2])
   (.ret))⟩
theorem a64 : agreeFn Try.prog Try.f64 A64 = true := by kernel_rfl
def A72 : AFn := ⟨67, [.celln 2 3],
   .seq (.reg [⟨some 2, .alloc 27 3 [.int .i64 0, .nils, .nils], none, []⟩] [0, 2])
   (.seq (.reg [⟨some 8, .mov (.t 0), none, []⟩,
    ⟨some 9, .call 66 [(.t 8), (.c (.int .i64 4))], none, []⟩,
    ⟨some 10, .bin .add (.c (.int .i64 1)) (.t 9), none, []⟩,
    ⟨some 11, .call 17 [(.t 10)], none, []⟩,
    ⟨some 7, .mov (.t 11), none, []⟩,
    ⟨some 12, .extract (.t 7) 0, none, []⟩,
    ⟨some 13, .extract (.t 7) 1, none, []⟩,
    ⟨some 3, .alloc 27 3 [.int .i64 0, .nils, .nils], none, []⟩,
    ⟨none, .store 3 (.t 3) (.t 12), none, []⟩,
    ⟨some 4, .mov (.t 13), none, []⟩] [0, 2, 3])
   (.seq (.seq (.reg [⟨some 5, .mov (.c (.int .i64 0)), none, []⟩] [0, 2, 3, 5])
   (.block 0 (.loop (.seq (.seq (.reg [⟨some 14, .mov (.t 5), none, []⟩,
    ⟨some 15, .mov (.t 0), none, []⟩,
    ⟨some 16, .call 66 [(.t 15), (.c (.int .i64 14))], none, []⟩,
    ⟨some 17, .bin .lss (.t 14) (.t 16), none, []⟩] [0, 2, 3, 5, 17])
   (.cond (.t 17) (.skip)
   (.exit 0)))
   (.seq (.block 1 (.seq (.reg [⟨some 20, .mov (.t 0), none, []⟩,
    ⟨some 21, .faddr 1 (.t 3), none, []⟩,
    ⟨some 22, .load1 (.t 21), none, []⟩,
    ⟨some 23, .len (.t 22), none, []⟩,
    ⟨some 24, .call 66 [(.t 20), (.t 23)], none, []⟩,
    ⟨some 6, .mov (.t 24), none, []⟩] [0, 2, 3, 5, 6])
   (.seq (.reg [⟨some 25, .mov (.t 0), none, []⟩,
    ⟨some 26, .call 66 [(.t 25), (.c (.int .i64 6))], none, []⟩] [0, 2, 3, 5, 6, 26])
   (.block 2 (.seq (.reg [⟨some 33, .bin .eql (.t 26) (.c (.int .i64 0)), none, []⟩,
    ⟨some 32, .mov (.t 33), none, []⟩] [0, 2, 3, 5, 6, 26, 32])
   (.cond (.t 32) (.reg [⟨some 35, .loadn 3 (.t 3), none, []⟩,
    ⟨some 36, .mov (.t 6), none, []⟩,
    ⟨some 37, .call 33 [(.t 35), (.t 36)], none, []⟩,
    ⟨some 34, .mov (.t 37), none, []⟩,
    ⟨some 38, .extract (.t 34) 0, none, []⟩,
    ⟨some 39, .extract (.t 34) 1, none, []⟩,
    ⟨none, .store 3 (.t 3) (.t 38), none, []⟩] [0, 2, 3, 5])
   (.seq (.reg [⟨some 41, .bin .eql (.t 26) (.c (.int .i64 1)), none, []⟩,
    ⟨some 40, .mov (.t 41), none, []⟩] [0, 2, 3, 5, 6, 26, 40])
   (.cond (.t 40) (.reg [⟨some 43, .loadn 3 (.t 3), none, []⟩,
    ⟨some 44, .mov (.t 6), none, []⟩,
    ⟨some 45, .call 34 [(.t 43), (.t 44)], none, []⟩,
    ⟨some 42, .mov (.t 45), none, []⟩,
    ⟨some 46, .extract (.t 42) 0, none, []⟩,
    ⟨some 47, .extract (.t 42) 1, none, []⟩,
    ⟨none, .store 3 (.t 3) (.t 46), none, []⟩] [0, 2, 3, 5])
   (.seq (.seq (.reg [⟨some 49, .bin .eql (.t 26) (.c (.int .i64 2)), none, []⟩,
    ⟨some 48, .mov (.t 49), none, []⟩] [0, 2, 3, 5, 26, 48])
   (.cond (.t 48) (.skip)
   (.reg [⟨some 50, .bin .eql (.t 26) (.c (.int .i64 3)), none, []⟩,
    ⟨some 48, .mov (.t 50), none, []⟩] [0, 2, 3, 5, 26, 48])))
   (.cond (.t 48) (.dreg [(0, .light, ⟨some 52, .loadn 3 (.t 3), none, []⟩),
    (1, .light, ⟨some 53, .mov (.t 0), none, []⟩),
    (2, .heavy, ⟨some 54, .call 66 [(.t 53), (.c (.int .i64 12))], none, [(.loadn 3 (.t 3), 52, none)]⟩),
    (3, .light, ⟨some 55, .bin .add (.c (.int .i64 1)) (.t 54), none, []⟩),
    (4, .heavy, ⟨some 56, .call 32 [(.t 52), (.t 55)], none, []⟩),
    (5, .light, ⟨some 51, .mov (.t 56), none, []⟩),
    (6, .light, ⟨some 57, .extract (.t 51) 0, none, []⟩),
    (7, .light, ⟨some 58, .extract (.t 51) 1, none, []⟩),
    (8, .heavy, ⟨none, .store 3 (.t 3) (.t 57), none, []⟩)] [0, 2, 3, 5])
   (.seq (.reg [⟨some 60, .bin .eql (.t 26) (.c (.int .i64 4)), none, []⟩,
    ⟨some 59, .mov (.t 60), none, []⟩] [0, 2, 3, 5, 59])
   (.cond (.t 59) (.reg [⟨some 62, .loadn 3 (.t 3), none, []⟩,
    ⟨some 63, .call 35 [(.t 62)], none, []⟩,
    ⟨some 61, .mov (.t 63), none, []⟩,
    ⟨some 64, .extract (.t 61) 0, none, []⟩,
    ⟨some 65, .extract (.t 61) 1, none, []⟩,
    ⟨none, .store 3 (.t 3) (.t 64), none, []⟩] [0, 2, 3, 5])
   (.reg [⟨some 28, .loadn 3 (.t 3), none, []⟩,
    ⟨some 29, .call 38 [(.t 28)], none, []⟩,
    ⟨some 27, .mov (.t 29), none, []⟩,
    ⟨some 30, .extract (.t 27) 0, none, []⟩,
    ⟨some 31, .extract (.t 27) 1, none, []⟩,
    ⟨none, .store 3 (.t 3) (.t 30), none, []⟩] [0, 2, 3, 5])))))))))))))
   (.reg [⟨some 18, .mov (.t 5), none, []⟩,
    ⟨some 19, .bin .add (.t 18) (.c (.int .i64 1)), none, []⟩,
    ⟨some 5, .mov (.t 19), none, []⟩] [0, 2, 3, 5]))))))
   (.seq (.reg [⟨some 66, .loadn 3 (.t 3), none, []⟩,
    ⟨none, .store 3 (.t 2) (.t 66), none, []⟩] [2])
   (.ret))))⟩
theorem a72 : agreeFn Try.prog Try.f72 A72 = true := by kernel_rfl
def A11 : AFn := ⟨64, [.tmp 2],
   .seq (.reg [⟨some 2, .mov (.c (.bool false)), none, []⟩] [0])
   (.seq (.seq (.reg [⟨some 11, .mov (.t 0), none, []⟩,
    ⟨some 12, .call 14 [(.t 11)], none, []⟩] [0, 12])
   (.cond (.t 12) (.seq (.reg [⟨some 2, .mov (.c (.bool true)), none, []⟩] [2])
   (.ret))
   (.skip)))
   (.seq (.reg [⟨some 14, .mov (.t 0), none, []⟩,
    ⟨some 15, .call 36 [(.t 14)], none, []⟩,
    ⟨some 13, .mov (.t 15), none, []⟩,
    ⟨some 16, .extract (.t 13) 0, none, []⟩,
    ⟨some 17, .extract (.t 13) 1, none, []⟩,
    ⟨some 3, .alloc 27 3 [.int .i64 0, .nils, .nils], none, []⟩,
    ⟨none, .store 3 (.t 3) (.t 16), none, []⟩,
    ⟨some 4, .mov (.t 17), none, []⟩] [3, 4])
   (.seq (.reg [⟨some 19, .loadn 3 (.t 3), none, []⟩,
    ⟨some 20, .mov (.t 4), none, []⟩,
    ⟨some 21, .call 18 [(.t 19), (.t 20)], none, []⟩,
    ⟨some 18, .mov (.t 21), none, []⟩,
    ⟨some 22, .extract (.t 18) 0, none, []⟩,
    ⟨some 23, .extract (.t 18) 1, none, []⟩,
    ⟨some 5, .alloc 27 3 [.int .i64 0, .nils, .nils], none, []⟩,
    ⟨none, .store 3 (.t 5) (.t 22), none, []⟩,
    ⟨some 6, .mov (.t 23), none, []⟩] [3, 5, 6])
   (.seq (.seq (.reg [⟨some 24, .mov (.t 6), none, []⟩,
    ⟨some 25, .un .not (.t 24), none, []⟩] [3, 5, 25])
   (.cond (.t 25) (.seq (.reg [⟨some 26, .loadn 3 (.t 5), none, []⟩,
    ⟨some 27, .loadn 3 (.t 3), none, []⟩,
    ⟨some 28, .call 37 [(.t 26), (.t 27)], none, []⟩,
    ⟨some 2, .mov (.t 28), none, []⟩] [2])
   (.ret))
   (.skip)))
   (.seq (.reg [⟨some 30, .loadn 3 (.t 5), none, []⟩,
    ⟨some 31, .call 21 [(.t 30)], none, []⟩,
    ⟨some 29, .mov (.t 31), none, []⟩,
    ⟨some 32, .extract (.t 29) 0, none, []⟩,
    ⟨some 33, .extract (.t 29) 1, none, []⟩,
    ⟨some 7, .alloc 27 3 [.int .i64 0, .nils, .nils], none, []⟩,
    ⟨none, .store 3 (.t 7) (.t 32), none, []⟩,
    ⟨some 8, .mov (.t 33), none, []⟩] [5, 7])
   (.seq (.reg [⟨some 35, .loadn 3 (.t 7), none, []⟩,
    ⟨some 36, .call 21 [(.t 35)], none, []⟩,
    ⟨some 34, .mov (.t 36), none, []⟩,
    ⟨some 37, .extract (.t 34) 0, none, []⟩,
    ⟨some 38, .extract (.t 34) 1, none, []⟩,
    ⟨some 9, .alloc 27 3 [.int .i64 0, .nils, .nils], none, []⟩,
    ⟨none, .store 3 (.t 9) (.t 37), none, []⟩,
    ⟨some 10, .mov (.t 38), none, []⟩] [5, 7, 9, 10])
   (.seq (.reg [⟨some 39, .faddr 0 (.t 7), none, []⟩,
    ⟨some 40, .load1 (.t 39), none, []⟩,
    ⟨some 41, .faddr 0 (.t 5), none, []⟩,
    ⟨some 42, .load1 (.t 41), none, []⟩,
    ⟨some 43, .bin .add (.t 42) (.c (.int .i64 1)), none, []⟩,
    ⟨some 44, .bin .leq (.t 40) (.t 43), none, []⟩,
    ⟨some 45, .mov (.t 44), none, []⟩,
    ⟨some 46, .faddr 0 (.t 7), (some (45, true)), []⟩,
    ⟨some 47, .load1 (.t 46), (some (45, true)), []⟩,
    ⟨some 48, .faddr 0 (.t 5), (some (45, true)), []⟩,
    ⟨some 49, .load1 (.t 48), (some (45, true)), []⟩,
    ⟨some 50, .bin .eql (.t 47) (.t 49), (some (45, true)), []⟩,
    ⟨some 51, .mov (.t 50), (some (45, true)), []⟩,
    ⟨some 52, .mov (.t 10), (some (51, false)), []⟩,
    ⟨some 53, .un .not (.t 52), (some (51, false)), []⟩,
    ⟨some 54, .pick (.t 51) (.c (.bool true)) (.t 53), (some (45, true)), []⟩,
    ⟨some 55, .pick (.t 45) (.t 54) (.c (.bool false)), none, []⟩,
    ⟨some 56, .mov (.t 55), none, []⟩,
    ⟨some 57, .faddr 0 (.t 9), (some (56, true)), []⟩,
    ⟨some 58, .load1 (.t 57), (some (56, true)), []⟩,
    ⟨some 59, .faddr 0 (.t 5), (some (56, true)), []⟩,
    ⟨some 60, .load1 (.t 59), (some (56, true)), []⟩,
    ⟨some 61, .bin .add (.t 60) (.c (.int .i64 1)), (some (56, true)), []⟩,
    ⟨some 62, .bin .leq (.t 58) (.t 61), (some (56, true)), []⟩,
    ⟨some 63, .pick (.t 56) (.t 62) (.c (.bool false)), none, []⟩,
    ⟨some 2, .mov (.t 63), none, []⟩] [2])
   (.ret))))))))⟩
theorem a11 : agreeFn Try.prog Try.f11 A11 = true := by kernel_rfl
def A6 : AFn := ⟨72, [.tmp 2],
   .seq (.reg [⟨some 2, .mov (.c (.bool false)), none, []⟩] [0])
   (.seq (.seq (.reg [⟨some 9, .mov (.t 0), none, []⟩,
    ⟨some 10, .call 14 [(.t 9)], none, []⟩] [0, 10])
   (.cond (.t 10) (.seq (.reg [⟨some 2, .mov (.c (.bool true)), none, []⟩] [2])
   (.ret))
   (.skip)))
   (.seq (.reg [⟨some 11, .mov (.t 0), none, []⟩,
    ⟨some 12, .call 31 [(.t 11)], none, []⟩,
    ⟨some 3, .alloc 27 3 [.int .i64 0, .nils, .nils], none, []⟩,
    ⟨none, .store 3 (.t 3) (.t 12), none, []⟩] [3])
   (.seq (.seq (.reg [⟨some 13, .loadn 3 (.t 3), none, []⟩,
    ⟨some 14, .call 24 [(.t 13)], none, []⟩,
    ⟨some 15, .un .not (.t 14), none, []⟩,
    ⟨some 16, .mov (.t 15), none, []⟩,
    ⟨some 17, .faddr 0 (.t 3), (some (16, false)), []⟩,
    ⟨some 18, .load1 (.t 17), (some (16, false)), []⟩,
    ⟨some 19, .bin .gtr (.t 18) (.c (.int .i64 998)), (some (16, false)), []⟩,
    ⟨some 20, .pick (.t 16) (.c (.bool true)) (.t 19), none, []⟩] [3, 20])
   (.cond (.t 20) (.seq (.dreg [(0, .light, ⟨some 21, .loadn 3 (.t 3), none, []⟩),
    (2, .light, ⟨some 23, .loadn 3 (.t 3), none, []⟩),
    (1, .heavy, ⟨some 22, .call 24 [(.t 21)], none, [(.loadn 3 (.t 3), 23, none)]⟩),
    (3, .heavy, ⟨some 24, .call 29 [(.t 23)], none, []⟩),
    (4, .light, ⟨some 25, .eqb false (.t 22) (.t 24), none, []⟩),
    (5, .light, ⟨some 2, .mov (.t 25), none, []⟩)] [2])
   (.ret))
   (.skip)))
   (.seq (.seq (.reg [⟨some 4, .mov (.c (.int .i64 0)), none, []⟩] [3, 4])
   (.block 0 (.loop (.seq (.seq (.reg [⟨some 26, .mov (.t 4), none, []⟩,
    ⟨some 27, .faddr 1 (.t 3), none, []⟩,
    ⟨some 28, .load1 (.t 27), none, []⟩,
    ⟨some 29, .len (.t 28), none, []⟩,
    ⟨some 30, .bin .lss (.t 26) (.t 29), none, []⟩] [3, 4, 30])
   (.cond (.t 30) (.skip)
   (.exit 0)))
   (.seq (.block 1 (.reg [⟨some 34, .loadn 3 (.t 3), none, []⟩,
    ⟨some 35, .mov (.t 4), none, []⟩,
    ⟨some 36, .call 19 [(.t 34), (.t 35)], none, []⟩,
    ⟨some 33, .mov (.t 36), none, []⟩,
    ⟨some 37, .extract (.t 33) 0, none, []⟩,
    ⟨some 38, .extract (.t 33) 1, none, []⟩,
    ⟨none, .store 3 (.t 3) (.t 37), none, []⟩] [3, 4]))
   (.reg [⟨some 31, .mov (.t 4), none, []⟩,
    ⟨some 32, .bin .add (.t 31) (.c (.int .i64 1)), none, []⟩,
    ⟨some 4, .mov (.t 32), none, []⟩] [3, 4]))))))
   (.seq (.reg [⟨some 40, .loadn 3 (.t 3), none, []⟩,
    ⟨some 41, .call 21 [(.t 40)], none, []⟩,
    ⟨some 39, .mov (.t 41), none, []⟩,
    ⟨some 42, .extract (.t 39) 0, none, []⟩,
    ⟨some 43, .extract (.t 39) 1, none, []⟩,
    ⟨none, .store 3 (.t 3) (.t 42), none, []⟩,
    ⟨some 5, .mov (.t 43), none, []⟩] [3, 5])
   (.seq (.reg [⟨some 45, .loadn 3 (.t 3), none, []⟩,
    ⟨some 46, .call 21 [(.t 45)], none, []⟩,
    ⟨some 44, .mov (.t 46), none, []⟩,
    ⟨some 47, .extract (.t 44) 0, none, []⟩,
    ⟨some 48, .extract (.t 44) 1, none, []⟩,
    ⟨none, .store 3 (.t 3) (.t 47), none, []⟩,
    ⟨some 6, .mov (.t 48), none, []⟩] [3, 5, 6])
   (.seq (.reg [⟨some 50, .loadn 3 (.t 3), none, []⟩,
    ⟨some 51, .call 22 [(.t 50)], none, []⟩,
    ⟨some 49, .mov (.t 51), none, []⟩,
    ⟨some 52, .extract (.t 49) 0, none, []⟩,
    ⟨some 53, .extract (.t 49) 1, none, []⟩,
    ⟨some 7, .alloc 27 3 [.int .i64 0, .nils, .nils], none, []⟩,
    ⟨none, .store 3 (.t 7) (.t 52), none, []⟩,
    ⟨some 8, .mov (.t 53), none, []⟩] [3, 5, 6, 7, 8])
   (.seq (.reg [⟨some 54, .mov (.t 5), none, []⟩,
    ⟨some 55, .mov (.t 54), none, []⟩,
    ⟨some 56, .mov (.t 6), (some (55, true)), []⟩,
    ⟨some 57, .pick (.t 55) (.t 56) (.c (.bool false)), none, []⟩,
    ⟨some 58, .mov (.t 57), none, []⟩,
    ⟨some 59, .faddr 2 (.t 7), (some (58, true)), []⟩,
    ⟨some 60, .load1 (.t 59), (some (58, true)), []⟩,
    ⟨some 61, .len (.t 60), (some (58, true)), []⟩,
    ⟨some 62, .bin .eql (.t 61) (.c (.int .i64 0)), (some (58, true)), []⟩,
    ⟨some 63, .pick (.t 58) (.t 62) (.c (.bool false)), none, []⟩,
    ⟨some 64, .mov (.t 63), none, []⟩,
    ⟨some 65, .mov (.t 8), (some (64, true)), []⟩,
    ⟨some 66, .len (.t 65), (some (64, true)), []⟩,
    ⟨some 67, .faddr 2 (.t 3), (some (64, true)), []⟩,
    ⟨some 68, .load1 (.t 67), (some (64, true)), []⟩,
    ⟨some 69, .len (.t 68), (some (64, true)), []⟩,
    ⟨some 70, .bin .eql (.t 66) (.t 69), (some (64, true)), []⟩,
    ⟨some 71, .pick (.t 64) (.t 70) (.c (.bool false)), none, []⟩,
    ⟨some 2, .mov (.t 71), none, []⟩] [2])
   (.ret)))))))))⟩
theorem a6 : agreeFn Try.prog Try.f6 A6 = true := by kernel_rfl
def A13 : AFn := ⟨289, [.tmp 2],
   .seq (.reg [⟨some 2, .mov (.c (.bool false)), none, []⟩] [0])
   (.seq (.seq (.reg [⟨some 37, .mov (.t 0), none, []⟩,
    ⟨some 38, .call 14 [(.t 37)], none, []⟩] [0, 38])
   (.cond (.t 38) (.seq (.reg [⟨some 2, .mov (.c (.bool true)), none, []⟩] [2])
   (.ret))
   (.skip)))
   (.seq (.reg [⟨some 40, .mov (.t 0), none, []⟩,
    ⟨some 41, .call 36 [(.t 40)], none, []⟩,
    ⟨some 39, .mov (.t 41), none, []⟩,
    ⟨some 42, .extract (.t 39) 0, none, []⟩,
    ⟨some 43, .extract (.t 39) 1, none, []⟩,
    ⟨some 3, .alloc 27 3 [.int .i64 0, .nils, .nils], none, []⟩,
    ⟨none, .store 3 (.t 3) (.t 42), none, []⟩,
    ⟨some 4, .mov (.t 43), none, []⟩] [0, 3, 4])
   (.seq (.reg [⟨some 45, .loadn 3 (.t 3), none, []⟩,
    ⟨some 46, .mov (.t 4), none, []⟩,
    ⟨some 47, .call 18 [(.t 45), (.t 46)], none, []⟩,
    ⟨some 44, .mov (.t 47), none, []⟩,
    ⟨some 48, .extract (.t 44) 0, none, []⟩,
    ⟨some 49, .extract (.t 44) 1, none, []⟩,
    ⟨some 5, .alloc 27 3 [.int .i64 0, .nils, .nils], none, []⟩,
    ⟨none, .store 3 (.t 5) (.t 48), none, []⟩,
    ⟨some 6, .mov (.t 49), none, []⟩] [0, 3, 4, 5, 6])
   (.seq (.reg [⟨some 51, .loadn 3 (.t 3), none, []⟩,
    ⟨some 52, .mov (.t 4), none, []⟩,
    ⟨some 53, .call 33 [(.t 51), (.t 52)], none, []⟩,
    ⟨some 50, .mov (.t 53), none, []⟩,
    ⟨some 54, .extract (.t 50) 0, none, []⟩,
    ⟨some 55, .extract (.t 50) 1, none, []⟩,
    ⟨some 7, .alloc 27 3 [.int .i64 0, .nils, .nils], none, []⟩,
    ⟨none, .store 3 (.t 7) (.t 54), none, []⟩,
    ⟨some 8, .mov (.t 55), none, []⟩] [0, 3, 5, 6, 7, 8])
   (.seq (.reg [⟨some 57, .mov (.t 0), none, []⟩,
    ⟨some 58, .call 42 [(.t 57)], none, []⟩,
    ⟨some 56, .mov (.t 58), none, []⟩,
    ⟨some 59, .extract (.t 56) 0, none, []⟩,
    ⟨some 60, .extract (.t 56) 1, none, []⟩,
    ⟨some 9, .alloc 27 3 [.int .i64 0, .nils, .nils], none, []⟩,
    ⟨none, .store 3 (.t 9) (.t 59), none, []⟩,
    ⟨some 10, .mov (.t 60), none, []⟩] [0, 3, 5, 6, 7, 8, 9, 10])
   (.seq (.reg [⟨some 62, .loadn 3 (.t 9), none, []⟩,
    ⟨some 63, .mov (.t 10), none, []⟩,
    ⟨some 64, .call 19 [(.t 62), (.t 63)], none, []⟩,
    ⟨some 61, .mov (.t 64), none, []⟩,
    ⟨some 65, .extract (.t 61) 0, none, []⟩,
    ⟨some 66, .extract (.t 61) 1, none, []⟩,
    ⟨some 11, .alloc 27 3 [.int .i64 0, .nils, .nils], none, []⟩,
    ⟨none, .store 3 (.t 11) (.t 65), none, []⟩,
    ⟨some 12, .mov (.t 66), none, []⟩] [0, 3, 5, 6, 7, 8, 9, 10, 11, 12])
   (.seq (.reg [⟨some 68, .loadn 3 (.t 9), none, []⟩,
    ⟨some 69, .mov (.t 10), none, []⟩,
    ⟨some 70, .call 34 [(.t 68), (.t 69)], none, []⟩,
    ⟨some 67, .mov (.t 70), none, []⟩,
    ⟨some 71, .extract (.t 67) 0, none, []⟩,
    ⟨some 72, .extract (.t 67) 1, none, []⟩,
    ⟨some 13, .alloc 27 3 [.int .i64 0, .nils, .nils], none, []⟩,
    ⟨none, .store 3 (.t 13) (.t 71), none, []⟩,
    ⟨some 14, .mov (.t 72), none, []⟩] [0, 3, 5, 6, 7, 8, 9, 11, 12, 13, 14])
   (.seq (.reg [⟨some 74, .mov (.t 0), none, []⟩,
    ⟨some 75, .call 43 [(.t 74)], none, []⟩,
    ⟨some 73, .mov (.t 75), none, []⟩,
    ⟨some 76, .extract (.t 73) 0, none, []⟩,
    ⟨some 77, .extract (.t 73) 1, none, []⟩,
    ⟨some 15, .alloc 27 3 [.int .i64 0, .nils, .nils], none, []⟩,
    ⟨none, .store 3 (.t 15) (.t 76), none, []⟩,
    ⟨some 16, .mov (.t 77), none, []⟩] [0, 3, 5, 6, 7, 8, 9, 11, 12, 13, 14, 15, 16])
   (.seq (.reg [⟨some 79, .loadn 3 (.t 15), none, []⟩,
    ⟨some 80, .mov (.t 16), none, []⟩,
    ⟨some 81, .call 20 [(.t 79), (.t 80)], none, []⟩,
    ⟨some 78, .mov (.t 81), none, []⟩,
    ⟨some 82, .extract (.t 78) 0, none, []⟩,
    ⟨some 83, .extract (.t 78) 1, none, []⟩,
    ⟨some 17, .alloc 27 3 [.int .i64 0, .nils, .nils], none, []⟩,
    ⟨none, .store 3 (.t 17) (.t 82), none, []⟩,
    ⟨some 18, .mov (.t 83), none, []⟩] [0, 3, 5, 6, 7, 8, 9, 11, 12, 13, 14, 15, 16, 17, 18])
   (.seq (.reg [⟨some 85, .loadn 3 (.t 15), none, []⟩,
    ⟨some 86, .mov (.t 16), none, []⟩,
    ⟨some 87, .call 32 [(.t 85), (.t 86)], none, []⟩,
    ⟨some 84, .mov (.t 87), none, []⟩,
    ⟨some 88, .extract (.t 84) 0, none, []⟩,
    ⟨some 89, .extract (.t 84) 1, none, []⟩,
    ⟨some 19, .alloc 27 3 [.int .i64 0, .nils, .nils], none, []⟩,
    ⟨none, .store 3 (.t 19) (.t 88), none, []⟩,
    ⟨some 20, .mov (.t 89), none, []⟩] [0, 3, 5, 6, 7, 8, 9, 11, 12, 13, 14, 15, 17, 18, 19, 20])
   (.seq (.reg [⟨some 90, .mov (.t 0), none, []⟩,
    ⟨some 91, .call 44 [(.t 90)], none, []⟩,
    ⟨some 21, .alloc 27 3 [.int .i64 0, .nils, .nils], none, []⟩,
    ⟨none, .store 3 (.t 21) (.t 91), none, []⟩] [0, 3, 5, 6, 7, 8, 9, 11, 12, 13, 14, 15, 17, 18, 19, 20, 21])
   (.seq (.reg [⟨some 93, .loadn 3 (.t 21), none, []⟩,
    ⟨some 94, .call 21 [(.t 93)], none, []⟩,
    ⟨some 92, .mov (.t 94), none, []⟩,
    ⟨some 95, .extract (.t 92) 0, none, []⟩,
    ⟨some 96, .extract (.t 92) 1, none, []⟩,
    ⟨some 22, .alloc 27 3 [.int .i64 0, .nils, .nils], none, []⟩,
    ⟨none, .store 3 (.t 22) (.t 95), none, []⟩,
    ⟨some 23, .mov (.t 96), none, []⟩] [0, 3, 5, 6, 7, 8, 9, 11, 12, 13, 14, 15, 17, 18, 19, 20, 21, 22, 23])
   (.seq (.reg [⟨some 98, .loadn 3 (.t 21), none, []⟩,
    ⟨some 99, .call 35 [(.t 98)], none, []⟩,
    ⟨some 97, .mov (.t 99), none, []⟩,
    ⟨some 100, .extract (.t 97) 0, none, []⟩,
    ⟨some 101, .extract (.t 97) 1, none, []⟩,
    ⟨some 24, .alloc 27 3 [.int .i64 0, .nils, .nils], none, []⟩,
    ⟨none, .store 3 (.t 24) (.t 100), none, []⟩,
    ⟨some 25, .mov (.t 101), none, []⟩] [0, 3, 5, 6, 7, 8, 9, 11, 12, 13, 14, 15, 17, 18, 19, 20, 21, 22, 23, 24, 25])
   (.seq (.reg [⟨some 102, .mov (.t 0), none, []⟩,
    ⟨some 103, .call 31 [(.t 102)], none, []⟩,
    ⟨some 26, .alloc 27 3 [.int .i64 0, .nils, .nils], none, []⟩,
    ⟨none, .store 3 (.t 26) (.t 103), none, []⟩] [0, 3, 5, 6, 7, 8, 9, 11, 12, 13, 14, 15, 17, 18, 19, 20, 21, 22, 23, 24, 25, 26])
   (.seq (.reg [⟨some 105, .loadn 3 (.t 26), none, []⟩,
    ⟨some 106, .call 22 [(.t 105)], none, []⟩,
    ⟨some 104, .mov (.t 106), none, []⟩,
    ⟨some 107, .extract (.t 104) 0, none, []⟩,
    ⟨some 108, .extract (.t 104) 1, none, []⟩,
    ⟨some 27, .alloc 27 3 [.int .i64 0, .nils, .nils], none, []⟩,
    ⟨none, .store 3 (.t 27) (.t 107), none, []⟩,
    ⟨some 28, .mov (.t 108), none, []⟩] [0, 3, 5, 6, 7, 8, 9, 11, 12, 13, 14, 15, 17, 18, 19, 20, 21, 22, 23, 24, 25, 26, 27, 28])
   (.seq (.reg [⟨some 110, .loadn 3 (.t 26), none, []⟩,
    ⟨some 111, .call 38 [(.t 110)], none, []⟩,
    ⟨some 109, .mov (.t 111), none, []⟩,
    ⟨some 112, .extract (.t 109) 0, none, []⟩,
    ⟨some 113, .extract (.t 109) 1, none, []⟩,
    ⟨some 29, .alloc 27 3 [.int .i64 0, .nils, .nils], none, []⟩,
    ⟨none, .store 3 (.t 29) (.t 112), none, []⟩,
    ⟨some 30, .mov (.t 113), none, []⟩] [0, 3, 5, 6, 7, 8, 9, 11, 12, 13, 14, 15, 17, 18, 19, 20, 21, 22, 23, 24, 25, 26, 27, 28, 29, 30])
   (.seq (.reg [⟨some 114, .mov (.t 0), none, []⟩,
    ⟨some 115, .call 45 [(.t 114)], none, []⟩,
    ⟨some 116, .mov (.t 0), none, []⟩,
    ⟨some 117, .call 46 [(.t 116)], none, []⟩,
    ⟨some 31, .alloc 27 3 [.int .i64 0, .nils, .nils], none, []⟩,
    ⟨none, .store 3 (.t 31) (.t 115), none, []⟩,
    ⟨some 32, .mov (.t 117), none, []⟩] [3, 5, 6, 7, 8, 9, 11, 12, 13, 14, 15, 17, 18, 19, 20, 21, 22, 23, 24, 25, 26, 27, 28, 29, 30, 31, 32])
   (.seq (.reg [⟨some 119, .mov (.t 32), none, []⟩,
    ⟨some 120, .call 15 [(.t 119)], none, []⟩,
    ⟨some 118, .mov (.t 120), none, []⟩,
    ⟨some 121, .extract (.t 118) 0, none, []⟩,
    ⟨some 122, .extract (.t 118) 1, none, []⟩,
    ⟨some 33, .alloc 27 3 [.int .i64 0, .nils, .nils], none, []⟩,
    ⟨none, .store 3 (.t 33) (.t 121), none, []⟩,
    ⟨some 34, .mov (.t 122), none, []⟩] [3, 5, 6, 7, 8, 9, 11, 12, 13, 14, 15, 17, 18, 19, 20, 21, 22, 23, 24, 25, 26, 27, 28, 29, 30, 31, 32, 33, 34])
   (.seq (.reg [⟨some 124, .mov (.t 32), none, []⟩,
    ⟨some 125, .call 17 [(.t 124)], none, []⟩,
    ⟨some 123, .mov (.t 125), none, []⟩,
    ⟨some 126, .extract (.t 123) 0, none, []⟩,
    ⟨some 127, .extract (.t 123) 1, none, []⟩,
    ⟨some 35, .alloc 27 3 [.int .i64 0, .nils, .nils], none, []⟩,
    ⟨none, .store 3 (.t 35) (.t 126), none, []⟩,
    ⟨some 36, .mov (.t 127), none, []⟩] [3, 5, 6, 7, 8, 9, 11, 12, 13, 14, 15, 17, 18, 19, 20, 21, 22, 23, 24, 25, 26, 27, 28, 29, 30, 31, 33, 34, 35, 36])
   (.seq (.seq (.dreg [(0, .light, ⟨some 128, .mov (.t 6), none, []⟩),
    (1, .light, ⟨some 129, .mov (.t 8), none, []⟩),
    (2, .light, ⟨some 130, .eqb true (.t 128) (.t 129), none, []⟩),
    (3, .light, ⟨some 131, .mov (.t 130), none, []⟩),
    (4, .light, ⟨some 132, .loadn 3 (.t 5), (some (131, false)), []⟩),
    (5, .light, ⟨some 133, .loadn 3 (.t 7), (some (131, false)), []⟩),
    (6, .heavy, ⟨some 134, .call 37 [(.t 132), (.t 133)], (some (131, false)), []⟩),
    (7, .light, ⟨some 135, .un .not (.t 134), (some (131, false)), []⟩),
    (8, .light, ⟨some 136, .pick (.t 131) (.c (.bool true)) (.t 135), none, []⟩),
    (9, .light, ⟨some 137, .mov (.t 136), none, []⟩),
    (10, .light, ⟨some 138, .mov (.t 12), (some (137, false)), []⟩),
    (11, .light, ⟨some 139, .mov (.t 14), (some (137, false)), []⟩),
    (12, .light, ⟨some 140, .eqb true (.t 138) (.t 139), (some (137, false)), []⟩),
    (13, .light, ⟨some 141, .pick (.t 137) (.c (.bool true)) (.t 140), none, []⟩),
    (14, .light, ⟨some 142, .mov (.t 141), none, []⟩),
    (15, .light, ⟨some 143, .loadn 3 (.t 11), (some (142, false)), []⟩),
    (16, .light, ⟨some 144, .loadn 3 (.t 13), (some (142, false)), []⟩),
    (17, .heavy, ⟨some 145, .call 37 [(.t 143), (.t 144)], (some (142, false)), []⟩),
    (18, .light, ⟨some 146, .un .not (.t 145), (some (142, false)), []⟩),
    (19, .light, ⟨some 147, .pick (.t 142) (.c (.bool true)) (.t 146), none, []⟩),
    (20, .light, ⟨some 148, .mov (.t 147), none, []⟩),
    (21, .light, ⟨some 149, .mov (.t 18), (some (148, false)), []⟩),
    (22, .light, ⟨some 150, .mov (.t 20), (some (148, false)), []⟩),
    (23, .light, ⟨some 151, .eqb true (.t 149) (.t 150), (some (148, false)), []⟩),
    (24, .light, ⟨some 152, .pick (.t 148) (.c (.bool true)) (.t 151), none, []⟩),
    (25, .light, ⟨some 153, .mov (.t 152), none, []⟩),
    (26, .light, ⟨some 154, .loadn 3 (.t 17), (some (153, false)), []⟩),
    (27, .light, ⟨some 155, .loadn 3 (.t 19), (some (153, false)), []⟩),
    (28, .heavy, ⟨some 156, .call 37 [(.t 154), (.t 155)], (some (153, false)), []⟩),
    (29, .light, ⟨some 157, .un .not (.t 156), (some (153, false)), []⟩),
    (30, .light, ⟨some 158, .pick (.t 153) (.c (.bool true)) (.t 157), none, []⟩),
    (31, .light, ⟨some 159, .mov (.t 158), none, []⟩),
    (32, .light, ⟨some 160, .mov (.t 23), (some (159, false)), []⟩),
    (33, .light, ⟨some 161, .mov (.t 25), (some (159, false)), []⟩),
    (34, .light, ⟨some 162, .eqb true (.t 160) (.t 161), (some (159, false)), []⟩),
    (35, .light, ⟨some 163, .pick (.t 159) (.c (.bool true)) (.t 162), none, []⟩),
    (36, .light, ⟨some 164, .mov (.t 163), none, []⟩),
    (37, .light, ⟨some 165, .loadn 3 (.t 22), (some (164, false)), []⟩),
    (38, .light, ⟨some 166, .loadn 3 (.t 24), (some (164, false)), []⟩),
    (39, .heavy, ⟨some 167, .call 37 [(.t 165), (.t 166)], (some (164, false)), []⟩),
    (40, .light, ⟨some 168, .un .not (.t 167), (some (164, false)), []⟩),
    (41, .light, ⟨some 169, .pick (.t 164) (.c (.bool true)) (.t 168), none, []⟩),
    (42, .light, ⟨some 170, .mov (.t 169), none, []⟩),
    (43, .light, ⟨some 171, .loadn 3 (.t 27), (some (170, false)), []⟩),
    (44, .light, ⟨some 172, .loadn 3 (.t 29), (some (170, false)), []⟩),
    (45, .heavy, ⟨some 173, .call 37 [(.t 171), (.t 172)], (some (170, false)), []⟩),
    (46, .light, ⟨some 174, .un .not (.t 173), (some (170, false)), []⟩),
    (47, .light, ⟨some 175, .pick (.t 170) (.c (.bool true)) (.t 174), none, []⟩),
    (48, .light, ⟨some 176, .mov (.t 175), none, []⟩),
    (49, .light, ⟨some 177, .mov (.t 28), (some (176, false)), []⟩),
    (50, .light, ⟨some 178, .mov (.t 30), (some (176, false)), []⟩),
    (51, .heavy, ⟨some 179, .call 47 [(.t 177), (.t 178)], (some (176, false)), []⟩),
    (52, .light, ⟨some 180, .un .not (.t 179), (some (176, false)), []⟩),
    (53, .light, ⟨some 181, .pick (.t 176) (.c (.bool true)) (.t 180), none, []⟩),
    (54, .light, ⟨some 182, .mov (.t 181), none, []⟩),
    (55, .light, ⟨some 183, .loadn 3 (.t 31), (some (182, false)), []⟩),
    (57, .light, ⟨some 185, .loadn 3 (.t 31), (some (182, false)), []⟩),
    (56, .heavy, ⟨some 184, .call 24 [(.t 183)], (some (182, false)), [(.loadn 3 (.t 31), 185, some (182, false))]⟩),
    (58, .heavy, ⟨some 186, .call 29 [(.t 185)], (some (182, false)), []⟩),
    (59, .light, ⟨some 187, .eqb true (.t 184) (.t 186), (some (182, false)), []⟩),
    (60, .light, ⟨some 188, .pick (.t 182) (.c (.bool true)) (.t 187), none, []⟩),
    (61, .light, ⟨some 189, .mov (.t 188), none, []⟩),
    (62, .light, ⟨some 190, .mov (.t 34), (some (189, false)), []⟩),
    (63, .light, ⟨some 191, .mov (.t 36), (some (189, false)), []⟩),
    (64, .light, ⟨some 192, .eqb true (.t 190) (.t 191), (some (189, false)), []⟩),
    (65, .light, ⟨some 193, .pick (.t 189) (.c (.bool true)) (.t 192), none, []⟩),
    (66, .light, ⟨some 194, .mov (.t 193), none, []⟩),
    (67, .light, ⟨some 195, .loadn 3 (.t 33), (some (194, false)), []⟩),
    (68, .light, ⟨some 196, .loadn 3 (.t 35), (some (194, false)), []⟩),
    (69, .heavy, ⟨some 197, .call 37 [(.t 195), (.t 196)], (some (194, false)), []⟩),
    (70, .light, ⟨some 198, .un .not (.t 197), (some (194, false)), []⟩),
    (71, .light, ⟨some 199, .pick (.t 194) (.c (.bool true)) (.t 198), none, []⟩)] [3, 5, 6, 9, 11, 12, 15, 17, 18, 21, 22, 23, 26, 27, 28, 199])
   (.cond (.t 199) (.seq (.reg [⟨some 2, .mov (.c (.bool false)), none, []⟩] [2])
   (.ret))
   (.skip)))
   (.seq (.seq (.reg [⟨some 200, .mov (.t 6), none, []⟩,
    ⟨some 201, .un .not (.t 200), none, []⟩,
    ⟨some 202, .mov (.t 201), none, []⟩,
    ⟨some 203, .loadn 3 (.t 5), (some (202, true)), []⟩,
    ⟨some 204, .loadn 3 (.t 3), (some (202, true)), []⟩,
    ⟨some 205, .call 37 [(.t 203), (.t 204)], (some (202, true)), []⟩,
    ⟨some 206, .un .not (.t 205), (some (202, true)), []⟩,
    ⟨some 207, .pick (.t 202) (.t 206) (.c (.bool false)), none, []⟩,
    ⟨some 208, .mov (.t 207), none, []⟩,
    ⟨some 209, .mov (.t 12), (some (208, false)), []⟩,
    ⟨some 210, .un .not (.t 209), (some (208, false)), []⟩,
    ⟨some 211, .mov (.t 210), (some (208, false)), []⟩,
    ⟨some 212, .loadn 3 (.t 11), (some (211, true)), []⟩,
    ⟨some 213, .loadn 3 (.t 9), (some (211, true)), []⟩,
    ⟨some 214, .call 37 [(.t 212), (.t 213)], (some (211, true)), []⟩,
    ⟨some 215, .un .not (.t 214), (some (211, true)), []⟩,
    ⟨some 216, .pick (.t 211) (.t 215) (.c (.bool false)), (some (208, false)), []⟩,
    ⟨some 217, .pick (.t 208) (.c (.bool true)) (.t 216), none, []⟩,
    ⟨some 218, .mov (.t 217), none, []⟩,
    ⟨some 219, .mov (.t 18), (some (218, false)), []⟩,
    ⟨some 220, .un .not (.t 219), (some (218, false)), []⟩,
    ⟨some 221, .mov (.t 220), (some (218, false)), []⟩,
    ⟨some 222, .loadn 3 (.t 17), (some (221, true)), []⟩,
    ⟨some 223, .loadn 3 (.t 15), (some (221, true)), []⟩,
    ⟨some 224, .call 37 [(.t 222), (.t 223)], (some (221, true)), []⟩,
    ⟨some 225, .un .not (.t 224), (some (221, true)), []⟩,
    ⟨some 226, .pick (.t 221) (.t 225) (.c (.bool false)), (some (218, false)), []⟩,
    ⟨some 227, .pick (.t 218) (.c (.bool true)) (.t 226), none, []⟩,
    ⟨some 228, .mov (.t 227), none, []⟩,
    ⟨some 229, .mov (.t 23), (some (228, false)), []⟩,
    ⟨some 230, .un .not (.t 229), (some (228, false)), []⟩,
    ⟨some 231, .mov (.t 230), (some (228, false)), []⟩,
    ⟨some 232, .loadn 3 (.t 22), (some (231, true)), []⟩,
    ⟨some 233, .loadn 3 (.t 21), (some (231, true)), []⟩,
    ⟨some 234, .call 37 [(.t 232), (.t 233)], (some (231, true)), []⟩,
    ⟨some 235, .un .not (.t 234), (some (231, true)), []⟩,
    ⟨some 236, .pick (.t 231) (.t 235) (.c (.bool false)), (some (228, false)), []⟩,
    ⟨some 237, .pick (.t 228) (.c (.bool true)) (.t 236), none, []⟩] [5, 6, 11, 12, 17, 18, 22, 23, 26, 27, 28, 237])
   (.cond (.t 237) (.seq (.reg [⟨some 2, .mov (.c (.bool false)), none, []⟩] [2])
   (.ret))
   (.skip)))
   (.seq (.reg [⟨some 238, .mov (.t 6), none, []⟩,
    ⟨some 239, .un .not (.t 238), none, []⟩,
    ⟨some 240, .mov (.t 239), none, []⟩,
    ⟨some 241, .loadn 3 (.t 5), (some (240, false)), []⟩,
    ⟨some 242, .call 24 [(.t 241)], (some (240, false)), []⟩,
    ⟨some 243, .pick (.t 240) (.c (.bool true)) (.t 242), none, []⟩,
    ⟨some 244, .mov (.t 243), none, []⟩,
    ⟨some 245, .mov (.t 12), (some (244, true)), []⟩,
    ⟨some 246, .un .not (.t 245), (some (244, true)), []⟩,
    ⟨some 247, .mov (.t 246), (some (244, true)), []⟩,
    ⟨some 248, .loadn 3 (.t 11), (some (247, false)), []⟩,
    ⟨some 249, .call 24 [(.t 248)], (some (247, false)), []⟩,
    ⟨some 250, .pick (.t 247) (.c (.bool true)) (.t 249), (some (244, true)), []⟩,
    ⟨some 251, .pick (.t 244) (.t 250) (.c (.bool false)), none, []⟩,
    ⟨some 252, .mov (.t 251), none, []⟩,
    ⟨some 253, .mov (.t 18), (some (252, true)), []⟩,
    ⟨some 254, .un .not (.t 253), (some (252, true)), []⟩,
    ⟨some 255, .mov (.t 254), (some (252, true)), []⟩,
    ⟨some 256, .loadn 3 (.t 17), (some (255, false)), []⟩,
    ⟨some 257, .call 24 [(.t 256)], (some (255, false)), []⟩,
    ⟨some 258, .pick (.t 255) (.c (.bool true)) (.t 257), (some (252, true)), []⟩,
    ⟨some 259, .pick (.t 252) (.t 258) (.c (.bool false)), none, []⟩,
    ⟨some 260, .mov (.t 259), none, []⟩,
    ⟨some 261, .mov (.t 23), (some (260, true)), []⟩,
    ⟨some 262, .un .not (.t 261), (some (260, true)), []⟩,
    ⟨some 263, .mov (.t 262), (some (260, true)), []⟩,
    ⟨some 264, .loadn 3 (.t 22), (some (263, false)), []⟩,
    ⟨some 265, .call 24 [(.t 264)], (some (263, false)), []⟩,
    ⟨some 266, .pick (.t 263) (.c (.bool true)) (.t 265), (some (260, true)), []⟩,
    ⟨some 267, .pick (.t 260) (.t 266) (.c (.bool false)), none, []⟩,
    ⟨some 268, .mov (.t 267), none, []⟩,
    ⟨some 269, .loadn 3 (.t 26), (some (268, true)), []⟩,
    ⟨some 270, .call 24 [(.t 269)], (some (268, true)), []⟩,
    ⟨some 271, .un .not (.t 270), (some (268, true)), []⟩,
    ⟨some 272, .mov (.t 271), (some (268, true)), []⟩,
    ⟨some 273, .loadn 3 (.t 27), (some (272, false)), []⟩,
    ⟨some 274, .call 24 [(.t 273)], (some (272, false)), []⟩,
    ⟨some 275, .mov (.t 274), (some (272, false)), []⟩,
    ⟨some 276, .faddr 2 (.t 27), (some (275, true)), []⟩,
    ⟨some 277, .load1 (.t 276), (some (275, true)), []⟩,
    ⟨some 278, .len (.t 277), (some (275, true)), []⟩,
    ⟨some 279, .mov (.t 28), (some (275, true)), []⟩,
    ⟨some 280, .len (.t 279), (some (275, true)), []⟩,
    ⟨some 281, .bin .add (.t 278) (.t 280), (some (275, true)), []⟩,
    ⟨some 282, .faddr 2 (.t 26), (some (275, true)), []⟩,
    ⟨some 283, .load1 (.t 282), (some (275, true)), []⟩,
    ⟨some 284, .len (.t 283), (some (275, true)), []⟩,
    ⟨some 285, .bin .eql (.t 281) (.t 284), (some (275, true)), []⟩,
    ⟨some 286, .pick (.t 275) (.t 285) (.c (.bool false)), (some (272, false)), []⟩,
    ⟨some 287, .pick (.t 272) (.c (.bool true)) (.t 286), (some (268, true)), []⟩,
    ⟨some 288, .pick (.t 268) (.t 287) (.c (.bool false)), none, []⟩,
    ⟨some 2, .mov (.t 288), none, []⟩] [2])
   (.ret)))))))))))))))))))))))⟩
theorem a13 : agreeFn Try.prog Try.f13 A13 = true := by kernel_rfl
end Go.Proofs.Ytpidphppldimkaa.Den
