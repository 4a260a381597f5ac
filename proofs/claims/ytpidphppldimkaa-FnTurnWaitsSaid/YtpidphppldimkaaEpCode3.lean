import Derived.Test.YtpidphppldimkaaEpCode2
namespace Go.Proofs.Ytpidphppldimkaa.Den
open Go.RowKit
set_option maxRecDepth 100000
def A37 : AFn := ⟨46, [.tmp 4],
   .seq (.reg [⟨some 2, .box 27 (.t 0), none, []⟩,
    ⟨some 3, .box 27 (.t 1), none, []⟩,
    ⟨some 4, .mov (.c (.bool false)), none, []⟩] [2, 3])
   (.seq (.seq (.reg [⟨some 6, .faddr 0 (.t 2), none, []⟩,
    ⟨some 7, .load1 (.t 6), none, []⟩,
    ⟨some 8, .faddr 0 (.t 3), none, []⟩,
    ⟨some 9, .load1 (.t 8), none, []⟩,
    ⟨some 10, .bin .neq (.t 7) (.t 9), none, []⟩,
    ⟨some 11, .mov (.t 10), none, []⟩,
    ⟨some 12, .faddr 1 (.t 2), (some (11, false)), []⟩,
    ⟨some 13, .load1 (.t 12), (some (11, false)), []⟩,
    ⟨some 14, .faddr 1 (.t 3), (some (11, false)), []⟩,
    ⟨some 15, .load1 (.t 14), (some (11, false)), []⟩,
    ⟨some 16, .call 47 [(.t 13), (.t 15)], (some (11, false)), []⟩,
    ⟨some 17, .un .not (.t 16), (some (11, false)), []⟩,
    ⟨some 18, .pick (.t 11) (.c (.bool true)) (.t 17), none, []⟩,
    ⟨some 19, .mov (.t 18), none, []⟩,
    ⟨some 20, .faddr 2 (.t 2), (some (19, false)), []⟩,
    ⟨some 21, .load1 (.t 20), (some (19, false)), []⟩,
    ⟨some 22, .len (.t 21), (some (19, false)), []⟩,
    ⟨some 23, .faddr 2 (.t 3), (some (19, false)), []⟩,
    ⟨some 24, .load1 (.t 23), (some (19, false)), []⟩,
    ⟨some 25, .len (.t 24), (some (19, false)), []⟩,
    ⟨some 26, .bin .neq (.t 22) (.t 25), (some (19, false)), []⟩,
    ⟨some 27, .pick (.t 19) (.c (.bool true)) (.t 26), none, []⟩] [2, 3, 27])
   (.cond (.t 27) (.seq (.reg [⟨some 4, .mov (.c (.bool false)), none, []⟩] [4])
   (.ret))
   (.skip)))
   (.seq (.seq (.reg [⟨some 5, .mov (.c (.int .i64 0)), none, []⟩] [2, 3, 5])
   (.block 0 (.loop (.seq (.seq (.reg [⟨some 28, .mov (.t 5), none, []⟩,
    ⟨some 29, .faddr 2 (.t 2), none, []⟩,
    ⟨some 30, .load1 (.t 29), none, []⟩,
    ⟨some 31, .len (.t 30), none, []⟩,
    ⟨some 32, .bin .lss (.t 28) (.t 31), none, []⟩] [2, 3, 5, 32])
   (.cond (.t 32) (.skip)
   (.exit 0)))
   (.seq (.block 1 (.seq (.dreg [(0, .light, ⟨some 35, .faddr 2 (.t 2), none, []⟩),
    (1, .light, ⟨some 36, .load1 (.t 35), none, []⟩),
    (2, .light, ⟨some 37, .mov (.t 5), none, []⟩),
    (3, .light, ⟨some 38, .iaddr 2 (.t 36) (.t 37), none, []⟩),
    (4, .light, ⟨some 39, .loadn 2 (.t 38), none, []⟩),
    (5, .light, ⟨some 40, .faddr 2 (.t 3), none, []⟩),
    (6, .light, ⟨some 41, .load1 (.t 40), none, []⟩),
    (7, .light, ⟨some 42, .mov (.t 5), none, []⟩),
    (8, .light, ⟨some 43, .iaddr 2 (.t 41) (.t 42), none, []⟩),
    (9, .light, ⟨some 44, .loadn 2 (.t 43), none, []⟩),
    (10, .light, ⟨some 45, .eqagg true 2 (.t 39) (.t 44), none, []⟩)] [2, 3, 5, 45])
   (.cond (.t 45) (.seq (.reg [⟨some 4, .mov (.c (.bool false)), none, []⟩] [4])
   (.ret))
   (.skip))))
   (.reg [⟨some 33, .mov (.t 5), none, []⟩,
    ⟨some 34, .bin .add (.t 33) (.c (.int .i64 1)), none, []⟩,
    ⟨some 5, .mov (.t 34), none, []⟩] [2, 3, 5]))))))
   (.seq (.reg [⟨some 4, .mov (.c (.bool true)), none, []⟩] [4])
   (.ret))))⟩
theorem a37 : agreeFn Try.prog Try.f37 A37 = true := by kernel_rfl
end Go.Proofs.Ytpidphppldimkaa.Den
