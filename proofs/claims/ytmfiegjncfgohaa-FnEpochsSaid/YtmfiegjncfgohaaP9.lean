import Derived.Test.YtmfiegjncfgohaaP8
namespace Go.Proofs.Ytmfiegjncfgohaa.Den
open Go.RowKit
set_option linter.unusedSimpArgs false
set_option linter.unusedVariables false
set_option maxRecDepth 100000
set_option maxHeartbeats 8000000
def A7 : AFn := ⟨289, [.tmp 2],
   .seq (.reg [⟨some 2, .mov (.c (.bool false)), none, []⟩] [0])
   (.seq (.seq (.reg [⟨some 37, .mov (.t 0), none, []⟩,
    ⟨some 38, .call 11 [(.t 37)], none, []⟩] [0, 38])
   (.cond (.t 38) (.seq (.reg [⟨some 2, .mov (.c (.bool true)), none, []⟩] [2])
   (.ret))
   (.skip)))
   (.seq (.reg [⟨some 40, .mov (.t 0), none, []⟩,
    ⟨some 41, .call 32 [(.t 40)], none, []⟩,
    ⟨some 39, .mov (.t 41), none, []⟩,
    ⟨some 42, .extract (.t 39) 0, none, []⟩,
    ⟨some 43, .extract (.t 39) 1, none, []⟩,
    ⟨some 3, .alloc 51 3 [.int .i64 0, .nils, .nils], none, []⟩,
    ⟨none, .store 3 (.t 3) (.t 42), none, []⟩,
    ⟨some 4, .mov (.t 43), none, []⟩] [0, 3, 4])
   (.seq (.reg [⟨some 45, .loadn 3 (.t 3), none, []⟩,
    ⟨some 46, .mov (.t 4), none, []⟩,
    ⟨some 47, .call 33 [(.t 45), (.t 46)], none, []⟩,
    ⟨some 44, .mov (.t 47), none, []⟩,
    ⟨some 48, .extract (.t 44) 0, none, []⟩,
    ⟨some 49, .extract (.t 44) 1, none, []⟩,
    ⟨some 5, .alloc 51 3 [.int .i64 0, .nils, .nils], none, []⟩,
    ⟨none, .store 3 (.t 5) (.t 48), none, []⟩,
    ⟨some 6, .mov (.t 49), none, []⟩] [0, 3, 4, 5, 6])
   (.seq (.reg [⟨some 51, .loadn 3 (.t 3), none, []⟩,
    ⟨some 52, .mov (.t 4), none, []⟩,
    ⟨some 53, .call 34 [(.t 51), (.t 52)], none, []⟩,
    ⟨some 50, .mov (.t 53), none, []⟩,
    ⟨some 54, .extract (.t 50) 0, none, []⟩,
    ⟨some 55, .extract (.t 50) 1, none, []⟩,
    ⟨some 7, .alloc 51 3 [.int .i64 0, .nils, .nils], none, []⟩,
    ⟨none, .store 3 (.t 7) (.t 54), none, []⟩,
    ⟨some 8, .mov (.t 55), none, []⟩] [0, 3, 5, 6, 7, 8])
   (.seq (.reg [⟨some 57, .mov (.t 0), none, []⟩,
    ⟨some 58, .call 35 [(.t 57)], none, []⟩,
    ⟨some 56, .mov (.t 58), none, []⟩,
    ⟨some 59, .extract (.t 56) 0, none, []⟩,
    ⟨some 60, .extract (.t 56) 1, none, []⟩,
    ⟨some 9, .alloc 51 3 [.int .i64 0, .nils, .nils], none, []⟩,
    ⟨none, .store 3 (.t 9) (.t 59), none, []⟩,
    ⟨some 10, .mov (.t 60), none, []⟩] [0, 3, 5, 6, 7, 8, 9, 10])
   (.seq (.reg [⟨some 62, .loadn 3 (.t 9), none, []⟩,
    ⟨some 63, .mov (.t 10), none, []⟩,
    ⟨some 64, .call 36 [(.t 62), (.t 63)], none, []⟩,
    ⟨some 61, .mov (.t 64), none, []⟩,
    ⟨some 65, .extract (.t 61) 0, none, []⟩,
    ⟨some 66, .extract (.t 61) 1, none, []⟩,
    ⟨some 11, .alloc 51 3 [.int .i64 0, .nils, .nils], none, []⟩,
    ⟨none, .store 3 (.t 11) (.t 65), none, []⟩,
    ⟨some 12, .mov (.t 66), none, []⟩] [0, 3, 5, 6, 7, 8, 9, 10, 11, 12])
   (.seq (.reg [⟨some 68, .loadn 3 (.t 9), none, []⟩,
    ⟨some 69, .mov (.t 10), none, []⟩,
    ⟨some 70, .call 37 [(.t 68), (.t 69)], none, []⟩,
    ⟨some 67, .mov (.t 70), none, []⟩,
    ⟨some 71, .extract (.t 67) 0, none, []⟩,
    ⟨some 72, .extract (.t 67) 1, none, []⟩,
    ⟨some 13, .alloc 51 3 [.int .i64 0, .nils, .nils], none, []⟩,
    ⟨none, .store 3 (.t 13) (.t 71), none, []⟩,
    ⟨some 14, .mov (.t 72), none, []⟩] [0, 3, 5, 6, 7, 8, 9, 11, 12, 13, 14])
   (.seq (.reg [⟨some 74, .mov (.t 0), none, []⟩,
    ⟨some 75, .call 38 [(.t 74)], none, []⟩,
    ⟨some 73, .mov (.t 75), none, []⟩,
    ⟨some 76, .extract (.t 73) 0, none, []⟩,
    ⟨some 77, .extract (.t 73) 1, none, []⟩,
    ⟨some 15, .alloc 51 3 [.int .i64 0, .nils, .nils], none, []⟩,
    ⟨none, .store 3 (.t 15) (.t 76), none, []⟩,
    ⟨some 16, .mov (.t 77), none, []⟩] [0, 3, 5, 6, 7, 8, 9, 11, 12, 13, 14, 15, 16])
   (.seq (.reg [⟨some 79, .loadn 3 (.t 15), none, []⟩,
    ⟨some 80, .mov (.t 16), none, []⟩,
    ⟨some 81, .call 39 [(.t 79), (.t 80)], none, []⟩,
    ⟨some 78, .mov (.t 81), none, []⟩,
    ⟨some 82, .extract (.t 78) 0, none, []⟩,
    ⟨some 83, .extract (.t 78) 1, none, []⟩,
    ⟨some 17, .alloc 51 3 [.int .i64 0, .nils, .nils], none, []⟩,
    ⟨none, .store 3 (.t 17) (.t 82), none, []⟩,
    ⟨some 18, .mov (.t 83), none, []⟩] [0, 3, 5, 6, 7, 8, 9, 11, 12, 13, 14, 15, 16, 17, 18])
   (.seq (.reg [⟨some 85, .loadn 3 (.t 15), none, []⟩,
    ⟨some 86, .mov (.t 16), none, []⟩,
    ⟨some 87, .call 40 [(.t 85), (.t 86)], none, []⟩,
    ⟨some 84, .mov (.t 87), none, []⟩,
    ⟨some 88, .extract (.t 84) 0, none, []⟩,
    ⟨some 89, .extract (.t 84) 1, none, []⟩,
    ⟨some 19, .alloc 51 3 [.int .i64 0, .nils, .nils], none, []⟩,
    ⟨none, .store 3 (.t 19) (.t 88), none, []⟩,
    ⟨some 20, .mov (.t 89), none, []⟩] [0, 3, 5, 6, 7, 8, 9, 11, 12, 13, 14, 15, 17, 18, 19, 20])
   (.seq (.reg [⟨some 90, .mov (.t 0), none, []⟩,
    ⟨some 91, .call 41 [(.t 90)], none, []⟩,
    ⟨some 21, .alloc 51 3 [.int .i64 0, .nils, .nils], none, []⟩,
    ⟨none, .store 3 (.t 21) (.t 91), none, []⟩] [0, 3, 5, 6, 7, 8, 9, 11, 12, 13, 14, 15, 17, 18, 19, 20, 21])
   (.seq (.reg [⟨some 93, .loadn 3 (.t 21), none, []⟩,
    ⟨some 94, .call 42 [(.t 93)], none, []⟩,
    ⟨some 92, .mov (.t 94), none, []⟩,
    ⟨some 95, .extract (.t 92) 0, none, []⟩,
    ⟨some 96, .extract (.t 92) 1, none, []⟩,
    ⟨some 22, .alloc 51 3 [.int .i64 0, .nils, .nils], none, []⟩,
    ⟨none, .store 3 (.t 22) (.t 95), none, []⟩,
    ⟨some 23, .mov (.t 96), none, []⟩] [0, 3, 5, 6, 7, 8, 9, 11, 12, 13, 14, 15, 17, 18, 19, 20, 21, 22, 23])
   (.seq (.reg [⟨some 98, .loadn 3 (.t 21), none, []⟩,
    ⟨some 99, .call 43 [(.t 98)], none, []⟩,
    ⟨some 97, .mov (.t 99), none, []⟩,
    ⟨some 100, .extract (.t 97) 0, none, []⟩,
    ⟨some 101, .extract (.t 97) 1, none, []⟩,
    ⟨some 24, .alloc 51 3 [.int .i64 0, .nils, .nils], none, []⟩,
    ⟨none, .store 3 (.t 24) (.t 100), none, []⟩,
    ⟨some 25, .mov (.t 101), none, []⟩] [0, 3, 5, 6, 7, 8, 9, 11, 12, 13, 14, 15, 17, 18, 19, 20, 21, 22, 23, 24, 25])
   (.seq (.reg [⟨some 102, .mov (.t 0), none, []⟩,
    ⟨some 103, .call 44 [(.t 102)], none, []⟩,
    ⟨some 26, .alloc 51 3 [.int .i64 0, .nils, .nils], none, []⟩,
    ⟨none, .store 3 (.t 26) (.t 103), none, []⟩] [0, 3, 5, 6, 7, 8, 9, 11, 12, 13, 14, 15, 17, 18, 19, 20, 21, 22, 23, 24, 25, 26])
   (.seq (.reg [⟨some 105, .loadn 3 (.t 26), none, []⟩,
    ⟨some 106, .call 45 [(.t 105)], none, []⟩,
    ⟨some 104, .mov (.t 106), none, []⟩,
    ⟨some 107, .extract (.t 104) 0, none, []⟩,
    ⟨some 108, .extract (.t 104) 1, none, []⟩,
    ⟨some 27, .alloc 51 3 [.int .i64 0, .nils, .nils], none, []⟩,
    ⟨none, .store 3 (.t 27) (.t 107), none, []⟩,
    ⟨some 28, .mov (.t 108), none, []⟩] [0, 3, 5, 6, 7, 8, 9, 11, 12, 13, 14, 15, 17, 18, 19, 20, 21, 22, 23, 24, 25, 26, 27, 28])
   (.seq (.reg [⟨some 110, .loadn 3 (.t 26), none, []⟩,
    ⟨some 111, .call 46 [(.t 110)], none, []⟩,
    ⟨some 109, .mov (.t 111), none, []⟩,
    ⟨some 112, .extract (.t 109) 0, none, []⟩,
    ⟨some 113, .extract (.t 109) 1, none, []⟩,
    ⟨some 29, .alloc 51 3 [.int .i64 0, .nils, .nils], none, []⟩,
    ⟨none, .store 3 (.t 29) (.t 112), none, []⟩,
    ⟨some 30, .mov (.t 113), none, []⟩] [0, 3, 5, 6, 7, 8, 9, 11, 12, 13, 14, 15, 17, 18, 19, 20, 21, 22, 23, 24, 25, 26, 27, 28, 29, 30])
   (.seq (.reg [⟨some 114, .mov (.t 0), none, []⟩,
    ⟨some 115, .call 47 [(.t 114)], none, []⟩,
    ⟨some 116, .mov (.t 0), none, []⟩,
    ⟨some 117, .call 48 [(.t 116)], none, []⟩,
    ⟨some 31, .alloc 51 3 [.int .i64 0, .nils, .nils], none, []⟩,
    ⟨none, .store 3 (.t 31) (.t 115), none, []⟩,
    ⟨some 32, .mov (.t 117), none, []⟩] [3, 5, 6, 7, 8, 9, 11, 12, 13, 14, 15, 17, 18, 19, 20, 21, 22, 23, 24, 25, 26, 27, 28, 29, 30, 31, 32])
   (.seq (.reg [⟨some 119, .mov (.t 32), none, []⟩,
    ⟨some 120, .call 49 [(.t 119)], none, []⟩,
    ⟨some 118, .mov (.t 120), none, []⟩,
    ⟨some 121, .extract (.t 118) 0, none, []⟩,
    ⟨some 122, .extract (.t 118) 1, none, []⟩,
    ⟨some 33, .alloc 51 3 [.int .i64 0, .nils, .nils], none, []⟩,
    ⟨none, .store 3 (.t 33) (.t 121), none, []⟩,
    ⟨some 34, .mov (.t 122), none, []⟩] [3, 5, 6, 7, 8, 9, 11, 12, 13, 14, 15, 17, 18, 19, 20, 21, 22, 23, 24, 25, 26, 27, 28, 29, 30, 31, 32, 33, 34])
   (.seq (.reg [⟨some 124, .mov (.t 32), none, []⟩,
    ⟨some 125, .call 50 [(.t 124)], none, []⟩,
    ⟨some 123, .mov (.t 125), none, []⟩,
    ⟨some 126, .extract (.t 123) 0, none, []⟩,
    ⟨some 127, .extract (.t 123) 1, none, []⟩,
    ⟨some 35, .alloc 51 3 [.int .i64 0, .nils, .nils], none, []⟩,
    ⟨none, .store 3 (.t 35) (.t 126), none, []⟩,
    ⟨some 36, .mov (.t 127), none, []⟩] [3, 5, 6, 7, 8, 9, 11, 12, 13, 14, 15, 17, 18, 19, 20, 21, 22, 23, 24, 25, 26, 27, 28, 29, 30, 31, 33, 34, 35, 36])
   (.seq (.seq (.dreg [(0, .light, ⟨some 128, .mov (.t 6), none, []⟩),
    (1, .light, ⟨some 129, .mov (.t 8), none, []⟩),
    (2, .light, ⟨some 130, .eqb true (.t 128) (.t 129), none, []⟩),
    (3, .light, ⟨some 131, .mov (.t 130), none, []⟩),
    (4, .light, ⟨some 132, .loadn 3 (.t 5), (some (131, false)), []⟩),
    (5, .light, ⟨some 133, .loadn 3 (.t 7), (some (131, false)), []⟩),
    (6, .heavy, ⟨some 134, .call 51 [(.t 132), (.t 133)], (some (131, false)), []⟩),
    (7, .light, ⟨some 135, .un .not (.t 134), (some (131, false)), []⟩),
    (8, .light, ⟨some 136, .pick (.t 131) (.c (.bool true)) (.t 135), none, []⟩),
    (9, .light, ⟨some 137, .mov (.t 136), none, []⟩),
    (10, .light, ⟨some 138, .mov (.t 12), (some (137, false)), []⟩),
    (11, .light, ⟨some 139, .mov (.t 14), (some (137, false)), []⟩),
    (12, .light, ⟨some 140, .eqb true (.t 138) (.t 139), (some (137, false)), []⟩),
    (13, .light, ⟨some 141, .pick (.t 137) (.c (.bool true)) (.t 140), none, []⟩),
    (14, .light, ⟨some 142, .mov (.t 141), none, []⟩),
    (15, .light, ⟨some 143, .loadn 3 (.t 11), (some (142, false)), []⟩),
    (16, .light, ⟨some 144, .loadn 3 (.t 13), (some (142, false)), []⟩),
    (17, .heavy, ⟨some 145, .call 51 [(.t 143), (.t 144)], (some (142, false)), []⟩),
    (18, .light, ⟨some 146, .un .not (.t 145), (some (142, false)), []⟩),
    (19, .light, ⟨some 147, .pick (.t 142) (.c (.bool true)) (.t 146), none, []⟩),
    (20, .light, ⟨some 148, .mov (.t 147), none, []⟩),
    (21, .light, ⟨some 149, .mov (.t 18), (some (148, false)), []⟩),
    (22, .light, ⟨some 150, .mov (.t 20), (some (148, false)), []⟩),
    (23, .light, ⟨some 151, .eqb true (.t 149) (.t 150), (some (148, false)), []⟩),
    (24, .light, ⟨some 152, .pick (.t 148) (.c (.bool true)) (.t 151), none, []⟩),
    (25, .light, ⟨some 153, .mov (.t 152), none, []⟩),
    (26, .light, ⟨some 154, .loadn 3 (.t 17), (some (153, false)), []⟩),
    (27, .light, ⟨some 155, .loadn 3 (.t 19), (some (153, false)), []⟩),
    (28, .heavy, ⟨some 156, .call 51 [(.t 154), (.t 155)], (some (153, false)), []⟩),
    (29, .light, ⟨some 157, .un .not (.t 156), (some (153, false)), []⟩),
    (30, .light, ⟨some 158, .pick (.t 153) (.c (.bool true)) (.t 157), none, []⟩),
    (31, .light, ⟨some 159, .mov (.t 158), none, []⟩),
    (32, .light, ⟨some 160, .mov (.t 23), (some (159, false)), []⟩),
    (33, .light, ⟨some 161, .mov (.t 25), (some (159, false)), []⟩),
    (34, .light, ⟨some 162, .eqb true (.t 160) (.t 161), (some (159, false)), []⟩),
    (35, .light, ⟨some 163, .pick (.t 159) (.c (.bool true)) (.t 162), none, []⟩),
    (36, .light, ⟨some 164, .mov (.t 163), none, []⟩),
    (37, .light, ⟨some 165, .loadn 3 (.t 22), (some (164, false)), []⟩),
    (38, .light, ⟨some 166, .loadn 3 (.t 24), (some (164, false)), []⟩),
    (39, .heavy, ⟨some 167, .call 51 [(.t 165), (.t 166)], (some (164, false)), []⟩),
    (40, .light, ⟨some 168, .un .not (.t 167), (some (164, false)), []⟩),
    (41, .light, ⟨some 169, .pick (.t 164) (.c (.bool true)) (.t 168), none, []⟩),
    (42, .light, ⟨some 170, .mov (.t 169), none, []⟩),
    (43, .light, ⟨some 171, .loadn 3 (.t 27), (some (170, false)), []⟩),
    (44, .light, ⟨some 172, .loadn 3 (.t 29), (some (170, false)), []⟩),
    (45, .heavy, ⟨some 173, .call 51 [(.t 171), (.t 172)], (some (170, false)), []⟩),
    (46, .light, ⟨some 174, .un .not (.t 173), (some (170, false)), []⟩),
    (47, .light, ⟨some 175, .pick (.t 170) (.c (.bool true)) (.t 174), none, []⟩),
    (48, .light, ⟨some 176, .mov (.t 175), none, []⟩),
    (49, .light, ⟨some 177, .mov (.t 28), (some (176, false)), []⟩),
    (50, .light, ⟨some 178, .mov (.t 30), (some (176, false)), []⟩),
    (51, .heavy, ⟨some 179, .call 52 [(.t 177), (.t 178)], (some (176, false)), []⟩),
    (52, .light, ⟨some 180, .un .not (.t 179), (some (176, false)), []⟩),
    (53, .light, ⟨some 181, .pick (.t 176) (.c (.bool true)) (.t 180), none, []⟩),
    (54, .light, ⟨some 182, .mov (.t 181), none, []⟩),
    (55, .light, ⟨some 183, .loadn 3 (.t 31), (some (182, false)), []⟩),
    (57, .light, ⟨some 185, .loadn 3 (.t 31), (some (182, false)), []⟩),
    (56, .heavy, ⟨some 184, .call 53 [(.t 183)], (some (182, false)), [(.loadn 3 (.t 31), 185, some (182, false))]⟩),
    (58, .heavy, ⟨some 186, .call 54 [(.t 185)], (some (182, false)), []⟩),
    (59, .light, ⟨some 187, .eqb true (.t 184) (.t 186), (some (182, false)), []⟩),
    (60, .light, ⟨some 188, .pick (.t 182) (.c (.bool true)) (.t 187), none, []⟩),
    (61, .light, ⟨some 189, .mov (.t 188), none, []⟩),
    (62, .light, ⟨some 190, .mov (.t 34), (some (189, false)), []⟩),
    (63, .light, ⟨some 191, .mov (.t 36), (some (189, false)), []⟩),
    (64, .light, ⟨some 192, .eqb true (.t 190) (.t 191), (some (189, false)), []⟩),
    (65, .light, ⟨some 193, .pick (.t 189) (.c (.bool true)) (.t 192), none, []⟩),
    (66, .light, ⟨some 194, .mov (.t 193), none, []⟩),
    (67, .light, ⟨some 195, .loadn 3 (.t 33), (some (194, false)), []⟩),
    (68, .light, ⟨some 196, .loadn 3 (.t 35), (some (194, false)), []⟩),
    (69, .heavy, ⟨some 197, .call 51 [(.t 195), (.t 196)], (some (194, false)), []⟩),
    (70, .light, ⟨some 198, .un .not (.t 197), (some (194, false)), []⟩),
    (71, .light, ⟨some 199, .pick (.t 194) (.c (.bool true)) (.t 198), none, []⟩)] [3, 5, 6, 9, 11, 12, 15, 17, 18, 21, 22, 23, 26, 27, 28, 199])
   (.cond (.t 199) (.seq (.reg [⟨some 2, .mov (.c (.bool false)), none, []⟩] [2])
   (.ret))
   (.skip)))
   (.seq (.seq (.reg [⟨some 200, .mov (.t 6), none, []⟩,
    ⟨some 201, .un .not (.t 200), none, []⟩,
    ⟨some 202, .mov (.t 201), none, []⟩,
    ⟨some 203, .loadn 3 (.t 5), (some (202, true)), []⟩,
    ⟨some 204, .loadn 3 (.t 3), (some (202, true)), []⟩,
    ⟨some 205, .call 51 [(.t 203), (.t 204)], (some (202, true)), []⟩,
    ⟨some 206, .un .not (.t 205), (some (202, true)), []⟩,
    ⟨some 207, .pick (.t 202) (.t 206) (.c (.bool false)), none, []⟩,
    ⟨some 208, .mov (.t 207), none, []⟩,
    ⟨some 209, .mov (.t 12), (some (208, false)), []⟩,
    ⟨some 210, .un .not (.t 209), (some (208, false)), []⟩,
    ⟨some 211, .mov (.t 210), (some (208, false)), []⟩,
    ⟨some 212, .loadn 3 (.t 11), (some (211, true)), []⟩,
    ⟨some 213, .loadn 3 (.t 9), (some (211, true)), []⟩,
    ⟨some 214, .call 51 [(.t 212), (.t 213)], (some (211, true)), []⟩,
    ⟨some 215, .un .not (.t 214), (some (211, true)), []⟩,
    ⟨some 216, .pick (.t 211) (.t 215) (.c (.bool false)), (some (208, false)), []⟩,
    ⟨some 217, .pick (.t 208) (.c (.bool true)) (.t 216), none, []⟩,
    ⟨some 218, .mov (.t 217), none, []⟩,
    ⟨some 219, .mov (.t 18), (some (218, false)), []⟩,
    ⟨some 220, .un .not (.t 219), (some (218, false)), []⟩,
    ⟨some 221, .mov (.t 220), (some (218, false)), []⟩,
    ⟨some 222, .loadn 3 (.t 17), (some (221, true)), []⟩,
    ⟨some 223, .loadn 3 (.t 15), (some (221, true)), []⟩,
    ⟨some 224, .call 51 [(.t 222), (.t 223)], (some (221, true)), []⟩,
    ⟨some 225, .un .not (.t 224), (some (221, true)), []⟩,
    ⟨some 226, .pick (.t 221) (.t 225) (.c (.bool false)), (some (218, false)), []⟩,
    ⟨some 227, .pick (.t 218) (.c (.bool true)) (.t 226), none, []⟩,
    ⟨some 228, .mov (.t 227), none, []⟩,
    ⟨some 229, .mov (.t 23), (some (228, false)), []⟩,
    ⟨some 230, .un .not (.t 229), (some (228, false)), []⟩,
    ⟨some 231, .mov (.t 230), (some (228, false)), []⟩,
    ⟨some 232, .loadn 3 (.t 22), (some (231, true)), []⟩,
    ⟨some 233, .loadn 3 (.t 21), (some (231, true)), []⟩,
    ⟨some 234, .call 51 [(.t 232), (.t 233)], (some (231, true)), []⟩,
    ⟨some 235, .un .not (.t 234), (some (231, true)), []⟩,
    ⟨some 236, .pick (.t 231) (.t 235) (.c (.bool false)), (some (228, false)), []⟩,
    ⟨some 237, .pick (.t 228) (.c (.bool true)) (.t 236), none, []⟩] [5, 6, 11, 12, 17, 18, 22, 23, 26, 27, 28, 237])
   (.cond (.t 237) (.seq (.reg [⟨some 2, .mov (.c (.bool false)), none, []⟩] [2])
   (.ret))
   (.skip)))
   (.seq (.reg [⟨some 238, .mov (.t 6), none, []⟩,
    ⟨some 239, .un .not (.t 238), none, []⟩,
    ⟨some 240, .mov (.t 239), none, []⟩,
    ⟨some 241, .loadn 3 (.t 5), (some (240, false)), []⟩,
    ⟨some 242, .call 53 [(.t 241)], (some (240, false)), []⟩,
    ⟨some 243, .pick (.t 240) (.c (.bool true)) (.t 242), none, []⟩,
    ⟨some 244, .mov (.t 243), none, []⟩,
    ⟨some 245, .mov (.t 12), (some (244, true)), []⟩,
    ⟨some 246, .un .not (.t 245), (some (244, true)), []⟩,
    ⟨some 247, .mov (.t 246), (some (244, true)), []⟩,
    ⟨some 248, .loadn 3 (.t 11), (some (247, false)), []⟩,
    ⟨some 249, .call 53 [(.t 248)], (some (247, false)), []⟩,
    ⟨some 250, .pick (.t 247) (.c (.bool true)) (.t 249), (some (244, true)), []⟩,
    ⟨some 251, .pick (.t 244) (.t 250) (.c (.bool false)), none, []⟩,
    ⟨some 252, .mov (.t 251), none, []⟩,
    ⟨some 253, .mov (.t 18), (some (252, true)), []⟩,
    ⟨some 254, .un .not (.t 253), (some (252, true)), []⟩,
    ⟨some 255, .mov (.t 254), (some (252, true)), []⟩,
    ⟨some 256, .loadn 3 (.t 17), (some (255, false)), []⟩,
    ⟨some 257, .call 53 [(.t 256)], (some (255, false)), []⟩,
    ⟨some 258, .pick (.t 255) (.c (.bool true)) (.t 257), (some (252, true)), []⟩,
    ⟨some 259, .pick (.t 252) (.t 258) (.c (.bool false)), none, []⟩,
    ⟨some 260, .mov (.t 259), none, []⟩,
    ⟨some 261, .mov (.t 23), (some (260, true)), []⟩,
    ⟨some 262, .un .not (.t 261), (some (260, true)), []⟩,
    ⟨some 263, .mov (.t 262), (some (260, true)), []⟩,
    ⟨some 264, .loadn 3 (.t 22), (some (263, false)), []⟩,
    ⟨some 265, .call 53 [(.t 264)], (some (263, false)), []⟩,
    ⟨some 266, .pick (.t 263) (.c (.bool true)) (.t 265), (some (260, true)), []⟩,
    ⟨some 267, .pick (.t 260) (.t 266) (.c (.bool false)), none, []⟩,
    ⟨some 268, .mov (.t 267), none, []⟩,
    ⟨some 269, .loadn 3 (.t 26), (some (268, true)), []⟩,
    ⟨some 270, .call 53 [(.t 269)], (some (268, true)), []⟩,
    ⟨some 271, .un .not (.t 270), (some (268, true)), []⟩,
    ⟨some 272, .mov (.t 271), (some (268, true)), []⟩,
    ⟨some 273, .loadn 3 (.t 27), (some (272, false)), []⟩,
    ⟨some 274, .call 53 [(.t 273)], (some (272, false)), []⟩,
    ⟨some 275, .mov (.t 274), (some (272, false)), []⟩,
    ⟨some 276, .faddr 2 (.t 27), (some (275, true)), []⟩,
    ⟨some 277, .load1 (.t 276), (some (275, true)), []⟩,
    ⟨some 278, .len (.t 277), (some (275, true)), []⟩,
    ⟨some 279, .mov (.t 28), (some (275, true)), []⟩,
    ⟨some 280, .len (.t 279), (some (275, true)), []⟩,
    ⟨some 281, .bin .add (.t 278) (.t 280), (some (275, true)), []⟩,
    ⟨some 282, .faddr 2 (.t 26), (some (275, true)), []⟩,
    ⟨some 283, .load1 (.t 282), (some (275, true)), []⟩,
    ⟨some 284, .len (.t 283), (some (275, true)), []⟩,
    ⟨some 285, .bin .eql (.t 281) (.t 284), (some (275, true)), []⟩,
    ⟨some 286, .pick (.t 275) (.t 285) (.c (.bool false)), (some (272, false)), []⟩,
    ⟨some 287, .pick (.t 272) (.c (.bool true)) (.t 286), (some (268, true)), []⟩,
    ⟨some 288, .pick (.t 268) (.t 287) (.c (.bool false)), none, []⟩,
    ⟨some 2, .mov (.t 288), none, []⟩] [2])
   (.ret)))))))))))))))))))))))⟩
theorem a7 : agreeFn Try.prog Try.f7 A7 = true := by kernel_rfl
theorem law_FnEpochs (xs : List Int) (hx : ∀ x ∈ xs, 0 ≤ x ∧ x ≤ 255) : Spec Try.prog 7 [.s (.lst 1 (bytes xs))] (hp []) fun v _ => v = .s (.bool true) := by
  refine spec_of_awp dS Try.func7 a7 (by simp [A7]) ?_
  simp only [ne_eq, S1, S2, S3, S4, S5, S6, S7, S8, S9, S10, S11, S12, S13, guarded, opWp, onX, onO, onFn, chks, chkOne, xop, evf, fget, fput, fkeep, finit, aress, ares, abin, pickv, AV.cells, reduceCtorEq, reduceIte, Nat.reduceEqDiff, Nat.reduceAdd, bound, capsOf, Nat.reduceLeDiff, AHeap.cell, AHeap.row, AHeap.cells, AHeap.put, AHeap.has, afill, Nat.reduceLT, List.reduceReplicate, alen, afillRows, afresh, aappend, srcRows, Nat.reduceSub, Nat.reduceMul, ints_len, rets_len, A7]
  refine c_big xs _ _ ?_
  by_cases hbig : 1048576 < xs.length
  · simp only [ne_eq, S1, S2, S3, S4, S5, S6, S7, S8, S9, S10, S11, S12, S13, guarded, opWp, onX, onO, onFn, chks, chkOne, xop, evf, fget, fput, fkeep, finit, aress, ares, abin, pickv, AV.cells, reduceCtorEq, reduceIte, Nat.reduceEqDiff, Nat.reduceAdd, bound, capsOf, Nat.reduceLeDiff, AHeap.cell, AHeap.row, AHeap.cells, AHeap.put, AHeap.has, afill, Nat.reduceLT, List.reduceReplicate, alen, afillRows, afresh, aappend, srcRows, Nat.reduceSub, Nat.reduceMul, ints_len, rets_len, hbig]
  have hb : Bv xs := ⟨hx, by omega⟩
  simp only [ne_eq, S1, S2, S3, S4, S5, S6, S7, S8, S9, S10, S11, S12, S13, guarded, opWp, onX, onO, onFn, chks, chkOne, xop, evf, fget, fput, fkeep, finit, aress, ares, abin, pickv, AV.cells, reduceCtorEq, reduceIte, Nat.reduceEqDiff, Nat.reduceAdd, bound, capsOf, Nat.reduceLeDiff, AHeap.cell, AHeap.row, AHeap.cells, AHeap.put, AHeap.has, afill, Nat.reduceLT, List.reduceReplicate, alen, afillRows, afresh, aappend, srcRows, Nat.reduceSub, Nat.reduceMul, ints_len, rets_len, hbig]
  refine c_drawsEt (b_DrawPin xs hb) fun e t hed => ?_
  have het := hed.et (by decide)
  simp only [ne_eq, S1, S2, S3, S4, S5, S6, S7, S8, S9, S10, S11, S12, S13, guarded, opWp, onX, onO, onFn, chks, chkOne, xop, evf, fget, fput, fkeep, finit, aress, ares, abin, pickv, AV.cells, reduceCtorEq, reduceIte, Nat.reduceEqDiff, Nat.reduceAdd, bound, capsOf, Nat.reduceLeDiff, AHeap.cell, AHeap.row, AHeap.cells, AHeap.put, AHeap.has, afill, Nat.reduceLT, List.reduceReplicate, alen, afillRows, afresh, aappend, srcRows, Nat.reduceSub, Nat.reduceMul, ints_len, rets_len, ownE, blksE, ownT]
  refine c_iPin e t het.es _ _ (by rw [epv, epF]; exact (by repeat' (first | exact AVsLe.nil | refine AVsLe.cons ?_ ?_ | exact AVLe.one AVLe0.no | refine AVLe.one (AVLe0.s ?_) | refine AVLe.one (AVLe0.agg ?_) | exact SVsLe.nil | refine SVsLe.cons ?_ ?_ | exact Wk.free rfl | exact Wk.lnils | exact Wk.lemp | exact Wk.frz (by simp) rfl rfl (by simp [ints_len]) (by simp [ints_len, List.take_of_length_le]) (ints_data _) | exact Wk.frz (by simp) rfl rfl (by simp [rets_len]) (by simp [rets_len, List.take_of_length_le]) (rets_data _)))) _ ?_
  have hat := (pinE_et het t true).1
  obtain ⟨ha0, ha1⟩ := pinE_facts e t true
  generalize hae : pinE e t true = a at hat ha0 ha1 ⊢
  simp only [ne_eq, S1, S2, S3, S4, S5, S6, S7, S8, S9, S10, S11, S12, S13, guarded, opWp, onX, onO, onFn, chks, chkOne, xop, evf, fget, fput, fkeep, finit, aress, ares, abin, pickv, AV.cells, reduceCtorEq, reduceIte, Nat.reduceEqDiff, Nat.reduceAdd, bound, capsOf, Nat.reduceLeDiff, AHeap.cell, AHeap.row, AHeap.cells, AHeap.put, AHeap.has, afill, Nat.reduceLT, List.reduceReplicate, alen, afillRows, afresh, aappend, srcRows, Nat.reduceSub, Nat.reduceMul, ints_len, rets_len, ownE, blksE, ownT]
  refine c_sPin e t het.es _ _ (by rw [epv, epF]; exact (by repeat' (first | exact AVsLe.nil | refine AVsLe.cons ?_ ?_ | exact AVLe.one AVLe0.no | refine AVLe.one (AVLe0.s ?_) | refine AVLe.one (AVLe0.agg ?_) | exact SVsLe.nil | refine SVsLe.cons ?_ ?_ | exact Wk.free rfl | exact Wk.lnils | exact Wk.lemp | exact Wk.frz (by simp) rfl rfl (by simp [ints_len]) (by simp [ints_len, List.take_of_length_le]) (ints_data _) | exact Wk.frz (by simp) rfl rfl (by simp [rets_len]) (by simp [rets_len, List.take_of_length_le]) (rets_data _)))) _ ?_
  rw [hae]
  simp only [ne_eq, S1, S2, S3, S4, S5, S6, S7, S8, S9, S10, S11, S12, S13, guarded, opWp, onX, onO, onFn, chks, chkOne, xop, evf, fget, fput, fkeep, finit, aress, ares, abin, pickv, AV.cells, reduceCtorEq, reduceIte, Nat.reduceEqDiff, Nat.reduceAdd, bound, capsOf, Nat.reduceLeDiff, AHeap.cell, AHeap.row, AHeap.cells, AHeap.put, AHeap.has, afill, Nat.reduceLT, List.reduceReplicate, alen, afillRows, afresh, aappend, srcRows, Nat.reduceSub, Nat.reduceMul, ints_len, rets_len, ownE, blksE, ownT]
  refine c_drawsEt (b_DrawUnpin xs hb) fun f u hfd => ?_
  have hft := hfd.et (by decide)
  simp only [ne_eq, S1, S2, S3, S4, S5, S6, S7, S8, S9, S10, S11, S12, S13, guarded, opWp, onX, onO, onFn, chks, chkOne, xop, evf, fget, fput, fkeep, finit, aress, ares, abin, pickv, AV.cells, reduceCtorEq, reduceIte, Nat.reduceEqDiff, Nat.reduceAdd, bound, capsOf, Nat.reduceLeDiff, AHeap.cell, AHeap.row, AHeap.cells, AHeap.put, AHeap.has, afill, Nat.reduceLT, List.reduceReplicate, alen, afillRows, afresh, aappend, srcRows, Nat.reduceSub, Nat.reduceMul, ints_len, rets_len, ownE, blksE, ownT]
  refine c_iUnpin f u hft.es _ _ (by rw [epv, epF]; exact (by repeat' (first | exact AVsLe.nil | refine AVsLe.cons ?_ ?_ | exact AVLe.one AVLe0.no | refine AVLe.one (AVLe0.s ?_) | refine AVLe.one (AVLe0.agg ?_) | exact SVsLe.nil | refine SVsLe.cons ?_ ?_ | exact Wk.free rfl | exact Wk.lnils | exact Wk.lemp | exact Wk.frz (by simp) rfl rfl (by simp [ints_len]) (by simp [ints_len, List.take_of_length_le]) (ints_data _) | exact Wk.frz (by simp) rfl rfl (by simp [rets_len]) (by simp [rets_len, List.take_of_length_le]) (rets_data _)))) _ ?_
  have hct := (pinE_et hft u false).1
  obtain ⟨hc0, hc1⟩ := pinE_facts f u false
  generalize hce : pinE f u false = c at hct hc0 hc1 ⊢
  simp only [ne_eq, S1, S2, S3, S4, S5, S6, S7, S8, S9, S10, S11, S12, S13, guarded, opWp, onX, onO, onFn, chks, chkOne, xop, evf, fget, fput, fkeep, finit, aress, ares, abin, pickv, AV.cells, reduceCtorEq, reduceIte, Nat.reduceEqDiff, Nat.reduceAdd, bound, capsOf, Nat.reduceLeDiff, AHeap.cell, AHeap.row, AHeap.cells, AHeap.put, AHeap.has, afill, Nat.reduceLT, List.reduceReplicate, alen, afillRows, afresh, aappend, srcRows, Nat.reduceSub, Nat.reduceMul, ints_len, rets_len, ownE, blksE, ownT]
  refine c_sUnpin f u hft.es _ _ (by rw [epv, epF]; exact (by repeat' (first | exact AVsLe.nil | refine AVsLe.cons ?_ ?_ | exact AVLe.one AVLe0.no | refine AVLe.one (AVLe0.s ?_) | refine AVLe.one (AVLe0.agg ?_) | exact SVsLe.nil | refine SVsLe.cons ?_ ?_ | exact Wk.free rfl | exact Wk.lnils | exact Wk.lemp | exact Wk.frz (by simp) rfl rfl (by simp [ints_len]) (by simp [ints_len, List.take_of_length_le]) (ints_data _) | exact Wk.frz (by simp) rfl rfl (by simp [rets_len]) (by simp [rets_len, List.take_of_length_le]) (rets_data _)))) _ ?_
  rw [hce]
  simp only [ne_eq, S1, S2, S3, S4, S5, S6, S7, S8, S9, S10, S11, S12, S13, guarded, opWp, onX, onO, onFn, chks, chkOne, xop, evf, fget, fput, fkeep, finit, aress, ares, abin, pickv, AV.cells, reduceCtorEq, reduceIte, Nat.reduceEqDiff, Nat.reduceAdd, bound, capsOf, Nat.reduceLeDiff, AHeap.cell, AHeap.row, AHeap.cells, AHeap.put, AHeap.has, afill, Nat.reduceLT, List.reduceReplicate, alen, afillRows, afresh, aappend, srcRows, Nat.reduceSub, Nat.reduceMul, ints_len, rets_len, ownE, blksE, ownT]
  refine c_drawsEt (b_DrawRetire xs hb) fun g id hgd => ?_
  have hgt := hgd.et (by decide)
  simp only [ne_eq, S1, S2, S3, S4, S5, S6, S7, S8, S9, S10, S11, S12, S13, guarded, opWp, onX, onO, onFn, chks, chkOne, xop, evf, fget, fput, fkeep, finit, aress, ares, abin, pickv, AV.cells, reduceCtorEq, reduceIte, Nat.reduceEqDiff, Nat.reduceAdd, bound, capsOf, Nat.reduceLeDiff, AHeap.cell, AHeap.row, AHeap.cells, AHeap.put, AHeap.has, afill, Nat.reduceLT, List.reduceReplicate, alen, afillRows, afresh, aappend, srcRows, Nat.reduceSub, Nat.reduceMul, ints_len, rets_len, ownE, blksE, ownT]
  refine c_iRetire g id hgt _ _ (by rw [epv, epF]; exact (by repeat' (first | exact AVsLe.nil | refine AVsLe.cons ?_ ?_ | exact AVLe.one AVLe0.no | refine AVLe.one (AVLe0.s ?_) | refine AVLe.one (AVLe0.agg ?_) | exact SVsLe.nil | refine SVsLe.cons ?_ ?_ | exact Wk.free rfl | exact Wk.lnils | exact Wk.lemp | exact Wk.frz (by simp) rfl rfl (by simp [ints_len]) (by simp [ints_len, List.take_of_length_le]) (ints_data _) | exact Wk.frz (by simp) rfl rfl (by simp [rets_len]) (by simp [rets_len, List.take_of_length_le]) (rets_data _)))) _ ?_
  have hht := retE_et hgt id
  obtain ⟨hh0, hh1⟩ := retE_facts g id
  generalize hhe : retE g id = h at hht hh0 hh1 ⊢
  simp only [ne_eq, S1, S2, S3, S4, S5, S6, S7, S8, S9, S10, S11, S12, S13, guarded, opWp, onX, onO, onFn, chks, chkOne, xop, evf, fget, fput, fkeep, finit, aress, ares, abin, pickv, AV.cells, reduceCtorEq, reduceIte, Nat.reduceEqDiff, Nat.reduceAdd, bound, capsOf, Nat.reduceLeDiff, AHeap.cell, AHeap.row, AHeap.cells, AHeap.put, AHeap.has, afill, Nat.reduceLT, List.reduceReplicate, alen, afillRows, afresh, aappend, srcRows, Nat.reduceSub, Nat.reduceMul, ints_len, rets_len, ownE, blksE, ownT]
  refine c_sRetire g id hgt _ _ (by rw [epv, epF]; exact (by repeat' (first | exact AVsLe.nil | refine AVsLe.cons ?_ ?_ | exact AVLe.one AVLe0.no | refine AVLe.one (AVLe0.s ?_) | refine AVLe.one (AVLe0.agg ?_) | exact SVsLe.nil | refine SVsLe.cons ?_ ?_ | exact Wk.free rfl | exact Wk.lnils | exact Wk.lemp | exact Wk.frz (by simp) rfl rfl (by simp [ints_len]) (by simp [ints_len, List.take_of_length_le]) (ints_data _) | exact Wk.frz (by simp) rfl rfl (by simp [rets_len]) (by simp [rets_len, List.take_of_length_le]) (rets_data _)))) _ ?_
  rw [hhe]
  simp only [ne_eq, S1, S2, S3, S4, S5, S6, S7, S8, S9, S10, S11, S12, S13, guarded, opWp, onX, onO, onFn, chks, chkOne, xop, evf, fget, fput, fkeep, finit, aress, ares, abin, pickv, AV.cells, reduceCtorEq, reduceIte, Nat.reduceEqDiff, Nat.reduceAdd, bound, capsOf, Nat.reduceLeDiff, AHeap.cell, AHeap.row, AHeap.cells, AHeap.put, AHeap.has, afill, Nat.reduceLT, List.reduceReplicate, alen, afillRows, afresh, aappend, srcRows, Nat.reduceSub, Nat.reduceMul, ints_len, rets_len, ownE, blksE, ownT]
  refine c_drawsE (b_DrawTurned xs hb) fun j hjd => ?_
  have hjt := hjd.et (by decide)
  simp only [ne_eq, S1, S2, S3, S4, S5, S6, S7, S8, S9, S10, S11, S12, S13, guarded, opWp, onX, onO, onFn, chks, chkOne, xop, evf, fget, fput, fkeep, finit, aress, ares, abin, pickv, AV.cells, reduceCtorEq, reduceIte, Nat.reduceEqDiff, Nat.reduceAdd, bound, capsOf, Nat.reduceLeDiff, AHeap.cell, AHeap.row, AHeap.cells, AHeap.put, AHeap.has, afill, Nat.reduceLT, List.reduceReplicate, alen, afillRows, afresh, aappend, srcRows, Nat.reduceSub, Nat.reduceMul, ints_len, rets_len, ownE, blksE, ownT]
  refine c_iTurned j hjt.es _ _ (by rw [epv, epF]; exact (by repeat' (first | exact AVsLe.nil | refine AVsLe.cons ?_ ?_ | exact AVLe.one AVLe0.no | refine AVLe.one (AVLe0.s ?_) | refine AVLe.one (AVLe0.agg ?_) | exact SVsLe.nil | refine SVsLe.cons ?_ ?_ | exact Wk.free rfl | exact Wk.lnils | exact Wk.lemp | exact Wk.frz (by simp) rfl rfl (by simp [ints_len]) (by simp [ints_len, List.take_of_length_le]) (ints_data _) | exact Wk.frz (by simp) rfl rfl (by simp [rets_len]) (by simp [rets_len, List.take_of_length_le]) (rets_data _)))) _ ?_
  have hkt := turnE_et hjt
  obtain ⟨hk0, hk1⟩ := turnE_facts j
  generalize hke : turnE j = k at hkt hk0 hk1 ⊢
  simp only [ne_eq, S1, S2, S3, S4, S5, S6, S7, S8, S9, S10, S11, S12, S13, guarded, opWp, onX, onO, onFn, chks, chkOne, xop, evf, fget, fput, fkeep, finit, aress, ares, abin, pickv, AV.cells, reduceCtorEq, reduceIte, Nat.reduceEqDiff, Nat.reduceAdd, bound, capsOf, Nat.reduceLeDiff, AHeap.cell, AHeap.row, AHeap.cells, AHeap.put, AHeap.has, afill, Nat.reduceLT, List.reduceReplicate, alen, afillRows, afresh, aappend, srcRows, Nat.reduceSub, Nat.reduceMul, ints_len, rets_len, ownE, blksE, ownT]
  refine c_sTurned j hjt.es _ _ (by rw [epv, epF]; exact (by repeat' (first | exact AVsLe.nil | refine AVsLe.cons ?_ ?_ | exact AVLe.one AVLe0.no | refine AVLe.one (AVLe0.s ?_) | refine AVLe.one (AVLe0.agg ?_) | exact SVsLe.nil | refine SVsLe.cons ?_ ?_ | exact Wk.free rfl | exact Wk.lnils | exact Wk.lemp | exact Wk.frz (by simp) rfl rfl (by simp [ints_len]) (by simp [ints_len, List.take_of_length_le]) (ints_data _) | exact Wk.frz (by simp) rfl rfl (by simp [rets_len]) (by simp [rets_len, List.take_of_length_le]) (rets_data _)))) _ ?_
  rw [hke]
  simp only [ne_eq, S1, S2, S3, S4, S5, S6, S7, S8, S9, S10, S11, S12, S13, guarded, opWp, onX, onO, onFn, chks, chkOne, xop, evf, fget, fput, fkeep, finit, aress, ares, abin, pickv, AV.cells, reduceCtorEq, reduceIte, Nat.reduceEqDiff, Nat.reduceAdd, bound, capsOf, Nat.reduceLeDiff, AHeap.cell, AHeap.row, AHeap.cells, AHeap.put, AHeap.has, afill, Nat.reduceLT, List.reduceReplicate, alen, afillRows, afresh, aappend, srcRows, Nat.reduceSub, Nat.reduceMul, ints_len, rets_len, ownE, blksE, ownT]
  refine c_drawsE (b_DrawCollect xs hb) fun m hmd => ?_
  have hmt := hmd.et (by decide)
  simp only [ne_eq, S1, S2, S3, S4, S5, S6, S7, S8, S9, S10, S11, S12, S13, guarded, opWp, onX, onO, onFn, chks, chkOne, xop, evf, fget, fput, fkeep, finit, aress, ares, abin, pickv, AV.cells, reduceCtorEq, reduceIte, Nat.reduceEqDiff, Nat.reduceAdd, bound, capsOf, Nat.reduceLeDiff, AHeap.cell, AHeap.row, AHeap.cells, AHeap.put, AHeap.has, afill, Nat.reduceLT, List.reduceReplicate, alen, afillRows, afresh, aappend, srcRows, Nat.reduceSub, Nat.reduceMul, ints_len, rets_len, ownE, blksE, ownT]
  refine c_iCollect m hmt.es _ _ (by rw [epv, epF]; exact (by repeat' (first | exact AVsLe.nil | refine AVsLe.cons ?_ ?_ | exact AVLe.one AVLe0.no | refine AVLe.one (AVLe0.s ?_) | refine AVLe.one (AVLe0.agg ?_) | exact SVsLe.nil | refine SVsLe.cons ?_ ?_ | exact Wk.free rfl | exact Wk.lnils | exact Wk.lemp | exact Wk.frz (by simp) rfl rfl (by simp [ints_len]) (by simp [ints_len, List.take_of_length_le]) (ints_data _) | exact Wk.frz (by simp) rfl rfl (by simp [rets_len]) (by simp [rets_len, List.take_of_length_le]) (rets_data _)))) _ ?_
  obtain ⟨hnt, hil⟩ := colE_et hmt
  have hn1 := colE_facts m
  generalize hne : colE m = n at hnt hil hn1 ⊢
  simp only [ne_eq, S1, S2, S3, S4, S5, S6, S7, S8, S9, S10, S11, S12, S13, guarded, opWp, onX, onO, onFn, chks, chkOne, xop, evf, fget, fput, fkeep, finit, aress, ares, abin, pickv, AV.cells, reduceCtorEq, reduceIte, Nat.reduceEqDiff, Nat.reduceAdd, bound, capsOf, Nat.reduceLeDiff, AHeap.cell, AHeap.row, AHeap.cells, AHeap.put, AHeap.has, afill, Nat.reduceLT, List.reduceReplicate, alen, afillRows, afresh, aappend, srcRows, Nat.reduceSub, Nat.reduceMul, ints_len, rets_len, ownC, blksC, ownE, blksE, ownT, List.cons_append, List.nil_append]
  refine c_sCollect m hmt.es _ _ (by rw [epv, epF]; exact (by repeat' (first | exact AVsLe.nil | refine AVsLe.cons ?_ ?_ | exact AVLe.one AVLe0.no | refine AVLe.one (AVLe0.s ?_) | refine AVLe.one (AVLe0.agg ?_) | exact SVsLe.nil | refine SVsLe.cons ?_ ?_ | exact Wk.free rfl | exact Wk.lnils | exact Wk.lemp | exact Wk.frz (by simp) rfl rfl (by simp [ints_len]) (by simp [ints_len, List.take_of_length_le]) (ints_data _) | exact Wk.frz (by simp) rfl rfl (by simp [rets_len]) (by simp [rets_len, List.take_of_length_le]) (rets_data _)))) _ ?_
  rw [hne]
  simp only [ne_eq, S1, S2, S3, S4, S5, S6, S7, S8, S9, S10, S11, S12, S13, guarded, opWp, onX, onO, onFn, chks, chkOne, xop, evf, fget, fput, fkeep, finit, aress, ares, abin, pickv, AV.cells, reduceCtorEq, reduceIte, Nat.reduceEqDiff, Nat.reduceAdd, bound, capsOf, Nat.reduceLeDiff, AHeap.cell, AHeap.row, AHeap.cells, AHeap.put, AHeap.has, afill, Nat.reduceLT, List.reduceReplicate, alen, afillRows, afresh, aappend, srcRows, Nat.reduceSub, Nat.reduceMul, ints_len, rets_len, ownC, blksC, ownE, blksE, ownT, List.cons_append, List.nil_append]
  refine c_drawsE (b_DrawEpochsOk xs hb) fun p hpd => ?_
  have hpt := hpd.et (by decide)
  simp only [ne_eq, S1, S2, S3, S4, S5, S6, S7, S8, S9, S10, S11, S12, S13, guarded, opWp, onX, onO, onFn, chks, chkOne, xop, evf, fget, fput, fkeep, finit, aress, ares, abin, pickv, AV.cells, reduceCtorEq, reduceIte, Nat.reduceEqDiff, Nat.reduceAdd, bound, capsOf, Nat.reduceLeDiff, AHeap.cell, AHeap.row, AHeap.cells, AHeap.put, AHeap.has, afill, Nat.reduceLT, List.reduceReplicate, alen, afillRows, afresh, aappend, srcRows, Nat.reduceSub, Nat.reduceMul, ints_len, rets_len, ownE, blksE, ownT]
  refine c_DrawEpochsNew xs hb _ _ fun q => ?_
  simp only [ne_eq, S1, S2, S3, S4, S5, S6, S7, S8, S9, S10, S11, S12, S13, guarded, opWp, onX, onO, onFn, chks, chkOne, xop, evf, fget, fput, fkeep, finit, aress, ares, abin, pickv, AV.cells, reduceCtorEq, reduceIte, Nat.reduceEqDiff, Nat.reduceAdd, bound, capsOf, Nat.reduceLeDiff, AHeap.cell, AHeap.row, AHeap.cells, AHeap.put, AHeap.has, afill, Nat.reduceLT, List.reduceReplicate, alen, afillRows, afresh, aappend, srcRows, Nat.reduceSub, Nat.reduceMul, ints_len, rets_len, ownE, blksE, ownT]
  refine c_iNew q _ _ ?_
  have hrt := newE_et q
  generalize hre : newE q = r at hrt ⊢
  simp only [ne_eq, S1, S2, S3, S4, S5, S6, S7, S8, S9, S10, S11, S12, S13, guarded, opWp, onX, onO, onFn, chks, chkOne, xop, evf, fget, fput, fkeep, finit, aress, ares, abin, pickv, AV.cells, reduceCtorEq, reduceIte, Nat.reduceEqDiff, Nat.reduceAdd, bound, capsOf, Nat.reduceLeDiff, AHeap.cell, AHeap.row, AHeap.cells, AHeap.put, AHeap.has, afill, Nat.reduceLT, List.reduceReplicate, alen, afillRows, afresh, aappend, srcRows, Nat.reduceSub, Nat.reduceMul, ints_len, rets_len, ownE, blksE, ownT]
  refine c_sNew q _ _ ?_
  rw [hre]
  simp only [ne_eq, S1, S2, S3, S4, S5, S6, S7, S8, S9, S10, S11, S12, S13, guarded, opWp, onX, onO, onFn, chks, chkOne, xop, evf, fget, fput, fkeep, finit, aress, ares, abin, pickv, AV.cells, reduceCtorEq, reduceIte, Nat.reduceEqDiff, Nat.reduceAdd, bound, capsOf, Nat.reduceLeDiff, AHeap.cell, AHeap.row, AHeap.cells, AHeap.put, AHeap.has, afill, Nat.reduceLT, List.reduceReplicate, alen, afillRows, afresh, aappend, srcRows, Nat.reduceSub, Nat.reduceMul, ints_len, rets_len, ownE, blksE, ownT]
  refine c_sameEpochs a.1 hat.es _ _ (by rw [epv, epF]; exact (by repeat' (first | exact AVsLe.nil | refine AVsLe.cons ?_ ?_ | exact AVLe.one AVLe0.no | refine AVLe.one (AVLe0.s ?_) | refine AVLe.one (AVLe0.agg ?_) | exact SVsLe.nil | refine SVsLe.cons ?_ ?_ | exact Wk.free rfl | exact Wk.lnils | exact Wk.lemp | exact Wk.frz (by simp) rfl rfl (by simp [ints_len]) (by simp [ints_len, List.take_of_length_le]) (ints_data _) | exact Wk.frz (by simp) rfl rfl (by simp [rets_len]) (by simp [rets_len, List.take_of_length_le]) (rets_data _)))) _ ?_
  simp only [ne_eq, S1, S2, S3, S4, S5, S6, S7, S8, S9, S10, S11, S12, S13, guarded, opWp, onX, onO, onFn, chks, chkOne, xop, evf, fget, fput, fkeep, finit, aress, ares, abin, pickv, AV.cells, reduceCtorEq, reduceIte, Nat.reduceEqDiff, Nat.reduceAdd, bound, capsOf, Nat.reduceLeDiff, AHeap.cell, AHeap.row, AHeap.cells, AHeap.put, AHeap.has, afill, Nat.reduceLT, List.reduceReplicate, alen, afillRows, afresh, aappend, srcRows, Nat.reduceSub, Nat.reduceMul, ints_len, rets_len, ownC, blksC, ownE, blksE, ownT]
  refine c_sameEpochs c.1 hct.es _ _ (by rw [epv, epF]; exact (by repeat' (first | exact AVsLe.nil | refine AVsLe.cons ?_ ?_ | exact AVLe.one AVLe0.no | refine AVLe.one (AVLe0.s ?_) | refine AVLe.one (AVLe0.agg ?_) | exact SVsLe.nil | refine SVsLe.cons ?_ ?_ | exact Wk.free rfl | exact Wk.lnils | exact Wk.lemp | exact Wk.frz (by simp) rfl rfl (by simp [ints_len]) (by simp [ints_len, List.take_of_length_le]) (ints_data _) | exact Wk.frz (by simp) rfl rfl (by simp [rets_len]) (by simp [rets_len, List.take_of_length_le]) (rets_data _)))) _ ?_
  simp only [ne_eq, S1, S2, S3, S4, S5, S6, S7, S8, S9, S10, S11, S12, S13, guarded, opWp, onX, onO, onFn, chks, chkOne, xop, evf, fget, fput, fkeep, finit, aress, ares, abin, pickv, AV.cells, reduceCtorEq, reduceIte, Nat.reduceEqDiff, Nat.reduceAdd, bound, capsOf, Nat.reduceLeDiff, AHeap.cell, AHeap.row, AHeap.cells, AHeap.put, AHeap.has, afill, Nat.reduceLT, List.reduceReplicate, alen, afillRows, afresh, aappend, srcRows, Nat.reduceSub, Nat.reduceMul, ints_len, rets_len, ownC, blksC, ownE, blksE, ownT]
  refine c_sameEpochs h.1 hht.es _ _ (by rw [epv, epF]; exact (by repeat' (first | exact AVsLe.nil | refine AVsLe.cons ?_ ?_ | exact AVLe.one AVLe0.no | refine AVLe.one (AVLe0.s ?_) | refine AVLe.one (AVLe0.agg ?_) | exact SVsLe.nil | refine SVsLe.cons ?_ ?_ | exact Wk.free rfl | exact Wk.lnils | exact Wk.lemp | exact Wk.frz (by simp) rfl rfl (by simp [ints_len]) (by simp [ints_len, List.take_of_length_le]) (ints_data _) | exact Wk.frz (by simp) rfl rfl (by simp [rets_len]) (by simp [rets_len, List.take_of_length_le]) (rets_data _)))) _ ?_
  simp only [ne_eq, S1, S2, S3, S4, S5, S6, S7, S8, S9, S10, S11, S12, S13, guarded, opWp, onX, onO, onFn, chks, chkOne, xop, evf, fget, fput, fkeep, finit, aress, ares, abin, pickv, AV.cells, reduceCtorEq, reduceIte, Nat.reduceEqDiff, Nat.reduceAdd, bound, capsOf, Nat.reduceLeDiff, AHeap.cell, AHeap.row, AHeap.cells, AHeap.put, AHeap.has, afill, Nat.reduceLT, List.reduceReplicate, alen, afillRows, afresh, aappend, srcRows, Nat.reduceSub, Nat.reduceMul, ints_len, rets_len, ownC, blksC, ownE, blksE, ownT]
  refine c_sameEpochs k.1 hkt.es _ _ (by rw [epv, epF]; exact (by repeat' (first | exact AVsLe.nil | refine AVsLe.cons ?_ ?_ | exact AVLe.one AVLe0.no | refine AVLe.one (AVLe0.s ?_) | refine AVLe.one (AVLe0.agg ?_) | exact SVsLe.nil | refine SVsLe.cons ?_ ?_ | exact Wk.free rfl | exact Wk.lnils | exact Wk.lemp | exact Wk.frz (by simp) rfl rfl (by simp [ints_len]) (by simp [ints_len, List.take_of_length_le]) (ints_data _) | exact Wk.frz (by simp) rfl rfl (by simp [rets_len]) (by simp [rets_len, List.take_of_length_le]) (rets_data _)))) _ ?_
  simp only [ne_eq, S1, S2, S3, S4, S5, S6, S7, S8, S9, S10, S11, S12, S13, guarded, opWp, onX, onO, onFn, chks, chkOne, xop, evf, fget, fput, fkeep, finit, aress, ares, abin, pickv, AV.cells, reduceCtorEq, reduceIte, Nat.reduceEqDiff, Nat.reduceAdd, bound, capsOf, Nat.reduceLeDiff, AHeap.cell, AHeap.row, AHeap.cells, AHeap.put, AHeap.has, afill, Nat.reduceLT, List.reduceReplicate, alen, afillRows, afresh, aappend, srcRows, Nat.reduceSub, Nat.reduceMul, ints_len, rets_len, ownC, blksC, ownE, blksE, ownT]
  refine c_sameEpochs n.1 hnt.es _ _ (by rw [epv, epF]; exact (by repeat' (first | exact AVsLe.nil | refine AVsLe.cons ?_ ?_ | exact AVLe.one AVLe0.no | refine AVLe.one (AVLe0.s ?_) | refine AVLe.one (AVLe0.agg ?_) | exact SVsLe.nil | refine SVsLe.cons ?_ ?_ | exact Wk.free rfl | exact Wk.lnils | exact Wk.lemp | exact Wk.frz (by simp) rfl rfl (by simp [ints_len]) (by simp [ints_len, List.take_of_length_le]) (ints_data _) | exact Wk.frz (by simp) rfl rfl (by simp [rets_len]) (by simp [rets_len, List.take_of_length_le]) (rets_data _)))) _ ?_
  simp only [ne_eq, S1, S2, S3, S4, S5, S6, S7, S8, S9, S10, S11, S12, S13, guarded, opWp, onX, onO, onFn, chks, chkOne, xop, evf, fget, fput, fkeep, finit, aress, ares, abin, pickv, AV.cells, reduceCtorEq, reduceIte, Nat.reduceEqDiff, Nat.reduceAdd, bound, capsOf, Nat.reduceLeDiff, AHeap.cell, AHeap.row, AHeap.cells, AHeap.put, AHeap.has, afill, Nat.reduceLT, List.reduceReplicate, alen, afillRows, afresh, aappend, srcRows, Nat.reduceSub, Nat.reduceMul, ints_len, rets_len, ownC, blksC, ownE, blksE, ownT]
  refine c_sameInts n.2 (by omega) _ _ (by repeat' (first | exact AVsLe.nil | refine AVsLe.cons ?_ ?_ | exact AVLe.one AVLe0.no | refine AVLe.one (AVLe0.s ?_) | refine AVLe.one (AVLe0.agg ?_) | exact SVsLe.nil | refine SVsLe.cons ?_ ?_ | exact Wk.free rfl | exact Wk.lnils | exact Wk.lemp | exact Wk.frz (by simp) rfl rfl (by simp [ints_len]) (by simp [ints_len, List.take_of_length_le]) (ints_data _) | exact Wk.frz (by simp) rfl rfl (by simp [rets_len]) (by simp [rets_len, List.take_of_length_le]) (rets_data _))) _ ?_
  simp only [ne_eq, S1, S2, S3, S4, S5, S6, S7, S8, S9, S10, S11, S12, S13, guarded, opWp, onX, onO, onFn, chks, chkOne, xop, evf, fget, fput, fkeep, finit, aress, ares, abin, pickv, AV.cells, reduceCtorEq, reduceIte, Nat.reduceEqDiff, Nat.reduceAdd, bound, capsOf, Nat.reduceLeDiff, AHeap.cell, AHeap.row, AHeap.cells, AHeap.put, AHeap.has, afill, Nat.reduceLT, List.reduceReplicate, alen, afillRows, afresh, aappend, srcRows, Nat.reduceSub, Nat.reduceMul, ints_len, rets_len]
  refine c_iEpochsOk p hpt.es _ _ (by rw [epv, epF]; exact (by repeat' (first | exact AVsLe.nil | refine AVsLe.cons ?_ ?_ | exact AVLe.one AVLe0.no | refine AVLe.one (AVLe0.s ?_) | refine AVLe.one (AVLe0.agg ?_) | exact SVsLe.nil | refine SVsLe.cons ?_ ?_ | exact Wk.free rfl | exact Wk.lnils | exact Wk.lemp | exact Wk.frz (by simp) rfl rfl (by simp [ints_len]) (by simp [ints_len, List.take_of_length_le]) (ints_data _) | exact Wk.frz (by simp) rfl rfl (by simp [rets_len]) (by simp [rets_len, List.take_of_length_le]) (rets_data _)))) _ ?_
  simp only [ne_eq, S1, S2, S3, S4, S5, S6, S7, S8, S9, S10, S11, S12, S13, guarded, opWp, onX, onO, onFn, chks, chkOne, xop, evf, fget, fput, fkeep, finit, aress, ares, abin, pickv, AV.cells, reduceCtorEq, reduceIte, Nat.reduceEqDiff, Nat.reduceAdd, bound, capsOf, Nat.reduceLeDiff, AHeap.cell, AHeap.row, AHeap.cells, AHeap.put, AHeap.has, afill, Nat.reduceLT, List.reduceReplicate, alen, afillRows, afresh, aappend, srcRows, Nat.reduceSub, Nat.reduceMul, ints_len, rets_len]
  refine c_sEpochsOk p hpt.es _ _ (by rw [epv, epF]; exact (by repeat' (first | exact AVsLe.nil | refine AVsLe.cons ?_ ?_ | exact AVLe.one AVLe0.no | refine AVLe.one (AVLe0.s ?_) | refine AVLe.one (AVLe0.agg ?_) | exact SVsLe.nil | refine SVsLe.cons ?_ ?_ | exact Wk.free rfl | exact Wk.lnils | exact Wk.lemp | exact Wk.frz (by simp) rfl rfl (by simp [ints_len]) (by simp [ints_len, List.take_of_length_le]) (ints_data _) | exact Wk.frz (by simp) rfl rfl (by simp [rets_len]) (by simp [rets_len, List.take_of_length_le]) (rets_data _)))) _ ?_
  simp only [ne_eq, S1, S2, S3, S4, S5, S6, S7, S8, S9, S10, S11, S12, S13, guarded, opWp, onX, onO, onFn, chks, chkOne, xop, evf, fget, fput, fkeep, finit, aress, ares, abin, pickv, AV.cells, reduceCtorEq, reduceIte, Nat.reduceEqDiff, Nat.reduceAdd, bound, capsOf, Nat.reduceLeDiff, AHeap.cell, AHeap.row, AHeap.cells, AHeap.put, AHeap.has, afill, Nat.reduceLT, List.reduceReplicate, alen, afillRows, afresh, aappend, srcRows, Nat.reduceSub, Nat.reduceMul, ints_len, rets_len, not_true_eq_false]
  refine c_sameEpochs r.1 hrt.es _ _ (by rw [epv, epF]; exact (by repeat' (first | exact AVsLe.nil | refine AVsLe.cons ?_ ?_ | exact AVLe.one AVLe0.no | refine AVLe.one (AVLe0.s ?_) | refine AVLe.one (AVLe0.agg ?_) | exact SVsLe.nil | refine SVsLe.cons ?_ ?_ | exact Wk.free rfl | exact Wk.lnils | exact Wk.lemp | exact Wk.frz (by simp) rfl rfl (by simp [ints_len]) (by simp [ints_len, List.take_of_length_le]) (ints_data _) | exact Wk.frz (by simp) rfl rfl (by simp [rets_len]) (by simp [rets_len, List.take_of_length_le]) (rets_data _)))) _ ?_
  simp only [ne_eq, S1, S2, S3, S4, S5, S6, S7, S8, S9, S10, S11, S12, S13, guarded, opWp, onX, onO, onFn, chks, chkOne, xop, evf, fget, fput, fkeep, finit, aress, ares, abin, pickv, AV.cells, reduceCtorEq, reduceIte, Nat.reduceEqDiff, Nat.reduceAdd, bound, capsOf, Nat.reduceLeDiff, AHeap.cell, AHeap.row, AHeap.cells, AHeap.put, AHeap.has, afill, Nat.reduceLT, List.reduceReplicate, alen, afillRows, afresh, aappend, srcRows, Nat.reduceSub, Nat.reduceMul, ints_len, rets_len, not_true_eq_false]
  obtain ⟨a, aok⟩ := a
  obtain ⟨c, cok⟩ := c
  obtain ⟨h, hok⟩ := h
  obtain ⟨k, kok⟩ := k
  have hml := hmd.l
  have w9 : IntKind.i64.wrap ((n.1.list.length : Int) + (n.2.length : Int)) = (n.1.list.length : Int) + (n.2.length : Int) := by have := hnt.list; exact wrap_id (by omega) (by omega)
  (cases aok <;> first | (obtain rfl : a = e := ha0 rfl; simp only [ne_eq, S1, S2, S3, S4, S5, S6, S7, S8, S9, S10, S11, S12, S13, guarded, opWp, onX, onO, onFn, chks, chkOne, xop, evf, fget, fput, fkeep, finit, aress, ares, abin, pickv, AV.cells, reduceCtorEq, reduceIte, Nat.reduceEqDiff, Nat.reduceAdd, bound, capsOf, Nat.reduceLeDiff, AHeap.cell, AHeap.row, AHeap.cells, AHeap.put, AHeap.has, afill, Nat.reduceLT, List.reduceReplicate, alen, afillRows, afresh, aappend, srcRows, Nat.reduceSub, Nat.reduceMul, ints_len, rets_len]; refine c_sameEpochs a het.es _ _ (by rw [epv, epF]; exact (by repeat' (first | exact AVsLe.nil | refine AVsLe.cons ?_ ?_ | exact AVLe.one AVLe0.no | refine AVLe.one (AVLe0.s ?_) | refine AVLe.one (AVLe0.agg ?_) | exact SVsLe.nil | refine SVsLe.cons ?_ ?_ | exact Wk.free rfl | exact Wk.lnils | exact Wk.lemp | exact Wk.frz (by simp) rfl rfl (by simp [ints_len]) (by simp [ints_len, List.take_of_length_le]) (ints_data _) | exact Wk.frz (by simp) rfl rfl (by simp [rets_len]) (by simp [rets_len, List.take_of_length_le]) (rets_data _)))) _ ?_; simp only [ne_eq, S1, S2, S3, S4, S5, S6, S7, S8, S9, S10, S11, S12, S13, guarded, opWp, onX, onO, onFn, chks, chkOne, xop, evf, fget, fput, fkeep, finit, aress, ares, abin, pickv, AV.cells, reduceCtorEq, reduceIte, Nat.reduceEqDiff, Nat.reduceAdd, bound, capsOf, Nat.reduceLeDiff, AHeap.cell, AHeap.row, AHeap.cells, AHeap.put, AHeap.has, afill, Nat.reduceLT, List.reduceReplicate, alen, afillRows, afresh, aappend, srcRows, Nat.reduceSub, Nat.reduceMul, ints_len, rets_len]) | simp only [ne_eq, S1, S2, S3, S4, S5, S6, S7, S8, S9, S10, S11, S12, S13, guarded, opWp, onX, onO, onFn, chks, chkOne, xop, evf, fget, fput, fkeep, finit, aress, ares, abin, pickv, AV.cells, reduceCtorEq, reduceIte, Nat.reduceEqDiff, Nat.reduceAdd, bound, capsOf, Nat.reduceLeDiff, AHeap.cell, AHeap.row, AHeap.cells, AHeap.put, AHeap.has, afill, Nat.reduceLT, List.reduceReplicate, alen, afillRows, afresh, aappend, srcRows, Nat.reduceSub, Nat.reduceMul, ints_len, rets_len])
  all_goals (cases cok <;> first | (obtain rfl : c = f := hc0 rfl; simp only [ne_eq, S1, S2, S3, S4, S5, S6, S7, S8, S9, S10, S11, S12, S13, guarded, opWp, onX, onO, onFn, chks, chkOne, xop, evf, fget, fput, fkeep, finit, aress, ares, abin, pickv, AV.cells, reduceCtorEq, reduceIte, Nat.reduceEqDiff, Nat.reduceAdd, bound, capsOf, Nat.reduceLeDiff, AHeap.cell, AHeap.row, AHeap.cells, AHeap.put, AHeap.has, afill, Nat.reduceLT, List.reduceReplicate, alen, afillRows, afresh, aappend, srcRows, Nat.reduceSub, Nat.reduceMul, ints_len, rets_len]; refine c_sameEpochs c hft.es _ _ (by rw [epv, epF]; exact (by repeat' (first | exact AVsLe.nil | refine AVsLe.cons ?_ ?_ | exact AVLe.one AVLe0.no | refine AVLe.one (AVLe0.s ?_) | refine AVLe.one (AVLe0.agg ?_) | exact SVsLe.nil | refine SVsLe.cons ?_ ?_ | exact Wk.free rfl | exact Wk.lnils | exact Wk.lemp | exact Wk.frz (by simp) rfl rfl (by simp [ints_len]) (by simp [ints_len, List.take_of_length_le]) (ints_data _) | exact Wk.frz (by simp) rfl rfl (by simp [rets_len]) (by simp [rets_len, List.take_of_length_le]) (rets_data _)))) _ ?_; simp only [ne_eq, S1, S2, S3, S4, S5, S6, S7, S8, S9, S10, S11, S12, S13, guarded, opWp, onX, onO, onFn, chks, chkOne, xop, evf, fget, fput, fkeep, finit, aress, ares, abin, pickv, AV.cells, reduceCtorEq, reduceIte, Nat.reduceEqDiff, Nat.reduceAdd, bound, capsOf, Nat.reduceLeDiff, AHeap.cell, AHeap.row, AHeap.cells, AHeap.put, AHeap.has, afill, Nat.reduceLT, List.reduceReplicate, alen, afillRows, afresh, aappend, srcRows, Nat.reduceSub, Nat.reduceMul, ints_len, rets_len]) | simp only [ne_eq, S1, S2, S3, S4, S5, S6, S7, S8, S9, S10, S11, S12, S13, guarded, opWp, onX, onO, onFn, chks, chkOne, xop, evf, fget, fput, fkeep, finit, aress, ares, abin, pickv, AV.cells, reduceCtorEq, reduceIte, Nat.reduceEqDiff, Nat.reduceAdd, bound, capsOf, Nat.reduceLeDiff, AHeap.cell, AHeap.row, AHeap.cells, AHeap.put, AHeap.has, afill, Nat.reduceLT, List.reduceReplicate, alen, afillRows, afresh, aappend, srcRows, Nat.reduceSub, Nat.reduceMul, ints_len, rets_len])
  all_goals (cases hok <;> first | (obtain rfl : h = g := hh0 rfl; simp only [ne_eq, S1, S2, S3, S4, S5, S6, S7, S8, S9, S10, S11, S12, S13, guarded, opWp, onX, onO, onFn, chks, chkOne, xop, evf, fget, fput, fkeep, finit, aress, ares, abin, pickv, AV.cells, reduceCtorEq, reduceIte, Nat.reduceEqDiff, Nat.reduceAdd, bound, capsOf, Nat.reduceLeDiff, AHeap.cell, AHeap.row, AHeap.cells, AHeap.put, AHeap.has, afill, Nat.reduceLT, List.reduceReplicate, alen, afillRows, afresh, aappend, srcRows, Nat.reduceSub, Nat.reduceMul, ints_len, rets_len]; refine c_sameEpochs h hgt.es _ _ (by rw [epv, epF]; exact (by repeat' (first | exact AVsLe.nil | refine AVsLe.cons ?_ ?_ | exact AVLe.one AVLe0.no | refine AVLe.one (AVLe0.s ?_) | refine AVLe.one (AVLe0.agg ?_) | exact SVsLe.nil | refine SVsLe.cons ?_ ?_ | exact Wk.free rfl | exact Wk.lnils | exact Wk.lemp | exact Wk.frz (by simp) rfl rfl (by simp [ints_len]) (by simp [ints_len, List.take_of_length_le]) (ints_data _) | exact Wk.frz (by simp) rfl rfl (by simp [rets_len]) (by simp [rets_len, List.take_of_length_le]) (rets_data _)))) _ ?_; simp only [ne_eq, S1, S2, S3, S4, S5, S6, S7, S8, S9, S10, S11, S12, S13, guarded, opWp, onX, onO, onFn, chks, chkOne, xop, evf, fget, fput, fkeep, finit, aress, ares, abin, pickv, AV.cells, reduceCtorEq, reduceIte, Nat.reduceEqDiff, Nat.reduceAdd, bound, capsOf, Nat.reduceLeDiff, AHeap.cell, AHeap.row, AHeap.cells, AHeap.put, AHeap.has, afill, Nat.reduceLT, List.reduceReplicate, alen, afillRows, afresh, aappend, srcRows, Nat.reduceSub, Nat.reduceMul, ints_len, rets_len]) | simp only [ne_eq, S1, S2, S3, S4, S5, S6, S7, S8, S9, S10, S11, S12, S13, guarded, opWp, onX, onO, onFn, chks, chkOne, xop, evf, fget, fput, fkeep, finit, aress, ares, abin, pickv, AV.cells, reduceCtorEq, reduceIte, Nat.reduceEqDiff, Nat.reduceAdd, bound, capsOf, Nat.reduceLeDiff, AHeap.cell, AHeap.row, AHeap.cells, AHeap.put, AHeap.has, afill, Nat.reduceLT, List.reduceReplicate, alen, afillRows, afresh, aappend, srcRows, Nat.reduceSub, Nat.reduceMul, ints_len, rets_len])
  all_goals (cases kok <;> first | (obtain rfl : k = j := hk0 rfl; simp only [ne_eq, S1, S2, S3, S4, S5, S6, S7, S8, S9, S10, S11, S12, S13, guarded, opWp, onX, onO, onFn, chks, chkOne, xop, evf, fget, fput, fkeep, finit, aress, ares, abin, pickv, AV.cells, reduceCtorEq, reduceIte, Nat.reduceEqDiff, Nat.reduceAdd, bound, capsOf, Nat.reduceLeDiff, AHeap.cell, AHeap.row, AHeap.cells, AHeap.put, AHeap.has, afill, Nat.reduceLT, List.reduceReplicate, alen, afillRows, afresh, aappend, srcRows, Nat.reduceSub, Nat.reduceMul, ints_len, rets_len]; refine c_sameEpochs k hjt.es _ _ (by rw [epv, epF]; exact (by repeat' (first | exact AVsLe.nil | refine AVsLe.cons ?_ ?_ | exact AVLe.one AVLe0.no | refine AVLe.one (AVLe0.s ?_) | refine AVLe.one (AVLe0.agg ?_) | exact SVsLe.nil | refine SVsLe.cons ?_ ?_ | exact Wk.free rfl | exact Wk.lnils | exact Wk.lemp | exact Wk.frz (by simp) rfl rfl (by simp [ints_len]) (by simp [ints_len, List.take_of_length_le]) (ints_data _) | exact Wk.frz (by simp) rfl rfl (by simp [rets_len]) (by simp [rets_len, List.take_of_length_le]) (rets_data _)))) _ ?_; simp only [ne_eq, S1, S2, S3, S4, S5, S6, S7, S8, S9, S10, S11, S12, S13, guarded, opWp, onX, onO, onFn, chks, chkOne, xop, evf, fget, fput, fkeep, finit, aress, ares, abin, pickv, AV.cells, reduceCtorEq, reduceIte, Nat.reduceEqDiff, Nat.reduceAdd, bound, capsOf, Nat.reduceLeDiff, AHeap.cell, AHeap.row, AHeap.cells, AHeap.put, AHeap.has, afill, Nat.reduceLT, List.reduceReplicate, alen, afillRows, afresh, aappend, srcRows, Nat.reduceSub, Nat.reduceMul, ints_len, rets_len]) | simp only [ne_eq, S1, S2, S3, S4, S5, S6, S7, S8, S9, S10, S11, S12, S13, guarded, opWp, onX, onO, onFn, chks, chkOne, xop, evf, fget, fput, fkeep, finit, aress, ares, abin, pickv, AV.cells, reduceCtorEq, reduceIte, Nat.reduceEqDiff, Nat.reduceAdd, bound, capsOf, Nat.reduceLeDiff, AHeap.cell, AHeap.row, AHeap.cells, AHeap.put, AHeap.has, afill, Nat.reduceLT, List.reduceReplicate, alen, afillRows, afresh, aappend, srcRows, Nat.reduceSub, Nat.reduceMul, ints_len, rets_len])
  all_goals try (refine c_iEpochsOk a hat.es _ _ (by rw [epv, epF]; exact (by repeat' (first | exact AVsLe.nil | refine AVsLe.cons ?_ ?_ | exact AVLe.one AVLe0.no | refine AVLe.one (AVLe0.s ?_) | refine AVLe.one (AVLe0.agg ?_) | exact SVsLe.nil | refine SVsLe.cons ?_ ?_ | exact Wk.free rfl | exact Wk.lnils | exact Wk.lemp | exact Wk.frz (by simp) rfl rfl (by simp [ints_len]) (by simp [ints_len, List.take_of_length_le]) (ints_data _) | exact Wk.frz (by simp) rfl rfl (by simp [rets_len]) (by simp [rets_len, List.take_of_length_le]) (rets_data _)))) _ ?_; rw [ha1 rfl]; simp only [ne_eq, S1, S2, S3, S4, S5, S6, S7, S8, S9, S10, S11, S12, S13, guarded, opWp, onX, onO, onFn, chks, chkOne, xop, evf, fget, fput, fkeep, finit, aress, ares, abin, pickv, AV.cells, reduceCtorEq, reduceIte, Nat.reduceEqDiff, Nat.reduceAdd, bound, capsOf, Nat.reduceLeDiff, AHeap.cell, AHeap.row, AHeap.cells, AHeap.put, AHeap.has, afill, Nat.reduceLT, List.reduceReplicate, alen, afillRows, afresh, aappend, srcRows, Nat.reduceSub, Nat.reduceMul, ints_len, rets_len])
  all_goals try (refine c_iEpochsOk c hct.es _ _ (by rw [epv, epF]; exact (by repeat' (first | exact AVsLe.nil | refine AVsLe.cons ?_ ?_ | exact AVLe.one AVLe0.no | refine AVLe.one (AVLe0.s ?_) | refine AVLe.one (AVLe0.agg ?_) | exact SVsLe.nil | refine SVsLe.cons ?_ ?_ | exact Wk.free rfl | exact Wk.lnils | exact Wk.lemp | exact Wk.frz (by simp) rfl rfl (by simp [ints_len]) (by simp [ints_len, List.take_of_length_le]) (ints_data _) | exact Wk.frz (by simp) rfl rfl (by simp [rets_len]) (by simp [rets_len, List.take_of_length_le]) (rets_data _)))) _ ?_; rw [hc1 rfl]; simp only [ne_eq, S1, S2, S3, S4, S5, S6, S7, S8, S9, S10, S11, S12, S13, guarded, opWp, onX, onO, onFn, chks, chkOne, xop, evf, fget, fput, fkeep, finit, aress, ares, abin, pickv, AV.cells, reduceCtorEq, reduceIte, Nat.reduceEqDiff, Nat.reduceAdd, bound, capsOf, Nat.reduceLeDiff, AHeap.cell, AHeap.row, AHeap.cells, AHeap.put, AHeap.has, afill, Nat.reduceLT, List.reduceReplicate, alen, afillRows, afresh, aappend, srcRows, Nat.reduceSub, Nat.reduceMul, ints_len, rets_len])
  all_goals try (refine c_iEpochsOk h hht.es _ _ (by rw [epv, epF]; exact (by repeat' (first | exact AVsLe.nil | refine AVsLe.cons ?_ ?_ | exact AVLe.one AVLe0.no | refine AVLe.one (AVLe0.s ?_) | refine AVLe.one (AVLe0.agg ?_) | exact SVsLe.nil | refine SVsLe.cons ?_ ?_ | exact Wk.free rfl | exact Wk.lnils | exact Wk.lemp | exact Wk.frz (by simp) rfl rfl (by simp [ints_len]) (by simp [ints_len, List.take_of_length_le]) (ints_data _) | exact Wk.frz (by simp) rfl rfl (by simp [rets_len]) (by simp [rets_len, List.take_of_length_le]) (rets_data _)))) _ ?_; rw [hh1 rfl]; simp only [ne_eq, S1, S2, S3, S4, S5, S6, S7, S8, S9, S10, S11, S12, S13, guarded, opWp, onX, onO, onFn, chks, chkOne, xop, evf, fget, fput, fkeep, finit, aress, ares, abin, pickv, AV.cells, reduceCtorEq, reduceIte, Nat.reduceEqDiff, Nat.reduceAdd, bound, capsOf, Nat.reduceLeDiff, AHeap.cell, AHeap.row, AHeap.cells, AHeap.put, AHeap.has, afill, Nat.reduceLT, List.reduceReplicate, alen, afillRows, afresh, aappend, srcRows, Nat.reduceSub, Nat.reduceMul, ints_len, rets_len])
  all_goals try (refine c_iEpochsOk k hkt.es _ _ (by rw [epv, epF]; exact (by repeat' (first | exact AVsLe.nil | refine AVsLe.cons ?_ ?_ | exact AVLe.one AVLe0.no | refine AVLe.one (AVLe0.s ?_) | refine AVLe.one (AVLe0.agg ?_) | exact SVsLe.nil | refine SVsLe.cons ?_ ?_ | exact Wk.free rfl | exact Wk.lnils | exact Wk.lemp | exact Wk.frz (by simp) rfl rfl (by simp [ints_len]) (by simp [ints_len, List.take_of_length_le]) (ints_data _) | exact Wk.frz (by simp) rfl rfl (by simp [rets_len]) (by simp [rets_len, List.take_of_length_le]) (rets_data _)))) _ ?_; rw [hk1 rfl]; simp only [ne_eq, S1, S2, S3, S4, S5, S6, S7, S8, S9, S10, S11, S12, S13, guarded, opWp, onX, onO, onFn, chks, chkOne, xop, evf, fget, fput, fkeep, finit, aress, ares, abin, pickv, AV.cells, reduceCtorEq, reduceIte, Nat.reduceEqDiff, Nat.reduceAdd, bound, capsOf, Nat.reduceLeDiff, AHeap.cell, AHeap.row, AHeap.cells, AHeap.put, AHeap.has, afill, Nat.reduceLT, List.reduceReplicate, alen, afillRows, afresh, aappend, srcRows, Nat.reduceSub, Nat.reduceMul, ints_len, rets_len])
  all_goals
    refine c_iEpochsOk m hmt.es _ _ (by rw [epv, epF]; exact (by repeat' (first | exact AVsLe.nil | refine AVsLe.cons ?_ ?_ | exact AVLe.one AVLe0.no | refine AVLe.one (AVLe0.s ?_) | refine AVLe.one (AVLe0.agg ?_) | exact SVsLe.nil | refine SVsLe.cons ?_ ?_ | exact Wk.free rfl | exact Wk.lnils | exact Wk.lemp | exact Wk.frz (by simp) rfl rfl (by simp [ints_len]) (by simp [ints_len, List.take_of_length_le]) (ints_data _) | exact Wk.frz (by simp) rfl rfl (by simp [rets_len]) (by simp [rets_len, List.take_of_length_le]) (rets_data _)))) _ ?_
    cases hm : epOk m
    · simp only [ne_eq, S1, S2, S3, S4, S5, S6, S7, S8, S9, S10, S11, S12, S13, guarded, opWp, onX, onO, onFn, chks, chkOne, xop, evf, fget, fput, fkeep, finit, aress, ares, abin, pickv, AV.cells, reduceCtorEq, reduceIte, Nat.reduceEqDiff, Nat.reduceAdd, bound, capsOf, Nat.reduceLeDiff, AHeap.cell, AHeap.row, AHeap.cells, AHeap.put, AHeap.has, afill, Nat.reduceLT, List.reduceReplicate, alen, afillRows, afresh, aappend, srcRows, Nat.reduceSub, Nat.reduceMul, ints_len, rets_len]
    · obtain ⟨hn2, hn3⟩ := hn1 hm
      have hn4 : (n.1.list.length : Int) + (n.2.length : Int) = (m.list.length : Int) := by omega
      simp only [ne_eq, S1, S2, S3, S4, S5, S6, S7, S8, S9, S10, S11, S12, S13, guarded, opWp, onX, onO, onFn, chks, chkOne, xop, evf, fget, fput, fkeep, finit, aress, ares, abin, pickv, AV.cells, reduceCtorEq, reduceIte, Nat.reduceEqDiff, Nat.reduceAdd, bound, capsOf, Nat.reduceLeDiff, AHeap.cell, AHeap.row, AHeap.cells, AHeap.put, AHeap.has, afill, Nat.reduceLT, List.reduceReplicate, alen, afillRows, afresh, aappend, srcRows, Nat.reduceSub, Nat.reduceMul, ints_len, rets_len]
      refine c_iEpochsOk n.1 hnt.es _ _ (by rw [epv, epF]; exact (by repeat' (first | exact AVsLe.nil | refine AVsLe.cons ?_ ?_ | exact AVLe.one AVLe0.no | refine AVLe.one (AVLe0.s ?_) | refine AVLe.one (AVLe0.agg ?_) | exact SVsLe.nil | refine SVsLe.cons ?_ ?_ | exact Wk.free rfl | exact Wk.lnils | exact Wk.lemp | exact Wk.frz (by simp) rfl rfl (by simp [ints_len]) (by simp [ints_len, List.take_of_length_le]) (ints_data _) | exact Wk.frz (by simp) rfl rfl (by simp [rets_len]) (by simp [rets_len, List.take_of_length_le]) (rets_data _)))) _ ?_
      rw [hn2]
      simp only [ne_eq, S1, S2, S3, S4, S5, S6, S7, S8, S9, S10, S11, S12, S13, guarded, opWp, onX, onO, onFn, chks, chkOne, xop, evf, fget, fput, fkeep, finit, aress, ares, abin, pickv, AV.cells, reduceCtorEq, reduceIte, Nat.reduceEqDiff, Nat.reduceAdd, bound, capsOf, Nat.reduceLeDiff, AHeap.cell, AHeap.row, AHeap.cells, AHeap.put, AHeap.has, afill, Nat.reduceLT, List.reduceReplicate, alen, afillRows, afresh, aappend, srcRows, Nat.reduceSub, Nat.reduceMul, ints_len, rets_len, w9, eq_true hn4]
end Go.Proofs.Ytmfiegjncfgohaa.Den
