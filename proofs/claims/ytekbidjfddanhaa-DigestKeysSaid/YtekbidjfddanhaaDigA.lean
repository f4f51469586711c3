/- SHA-256 of "abc": its words. -/
import Derived.Test.YtekbidjfddanhaaDigS
namespace Go.Proofs.Ytekbidjfddanhaa
open Go.RowKit Go.Proofs.YtekbidjfddanhaaW.PrintWords
set_option linter.unusedVariables false
set_option linter.unusedSimpArgs false

def abcL : List Int := [97, 98, 99, 128, 0, 0, 0, 0, 0, 0, 0, 0, 0, 0, 0, 0, 0, 0, 0, 0, 0, 0, 0, 0, 0, 0, 0, 0, 0, 0, 0, 0, 0, 0, 0, 0, 0, 0, 0, 0, 0, 0, 0, 0, 0, 0, 0, 0, 0, 0, 0, 0, 0, 0, 0, 0, 0, 0, 0, 0, 0, 0, 0, 24]
def abcW : List Int := [1633837952, 0, 0, 0, 0, 0, 0, 0, 0, 0, 0, 0, 0, 0, 0, 24, 1633837952, 983040, 2108187653, 1610613702, 1050508152, 25426944, 316456923, 3806512014, 3357629466, 3073800610, 3854317833, 845560923, 2636160359, 3968280267, 1881225380, 3552024379, 2482346367, 996719219, 2952069057, 4043988066, 176896406, 1924104970, 2483675966, 610538786, 2672279444, 4037431130, 1042573945, 657669027, 206005234, 2215296807, 2049510749, 106709978, 4215179723, 3430291419, 3118885940, 2845390439, 2226839261, 3256115900, 344409900, 2987358873, 4015503821, 3957764664, 2682456414, 2025622859, 2755645205, 1720397816, 4004225740, 313650667]
theorem aw0 : wF abcL 0 = 1633837952 := (wF_lo (by decide)).trans (by decide +kernel)
theorem aw1 : wF abcL 1 = 0 := (wF_lo (by decide)).trans (by decide +kernel)
theorem aw2 : wF abcL 2 = 0 := (wF_lo (by decide)).trans (by decide +kernel)
theorem aw3 : wF abcL 3 = 0 := (wF_lo (by decide)).trans (by decide +kernel)
theorem aw4 : wF abcL 4 = 0 := (wF_lo (by decide)).trans (by decide +kernel)
theorem aw5 : wF abcL 5 = 0 := (wF_lo (by decide)).trans (by decide +kernel)
theorem aw6 : wF abcL 6 = 0 := (wF_lo (by decide)).trans (by decide +kernel)
theorem aw7 : wF abcL 7 = 0 := (wF_lo (by decide)).trans (by decide +kernel)
theorem aw8 : wF abcL 8 = 0 := (wF_lo (by decide)).trans (by decide +kernel)
theorem aw9 : wF abcL 9 = 0 := (wF_lo (by decide)).trans (by decide +kernel)
theorem aw10 : wF abcL 10 = 0 := (wF_lo (by decide)).trans (by decide +kernel)
theorem aw11 : wF abcL 11 = 0 := (wF_lo (by decide)).trans (by decide +kernel)
theorem aw12 : wF abcL 12 = 0 := (wF_lo (by decide)).trans (by decide +kernel)
theorem aw13 : wF abcL 13 = 0 := (wF_lo (by decide)).trans (by decide +kernel)
theorem aw14 : wF abcL 14 = 0 := (wF_lo (by decide)).trans (by decide +kernel)
theorem aw15 : wF abcL 15 = 24 := (wF_lo (by decide)).trans (by decide +kernel)
theorem aw16 : wF abcL 16 = 1633837952 := by rw [wF_hi (n := 16) (by decide)]; simp only [Nat.reduceSub, aw0, aw1, aw9, aw14]; decide +kernel
theorem aw17 : wF abcL 17 = 983040 := by rw [wF_hi (n := 17) (by decide)]; simp only [Nat.reduceSub, aw1, aw2, aw10, aw15]; decide +kernel
theorem aw18 : wF abcL 18 = 2108187653 := by rw [wF_hi (n := 18) (by decide)]; simp only [Nat.reduceSub, aw2, aw3, aw11, aw16]; decide +kernel
theorem aw19 : wF abcL 19 = 1610613702 := by rw [wF_hi (n := 19) (by decide)]; simp only [Nat.reduceSub, aw3, aw4, aw12, aw17]; decide +kernel
theorem aw20 : wF abcL 20 = 1050508152 := by rw [wF_hi (n := 20) (by decide)]; simp only [Nat.reduceSub, aw4, aw5, aw13, aw18]; decide +kernel
theorem aw21 : wF abcL 21 = 25426944 := by rw [wF_hi (n := 21) (by decide)]; simp only [Nat.reduceSub, aw5, aw6, aw14, aw19]; decide +kernel
theorem aw22 : wF abcL 22 = 316456923 := by rw [wF_hi (n := 22) (by decide)]; simp only [Nat.reduceSub, aw6, aw7, aw15, aw20]; decide +kernel
theorem aw23 : wF abcL 23 = 3806512014 := by rw [wF_hi (n := 23) (by decide)]; simp only [Nat.reduceSub, aw7, aw8, aw16, aw21]; decide +kernel
theorem aw24 : wF abcL 24 = 3357629466 := by rw [wF_hi (n := 24) (by decide)]; simp only [Nat.reduceSub, aw8, aw9, aw17, aw22]; decide +kernel
theorem aw25 : wF abcL 25 = 3073800610 := by rw [wF_hi (n := 25) (by decide)]; simp only [Nat.reduceSub, aw9, aw10, aw18, aw23]; decide +kernel
theorem aw26 : wF abcL 26 = 3854317833 := by rw [wF_hi (n := 26) (by decide)]; simp only [Nat.reduceSub, aw10, aw11, aw19, aw24]; decide +kernel
theorem aw27 : wF abcL 27 = 845560923 := by rw [wF_hi (n := 27) (by decide)]; simp only [Nat.reduceSub, aw11, aw12, aw20, aw25]; decide +kernel
theorem aw28 : wF abcL 28 = 2636160359 := by rw [wF_hi (n := 28) (by decide)]; simp only [Nat.reduceSub, aw12, aw13, aw21, aw26]; decide +kernel
theorem aw29 : wF abcL 29 = 3968280267 := by rw [wF_hi (n := 29) (by decide)]; simp only [Nat.reduceSub, aw13, aw14, aw22, aw27]; decide +kernel
theorem aw30 : wF abcL 30 = 1881225380 := by rw [wF_hi (n := 30) (by decide)]; simp only [Nat.reduceSub, aw14, aw15, aw23, aw28]; decide +kernel
theorem aw31 : wF abcL 31 = 3552024379 := by rw [wF_hi (n := 31) (by decide)]; simp only [Nat.reduceSub, aw15, aw16, aw24, aw29]; decide +kernel
theorem aw32 : wF abcL 32 = 2482346367 := by rw [wF_hi (n := 32) (by decide)]; simp only [Nat.reduceSub, aw16, aw17, aw25, aw30]; decide +kernel
theorem aw33 : wF abcL 33 = 996719219 := by rw [wF_hi (n := 33) (by decide)]; simp only [Nat.reduceSub, aw17, aw18, aw26, aw31]; decide +kernel
theorem aw34 : wF abcL 34 = 2952069057 := by rw [wF_hi (n := 34) (by decide)]; simp only [Nat.reduceSub, aw18, aw19, aw27, aw32]; decide +kernel
theorem aw35 : wF abcL 35 = 4043988066 := by rw [wF_hi (n := 35) (by decide)]; simp only [Nat.reduceSub, aw19, aw20, aw28, aw33]; decide +kernel
theorem aw36 : wF abcL 36 = 176896406 := by rw [wF_hi (n := 36) (by decide)]; simp only [Nat.reduceSub, aw20, aw21, aw29, aw34]; decide +kernel
theorem aw37 : wF abcL 37 = 1924104970 := by rw [wF_hi (n := 37) (by decide)]; simp only [Nat.reduceSub, aw21, aw22, aw30, aw35]; decide +kernel
theorem aw38 : wF abcL 38 = 2483675966 := by rw [wF_hi (n := 38) (by decide)]; simp only [Nat.reduceSub, aw22, aw23, aw31, aw36]; decide +kernel
theorem aw39 : wF abcL 39 = 610538786 := by rw [wF_hi (n := 39) (by decide)]; simp only [Nat.reduceSub, aw23, aw24, aw32, aw37]; decide +kernel
theorem aw40 : wF abcL 40 = 2672279444 := by rw [wF_hi (n := 40) (by decide)]; simp only [Nat.reduceSub, aw24, aw25, aw33, aw38]; decide +kernel
theorem aw41 : wF abcL 41 = 4037431130 := by rw [wF_hi (n := 41) (by decide)]; simp only [Nat.reduceSub, aw25, aw26, aw34, aw39]; decide +kernel
theorem aw42 : wF abcL 42 = 1042573945 := by rw [wF_hi (n := 42) (by decide)]; simp only [Nat.reduceSub, aw26, aw27, aw35, aw40]; decide +kernel
theorem aw43 : wF abcL 43 = 657669027 := by rw [wF_hi (n := 43) (by decide)]; simp only [Nat.reduceSub, aw27, aw28, aw36, aw41]; decide +kernel
theorem aw44 : wF abcL 44 = 206005234 := by rw [wF_hi (n := 44) (by decide)]; simp only [Nat.reduceSub, aw28, aw29, aw37, aw42]; decide +kernel
theorem aw45 : wF abcL 45 = 2215296807 := by rw [wF_hi (n := 45) (by decide)]; simp only [Nat.reduceSub, aw29, aw30, aw38, aw43]; decide +kernel
theorem aw46 : wF abcL 46 = 2049510749 := by rw [wF_hi (n := 46) (by decide)]; simp only [Nat.reduceSub, aw30, aw31, aw39, aw44]; decide +kernel
theorem aw47 : wF abcL 47 = 106709978 := by rw [wF_hi (n := 47) (by decide)]; simp only [Nat.reduceSub, aw31, aw32, aw40, aw45]; decide +kernel
theorem aw48 : wF abcL 48 = 4215179723 := by rw [wF_hi (n := 48) (by decide)]; simp only [Nat.reduceSub, aw32, aw33, aw41, aw46]; decide +kernel
theorem aw49 : wF abcL 49 = 3430291419 := by rw [wF_hi (n := 49) (by decide)]; simp only [Nat.reduceSub, aw33, aw34, aw42, aw47]; decide +kernel
theorem aw50 : wF abcL 50 = 3118885940 := by rw [wF_hi (n := 50) (by decide)]; simp only [Nat.reduceSub, aw34, aw35, aw43, aw48]; decide +kernel
theorem aw51 : wF abcL 51 = 2845390439 := by rw [wF_hi (n := 51) (by decide)]; simp only [Nat.reduceSub, aw35, aw36, aw44, aw49]; decide +kernel
theorem aw52 : wF abcL 52 = 2226839261 := by rw [wF_hi (n := 52) (by decide)]; simp only [Nat.reduceSub, aw36, aw37, aw45, aw50]; decide +kernel
theorem aw53 : wF abcL 53 = 3256115900 := by rw [wF_hi (n := 53) (by decide)]; simp only [Nat.reduceSub, aw37, aw38, aw46, aw51]; decide +kernel
theorem aw54 : wF abcL 54 = 344409900 := by rw [wF_hi (n := 54) (by decide)]; simp only [Nat.reduceSub, aw38, aw39, aw47, aw52]; decide +kernel
theorem aw55 : wF abcL 55 = 2987358873 := by rw [wF_hi (n := 55) (by decide)]; simp only [Nat.reduceSub, aw39, aw40, aw48, aw53]; decide +kernel
theorem aw56 : wF abcL 56 = 4015503821 := by rw [wF_hi (n := 56) (by decide)]; simp only [Nat.reduceSub, aw40, aw41, aw49, aw54]; decide +kernel
theorem aw57 : wF abcL 57 = 3957764664 := by rw [wF_hi (n := 57) (by decide)]; simp only [Nat.reduceSub, aw41, aw42, aw50, aw55]; decide +kernel
theorem aw58 : wF abcL 58 = 2682456414 := by rw [wF_hi (n := 58) (by decide)]; simp only [Nat.reduceSub, aw42, aw43, aw51, aw56]; decide +kernel
theorem aw59 : wF abcL 59 = 2025622859 := by rw [wF_hi (n := 59) (by decide)]; simp only [Nat.reduceSub, aw43, aw44, aw52, aw57]; decide +kernel
theorem aw60 : wF abcL 60 = 2755645205 := by rw [wF_hi (n := 60) (by decide)]; simp only [Nat.reduceSub, aw44, aw45, aw53, aw58]; decide +kernel
theorem aw61 : wF abcL 61 = 1720397816 := by rw [wF_hi (n := 61) (by decide)]; simp only [Nat.reduceSub, aw45, aw46, aw54, aw59]; decide +kernel
theorem aw62 : wF abcL 62 = 4004225740 := by rw [wF_hi (n := 62) (by decide)]; simp only [Nat.reduceSub, aw46, aw47, aw55, aw60]; decide +kernel
theorem aw63 : wF abcL 63 = 313650667 := by rw [wF_hi (n := 63) (by decide)]; simp only [Nat.reduceSub, aw47, aw48, aw56, aw61]; decide +kernel
theorem as0 : stN h0L abcL 0 = [1779033703, 3144134277, 1013904242, 2773480762, 1359893119, 2600822924, 528734635, 1541459225] := rfl
theorem as1 : stN h0L abcL 1 = [1567288269, 1779033703, 3144134277, 1013904242, 4197074466, 1359893119, 2600822924, 528734635] := by rw [stN, as0, aw0]; decide +kernel
theorem as2 : stN h0L abcL 2 = [1516951981, 1567288269, 1779033703, 3144134277, 2026797449, 4197074466, 1359893119, 2600822924] := by rw [stN, as1, aw1]; decide +kernel
theorem as3 : stN h0L abcL 3 = [3368241063, 1516951981, 1567288269, 1779033703, 4180228587, 2026797449, 4197074466, 1359893119] := by rw [stN, as2, aw2]; decide +kernel
theorem as4 : stN h0L abcL 4 = [3578852966, 3368241063, 1516951981, 1567288269, 618661968, 4180228587, 2026797449, 4197074466] := by rw [stN, as3, aw3]; decide +kernel
theorem as5 : stN h0L abcL 5 = [71342698, 3578852966, 3368241063, 1516951981, 1135452741, 618661968, 4180228587, 2026797449] := by rw [stN, as4, aw4]; decide +kernel
theorem as6 : stN h0L abcL 6 = [725748213, 71342698, 3578852966, 3368241063, 1900175533, 1135452741, 618661968, 4180228587] := by rw [stN, as5, aw5]; decide +kernel
theorem as7 : stN h0L abcL 7 = [3842179968, 725748213, 71342698, 3578852966, 2603066369, 1900175533, 1135452741, 618661968] := by rw [stN, as6, aw6]; decide +kernel
theorem as8 : stN h0L abcL 8 = [2241887071, 3842179968, 725748213, 71342698, 207977081, 2603066369, 1900175533, 1135452741] := by rw [stN, as7, aw7]; decide +kernel
theorem as9 : stN h0L abcL 9 = [2382687417, 2241887071, 3842179968, 725748213, 852110732, 207977081, 2603066369, 1900175533] := by rw [stN, as8, aw8]; decide +kernel
theorem as10 : stN h0L abcL 10 = [2357671019, 2382687417, 2241887071, 3842179968, 482944406, 852110732, 207977081, 2603066369] := by rw [stN, as9, aw9]; decide +kernel
theorem as11 : stN h0L abcL 11 = [1201185780, 2357671019, 2382687417, 2241887071, 1131095016, 482944406, 852110732, 207977081] := by rw [stN, as10, aw10]; decide +kernel
theorem as12 : stN h0L abcL 12 = [4146054569, 1201185780, 2357671019, 2382687417, 2171590377, 1131095016, 482944406, 852110732] := by rw [stN, as11, aw11]; decide +kernel
theorem as13 : stN h0L abcL 13 = [2274437520, 4146054569, 1201185780, 2357671019, 509051416, 2171590377, 1131095016, 482944406] := by rw [stN, as12, aw12]; decide +kernel
theorem as14 : stN h0L abcL 14 = [3643992854, 2274437520, 4146054569, 1201185780, 1952073950, 509051416, 2171590377, 1131095016] := by rw [stN, as13, aw13]; decide +kernel
theorem as15 : stN h0L abcL 15 = [3227803614, 3643992854, 2274437520, 4146054569, 194179596, 1952073950, 509051416, 2171590377] := by rw [stN, as14, aw14]; decide +kernel
theorem as16 : stN h0L abcL 16 = [2969183118, 3227803614, 3643992854, 2274437520, 123276749, 194179596, 1952073950, 509051416] := by rw [stN, as15, aw15]; decide +kernel
theorem as17 : stN h0L abcL 17 = [567974555, 2969183118, 3227803614, 3643992854, 2150900380, 123276749, 194179596, 1952073950] := by rw [stN, as16, aw16]; decide +kernel
theorem as18 : stN h0L abcL 18 = [3271285201, 567974555, 2969183118, 3227803614, 2221859924, 2150900380, 123276749, 194179596] := by rw [stN, as17, aw17]; decide +kernel
theorem as19 : stN h0L abcL 19 = [4269243327, 3271285201, 567974555, 2969183118, 3431569761, 2221859924, 2150900380, 123276749] := by rw [stN, as18, aw18]; decide +kernel
theorem as20 : stN h0L abcL 20 = [3790736435, 4269243327, 3271285201, 567974555, 2959311225, 3431569761, 2221859924, 2150900380] := by rw [stN, as19, aw19]; decide +kernel
theorem as21 : stN h0L abcL 21 = [2647034723, 3790736435, 4269243327, 3271285201, 2329577776, 2959311225, 3431569761, 2221859924] := by rw [stN, as20, aw20]; decide +kernel
theorem as22 : stN h0L abcL 22 = [3261099373, 2647034723, 3790736435, 4269243327, 3777329520, 2329577776, 2959311225, 3431569761] := by rw [stN, as21, aw21]; decide +kernel
theorem as23 : stN h0L abcL 23 = [2812502591, 3261099373, 2647034723, 3790736435, 1240797514, 3777329520, 2329577776, 2959311225] := by rw [stN, as22, aw22]; decide +kernel
theorem as24 : stN h0L abcL 24 = [3319086477, 2812502591, 3261099373, 2647034723, 2856829767, 1240797514, 3777329520, 2329577776] := by rw [stN, as23, aw23]; decide +kernel
theorem as25 : stN h0L abcL 25 = [472655928, 3319086477, 2812502591, 3261099373, 673443729, 2856829767, 1240797514, 3777329520] := by rw [stN, as24, aw24]; decide +kernel
theorem as26 : stN h0L abcL 26 = [3454534525, 472655928, 3319086477, 2812502591, 339230094, 673443729, 2856829767, 1240797514] := by rw [stN, as25, aw25]; decide +kernel
theorem as27 : stN h0L abcL 27 = [3056518332, 3454534525, 472655928, 3319086477, 3343672598, 339230094, 673443729, 2856829767] := by rw [stN, as26, aw26]; decide +kernel
theorem as28 : stN h0L abcL 28 = [2010346792, 3056518332, 3454534525, 472655928, 3992961016, 3343672598, 339230094, 673443729] := by rw [stN, as27, aw27]; decide +kernel
theorem as29 : stN h0L abcL 29 = [909411017, 2010346792, 3056518332, 3454534525, 1628611511, 3992961016, 3343672598, 339230094] := by rw [stN, as28, aw28]; decide +kernel
theorem as30 : stN h0L abcL 30 = [2684750640, 909411017, 2010346792, 3056518332, 2917635127, 1628611511, 3992961016, 3343672598] := by rw [stN, as29, aw29]; decide +kernel
theorem as31 : stN h0L abcL 31 = [3935906338, 2684750640, 909411017, 2010346792, 17410874, 2917635127, 1628611511, 3992961016] := by rw [stN, as30, aw30]; decide +kernel
theorem as32 : stN h0L abcL 32 = [1941126133, 3935906338, 2684750640, 909411017, 3126399250, 17410874, 2917635127, 1628611511] := by rw [stN, as31, aw31]; decide +kernel
theorem as33 : stN h0L abcL 33 = [2564891911, 1941126133, 3935906338, 2684750640, 2631529974, 3126399250, 17410874, 2917635127] := by rw [stN, as32, aw32]; decide +kernel
theorem as34 : stN h0L abcL 34 = [4267724277, 2564891911, 1941126133, 3935906338, 1495571923, 2631529974, 3126399250, 17410874] := by rw [stN, as33, aw33]; decide +kernel
theorem as35 : stN h0L abcL 35 = [2846323596, 4267724277, 2564891911, 1941126133, 140458035, 1495571923, 2631529974, 3126399250] := by rw [stN, as34, aw34]; decide +kernel
theorem as36 : stN h0L abcL 36 = [1705037796, 2846323596, 4267724277, 2564891911, 4105175766, 140458035, 1495571923, 2631529974] := by rw [stN, as35, aw35]; decide +kernel
theorem as37 : stN h0L abcL 37 = [1101421745, 1705037796, 2846323596, 4267724277, 124953195, 4105175766, 140458035, 1495571923] := by rw [stN, as36, aw36]; decide +kernel
theorem as38 : stN h0L abcL 38 = [887035396, 1101421745, 1705037796, 2846323596, 2768741693, 124953195, 4105175766, 140458035] := by rw [stN, as37, aw37]; decide +kernel
theorem as39 : stN h0L abcL 39 = [1841658506, 887035396, 1101421745, 1705037796, 4034403272, 2768741693, 124953195, 4105175766] := by rw [stN, as38, aw38]; decide +kernel
theorem as40 : stN h0L abcL 40 = [2045405306, 1841658506, 887035396, 1101421745, 519815328, 4034403272, 2768741693, 124953195] := by rw [stN, as39, aw39]; decide +kernel
theorem as41 : stN h0L abcL 41 = [3597076326, 2045405306, 1841658506, 887035396, 641019235, 519815328, 4034403272, 2768741693] := by rw [stN, as40, aw40]; decide +kernel
theorem as42 : stN h0L abcL 42 = [3745932591, 3597076326, 2045405306, 1841658506, 2206934801, 641019235, 519815328, 4034403272] := by rw [stN, as41, aw41]; decide +kernel
theorem as43 : stN h0L abcL 43 = [397020670, 3745932591, 3597076326, 2045405306, 3737995029, 2206934801, 641019235, 519815328] := by rw [stN, as42, aw42]; decide +kernel
theorem as44 : stN h0L abcL 44 = [2638983059, 397020670, 3745932591, 3597076326, 4255271982, 3737995029, 2206934801, 641019235] := by rw [stN, as43, aw43]; decide +kernel
theorem as45 : stN h0L abcL 45 = [643991573, 2638983059, 397020670, 3745932591, 2819559920, 4255271982, 3737995029, 2206934801] := by rw [stN, as44, aw44]; decide +kernel
theorem as46 : stN h0L abcL 46 = [1923828625, 643991573, 2638983059, 397020670, 3077922209, 2819559920, 4255271982, 3737995029] := by rw [stN, as45, aw45]; decide +kernel
theorem as47 : stN h0L abcL 47 = [2706117808, 1923828625, 643991573, 2638983059, 3581645993, 3077922209, 2819559920, 4255271982] := by rw [stN, as46, aw46]; decide +kernel
theorem as48 : stN h0L abcL 48 = [1098003085, 2706117808, 1923828625, 643991573, 4274981830, 3581645993, 3077922209, 2819559920] := by rw [stN, as47, aw47]; decide +kernel
theorem as49 : stN h0L abcL 49 = [91585771, 1098003085, 2706117808, 1923828625, 3178315832, 4274981830, 3581645993, 3077922209] := by rw [stN, as48, aw48]; decide +kernel
theorem as50 : stN h0L abcL 50 = [4045142696, 91585771, 1098003085, 2706117808, 1851537676, 3178315832, 4274981830, 3581645993] := by rw [stN, as49, aw49]; decide +kernel
theorem as51 : stN h0L abcL 51 = [2047150241, 4045142696, 91585771, 1098003085, 1391578359, 1851537676, 3178315832, 4274981830] := by rw [stN, as50, aw50]; decide +kernel
theorem as52 : stN h0L abcL 52 = [2288941602, 2047150241, 4045142696, 91585771, 1227037726, 1391578359, 1851537676, 3178315832] := by rw [stN, as51, aw51]; decide +kernel
theorem as53 : stN h0L abcL 53 = [270520975, 2288941602, 2047150241, 4045142696, 1386118400, 1227037726, 1391578359, 1851537676] := by rw [stN, as52, aw52]; decide +kernel
theorem as54 : stN h0L abcL 54 = [4117770203, 270520975, 2288941602, 2047150241, 2672265155, 1386118400, 1227037726, 1391578359] := by rw [stN, as53, aw53]; decide +kernel
theorem as55 : stN h0L abcL 55 = [1053056219, 4117770203, 270520975, 2288941602, 3842906959, 2672265155, 1386118400, 1227037726] := by rw [stN, as54, aw54]; decide +kernel
theorem as56 : stN h0L abcL 56 = [952932627, 1053056219, 4117770203, 270520975, 1422599787, 3842906959, 2672265155, 1386118400] := by rw [stN, as55, aw55]; decide +kernel
theorem as57 : stN h0L abcL 57 = [4241590395, 952932627, 1053056219, 4117770203, 2606665836, 1422599787, 3842906959, 2672265155] := by rw [stN, as56, aw56]; decide +kernel
theorem as58 : stN h0L abcL 58 = [3227702383, 4241590395, 952932627, 1053056219, 2118385806, 2606665836, 1422599787, 3842906959] := by rw [stN, as57, aw57]; decide +kernel
theorem as59 : stN h0L abcL 59 = [4290184306, 3227702383, 4241590395, 952932627, 1837350854, 2118385806, 2606665836, 1422599787] := by rw [stN, as58, aw58]; decide +kernel
theorem as60 : stN h0L abcL 60 = [3064893439, 4290184306, 3227702383, 4241590395, 2988158269, 1837350854, 2118385806, 2606665836] := by rw [stN, as59, aw59]; decide +kernel
theorem as61 : stN h0L abcL 61 = [3093179625, 3064893439, 4290184306, 3227702383, 2518632596, 2988158269, 1837350854, 2118385806] := by rw [stN, as60, aw60]; decide +kernel
theorem as62 : stN h0L abcL 62 = [80891244, 3093179625, 3064893439, 4290184306, 2492278198, 2518632596, 2988158269, 1837350854] := by rw [stN, as61, aw61]; decide +kernel
theorem as63 : stN h0L abcL 63 = [3550093669, 80891244, 3093179625, 3064893439, 4212265488, 2492278198, 2518632596, 2988158269] := by rw [stN, as62, aw62]; decide +kernel
theorem as64 : stN h0L abcL 64 = [1349398616, 3550093669, 80891244, 3093179625, 1593118500, 4212265488, 2492278198, 2518632596] := by rw [stN, as63, aw63]; decide +kernel
theorem abc_blk : blkP h0L abcL = [3128432319, 2399260650, 1094795486, 1571693091, 2953011619, 2518121116, 3021012833, 4060091821] := by rw [blkP, as64]; decide +kernel
theorem abc_pad : padP [97, 98, 99] = abcL := by decide +kernel
theorem abc_words : shaW [97, 98, 99] = [3128432319, 2399260650, 1094795486, 1571693091, 2953011619, 2518121116, 3021012833, 4060091821] := by rw [shaW, abc_pad]; exact abc_blk
theorem abc_sha : shaP [97, 98, 99] = [186, 120, 22, 191, 143, 1, 207, 234, 65, 65, 64, 222, 93, 174, 34, 35, 176, 3, 97, 163, 150, 23, 122, 156, 180, 16, 255, 97, 242, 0, 21, 173] := by rw [shaP, abc_words]; decide +kernel

end Go.Proofs.Ytekbidjfddanhaa
