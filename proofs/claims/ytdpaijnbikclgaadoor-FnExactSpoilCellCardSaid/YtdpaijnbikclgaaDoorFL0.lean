/- The types and functions that the law reaches, as the evaluator wants them. -/
import Derived.Test.YtdpaijnbikclgaaDoorProg
import Derived.Test.YtdpaijnbikclgaaDoorERules
import Derived.Test.YtdpaijnbikclgaaDoorEX
import Derived.Test.YtdpaijnbikclgaaDoorEXCompare
import Derived.Test.YtdpaijnbikclgaaDoorEXTrim
namespace Go.Proofs.YtdpaijnbikclgaaDoorB
open Go Go.Proofs.YtdpaijnbikclgaaDoorE
theorem t3 : tiOf Tryd.prog 3 = some ⟨false, 1, 8, [.int .i64], .int .i64⟩ := by kernel_rfl
theorem t4 : tiOf Tryd.prog 4 = some ⟨false, 1, 1, [.bool], .bool⟩ := by kernel_rfl
theorem t5 : tiOf Tryd.prog 5 = some ⟨false, 1, 1, [.int .u8], .int .u8⟩ := by kernel_rfl
theorem t9 : tiOf Tryd.prog 9 = some ⟨false, 1, 16, [.str], .str⟩ := by kernel_rfl
theorem t22 : tiOf Tryd.prog 22 = some ⟨false, 1, 24, [.nslice], .slice 80⟩ := by kernel_rfl
theorem t23 : tiOf Tryd.prog 23 = some ⟨false, 1, 24, [.nslice], .slice 82⟩ := by kernel_rfl
theorem t25 : tiOf Tryd.prog 25 = some ⟨true, 4, 64, [.int .i64, .int .i64, .nslice, .nslice], .struct [(0, 3), (1, 3), (2, 22), (3, 23)]⟩ := by kernel_rfl
theorem t28 : tiOf Tryd.prog 28 = some ⟨false, 1, 24, [.nslice], .slice 54⟩ := by kernel_rfl
theorem t29 : tiOf Tryd.prog 29 = some ⟨false, 1, 24, [.nslice], .slice 50⟩ := by kernel_rfl
theorem t31 : tiOf Tryd.prog 31 = some ⟨true, 4, 64, [.int .i64, .int .i64, .nslice, .nslice], .struct [(0, 3), (1, 3), (2, 28), (3, 29)]⟩ := by kernel_rfl
theorem t48 : tiOf Tryd.prog 48 = some ⟨false, 1, 8, [.nfunc], .other⟩ := by kernel_rfl
theorem t50 : tiOf Tryd.prog 50 = some ⟨true, 2, 24, [.str, .int .i64], .struct [(0, 9), (1, 3)]⟩ := by kernel_rfl
theorem t52 : tiOf Tryd.prog 52 = some ⟨false, 1, 24, [.nslice], .slice 56⟩ := by kernel_rfl
theorem t54 : tiOf Tryd.prog 54 = some ⟨true, 1, 24, [.nslice], .struct [(0, 52)]⟩ := by kernel_rfl
theorem t56 : tiOf Tryd.prog 56 = some ⟨true, 4, 48, [.str, .int .i64, .str, .int .i64], .struct [(0, 9), (1, 3), (2, 9), (3, 3)]⟩ := by kernel_rfl
theorem t69 : tiOf Tryd.prog 69 = some ⟨false, 1, 24, [.nslice], .slice 5⟩ := by kernel_rfl
theorem t78 : tiOf Tryd.prog 78 = some ⟨false, 1, 24, [.nslice], .slice 121⟩ := by kernel_rfl
theorem t80 : tiOf Tryd.prog 80 = some ⟨true, 1, 24, [.nslice], .struct [(0, 78)]⟩ := by kernel_rfl
theorem t82 : tiOf Tryd.prog 82 = some ⟨true, 2, 24, [.str, .int .i64], .struct [(0, 9), (1, 3)]⟩ := by kernel_rfl
theorem t88 : tiOf Tryd.prog 88 = some ⟨false, 1, 8, [.nfunc], .other⟩ := by kernel_rfl
theorem t97 : tiOf Tryd.prog 97 = some ⟨false, 1, 8, [.nfunc], .other⟩ := by kernel_rfl
theorem t98 : tiOf Tryd.prog 98 = some ⟨false, 1, 8, [.nfunc], .other⟩ := by kernel_rfl
theorem t99 : tiOf Tryd.prog 99 = some ⟨false, 1, 8, [.nfunc], .other⟩ := by kernel_rfl
theorem t100 : tiOf Tryd.prog 100 = some ⟨true, 2, 24, [.int .i64, .str], .struct [(0, 3), (1, 9)]⟩ := by kernel_rfl
theorem t101 : tiOf Tryd.prog 101 = some ⟨true, 2, 24, [.int .i64, .str], .struct [(0, 3), (1, 9)]⟩ := by kernel_rfl
theorem t102 : tiOf Tryd.prog 102 = some ⟨false, 1, 8, [.nfunc], .other⟩ := by kernel_rfl
theorem t103 : tiOf Tryd.prog 103 = some ⟨false, 1, 8, [.nfunc], .other⟩ := by kernel_rfl
theorem t104 : tiOf Tryd.prog 104 = some ⟨false, 1, 8, [.nfunc], .other⟩ := by kernel_rfl
theorem t105 : tiOf Tryd.prog 105 = some ⟨false, 1, 8, [.nfunc], .other⟩ := by kernel_rfl
theorem t106 : tiOf Tryd.prog 106 = some ⟨false, 1, 8, [.nfunc], .other⟩ := by kernel_rfl
theorem t107 : tiOf Tryd.prog 107 = some ⟨true, 256, 256, [.bool, .bool, .bool, .bool, .bool, .bool, .bool, .bool, .bool, .bool, .bool, .bool, .bool, .bool, .bool, .bool, .bool, .bool, .bool, .bool, .bool, .bool, .bool, .bool, .bool, .bool, .bool, .bool, .bool, .bool, .bool, .bool, .bool, .bool, .bool, .bool, .bool, .bool, .bool, .bool, .bool, .bool, .bool, .bool, .bool, .bool, .bool, .bool, .bool, .bool, .bool, .bool, .bool, .bool, .bool, .bool, .bool, .bool, .bool, .bool, .bool, .bool, .bool, .bool, .bool, .bool, .bool, .bool, .bool, .bool, .bool, .bool, .bool, .bool, .bool, .bool, .bool, .bool, .bool, .bool, .bool, .bool, .bool, .bool, .bool, .bool, .bool, .bool, .bool, .bool, .bool, .bool, .bool, .bool, .bool, .bool, .bool, .bool, .bool, .bool, .bool, .bool, .bool, .bool, .bool, .bool, .bool, .bool, .bool, .bool, .bool, .bool, .bool, .bool, .bool, .bool, .bool, .bool, .bool, .bool, .bool, .bool, .bool, .bool, .bool, .bool, .bool, .bool, .bool, .bool, .bool, .bool, .bool, .bool, .bool, .bool, .bool, .bool, .bool, .bool, .bool, .bool, .bool, .bool, .bool, .bool, .bool, .bool, .bool, .bool, .bool, .bool, .bool, .bool, .bool, .bool, .bool, .bool, .bool, .bool, .bool, .bool, .bool, .bool, .bool, .bool, .bool, .bool, .bool, .bool, .bool, .bool, .bool, .bool, .bool, .bool, .bool, .bool, .bool, .bool, .bool, .bool, .bool, .bool, .bool, .bool, .bool, .bool, .bool, .bool, .bool, .bool, .bool, .bool, .bool, .bool, .bool, .bool, .bool, .bool, .bool, .bool, .bool, .bool, .bool, .bool, .bool, .bool, .bool, .bool, .bool, .bool, .bool, .bool, .bool, .bool, .bool, .bool, .bool, .bool, .bool, .bool, .bool, .bool, .bool, .bool, .bool, .bool, .bool, .bool, .bool, .bool, .bool, .bool, .bool, .bool, .bool, .bool, .bool, .bool, .bool, .bool, .bool, .bool, .bool, .bool, .bool, .bool, .bool, .bool, .bool, .bool, .bool, .bool, .bool, .bool], .arr 256 4⟩ := by kernel_rfl
theorem t108 : tiOf Tryd.prog 108 = some ⟨true, 256, 256, [.bool, .bool, .bool, .bool, .bool, .bool, .bool, .bool, .bool, .bool, .bool, .bool, .bool, .bool, .bool, .bool, .bool, .bool, .bool, .bool, .bool, .bool, .bool, .bool, .bool, .bool, .bool, .bool, .bool, .bool, .bool, .bool, .bool, .bool, .bool, .bool, .bool, .bool, .bool, .bool, .bool, .bool, .bool, .bool, .bool, .bool, .bool, .bool, .bool, .bool, .bool, .bool, .bool, .bool, .bool, .bool, .bool, .bool, .bool, .bool, .bool, .bool, .bool, .bool, .bool, .bool, .bool, .bool, .bool, .bool, .bool, .bool, .bool, .bool, .bool, .bool, .bool, .bool, .bool, .bool, .bool, .bool, .bool, .bool, .bool, .bool, .bool, .bool, .bool, .bool, .bool, .bool, .bool, .bool, .bool, .bool, .bool, .bool, .bool, .bool, .bool, .bool, .bool, .bool, .bool, .bool, .bool, .bool, .bool, .bool, .bool, .bool, .bool, .bool, .bool, .bool, .bool, .bool, .bool, .bool, .bool, .bool, .bool, .bool, .bool, .bool, .bool, .bool, .bool, .bool, .bool, .bool, .bool, .bool, .bool, .bool, .bool, .bool, .bool, .bool, .bool, .bool, .bool, .bool, .bool, .bool, .bool, .bool, .bool, .bool, .bool, .bool, .bool, .bool, .bool, .bool, .bool, .bool, .bool, .bool, .bool, .bool, .bool, .bool, .bool, .bool, .bool, .bool, .bool, .bool, .bool, .bool, .bool, .bool, .bool, .bool, .bool, .bool, .bool, .bool, .bool, .bool, .bool, .bool, .bool, .bool, .bool, .bool, .bool, .bool, .bool, .bool, .bool, .bool, .bool, .bool, .bool, .bool, .bool, .bool, .bool, .bool, .bool, .bool, .bool, .bool, .bool, .bool, .bool, .bool, .bool, .bool, .bool, .bool, .bool, .bool, .bool, .bool, .bool, .bool, .bool, .bool, .bool, .bool, .bool, .bool, .bool, .bool, .bool, .bool, .bool, .bool, .bool, .bool, .bool, .bool, .bool, .bool, .bool, .bool, .bool, .bool, .bool, .bool, .bool, .bool, .bool, .bool, .bool, .bool, .bool, .bool, .bool, .bool, .bool, .bool], .arr 256 4⟩ := by kernel_rfl
theorem t110 : tiOf Tryd.prog 110 = some ⟨false, 1, 8, [.nfunc], .other⟩ := by kernel_rfl
theorem t111 : tiOf Tryd.prog 111 = some ⟨false, 1, 8, [.nfunc], .other⟩ := by kernel_rfl
theorem t112 : tiOf Tryd.prog 112 = some ⟨false, 1, 8, [.nptr], .other⟩ := by kernel_rfl
theorem t113 : tiOf Tryd.prog 113 = some ⟨false, 1, 8, [.int .u64], .int .u64⟩ := by kernel_rfl
theorem t114 : tiOf Tryd.prog 114 = some ⟨false, 1, 24, [.nslice], .slice 3⟩ := by kernel_rfl
theorem t115 : tiOf Tryd.prog 115 = some ⟨false, 1, 8, [.nfunc], .other⟩ := by kernel_rfl
theorem t116 : tiOf Tryd.prog 116 = some ⟨false, 1, 8, [.nfunc], .other⟩ := by kernel_rfl
theorem t117 : tiOf Tryd.prog 117 = some ⟨false, 1, 8, [.nfunc], .other⟩ := by kernel_rfl
theorem t118 : tiOf Tryd.prog 118 = some ⟨false, 1, 8, [.nfunc], .other⟩ := by kernel_rfl
theorem t119 : tiOf Tryd.prog 119 = some ⟨false, 1, 8, [.nfunc], .other⟩ := by kernel_rfl
theorem t120 : tiOf Tryd.prog 120 = some ⟨false, 1, 8, [.nfunc], .other⟩ := by kernel_rfl
theorem t121 : tiOf Tryd.prog 121 = some ⟨true, 4, 48, [.str, .int .i64, .str, .int .i64], .struct [(0, 9), (1, 3), (2, 9), (3, 3)]⟩ := by kernel_rfl
theorem t122 : tiOf Tryd.prog 122 = some ⟨false, 1, 8, [.nfunc], .other⟩ := by kernel_rfl
theorem TT : ((((((type_of% t3) ∧ (type_of% t4)) ∧ ((type_of% t5) ∧ ((type_of% t9) ∧ (type_of% t22)))) ∧ (((type_of% t23) ∧ ((type_of% t25) ∧ (type_of% t28))) ∧ ((type_of% t29) ∧ ((type_of% t31) ∧ (type_of% t48))))) ∧ ((((type_of% t50) ∧ (type_of% t52)) ∧ ((type_of% t54) ∧ ((type_of% t56) ∧ (type_of% t69)))) ∧ (((type_of% t78) ∧ ((type_of% t80) ∧ (type_of% t82))) ∧ ((type_of% t88) ∧ ((type_of% t97) ∧ (type_of% t98)))))) ∧ (((((type_of% t99) ∧ (type_of% t100)) ∧ ((type_of% t101) ∧ ((type_of% t102) ∧ (type_of% t103)))) ∧ (((type_of% t104) ∧ ((type_of% t105) ∧ (type_of% t106))) ∧ ((type_of% t107) ∧ ((type_of% t108) ∧ (type_of% t110))))) ∧ ((((type_of% t111) ∧ ((type_of% t112) ∧ (type_of% t113))) ∧ ((type_of% t114) ∧ ((type_of% t115) ∧ (type_of% t116)))) ∧ (((type_of% t117) ∧ ((type_of% t118) ∧ (type_of% t119))) ∧ ((type_of% t120) ∧ ((type_of% t121) ∧ (type_of% t122))))))) := ⟨⟨⟨⟨⟨t3, t4⟩, ⟨t5, ⟨t9, t22⟩⟩⟩, ⟨⟨t23, ⟨t25, t28⟩⟩, ⟨t29, ⟨t31, t48⟩⟩⟩⟩, ⟨⟨⟨t50, t52⟩, ⟨t54, ⟨t56, t69⟩⟩⟩, ⟨⟨t78, ⟨t80, t82⟩⟩, ⟨t88, ⟨t97, t98⟩⟩⟩⟩⟩, ⟨⟨⟨⟨t99, t100⟩, ⟨t101, ⟨t102, t103⟩⟩⟩, ⟨⟨t104, ⟨t105, t106⟩⟩, ⟨t107, ⟨t108, t110⟩⟩⟩⟩, ⟨⟨⟨t111, ⟨t112, t113⟩⟩, ⟨t114, ⟨t115, t116⟩⟩⟩, ⟨⟨t117, ⟨t118, t119⟩⟩, ⟨t120, ⟨t121, t122⟩⟩⟩⟩⟩⟩
def fis : Nat → FI
 | 5 => ⟨[], false, [(1000, [1, 2, 3]), (1001, [1, 2, 3, 7]), (1002, [1, 2, 3, 7]), (1003, [1, 2, 3, 22]), (1004, [6]), (1005, [1, 2, 3, 8, 9]), (1006, [1, 2, 3, 8, 9, 10]), (1007, [1, 2, 3, 8, 9, 10, 11, 12]), (1008, [1, 2, 3, 8, 9, 10, 11, 12, 48]), (1009, [6]), (1010, [1, 2, 3, 8, 9, 10, 11, 12, 53]), (1011, [6]), (1012, [1, 2, 3, 8, 9, 10, 11, 12, 13]), (1013, [1, 2, 3, 8, 9, 11, 12, 13]), (1014, [1, 2, 3, 8, 9, 11, 69]), (1015, [6]), (1016, [1, 2, 3, 8, 9, 11, 14]), (1017, [1, 2, 3, 8, 9, 11, 14]), (1018, [1, 2, 3, 8, 9, 11, 14, 15]), (1019, [1, 2, 3, 8, 9, 11, 14, 15]), (1020, [1, 2, 3, 8, 9, 11, 14, 15, 77]), (1021, [6]), (1022, [1, 2, 3, 8, 9, 11, 14, 80]), (1023, [6]), (1024, [8, 9, 11, 14, 16, 17]), (1025, [11, 14, 97]), (1026, [6]), (1027, [11, 14, 15]), (1028, [14, 15]), (1029, [14, 15, 102]), (1030, [6]), (1031, [105]), (1032, [6]), (1033, [6]), (999999, [])]⟩
 | 8 => ⟨[], false, [(1000, [1, 2]), (1001, [1, 2]), (1002, [1, 2, 10]), (1003, [4]), (1004, [1]), (1005, [1, 16]), (1006, [4]), (1007, [4])]⟩
 | 9 => ⟨[], false, [(4, [1, 36, 37, 38]), (10, [1, 79, 80, 81]), (13, [1, 5, 6, 79, 80, 81, 87, 88, 89]), (1000, [1]), (1001, [1, 34]), (1002, [2]), (1003, [1, 36, 37, 38]), (1004, [1, 36, 37, 38, 39]), (1005, [1, 3, 4, 36, 37, 38]), (1006, [1, 36, 37, 38, 76]), (1007, [2]), (1008, [1, 36, 37, 38]), (1009, [1, 79, 80, 81]), (1010, [1, 79, 80, 81, 82]), (1011, [1, 5, 6, 79, 80, 81]), (1012, [1, 5, 6, 79, 80, 81, 87, 88, 89]), (1013, [1, 5, 6, 79, 80, 81, 87, 88, 89, 90]), (1014, [1, 5, 6, 7, 8, 79, 80, 81, 87, 88, 89]), (1015, [1, 5, 6, 7, 8, 10, 79, 80, 81, 87, 88, 89]), (1016, [1, 5, 6, 79, 80, 81, 87, 88, 89, 154]), (1017, [2]), (1018, [1, 5, 6, 79, 80, 81, 87, 88, 89]), (1019, [1, 79, 80, 81, 159]), (1020, [2]), (1021, [1, 79, 80, 81]), (1022, [2])]⟩
 | 10 => ⟨[], false, [(1000, [1, 2]), (1001, [1, 2, 3]), (1002, [1, 2, 3]), (1003, [1, 2, 3]), (1004, [1, 2, 3]), (1005, [2, 3]), (1006, [2]), (999999, [])]⟩
 | 11 => ⟨[], false, [(4, [1, 36, 37, 38]), (10, [1, 75, 76, 77]), (15, [1, 5, 6, 75, 76, 77, 87, 88, 89]), (1000, [1]), (1001, [1, 34]), (1002, [2]), (1003, [1, 36, 37, 38]), (1004, [1, 36, 37, 38, 39]), (1005, [1, 3, 4, 36, 37, 38]), (1006, [1, 36, 37, 38, 72]), (1007, [2]), (1008, [1, 36, 37, 38]), (1009, [1, 75, 76, 77]), (1010, [1, 75, 76, 77, 78]), (1011, [1, 5, 6, 75, 76, 77]), (1012, [1, 5, 6, 75, 76, 77, 85]), (1013, [2]), (1014, [1, 5, 6, 75, 76, 77, 87, 88, 89]), (1015, [1, 5, 6, 75, 76, 77, 87, 88, 89, 90]), (1016, [1, 5, 6, 7, 8, 75, 76, 77, 87, 88, 89]), (1017, [1, 5, 6, 7, 8, 10, 75, 76, 77, 87, 88, 89]), (1018, [1, 5, 6, 7, 8, 75, 76, 77, 87, 88, 89, 126]), (1019, [2]), (1020, [1, 5, 6, 75, 76, 77, 87, 88, 89, 151]), (1021, [2]), (1022, [1, 5, 6, 75, 76, 77, 87, 88, 89]), (1023, [1, 75, 76, 77]), (1024, [2])]⟩
 | 12 => ⟨[], false, [(1000, [2, 3]), (1001, [2, 3, 9]), (1002, [4]), (1003, [2, 3, 14]), (1004, [4]), (1005, [2, 3, 20]), (1006, [4]), (1007, [26]), (1008, [4]), (1009, [4])]⟩
 | 15 => ⟨[true], false, [(1000, [1, 2]), (1001, [1, 2]), (1002, [1]), (1003, [4]), (999999, [])]⟩
 | 16 => ⟨[], false, [(1000, [1, 2]), (1001, [1, 2]), (1002, [1, 2, 10]), (1003, [4]), (1004, [1]), (1005, [1, 16]), (1006, [4]), (1007, [4])]⟩
 | 17 => ⟨[], false, [(6, [1, 2, 3, 6, 8, 63, 64]), (1000, [1, 2, 3, 6]), (1001, [1, 2, 3, 6, 47]), (1002, [6, 7]), (1003, [1, 2, 3, 6]), (1004, [1, 2, 3, 6, 8]), (1005, [1, 2, 3, 6, 8, 63, 64]), (1006, [1, 2, 3, 6, 8, 63, 64, 65]), (1007, [1, 2, 3, 6, 8, 9, 63, 64]), (1008, [1, 2, 3, 6, 8, 63, 64]), (1009, [1, 2, 3, 6, 8, 63, 64]), (1010, [3, 6]), (1011, [6, 7]), (999999, [])]⟩
 | 18 => ⟨[], false, [(7, [6, 8, 9, 10, 67, 68]), (1000, [1, 2, 3, 6]), (1001, [1, 2, 3, 6, 49]), (1002, [6, 7]), (1003, [1, 2, 6, 8]), (1004, [6, 8, 9]), (1005, [6, 8, 9, 10]), (1006, [6, 8, 9, 10, 67, 68]), (1007, [6, 8, 9, 10, 67, 68, 69]), (1008, [6, 8, 9, 10, 11, 67, 68]), (1009, [6, 8, 9, 10, 67, 68]), (1010, [6, 8, 9, 10, 67, 68]), (1011, [6, 8]), (1012, [6, 7]), (999999, [])]⟩
 | 23 => ⟨[], false, [(5, [0, 1, 5]), (1000, [0, 1]), (1001, [0, 1]), (1002, [0, 1, 11]), (1003, [4]), (1004, [0, 1, 5]), (1005, [0, 1, 5, 15]), (1006, [0, 1, 5]), (1007, [0, 1, 5]), (1008, [0, 1, 5, 25]), (1009, [4]), (1010, [4])]⟩
 | 24 => ⟨[], false, [(5, [0, 1, 5]), (1000, [0, 1]), (1001, [0, 1]), (1002, [0, 1, 11]), (1003, [4]), (1004, [0, 1, 5]), (1005, [0, 1, 5, 15]), (1006, [0, 1, 5]), (1007, [0, 1, 5]), (1008, [0, 1, 5, 25]), (1009, [4]), (1010, [4])]⟩
 | 25 => ⟨[], false, [(1000, [0, 1]), (1001, [4])]⟩
 | 26 => ⟨[], false, [(1000, [0, 1, 2]), (1001, [6])]⟩
 | 27 => ⟨[], false, [(2, [0, 3]), (1000, [0]), (1001, [0, 3]), (1002, [0, 3, 7]), (1003, [0, 3]), (1004, [0, 3, 19]), (1005, [2]), (1006, [2])]⟩
 | 28 => ⟨[], false, [(2, [0, 1, 6]), (1000, [0, 1]), (1001, [0, 1, 6]), (1002, [0, 1, 6, 19]), (1003, [0, 1, 6]), (1004, [4, 5])]⟩
 | 29 => ⟨[], false, [(2, [0, 1, 2, 7]), (1000, [0, 1, 2]), (1001, [0, 1, 2, 7]), (1002, [0, 1, 2, 7, 11]), (1003, [0, 1, 2, 7]), (1004, [0, 1, 2, 7]), (1005, [6])]⟩
 | 30 => ⟨[], false, [(1000, [2, 3]), (1001, [4])]⟩
 | 31 => ⟨[], false, [(3, [0, 3, 4]), (1000, [0]), (1001, [0, 3]), (1002, [0, 3, 4]), (1003, [0, 3, 4, 11]), (1004, [0, 3, 4]), (1005, [0, 3, 4]), (1006, [2]), (999999, [])]⟩
 | 32 => ⟨[], false, [(3, [0, 3, 4]), (1000, [0]), (1001, [0, 3]), (1002, [0, 3, 4]), (1003, [0, 3, 4, 11]), (1004, [0, 3, 4]), (1005, [0, 3, 4]), (1006, [2])]⟩
 | 33 => ⟨[], false, [(1000, [0, 1]), (1001, [4])]⟩
 | 34 => ⟨[], false, [(1000, [0, 1, 2]), (1001, [6])]⟩
 | 35 => ⟨[], false, [(1000, [0]), (1001, [2])]⟩
 | 36 => ⟨[], false, [(1000, [1, 2]), (1001, [4, 5])]⟩
 | 37 => ⟨[], false, [(3, [0, 2, 7, 11, 12]), (1000, [0, 1, 2]), (1001, [0, 2, 7]), (1002, [0, 2, 7, 11, 12]), (1003, [0, 2, 7, 11, 12, 13]), (1004, [0, 2, 7, 8, 11, 12]), (1005, [0, 2, 7, 11, 12]), (1006, [0, 2, 7, 11, 12]), (1007, [6])]⟩
 | 38 => ⟨[], false, [(1000, [2, 3]), (1001, [4])]⟩
 | 39 => ⟨[], false, [(4, [0, 1, 5]), (1000, [0, 1]), (1001, [0, 1, 10]), (1002, [4]), (1003, [0, 1, 5]), (1004, [0, 1, 5, 14]), (1005, [0, 1, 5]), (1006, [0, 1, 5, 26]), (1007, [4]), (1008, [4])]⟩
 | 40 => ⟨[], false, [(4, [0, 1, 5]), (1000, [0, 1]), (1001, [0, 1, 10]), (1002, [4]), (1003, [0, 1, 5]), (1004, [0, 1, 5, 14]), (1005, [0, 1, 5]), (1006, [0, 1, 5, 26]), (1007, [4]), (1008, [4])]⟩
 | 41 => ⟨[], false, [(3, [1, 2, 3, 7, 8, 9]), (1000, [1, 2]), (1001, [1, 2, 3]), (1002, [1, 2, 3, 7, 8, 9]), (1003, [1, 2, 3, 7, 8, 9, 10]), (1004, [1, 2, 3, 5, 7, 8, 9]), (1005, [1, 2, 3, 7, 8, 9]), (1006, [1, 2, 3, 7, 8, 9]), (1007, [1, 2]), (1008, [1, 2]), (1009, [2]), (999999, [])]⟩
 | 42 => ⟨[], false, [(3, [2, 3, 15, 16, 17]), (1000, [1, 2]), (1001, [1, 2, 3]), (1002, [2, 3, 15, 16, 17]), (1003, [2, 3, 15, 16, 17, 18]), (1004, [2, 3, 5, 15, 16, 17]), (1005, [2, 3, 15, 16, 17]), (1006, [2, 3, 15, 16, 17]), (1007, [2]), (999999, [])]⟩
 | 43 => ⟨[true], false, [(2, [0, 1, 5]), (1000, [0, 1]), (1001, [0, 1, 5]), (1002, [0, 1, 5, 9]), (1003, [0, 1, 5]), (1004, [0, 1, 5]), (1005, [4]), (999999, [])]⟩
 | 44 => ⟨[true], false, [(2, [0, 1, 5]), (1000, [0, 1]), (1001, [0, 1, 5]), (1002, [0, 1, 5, 9]), (1003, [0, 1, 5]), (1004, [0, 1, 5]), (1005, [0, 1, 5]), (1006, [0, 1, 5]), (1007, [0, 1, 5]), (1008, [4])]⟩
 | 45 => ⟨[], false, [(2, [0, 1, 5]), (1000, [0, 1]), (1001, [0, 1, 5]), (1002, [0, 1, 5, 9]), (1003, [0, 1, 5]), (1004, [0, 1, 5]), (1005, [0, 1, 5, 20]), (1006, [4]), (1007, [4])]⟩
 | 46 => ⟨[], false, [(2, [0, 1, 5]), (1000, [0, 1]), (1001, [0, 1, 5]), (1002, [0, 1, 5, 9]), (1003, [0, 1, 5]), (1004, [0, 1, 5, 19]), (1005, [4]), (1006, [0, 1, 5]), (1007, [0, 1, 5, 28]), (1008, [4]), (1009, [0, 1, 5]), (1010, [4])]⟩
 | 52 => ⟨[], false, [(1000, [1, 2]), (1001, [1]), (1002, [1, 10]), (1003, [4]), (1004, [4])]⟩
 | 53 => ⟨[], false, [(1000, [1, 2]), (1001, [1]), (1002, [1, 11]), (1003, [4]), (1004, [4])]⟩
 | 54 => ⟨[], false, [(1000, [1, 2]), (1001, [1, 2, 3]), (1002, [2, 3]), (1003, [2])]⟩
 | 55 => ⟨[], false, [(1000, [1, 2]), (1001, [1, 2, 3]), (1002, [1, 2, 3]), (1003, [2, 3]), (1004, [2])]⟩
 | 56 => ⟨[], false, [(1000, [0, 1]), (1001, [0, 1, 12]), (1002, [4]), (1003, [0, 1, 21]), (1004, [4]), (1005, [0, 1, 5, 6]), (1006, [0, 1, 5, 34]), (1007, [4]), (1008, [4])]⟩
 | 57 => ⟨[], false, [(3, [0, 1, 2, 8, 9, 10]), (1000, [0, 1, 2]), (1001, [0, 1, 2, 8]), (1002, [0, 1, 2, 8, 9, 10]), (1003, [0, 1, 2, 8, 9, 10, 17]), (1004, [0, 1, 2, 8, 9, 10, 11]), (1005, [0, 1, 2, 8, 9, 10, 11, 31]), (1006, [0, 1, 2, 8, 9, 10]), (1007, [0, 1, 2, 8, 9, 10]), (1008, [6, 7])]⟩
 | 58 => ⟨[], false, [(1000, [1, 2]), (1001, [4])]⟩
 | 59 => ⟨[], false, [(1000, [0, 1]), (1001, [4])]⟩
 | 60 => ⟨[], false, [(3, [3, 6, 7, 8]), (1000, [0]), (1001, [0, 3]), (1002, [3, 6, 7, 8]), (1003, [3, 6, 7, 8, 9]), (1004, [3, 5, 6, 7, 8]), (1005, [3, 5, 6, 7, 8, 14]), (1006, [2]), (1007, [3, 6, 7, 8]), (1008, [2])]⟩
 | 61 => ⟨[], false, [(1000, [0, 1]), (1001, [0, 1, 5]), (1002, [0, 1, 5, 6]), (1003, [0, 1, 6, 11]), (1004, [12]), (1005, [4]), (1006, [4]), (1007, [0, 1, 13]), (1008, [4]), (1009, [0, 1, 16]), (1010, [4]), (1011, [19]), (1012, [4]), (1013, [4])]⟩
 | 62 => ⟨[], false, [(1000, [2, 3]), (1001, [10]), (1002, [4]), (1003, [4])]⟩
 | 63 => ⟨[], false, [(1000, [2, 3]), (1001, [2, 3, 9]), (1002, [4]), (1003, [14]), (1004, [4]), (1005, [4])]⟩
 | 64 => ⟨[], false, [(1000, [0]), (1001, [0, 4]), (1002, [2]), (1003, [2])]⟩
 | 65 => ⟨[], false, [(1000, [0]), (1001, [0, 4]), (1002, [2]), (1003, [2])]⟩
 | 66 => ⟨[true], false, [(2, [0, 1, 5]), (1000, [0, 1]), (1001, [0, 1, 5]), (1002, [0, 1, 5, 9]), (1003, [0, 1, 5]), (1004, [0, 1, 5]), (1005, [0, 1, 5]), (1006, [0, 1, 5]), (1007, [0, 1, 5]), (1008, [0, 1, 5]), (1009, [0, 1, 5]), (1010, [0, 1, 5]), (1011, [0, 1, 5]), (1012, [4])]⟩
 | 67 => ⟨[], false, [(4, [0, 3]), (1000, [0]), (1001, [0, 5]), (1002, [2]), (1003, [0, 3]), (1004, [0, 3, 7]), (1005, [0, 3]), (1006, [0, 3]), (1007, [2])]⟩
 | 68 => ⟨[], false, [(2, [0, 1, 5]), (1000, [0, 1]), (1001, [0, 1, 5]), (1002, [0, 1, 5, 9]), (1003, [0, 1, 5]), (1004, [0, 1, 5, 19]), (1005, [4]), (1006, [0, 1, 5]), (1007, [0, 1, 5, 28]), (1008, [4]), (1009, [0, 1, 5]), (1010, [0, 1, 5, 38]), (1011, [4]), (1012, [0, 1, 5]), (1013, [0, 1, 5, 47]), (1014, [4]), (1015, [0, 1, 5]), (1016, [4])]⟩
 | 75 => ⟨[], false, [(5, [0, 1, 5]), (1000, [0, 1]), (1001, [0, 1]), (1002, [0, 1, 11]), (1003, [4]), (1004, [0, 1, 5]), (1005, [0, 1, 5, 15]), (1006, [0, 1, 5]), (1007, [0, 1, 5]), (1008, [0, 1, 5, 25]), (1009, [4]), (1010, [4])]⟩
 | 76 => ⟨[], false, [(3, [0, 3, 4]), (1000, [0]), (1001, [0, 3]), (1002, [0, 3, 4]), (1003, [0, 3, 4, 11]), (1004, [0, 3, 4]), (1005, [0, 3, 4]), (1006, [2])]⟩
 | 85 => ⟨[], false, [(1000, [0]), (1001, [2])]⟩
 | 86 => ⟨[], false, [(4, [0, 1, 5]), (1000, [0, 1]), (1001, [0, 1, 10]), (1002, [4]), (1003, [0, 1, 5]), (1004, [0, 1, 5, 14]), (1005, [0, 1, 5]), (1006, [0, 1, 5, 26]), (1007, [4]), (1008, [4])]⟩
 | 90 => ⟨[], false, [(1000, [1, 2]), (1001, [1, 2]), (1002, [1, 2, 11]), (1003, [4]), (1004, [1]), (1005, [1, 18]), (1006, [4]), (1007, [4])]⟩
 | 91 => ⟨[], false, [(1000, [1, 2]), (1001, [1, 2, 3]), (1002, [1, 2, 3]), (1003, [1, 2, 3]), (1004, [1, 2, 3]), (1005, [2, 3]), (1006, [2])]⟩
 | 97 => ⟨[], false, [(1000, [2, 3]), (1001, [2, 3, 9]), (1002, [4]), (1003, [2, 3, 14]), (1004, [4]), (1005, [2, 3, 19]), (1006, [4]), (1007, [24]), (1008, [4]), (1009, [4])]⟩
 | _ => ⟨[], false, []⟩
noncomputable abbrev Fs := FsP Tryd.prog fis
def r106 : Go.Shelf.Ren := ⟨fun | 106 => 59 | 213 => 84 | 265 => 96 | n => n, fun | 9 => 9 | 3 => 3 | n => n, fun n => n⟩
theorem l106 : Go.Proofs.Lays.n106 Tryd.prog r106 := by constructor <;> (intros; kernel_rfl)
def r160 : Go.Shelf.Ren := ⟨fun | 160 => 56 | 232 => 78 | 231 => 77 | 227 => 79 | 234 => 81 | 233 => 80 | 236 => 83 | 235 => 82 | 228 => 92 | 271 => 95 | 151 => 94 | 197 => 93 | 120 => 110 | 152 => 109 | 260 => 108 | 137 => 116 | 119 => 117 | 224 => 118 | 225 => 119 | 217 => 121 | 266 => 122 | n => n, fun | 9 => 9 | 4 => 4 | 3 => 3 | 5 => 5 | 117 => 109 | 116 => 108 | 0 => 0 | 124 => 112 | 21 => 21 | 105 => 124 | 46 => 113 | 119 => 145 | 139 => 148 | 138 => 147 | n => n, fun | 3 => 1 | 4 => 2 | n => n⟩
theorem l160 : Go.Proofs.Lays.n160 Tryd.prog r160 := by constructor <;> (intros; kernel_rfl)
def xt : Nat → Option XE
 | 56 => some (xVal fTrim)
 | 59 => some (xVal fCompare)
 | 64 => some (xClone 2 24)
 | 65 => some (xClone 4 48)
 | _ => none
set_option maxRecDepth 100000 in
theorem xt_ok : ∀ g x, xt g = some x → XOk Tryd.prog g x := by
 intro g x h
 unfold xt at h
 split at h
 ·injection h with h; subst h; exact trim_xok l160 (by kernel_rfl) Tryd.func56 (by kernel_rfl) (by kernel_rfl)
 ·injection h with h; subst h; exact compare_xok l106 Tryd.func59 (by kernel_rfl) (by kernel_rfl)
 ·injection h with h; subst h; exact clone_xok (TOk_ti _) Tryd.func64 (by kernel_rfl) (by kernel_rfl) (by kernel_rfl) (by kernel_rfl) t29 t50 rfl
 ·injection h with h; subst h; exact clone_xok (TOk_ti _) Tryd.func65 (by kernel_rfl) (by kernel_rfl) (by kernel_rfl) (by kernel_rfl) t52 t56 rfl
 ·cases h
noncomputable abbrev run (k : Nat) : Cl := evF (tiOf Tryd.prog) regA Fs (Xof xt) k
theorem c56 {k : Nat} {md : Md} {S : Store} {s c : ByteArray} (hs : s.size ≤ 9223372036854775807) (hc : c.size < 4294967281 ∧ (c.data.toList.all fun b => decide (b.toNat < 128)) = true) : Cal (run k) md 56 [.v (.string s), .v (.string c)] S (fun r S' => r = .v (.string ⟨(Go.Lib.trimS s.data.toList c.data.toList).toArray⟩) ∧ S' = S) := Cal.x (x := xVal fTrim) rfl (xVal_of rfl (by simp only [fTrim]; rw [if_pos ⟨hs, hc.1, hc.2⟩])) ⟨rfl, rfl⟩
theorem c59 {k : Nat} {md : Md} {S : Store} {a b : ByteArray} : Cal (run k) md 59 [.v (.string a), .v (.string b)] S (fun r S' => r = .v (.int .i64 (Go.Lib.compareBytes a.data.toList b.data.toList)) ∧ S' = S) := Cal.x (x := xVal fCompare) rfl (xVal_of rfl rfl) ⟨rfl, rfl⟩
theorem c64 {k : Nat} {md : Md} {S : Store} {a : A} {rows : List (List A)} (hs : ∀ s, a ≠ .v (.string s)) (hr : rowsA S 2 a = some rows) (hb : leafRows rows = true ∧ flatRowsB rows = true ∧ rows.length * 24 ≤ Bound ∧ rows.length ≤ Bound) : Cal (run k) md 64 [a] S (fun r S' => r = .sl S.length 0 rows.length rows.length ∧ S' = S ++ [⟨2, rows, 0, false⟩]) := Cal.x (x := xClone 2 24) rfl (xClone_of hs hr hb) ⟨rfl, rfl⟩
theorem c65 {k : Nat} {md : Md} {S : Store} {a : A} {rows : List (List A)} (hs : ∀ s, a ≠ .v (.string s)) (hr : rowsA S 4 a = some rows) (hb : leafRows rows = true ∧ flatRowsB rows = true ∧ rows.length * 48 ≤ Bound ∧ rows.length ≤ Bound) : Cal (run k) md 65 [a] S (fun r S' => r = .sl S.length 0 rows.length rows.length ∧ S' = S ++ [⟨4, rows, 0, false⟩]) := Cal.x (x := xClone 4 48) rfl (xClone_of hs hr hb) ⟨rfl, rfl⟩
theorem g5 : Fs 5 = some (Tryd.f5, ⟨[], false, [(1000, [1, 2, 3]), (1001, [1, 2, 3, 7]), (1002, [1, 2, 3, 7]), (1003, [1, 2, 3, 22]), (1004, [6]), (1005, [1, 2, 3, 8, 9]), (1006, [1, 2, 3, 8, 9, 10]), (1007, [1, 2, 3, 8, 9, 10, 11, 12]), (1008, [1, 2, 3, 8, 9, 10, 11, 12, 48]), (1009, [6]), (1010, [1, 2, 3, 8, 9, 10, 11, 12, 53]), (1011, [6]), (1012, [1, 2, 3, 8, 9, 10, 11, 12, 13]), (1013, [1, 2, 3, 8, 9, 11, 12, 13]), (1014, [1, 2, 3, 8, 9, 11, 69]), (1015, [6]), (1016, [1, 2, 3, 8, 9, 11, 14]), (1017, [1, 2, 3, 8, 9, 11, 14]), (1018, [1, 2, 3, 8, 9, 11, 14, 15]), (1019, [1, 2, 3, 8, 9, 11, 14, 15]), (1020, [1, 2, 3, 8, 9, 11, 14, 15, 77]), (1021, [6]), (1022, [1, 2, 3, 8, 9, 11, 14, 80]), (1023, [6]), (1024, [8, 9, 11, 14, 16, 17]), (1025, [11, 14, 97]), (1026, [6]), (1027, [11, 14, 15]), (1028, [14, 15]), (1029, [14, 15, 102]), (1030, [6]), (1031, [105]), (1032, [6]), (1033, [6]), (999999, [])]⟩) := FsP_get Tryd.func5 (by kernel_rfl)
theorem g8 : Fs 8 = some (Tryd.f8, ⟨[], false, [(1000, [1, 2]), (1001, [1, 2]), (1002, [1, 2, 10]), (1003, [4]), (1004, [1]), (1005, [1, 16]), (1006, [4]), (1007, [4])]⟩) := FsP_get Tryd.func8 (by kernel_rfl)
theorem g9 : Fs 9 = some (Tryd.f9, ⟨[], false, [(4, [1, 36, 37, 38]), (10, [1, 79, 80, 81]), (13, [1, 5, 6, 79, 80, 81, 87, 88, 89]), (1000, [1]), (1001, [1, 34]), (1002, [2]), (1003, [1, 36, 37, 38]), (1004, [1, 36, 37, 38, 39]), (1005, [1, 3, 4, 36, 37, 38]), (1006, [1, 36, 37, 38, 76]), (1007, [2]), (1008, [1, 36, 37, 38]), (1009, [1, 79, 80, 81]), (1010, [1, 79, 80, 81, 82]), (1011, [1, 5, 6, 79, 80, 81]), (1012, [1, 5, 6, 79, 80, 81, 87, 88, 89]), (1013, [1, 5, 6, 79, 80, 81, 87, 88, 89, 90]), (1014, [1, 5, 6, 7, 8, 79, 80, 81, 87, 88, 89]), (1015, [1, 5, 6, 7, 8, 10, 79, 80, 81, 87, 88, 89]), (1016, [1, 5, 6, 79, 80, 81, 87, 88, 89, 154]), (1017, [2]), (1018, [1, 5, 6, 79, 80, 81, 87, 88, 89]), (1019, [1, 79, 80, 81, 159]), (1020, [2]), (1021, [1, 79, 80, 81]), (1022, [2])]⟩) := FsP_get Tryd.func9 (by kernel_rfl)
theorem g10 : Fs 10 = some (Tryd.f10, ⟨[], false, [(1000, [1, 2]), (1001, [1, 2, 3]), (1002, [1, 2, 3]), (1003, [1, 2, 3]), (1004, [1, 2, 3]), (1005, [2, 3]), (1006, [2]), (999999, [])]⟩) := FsP_get Tryd.func10 (by kernel_rfl)
theorem g11 : Fs 11 = some (Tryd.f11, ⟨[], false, [(4, [1, 36, 37, 38]), (10, [1, 75, 76, 77]), (15, [1, 5, 6, 75, 76, 77, 87, 88, 89]), (1000, [1]), (1001, [1, 34]), (1002, [2]), (1003, [1, 36, 37, 38]), (1004, [1, 36, 37, 38, 39]), (1005, [1, 3, 4, 36, 37, 38]), (1006, [1, 36, 37, 38, 72]), (1007, [2]), (1008, [1, 36, 37, 38]), (1009, [1, 75, 76, 77]), (1010, [1, 75, 76, 77, 78]), (1011, [1, 5, 6, 75, 76, 77]), (1012, [1, 5, 6, 75, 76, 77, 85]), (1013, [2]), (1014, [1, 5, 6, 75, 76, 77, 87, 88, 89]), (1015, [1, 5, 6, 75, 76, 77, 87, 88, 89, 90]), (1016, [1, 5, 6, 7, 8, 75, 76, 77, 87, 88, 89]), (1017, [1, 5, 6, 7, 8, 10, 75, 76, 77, 87, 88, 89]), (1018, [1, 5, 6, 7, 8, 75, 76, 77, 87, 88, 89, 126]), (1019, [2]), (1020, [1, 5, 6, 75, 76, 77, 87, 88, 89, 151]), (1021, [2]), (1022, [1, 5, 6, 75, 76, 77, 87, 88, 89]), (1023, [1, 75, 76, 77]), (1024, [2])]⟩) := FsP_get Tryd.func11 (by kernel_rfl)
theorem g12 : Fs 12 = some (Tryd.f12, ⟨[], false, [(1000, [2, 3]), (1001, [2, 3, 9]), (1002, [4]), (1003, [2, 3, 14]), (1004, [4]), (1005, [2, 3, 20]), (1006, [4]), (1007, [26]), (1008, [4]), (1009, [4])]⟩) := FsP_get Tryd.func12 (by kernel_rfl)
theorem g15 : Fs 15 = some (Tryd.f15, ⟨[true], false, [(1000, [1, 2]), (1001, [1, 2]), (1002, [1]), (1003, [4]), (999999, [])]⟩) := FsP_get Tryd.func15 (by kernel_rfl)
theorem g16 : Fs 16 = some (Tryd.f16, ⟨[], false, [(1000, [1, 2]), (1001, [1, 2]), (1002, [1, 2, 10]), (1003, [4]), (1004, [1]), (1005, [1, 16]), (1006, [4]), (1007, [4])]⟩) := FsP_get Tryd.func16 (by kernel_rfl)
theorem g17 : Fs 17 = some (Tryd.f17, ⟨[], false, [(6, [1, 2, 3, 6, 8, 63, 64]), (1000, [1, 2, 3, 6]), (1001, [1, 2, 3, 6, 47]), (1002, [6, 7]), (1003, [1, 2, 3, 6]), (1004, [1, 2, 3, 6, 8]), (1005, [1, 2, 3, 6, 8, 63, 64]), (1006, [1, 2, 3, 6, 8, 63, 64, 65]), (1007, [1, 2, 3, 6, 8, 9, 63, 64]), (1008, [1, 2, 3, 6, 8, 63, 64]), (1009, [1, 2, 3, 6, 8, 63, 64]), (1010, [3, 6]), (1011, [6, 7]), (999999, [])]⟩) := FsP_get Tryd.func17 (by kernel_rfl)
theorem g18 : Fs 18 = some (Tryd.f18, ⟨[], false, [(7, [6, 8, 9, 10, 67, 68]), (1000, [1, 2, 3, 6]), (1001, [1, 2, 3, 6, 49]), (1002, [6, 7]), (1003, [1, 2, 6, 8]), (1004, [6, 8, 9]), (1005, [6, 8, 9, 10]), (1006, [6, 8, 9, 10, 67, 68]), (1007, [6, 8, 9, 10, 67, 68, 69]), (1008, [6, 8, 9, 10, 11, 67, 68]), (1009, [6, 8, 9, 10, 67, 68]), (1010, [6, 8, 9, 10, 67, 68]), (1011, [6, 8]), (1012, [6, 7]), (999999, [])]⟩) := FsP_get Tryd.func18 (by kernel_rfl)
theorem g23 : Fs 23 = some (Tryd.f23, ⟨[], false, [(5, [0, 1, 5]), (1000, [0, 1]), (1001, [0, 1]), (1002, [0, 1, 11]), (1003, [4]), (1004, [0, 1, 5]), (1005, [0, 1, 5, 15]), (1006, [0, 1, 5]), (1007, [0, 1, 5]), (1008, [0, 1, 5, 25]), (1009, [4]), (1010, [4])]⟩) := FsP_get Tryd.func23 (by kernel_rfl)
theorem g24 : Fs 24 = some (Tryd.f24, ⟨[], false, [(5, [0, 1, 5]), (1000, [0, 1]), (1001, [0, 1]), (1002, [0, 1, 11]), (1003, [4]), (1004, [0, 1, 5]), (1005, [0, 1, 5, 15]), (1006, [0, 1, 5]), (1007, [0, 1, 5]), (1008, [0, 1, 5, 25]), (1009, [4]), (1010, [4])]⟩) := FsP_get Tryd.func24 (by kernel_rfl)
theorem g25 : Fs 25 = some (Tryd.f25, ⟨[], false, [(1000, [0, 1]), (1001, [4])]⟩) := FsP_get Tryd.func25 (by kernel_rfl)
theorem g26 : Fs 26 = some (Tryd.f26, ⟨[], false, [(1000, [0, 1, 2]), (1001, [6])]⟩) := FsP_get Tryd.func26 (by kernel_rfl)
theorem g27 : Fs 27 = some (Tryd.f27, ⟨[], false, [(2, [0, 3]), (1000, [0]), (1001, [0, 3]), (1002, [0, 3, 7]), (1003, [0, 3]), (1004, [0, 3, 19]), (1005, [2]), (1006, [2])]⟩) := FsP_get Tryd.func27 (by kernel_rfl)
theorem g28 : Fs 28 = some (Tryd.f28, ⟨[], false, [(2, [0, 1, 6]), (1000, [0, 1]), (1001, [0, 1, 6]), (1002, [0, 1, 6, 19]), (1003, [0, 1, 6]), (1004, [4, 5])]⟩) := FsP_get Tryd.func28 (by kernel_rfl)
theorem g29 : Fs 29 = some (Tryd.f29, ⟨[], false, [(2, [0, 1, 2, 7]), (1000, [0, 1, 2]), (1001, [0, 1, 2, 7]), (1002, [0, 1, 2, 7, 11]), (1003, [0, 1, 2, 7]), (1004, [0, 1, 2, 7]), (1005, [6])]⟩) := FsP_get Tryd.func29 (by kernel_rfl)
theorem g30 : Fs 30 = some (Tryd.f30, ⟨[], false, [(1000, [2, 3]), (1001, [4])]⟩) := FsP_get Tryd.func30 (by kernel_rfl)
theorem g31 : Fs 31 = some (Tryd.f31, ⟨[], false, [(3, [0, 3, 4]), (1000, [0]), (1001, [0, 3]), (1002, [0, 3, 4]), (1003, [0, 3, 4, 11]), (1004, [0, 3, 4]), (1005, [0, 3, 4]), (1006, [2]), (999999, [])]⟩) := FsP_get Tryd.func31 (by kernel_rfl)
theorem g32 : Fs 32 = some (Tryd.f32, ⟨[], false, [(3, [0, 3, 4]), (1000, [0]), (1001, [0, 3]), (1002, [0, 3, 4]), (1003, [0, 3, 4, 11]), (1004, [0, 3, 4]), (1005, [0, 3, 4]), (1006, [2])]⟩) := FsP_get Tryd.func32 (by kernel_rfl)
theorem g33 : Fs 33 = some (Tryd.f33, ⟨[], false, [(1000, [0, 1]), (1001, [4])]⟩) := FsP_get Tryd.func33 (by kernel_rfl)
theorem g34 : Fs 34 = some (Tryd.f34, ⟨[], false, [(1000, [0, 1, 2]), (1001, [6])]⟩) := FsP_get Tryd.func34 (by kernel_rfl)
theorem g35 : Fs 35 = some (Tryd.f35, ⟨[], false, [(1000, [0]), (1001, [2])]⟩) := FsP_get Tryd.func35 (by kernel_rfl)
theorem g36 : Fs 36 = some (Tryd.f36, ⟨[], false, [(1000, [1, 2]), (1001, [4, 5])]⟩) := FsP_get Tryd.func36 (by kernel_rfl)
theorem g37 : Fs 37 = some (Tryd.f37, ⟨[], false, [(3, [0, 2, 7, 11, 12]), (1000, [0, 1, 2]), (1001, [0, 2, 7]), (1002, [0, 2, 7, 11, 12]), (1003, [0, 2, 7, 11, 12, 13]), (1004, [0, 2, 7, 8, 11, 12]), (1005, [0, 2, 7, 11, 12]), (1006, [0, 2, 7, 11, 12]), (1007, [6])]⟩) := FsP_get Tryd.func37 (by kernel_rfl)
theorem g38 : Fs 38 = some (Tryd.f38, ⟨[], false, [(1000, [2, 3]), (1001, [4])]⟩) := FsP_get Tryd.func38 (by kernel_rfl)
theorem g39 : Fs 39 = some (Tryd.f39, ⟨[], false, [(4, [0, 1, 5]), (1000, [0, 1]), (1001, [0, 1, 10]), (1002, [4]), (1003, [0, 1, 5]), (1004, [0, 1, 5, 14]), (1005, [0, 1, 5]), (1006, [0, 1, 5, 26]), (1007, [4]), (1008, [4])]⟩) := FsP_get Tryd.func39 (by kernel_rfl)
theorem g40 : Fs 40 = some (Tryd.f40, ⟨[], false, [(4, [0, 1, 5]), (1000, [0, 1]), (1001, [0, 1, 10]), (1002, [4]), (1003, [0, 1, 5]), (1004, [0, 1, 5, 14]), (1005, [0, 1, 5]), (1006, [0, 1, 5, 26]), (1007, [4]), (1008, [4])]⟩) := FsP_get Tryd.func40 (by kernel_rfl)
theorem g41 : Fs 41 = some (Tryd.f41, ⟨[], false, [(3, [1, 2, 3, 7, 8, 9]), (1000, [1, 2]), (1001, [1, 2, 3]), (1002, [1, 2, 3, 7, 8, 9]), (1003, [1, 2, 3, 7, 8, 9, 10]), (1004, [1, 2, 3, 5, 7, 8, 9]), (1005, [1, 2, 3, 7, 8, 9]), (1006, [1, 2, 3, 7, 8, 9]), (1007, [1, 2]), (1008, [1, 2]), (1009, [2]), (999999, [])]⟩) := FsP_get Tryd.func41 (by kernel_rfl)
theorem g42 : Fs 42 = some (Tryd.f42, ⟨[], false, [(3, [2, 3, 15, 16, 17]), (1000, [1, 2]), (1001, [1, 2, 3]), (1002, [2, 3, 15, 16, 17]), (1003, [2, 3, 15, 16, 17, 18]), (1004, [2, 3, 5, 15, 16, 17]), (1005, [2, 3, 15, 16, 17]), (1006, [2, 3, 15, 16, 17]), (1007, [2]), (999999, [])]⟩) := FsP_get Tryd.func42 (by kernel_rfl)
theorem g43 : Fs 43 = some (Tryd.f43, ⟨[true], false, [(2, [0, 1, 5]), (1000, [0, 1]), (1001, [0, 1, 5]), (1002, [0, 1, 5, 9]), (1003, [0, 1, 5]), (1004, [0, 1, 5]), (1005, [4]), (999999, [])]⟩) := FsP_get Tryd.func43 (by kernel_rfl)
theorem g44 : Fs 44 = some (Tryd.f44, ⟨[true], false, [(2, [0, 1, 5]), (1000, [0, 1]), (1001, [0, 1, 5]), (1002, [0, 1, 5, 9]), (1003, [0, 1, 5]), (1004, [0, 1, 5]), (1005, [0, 1, 5]), (1006, [0, 1, 5]), (1007, [0, 1, 5]), (1008, [4])]⟩) := FsP_get Tryd.func44 (by kernel_rfl)
theorem g45 : Fs 45 = some (Tryd.f45, ⟨[], false, [(2, [0, 1, 5]), (1000, [0, 1]), (1001, [0, 1, 5]), (1002, [0, 1, 5, 9]), (1003, [0, 1, 5]), (1004, [0, 1, 5]), (1005, [0, 1, 5, 20]), (1006, [4]), (1007, [4])]⟩) := FsP_get Tryd.func45 (by kernel_rfl)
theorem g46 : Fs 46 = some (Tryd.f46, ⟨[], false, [(2, [0, 1, 5]), (1000, [0, 1]), (1001, [0, 1, 5]), (1002, [0, 1, 5, 9]), (1003, [0, 1, 5]), (1004, [0, 1, 5, 19]), (1005, [4]), (1006, [0, 1, 5]), (1007, [0, 1, 5, 28]), (1008, [4]), (1009, [0, 1, 5]), (1010, [4])]⟩) := FsP_get Tryd.func46 (by kernel_rfl)
theorem g52 : Fs 52 = some (Tryd.f52, ⟨[], false, [(1000, [1, 2]), (1001, [1]), (1002, [1, 10]), (1003, [4]), (1004, [4])]⟩) := FsP_get Tryd.func52 (by kernel_rfl)
theorem g53 : Fs 53 = some (Tryd.f53, ⟨[], false, [(1000, [1, 2]), (1001, [1]), (1002, [1, 11]), (1003, [4]), (1004, [4])]⟩) := FsP_get Tryd.func53 (by kernel_rfl)
theorem g54 : Fs 54 = some (Tryd.f54, ⟨[], false, [(1000, [1, 2]), (1001, [1, 2, 3]), (1002, [2, 3]), (1003, [2])]⟩) := FsP_get Tryd.func54 (by kernel_rfl)
theorem g55 : Fs 55 = some (Tryd.f55, ⟨[], false, [(1000, [1, 2]), (1001, [1, 2, 3]), (1002, [1, 2, 3]), (1003, [2, 3]), (1004, [2])]⟩) := FsP_get Tryd.func55 (by kernel_rfl)
theorem g57 : Fs 57 = some (Tryd.f57, ⟨[], false, [(3, [0, 1, 2, 8, 9, 10]), (1000, [0, 1, 2]), (1001, [0, 1, 2, 8]), (1002, [0, 1, 2, 8, 9, 10]), (1003, [0, 1, 2, 8, 9, 10, 17]), (1004, [0, 1, 2, 8, 9, 10, 11]), (1005, [0, 1, 2, 8, 9, 10, 11, 31]), (1006, [0, 1, 2, 8, 9, 10]), (1007, [0, 1, 2, 8, 9, 10]), (1008, [6, 7])]⟩) := FsP_get Tryd.func57 (by kernel_rfl)
theorem g58 : Fs 58 = some (Tryd.f58, ⟨[], false, [(1000, [1, 2]), (1001, [4])]⟩) := FsP_get Tryd.func58 (by kernel_rfl)
theorem g60 : Fs 60 = some (Tryd.f60, ⟨[], false, [(3, [3, 6, 7, 8]), (1000, [0]), (1001, [0, 3]), (1002, [3, 6, 7, 8]), (1003, [3, 6, 7, 8, 9]), (1004, [3, 5, 6, 7, 8]), (1005, [3, 5, 6, 7, 8, 14]), (1006, [2]), (1007, [3, 6, 7, 8]), (1008, [2])]⟩) := FsP_get Tryd.func60 (by kernel_rfl)
theorem g61 : Fs 61 = some (Tryd.f61, ⟨[], false, [(1000, [0, 1]), (1001, [0, 1, 5]), (1002, [0, 1, 5, 6]), (1003, [0, 1, 6, 11]), (1004, [12]), (1005, [4]), (1006, [4]), (1007, [0, 1, 13]), (1008, [4]), (1009, [0, 1, 16]), (1010, [4]), (1011, [19]), (1012, [4]), (1013, [4])]⟩) := FsP_get Tryd.func61 (by kernel_rfl)
theorem g62 : Fs 62 = some (Tryd.f62, ⟨[], false, [(1000, [2, 3]), (1001, [10]), (1002, [4]), (1003, [4])]⟩) := FsP_get Tryd.func62 (by kernel_rfl)
theorem g63 : Fs 63 = some (Tryd.f63, ⟨[], false, [(1000, [2, 3]), (1001, [2, 3, 9]), (1002, [4]), (1003, [14]), (1004, [4]), (1005, [4])]⟩) := FsP_get Tryd.func63 (by kernel_rfl)
theorem g66 : Fs 66 = some (Tryd.f66, ⟨[true], false, [(2, [0, 1, 5]), (1000, [0, 1]), (1001, [0, 1, 5]), (1002, [0, 1, 5, 9]), (1003, [0, 1, 5]), (1004, [0, 1, 5]), (1005, [0, 1, 5]), (1006, [0, 1, 5]), (1007, [0, 1, 5]), (1008, [0, 1, 5]), (1009, [0, 1, 5]), (1010, [0, 1, 5]), (1011, [0, 1, 5]), (1012, [4])]⟩) := FsP_get Tryd.func66 (by kernel_rfl)
theorem g67 : Fs 67 = some (Tryd.f67, ⟨[], false, [(4, [0, 3]), (1000, [0]), (1001, [0, 5]), (1002, [2]), (1003, [0, 3]), (1004, [0, 3, 7]), (1005, [0, 3]), (1006, [0, 3]), (1007, [2])]⟩) := FsP_get Tryd.func67 (by kernel_rfl)
theorem g68 : Fs 68 = some (Tryd.f68, ⟨[], false, [(2, [0, 1, 5]), (1000, [0, 1]), (1001, [0, 1, 5]), (1002, [0, 1, 5, 9]), (1003, [0, 1, 5]), (1004, [0, 1, 5, 19]), (1005, [4]), (1006, [0, 1, 5]), (1007, [0, 1, 5, 28]), (1008, [4]), (1009, [0, 1, 5]), (1010, [0, 1, 5, 38]), (1011, [4]), (1012, [0, 1, 5]), (1013, [0, 1, 5, 47]), (1014, [4]), (1015, [0, 1, 5]), (1016, [4])]⟩) := FsP_get Tryd.func68 (by kernel_rfl)
theorem g75 : Fs 75 = some (Tryd.f75, ⟨[], false, [(5, [0, 1, 5]), (1000, [0, 1]), (1001, [0, 1]), (1002, [0, 1, 11]), (1003, [4]), (1004, [0, 1, 5]), (1005, [0, 1, 5, 15]), (1006, [0, 1, 5]), (1007, [0, 1, 5]), (1008, [0, 1, 5, 25]), (1009, [4]), (1010, [4])]⟩) := FsP_get Tryd.func75 (by kernel_rfl)
theorem g76 : Fs 76 = some (Tryd.f76, ⟨[], false, [(3, [0, 3, 4]), (1000, [0]), (1001, [0, 3]), (1002, [0, 3, 4]), (1003, [0, 3, 4, 11]), (1004, [0, 3, 4]), (1005, [0, 3, 4]), (1006, [2])]⟩) := FsP_get Tryd.func76 (by kernel_rfl)
theorem g85 : Fs 85 = some (Tryd.f85, ⟨[], false, [(1000, [0]), (1001, [2])]⟩) := FsP_get Tryd.func85 (by kernel_rfl)
theorem g86 : Fs 86 = some (Tryd.f86, ⟨[], false, [(4, [0, 1, 5]), (1000, [0, 1]), (1001, [0, 1, 10]), (1002, [4]), (1003, [0, 1, 5]), (1004, [0, 1, 5, 14]), (1005, [0, 1, 5]), (1006, [0, 1, 5, 26]), (1007, [4]), (1008, [4])]⟩) := FsP_get Tryd.func86 (by kernel_rfl)
theorem g90 : Fs 90 = some (Tryd.f90, ⟨[], false, [(1000, [1, 2]), (1001, [1, 2]), (1002, [1, 2, 11]), (1003, [4]), (1004, [1]), (1005, [1, 18]), (1006, [4]), (1007, [4])]⟩) := FsP_get Tryd.func90 (by kernel_rfl)
theorem g91 : Fs 91 = some (Tryd.f91, ⟨[], false, [(1000, [1, 2]), (1001, [1, 2, 3]), (1002, [1, 2, 3]), (1003, [1, 2, 3]), (1004, [1, 2, 3]), (1005, [2, 3]), (1006, [2])]⟩) := FsP_get Tryd.func91 (by kernel_rfl)
theorem g97 : Fs 97 = some (Tryd.f97, ⟨[], false, [(1000, [2, 3]), (1001, [2, 3, 9]), (1002, [4]), (1003, [2, 3, 14]), (1004, [4]), (1005, [2, 3, 19]), (1006, [4]), (1007, [24]), (1008, [4]), (1009, [4])]⟩) := FsP_get Tryd.func97 (by kernel_rfl)
end Go.Proofs.YtdpaijnbikclgaaDoorB
