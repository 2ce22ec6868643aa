/- The law Beats of queuewire returns true for every three integers: the row over the given program, tied to its text; no condition besides. (Part 10 of 40: QwFacts QwSolo QwTake.) -/
import Derived.Test.YtpiabknabfbfhaaGreatDoorProg
import Derived.KernelRfl
import Derived.Conc.Beside
import Derived.Test.YtpiabknabfbfhaaGreatDoorBeats06
import Derived.Test.YtpiabknabfbfhaaGreatDoorBeats08
import Derived.Test.YtpiabknabfbfhaaGreatDoorBeats09
set_option linter.all false
-- Facts on the types of this program, reckoned by the kernel.
namespace Go.Qw
open Go Go.Proofs

@[go_sem] theorem go_13 : isGo Tryz.prog 13 = true := by kernel_rfl
@[go_sem] theorem pt_23 : ptrT Tryz.prog 23 = true := by kernel_rfl
@[go_sem] theorem es_22 : elemSz Tryz.prog 22 = some 1 := by kernel_rfl
@[go_sem] theorem is_3 : isT Tryz.prog 3 = true := by kernel_rfl
@[go_sem] theorem ag_3 : aggT Tryz.prog 3 = false := by kernel_rfl
@[go_sem] theorem sz_3 : sizeT Tryz.prog 3 = 1 := by kernel_rfl
@[go_sem] theorem go_14 : isGo Tryz.prog 14 = true := by kernel_rfl
@[go_sem] theorem go_15 : isGo Tryz.prog 15 = true := by kernel_rfl
@[go_sem] theorem go_19 : isGo Tryz.prog 19 = true := by kernel_rfl
@[go_sem] theorem go_20 : isGo Tryz.prog 20 = true := by kernel_rfl
@[go_sem] theorem go_18 : isGo Tryz.prog 18 = true := by kernel_rfl
@[go_sem] theorem st_9 : strT Tryz.prog 9 = true := by kernel_rfl
@[go_sem] theorem go_21 : isGo Tryz.prog 21 = true := by kernel_rfl
@[go_sem] theorem go_23 : isGo Tryz.prog 23 = true := by kernel_rfl
@[go_sem] theorem es_49 : elemSz Tryz.prog 49 = some 1 := by kernel_rfl
@[go_sem] theorem is_9 : isT Tryz.prog 9 = true := by kernel_rfl
@[go_sem] theorem ag_9 : aggT Tryz.prog 9 = false := by kernel_rfl
@[go_sem] theorem sz_9 : sizeT Tryz.prog 9 = 1 := by kernel_rfl
@[go_sem] theorem go_25 : isGo Tryz.prog 25 = true := by kernel_rfl
@[go_sem] theorem go_26 : isGo Tryz.prog 26 = true := by kernel_rfl
@[go_sem] theorem es_43 : elemSz Tryz.prog 43 = some 2 := by kernel_rfl
@[go_sem] theorem fo_55_1 : fieldOff Tryz.prog 55 1 = some 1 := by kernel_rfl
@[go_sem] theorem fo_55_0 : fieldOff Tryz.prog 55 0 = some 0 := by kernel_rfl
@[go_sem] theorem is_22 : isT Tryz.prog 22 = true := by kernel_rfl
@[go_sem] theorem ag_22 : aggT Tryz.prog 22 = false := by kernel_rfl
@[go_sem] theorem sz_22 : sizeT Tryz.prog 22 = 1 := by kernel_rfl
@[go_sem] theorem if_45 : ifcT Tryz.prog 45 = true := by kernel_rfl
@[go_sem] theorem go_28 : isGo Tryz.prog 28 = true := by kernel_rfl
@[go_sem] theorem bs_22_1 : bsT Tryz.prog 22 1 = some (3, [(0, 1)], [.int Go.IntKind.i64 0]) := by kernel_rfl
@[go_sem] theorem ze_66 : zeroT Tryz.prog 66 = some (.agg #[.int Go.IntKind.i64 0, .int Go.IntKind.i64 0, .int Go.IntKind.i64 0, .int Go.IntKind.i64 0, .int Go.IntKind.i64 0]) := by kernel_rfl
@[go_sem] theorem pl_66 : placesT Tryz.prog 66 = some [(0, 1), (1, 1), (2, 1), (3, 1), (4, 1)] := by kernel_rfl
@[go_sem] theorem go_32 : isGo Tryz.prog 32 = true := by kernel_rfl
@[go_sem] theorem u8_3_5 : u8T Tryz.prog 3 5 = none := by kernel_rfl
@[go_sem] theorem kd_3_5 : kindT Tryz.prog 3 5 = some Go.IntKind.u8 := by kernel_rfl
@[go_sem] theorem u8_67_9 : u8T Tryz.prog 67 9 = none := by kernel_rfl
@[go_sem] theorem bs_67_1 : bsT Tryz.prog 67 1 = some (5, [(0, 1)], [.int Go.IntKind.u8 0]) := by kernel_rfl
@[go_sem] theorem fo_74_4 : fieldOff Tryz.prog 74 4 = some 8 := by kernel_rfl
@[go_sem] theorem is_72 : isT Tryz.prog 72 = true := by kernel_rfl
@[go_sem] theorem ag_72 : aggT Tryz.prog 72 = false := by kernel_rfl
@[go_sem] theorem go_33 : isGo Tryz.prog 33 = true := by kernel_rfl
@[go_sem] theorem fo_74_1 : fieldOff Tryz.prog 74 1 = some 5 := by kernel_rfl
@[go_sem] theorem is_71 : isT Tryz.prog 71 = true := by kernel_rfl
@[go_sem] theorem ag_71 : aggT Tryz.prog 71 = false := by kernel_rfl
@[go_sem] theorem go_34 : isGo Tryz.prog 34 = true := by kernel_rfl
@[go_sem] theorem es_75 : elemSz Tryz.prog 75 = some 1 := by kernel_rfl
@[go_sem] theorem is_77 : isT Tryz.prog 77 = true := by kernel_rfl
@[go_sem] theorem ag_77 : aggT Tryz.prog 77 = false := by kernel_rfl
@[go_sem] theorem sz_77 : sizeT Tryz.prog 77 = 1 := by kernel_rfl
@[go_sem] theorem fo_81_0 : fieldOff Tryz.prog 81 0 = some 0 := by kernel_rfl
@[go_sem] theorem go_35 : isGo Tryz.prog 35 = true := by kernel_rfl
@[go_sem] theorem go_36 : isGo Tryz.prog 36 = true := by kernel_rfl
@[go_sem] theorem go_37 : isGo Tryz.prog 37 = true := by kernel_rfl
@[go_sem] theorem go_38 : isGo Tryz.prog 38 = true := by kernel_rfl
@[go_sem] theorem pt_70 : ptrT Tryz.prog 70 = true := by kernel_rfl
@[go_sem] theorem co_51 : concT Tryz.prog 51 = true := by kernel_rfl
@[go_sem] theorem fo_90_2 : fieldOff Tryz.prog 90 2 = some 2 := by kernel_rfl
@[go_sem] theorem is_85 : isT Tryz.prog 85 = true := by kernel_rfl
@[go_sem] theorem ag_85 : aggT Tryz.prog 85 = false := by kernel_rfl
@[go_sem] theorem sz_85 : sizeT Tryz.prog 85 = 1 := by kernel_rfl
@[go_sem] theorem go_39 : isGo Tryz.prog 39 = true := by kernel_rfl
@[go_sem] theorem fo_74_2 : fieldOff Tryz.prog 74 2 = some 6 := by kernel_rfl
@[go_sem] theorem fo_90_9 : fieldOff Tryz.prog 90 9 = some 10 := by kernel_rfl
@[go_sem] theorem go_40 : isGo Tryz.prog 40 = true := by kernel_rfl
@[go_sem] theorem ze_51 : zeroT Tryz.prog 51 = some (.int Go.IntKind.i64 0) := by kernel_rfl
@[go_sem] theorem co_93 : concT Tryz.prog 93 = true := by kernel_rfl
@[go_sem] theorem go_41 : isGo Tryz.prog 41 = true := by kernel_rfl
@[go_sem] theorem is_51 : isT Tryz.prog 51 = true := by kernel_rfl
@[go_sem] theorem ag_51 : aggT Tryz.prog 51 = false := by kernel_rfl
@[go_sem] theorem fo_90_7 : fieldOff Tryz.prog 90 7 = some 8 := by kernel_rfl
@[go_sem] theorem fo_90_8 : fieldOff Tryz.prog 90 8 = some 9 := by kernel_rfl
@[go_sem] theorem go_44 : isGo Tryz.prog 44 = true := by kernel_rfl
@[go_sem] theorem go_43 : isGo Tryz.prog 43 = true := by kernel_rfl
@[go_sem] theorem fo_66_0 : fieldOff Tryz.prog 66 0 = some 0 := by kernel_rfl
@[go_sem] theorem fo_66_1 : fieldOff Tryz.prog 66 1 = some 1 := by kernel_rfl
@[go_sem] theorem fo_66_2 : fieldOff Tryz.prog 66 2 = some 2 := by kernel_rfl
@[go_sem] theorem fo_66_3 : fieldOff Tryz.prog 66 3 = some 3 := by kernel_rfl
@[go_sem] theorem fo_66_4 : fieldOff Tryz.prog 66 4 = some 4 := by kernel_rfl
@[go_sem] theorem is_66 : isT Tryz.prog 66 = true := by kernel_rfl
@[go_sem] theorem ag_66 : aggT Tryz.prog 66 = true := by kernel_rfl
@[go_sem] theorem sz_66 : sizeT Tryz.prog 66 = 5 := by kernel_rfl
@[go_sem] theorem go_46 : isGo Tryz.prog 46 = true := by kernel_rfl
@[go_sem] theorem ze_74 : zeroT Tryz.prog 74 = some (.agg #[.int Go.IntKind.i64 0, .int Go.IntKind.i64 0, .int Go.IntKind.i64 0, .int Go.IntKind.i64 0, .int Go.IntKind.i64 0, .pointer none, .int Go.IntKind.i64 0, .int Go.IntKind.i64 0, .map none]) := by kernel_rfl
@[go_sem] theorem pl_74 : placesT Tryz.prog 74 = some [(0, 5), (5, 1), (6, 1), (7, 1), (8, 1)] := by kernel_rfl
@[go_sem] theorem go_48 : isGo Tryz.prog 48 = true := by kernel_rfl
@[go_sem] theorem go_47 : isGo Tryz.prog 47 = true := by kernel_rfl
@[go_sem] theorem fo_116_0 : fieldOff Tryz.prog 116 0 = some 0 := by kernel_rfl
@[go_sem] theorem is_114 : isT Tryz.prog 114 = true := by kernel_rfl
@[go_sem] theorem ag_114 : aggT Tryz.prog 114 = false := by kernel_rfl
@[go_sem] theorem go_50 : isGo Tryz.prog 50 = true := by kernel_rfl
@[go_sem] theorem go_49 : isGo Tryz.prog 49 = true := by kernel_rfl
@[go_sem] theorem fo_81_1 : fieldOff Tryz.prog 81 1 = some 1 := by kernel_rfl
@[go_sem] theorem is_78 : isT Tryz.prog 78 = true := by kernel_rfl
@[go_sem] theorem ag_78 : aggT Tryz.prog 78 = false := by kernel_rfl
@[go_sem] theorem es_78 : elemSz Tryz.prog 78 = some 4 := by kernel_rfl
@[go_sem] theorem fo_81_4 : fieldOff Tryz.prog 81 4 = some 4 := by kernel_rfl
@[go_sem] theorem is_79 : isT Tryz.prog 79 = true := by kernel_rfl
@[go_sem] theorem ag_79 : aggT Tryz.prog 79 = false := by kernel_rfl
@[go_sem] theorem es_79 : elemSz Tryz.prog 79 = some 1 := by kernel_rfl
@[go_sem] theorem fo_74_3 : fieldOff Tryz.prog 74 3 = some 7 := by kernel_rfl
@[go_sem] theorem fo_74_0 : fieldOff Tryz.prog 74 0 = some 0 := by kernel_rfl
@[go_sem] theorem ze_90 : zeroT Tryz.prog 90 = some (.agg #[.pointer none, .int Go.IntKind.i64 0, .int Go.IntKind.i64 0, .string (B []), .bool false, .map none, .int Go.IntKind.i64 0, .int Go.IntKind.i64 0, .int Go.IntKind.i64 0, .int Go.IntKind.i64 0, .int Go.IntKind.i64 0, .string (B [])]) := by kernel_rfl
@[go_sem] theorem pl_90 : placesT Tryz.prog 90 = some [(0, 1), (1, 1), (2, 1), (3, 2), (5, 1), (6, 1), (7, 1), (8, 1), (9, 1), (10, 1), (11, 1)] := by kernel_rfl
@[go_sem] theorem go_53 : isGo Tryz.prog 53 = true := by kernel_rfl
@[go_sem] theorem go_54 : isGo Tryz.prog 54 = true := by kernel_rfl
@[go_sem] theorem fo_90_10 : fieldOff Tryz.prog 90 10 = some 11 := by kernel_rfl
@[go_sem] theorem ze_55 : zeroT Tryz.prog 55 = some (.agg #[.int Go.IntKind.i64 0, .string (B [])]) := by kernel_rfl
@[go_sem] theorem pl_55 : placesT Tryz.prog 55 = some [(0, 1), (1, 1)] := by kernel_rfl
@[go_sem] theorem bs_43_1 : bsT Tryz.prog 43 1 = some (55, [(0, 2)], [.int Go.IntKind.i64 0, .string (B [])]) := by kernel_rfl
@[go_sem] theorem ze_119 : zeroT Tryz.prog 119 = some (.chan none) := by kernel_rfl
@[go_sem] theorem ze_120 : zeroT Tryz.prog 120 = some (.chan none) := by kernel_rfl
@[go_sem] theorem ze_121 : zeroT Tryz.prog 121 = some (.chan none) := by kernel_rfl
@[go_sem] theorem is_119 : isT Tryz.prog 119 = true := by kernel_rfl
@[go_sem] theorem sz_119 : sizeT Tryz.prog 119 = 1 := by kernel_rfl
@[go_sem] theorem is_120 : isT Tryz.prog 120 = true := by kernel_rfl
@[go_sem] theorem sz_120 : sizeT Tryz.prog 120 = 1 := by kernel_rfl
@[go_sem] theorem is_121 : isT Tryz.prog 121 = true := by kernel_rfl
@[go_sem] theorem sz_121 : sizeT Tryz.prog 121 = 1 := by kernel_rfl
@[go_sem] theorem is_70 : isT Tryz.prog 70 = true := by kernel_rfl
@[go_sem] theorem ag_70 : aggT Tryz.prog 70 = false := by kernel_rfl
@[go_sem] theorem fo_90_6 : fieldOff Tryz.prog 90 6 = some 7 := by kernel_rfl
@[go_sem] theorem ze_135 : zeroT Tryz.prog 135 = some (.agg #[.int Go.IntKind.i64 0, .int Go.IntKind.i64 0, .string (B []), .bool false, .bool false]) := by kernel_rfl
@[go_sem] theorem is_135 : isT Tryz.prog 135 = true := by kernel_rfl
@[go_sem] theorem ag_135 : aggT Tryz.prog 135 = true := by kernel_rfl
@[go_sem] theorem sz_135 : sizeT Tryz.prog 135 = 5 := by kernel_rfl
@[go_sem] theorem fo_135_0 : fieldOff Tryz.prog 135 0 = some 0 := by kernel_rfl
@[go_sem] theorem fo_135_3 : fieldOff Tryz.prog 135 3 = some 3 := by kernel_rfl
@[go_sem] theorem is_4 : isT Tryz.prog 4 = true := by kernel_rfl
@[go_sem] theorem ag_4 : aggT Tryz.prog 4 = false := by kernel_rfl
@[go_sem] theorem sz_4 : sizeT Tryz.prog 4 = 1 := by kernel_rfl
@[go_sem] theorem fo_135_4 : fieldOff Tryz.prog 135 4 = some 4 := by kernel_rfl
@[go_sem] theorem go_59 : isGo Tryz.prog 59 = true := by kernel_rfl
@[go_sem] theorem fo_90_0 : fieldOff Tryz.prog 90 0 = some 0 := by kernel_rfl
@[go_sem] theorem is_23 : isT Tryz.prog 23 = true := by kernel_rfl
@[go_sem] theorem ag_23 : aggT Tryz.prog 23 = false := by kernel_rfl
@[go_sem] theorem if_20 : ifcT Tryz.prog 20 = true := by kernel_rfl
@[go_sem] theorem ze_140 : zeroT Tryz.prog 140 = some (.agg #[.pointer none, .pointer none, .int Go.IntKind.u64 0]) := by kernel_rfl
@[go_sem] theorem is_140 : isT Tryz.prog 140 = true := by kernel_rfl
@[go_sem] theorem ag_140 : aggT Tryz.prog 140 = true := by kernel_rfl
@[go_sem] theorem sz_140 : sizeT Tryz.prog 140 = 3 := by kernel_rfl
@[go_sem] theorem is_143 : isT Tryz.prog 143 = true := by kernel_rfl
@[go_sem] theorem ag_143 : aggT Tryz.prog 143 = false := by kernel_rfl
@[go_sem] theorem go_64 : isGo Tryz.prog 64 = true := by kernel_rfl
@[go_sem] theorem u8_5_3 : u8T Tryz.prog 5 3 = none := by kernel_rfl
@[go_sem] theorem kd_5_3 : kindT Tryz.prog 5 3 = some Go.IntKind.i64 := by kernel_rfl
@[go_sem] theorem ze_155 : zeroT Tryz.prog 155 = some (.agg #[.pointer none, .slice none 0 0]) := by kernel_rfl
@[go_sem] theorem pl_155 : placesT Tryz.prog 155 = some [(0, 2)] := by kernel_rfl
@[go_sem] theorem co_157 : concT Tryz.prog 157 = true := by kernel_rfl
@[go_sem] theorem co_158 : concT Tryz.prog 158 = true := by kernel_rfl
@[go_sem] theorem co_159 : concT Tryz.prog 159 = true := by kernel_rfl
@[go_sem] theorem bs_235_3 : bsT Tryz.prog 235 3 = some (20, [(0, 1), (1, 1), (2, 1)], [.nilIface, .nilIface, .nilIface]) := by kernel_rfl
@[go_sem] theorem go_65 : isGo Tryz.prog 65 = true := by kernel_rfl
@[go_sem] theorem fo_155_0 : fieldOff Tryz.prog 155 0 = some 0 := by kernel_rfl
@[go_sem] theorem go_66 : isGo Tryz.prog 66 = true := by kernel_rfl
@[go_sem] theorem go_67 : isGo Tryz.prog 67 = true := by kernel_rfl
@[go_sem] theorem go_68 : isGo Tryz.prog 68 = true := by kernel_rfl
@[go_sem] theorem ze_116 : zeroT Tryz.prog 116 = some (.agg #[.map none, .int Go.IntKind.i64 0, .int Go.IntKind.i64 0, .int Go.IntKind.i64 0]) := by kernel_rfl
@[go_sem] theorem pl_116 : placesT Tryz.prog 116 = some [(0, 1), (1, 1), (2, 1), (3, 1)] := by kernel_rfl
@[go_sem] theorem go_80 : isGo Tryz.prog 80 = true := by kernel_rfl
@[go_sem] theorem go_81 : isGo Tryz.prog 81 = true := by kernel_rfl
@[go_sem] theorem go_82 : isGo Tryz.prog 82 = true := by kernel_rfl
@[go_sem] theorem go_83 : isGo Tryz.prog 83 = true := by kernel_rfl
@[go_sem] theorem go_84 : isGo Tryz.prog 84 = true := by kernel_rfl
@[go_sem] theorem go_85 : isGo Tryz.prog 85 = true := by kernel_rfl
@[go_sem] theorem go_52 : isGo Tryz.prog 52 = true := by kernel_rfl
@[go_sem] theorem go_86 : isGo Tryz.prog 86 = true := by kernel_rfl
@[go_sem] theorem fo_90_4 : fieldOff Tryz.prog 90 4 = some 5 := by kernel_rfl
@[go_sem] theorem is_88 : isT Tryz.prog 88 = true := by kernel_rfl
@[go_sem] theorem ag_88 : aggT Tryz.prog 88 = false := by kernel_rfl
@[go_sem] theorem sz_88 : sizeT Tryz.prog 88 = 1 := by kernel_rfl
@[go_sem] theorem go_87 : isGo Tryz.prog 87 = true := by kernel_rfl
@[go_sem] theorem go_88 : isGo Tryz.prog 88 = true := by kernel_rfl
@[go_sem] theorem go_58 : isGo Tryz.prog 58 = true := by kernel_rfl
@[go_sem] theorem fo_87_0 : fieldOff Tryz.prog 87 0 = some 0 := by kernel_rfl
@[go_sem] theorem go_104 : isGo Tryz.prog 104 = true := by kernel_rfl
@[go_sem] theorem go_105 : isGo Tryz.prog 105 = true := by kernel_rfl
@[go_sem] theorem go_107 : isGo Tryz.prog 107 = true := by kernel_rfl
@[go_sem] theorem is_45 : isT Tryz.prog 45 = true := by kernel_rfl
@[go_sem] theorem ag_45 : aggT Tryz.prog 45 = false := by kernel_rfl
@[go_sem] theorem sz_45 : sizeT Tryz.prog 45 = 1 := by kernel_rfl
@[go_sem] theorem es_235 : elemSz Tryz.prog 235 = some 1 := by kernel_rfl
@[go_sem] theorem is_20 : isT Tryz.prog 20 = true := by kernel_rfl
@[go_sem] theorem ag_20 : aggT Tryz.prog 20 = false := by kernel_rfl
@[go_sem] theorem ze_157 : zeroT Tryz.prog 157 = some (.int Go.IntKind.i64 0) := by kernel_rfl
@[go_sem] theorem go_116 : isGo Tryz.prog 116 = true := by kernel_rfl
@[go_sem] theorem ze_158 : zeroT Tryz.prog 158 = some (.int Go.IntKind.i64 0) := by kernel_rfl
@[go_sem] theorem ze_159 : zeroT Tryz.prog 159 = some (.int Go.IntKind.i64 0) := by kernel_rfl
@[go_sem] theorem co_237 : concT Tryz.prog 237 = true := by kernel_rfl
@[go_sem] theorem ze_237 : zeroT Tryz.prog 237 = some (.int Go.IntKind.i64 0) := by kernel_rfl
@[go_sem] theorem co_238 : concT Tryz.prog 238 = true := by kernel_rfl
@[go_sem] theorem ze_238 : zeroT Tryz.prog 238 = some (.string (B [])) := by kernel_rfl
@[go_sem] theorem st_238 : strT Tryz.prog 238 = true := by kernel_rfl
@[go_sem] theorem co_239 : concT Tryz.prog 239 = true := by kernel_rfl
@[go_sem] theorem go_117 : isGo Tryz.prog 117 = true := by kernel_rfl
@[go_sem] theorem fo_153_1 : fieldOff Tryz.prog 153 1 = some 1 := by kernel_rfl
@[go_sem] theorem is_67 : isT Tryz.prog 67 = true := by kernel_rfl
@[go_sem] theorem ag_67 : aggT Tryz.prog 67 = false := by kernel_rfl
@[go_sem] theorem sz_67 : sizeT Tryz.prog 67 = 1 := by kernel_rfl
@[go_sem] theorem ni_9 : notInt Tryz.prog 9 = true := by kernel_rfl
@[go_sem] theorem es_67 : elemSz Tryz.prog 67 = some 1 := by kernel_rfl
@[go_sem] theorem u8_9_67 : u8T Tryz.prog 9 67 = some 5 := by kernel_rfl
@[go_sem] theorem is_5 : isT Tryz.prog 5 = true := by kernel_rfl
@[go_sem] theorem ag_5 : aggT Tryz.prog 5 = false := by kernel_rfl
@[go_sem] theorem go_133 : isGo Tryz.prog 133 = true := by kernel_rfl
@[go_sem] theorem u8_3_68 : u8T Tryz.prog 3 68 = none := by kernel_rfl
@[go_sem] theorem kd_3_68 : kindT Tryz.prog 3 68 = some Go.IntKind.u64 := by kernel_rfl
@[go_sem] theorem go_135 : isGo Tryz.prog 135 = true := by kernel_rfl
@[go_sem] theorem go_134 : isGo Tryz.prog 134 = true := by kernel_rfl
@[go_sem] theorem go_136 : isGo Tryz.prog 136 = true := by kernel_rfl
@[go_sem] theorem go_137 : isGo Tryz.prog 137 = true := by kernel_rfl
@[go_sem] theorem go_138 : isGo Tryz.prog 138 = true := by kernel_rfl
@[go_sem] theorem fo_276_6 : fieldOff Tryz.prog 276 6 = some 6 := by kernel_rfl
@[go_sem] theorem is_274 : isT Tryz.prog 274 = true := by kernel_rfl
@[go_sem] theorem ag_274 : aggT Tryz.prog 274 = false := by kernel_rfl
@[go_sem] theorem go_139 : isGo Tryz.prog 139 = true := by kernel_rfl
@[go_sem] theorem fo_276_0 : fieldOff Tryz.prog 276 0 = some 0 := by kernel_rfl
@[go_sem] theorem fo_276_5 : fieldOff Tryz.prog 276 5 = some 5 := by kernel_rfl
@[go_sem] theorem is_273 : isT Tryz.prog 273 = true := by kernel_rfl
@[go_sem] theorem ag_273 : aggT Tryz.prog 273 = false := by kernel_rfl
@[go_sem] theorem go_141 : isGo Tryz.prog 141 = true := by kernel_rfl
@[go_sem] theorem fo_87_1 : fieldOff Tryz.prog 87 1 = some 1 := by kernel_rfl
@[go_sem] theorem pl_135 : placesT Tryz.prog 135 = some [(0, 1), (1, 1), (2, 1), (3, 1), (4, 1)] := by kernel_rfl
@[go_sem] theorem ze_289 : zeroT Tryz.prog 289 = some (.agg #[.string (B [])]) := by kernel_rfl
@[go_sem] theorem pl_289 : placesT Tryz.prog 289 = some [(0, 1)] := by kernel_rfl
@[go_sem] theorem go_147 : isGo Tryz.prog 147 = true := by kernel_rfl
@[go_sem] theorem fo_135_1 : fieldOff Tryz.prog 135 1 = some 1 := by kernel_rfl
@[go_sem] theorem fo_289_0 : fieldOff Tryz.prog 289 0 = some 0 := by kernel_rfl
@[go_sem] theorem go_148 : isGo Tryz.prog 148 = true := by kernel_rfl
@[go_sem] theorem fo_135_2 : fieldOff Tryz.prog 135 2 = some 2 := by kernel_rfl
@[go_sem] theorem go_149 : isGo Tryz.prog 149 = true := by kernel_rfl
@[go_sem] theorem ze_293 : zeroT Tryz.prog 293 = some (.agg #[.int Go.IntKind.i64 0, .int Go.IntKind.i64 0, .string (B []), .bool false, .bool false, .string (B []), .int Go.IntKind.i64 0, .int Go.IntKind.i64 0]) := by kernel_rfl
@[go_sem] theorem pl_293 : placesT Tryz.prog 293 = some [(0, 5), (5, 1), (6, 1), (7, 1)] := by kernel_rfl
@[go_sem] theorem go_150 : isGo Tryz.prog 150 = true := by kernel_rfl
@[go_sem] theorem ze_296 : zeroT Tryz.prog 296 = some (.agg #[.pointer none]) := by kernel_rfl
@[go_sem] theorem ze_214 : zeroT Tryz.prog 214 = some (.pointer none) := by kernel_rfl
@[go_sem] theorem fo_153_0 : fieldOff Tryz.prog 153 0 = some 0 := by kernel_rfl
@[go_sem] theorem is_151 : isT Tryz.prog 151 = true := by kernel_rfl
@[go_sem] theorem ag_151 : aggT Tryz.prog 151 = false := by kernel_rfl
@[go_sem] theorem sz_151 : sizeT Tryz.prog 151 = 1 := by kernel_rfl
@[go_sem] theorem pt_151 : ptrT Tryz.prog 151 = true := by kernel_rfl
@[go_sem] theorem u8_151_137 : u8T Tryz.prog 151 137 = none := by kernel_rfl
@[go_sem] theorem u8_137_151 : u8T Tryz.prog 137 151 = none := by kernel_rfl
@[go_sem] theorem bs_49_1 : bsT Tryz.prog 49 1 = some (9, [(0, 1)], [.string (B [])]) := by kernel_rfl
@[go_sem] theorem go_162 : isGo Tryz.prog 162 = true := by kernel_rfl
@[go_sem] theorem go_168 : isGo Tryz.prog 168 = true := by kernel_rfl
@[go_sem] theorem go_172 : isGo Tryz.prog 172 = true := by kernel_rfl
@[go_sem] theorem is_75 : isT Tryz.prog 75 = true := by kernel_rfl
@[go_sem] theorem ag_75 : aggT Tryz.prog 75 = false := by kernel_rfl
@[go_sem] theorem sz_75 : sizeT Tryz.prog 75 = 1 := by kernel_rfl
@[go_sem] theorem bs_75_1 : bsT Tryz.prog 75 1 = some (77, [(0, 1)], [.pointer none]) := by kernel_rfl
@[go_sem] theorem go_173 : isGo Tryz.prog 173 = true := by kernel_rfl
@[go_sem] theorem go_181 : isGo Tryz.prog 181 = true := by kernel_rfl
@[go_sem] theorem go_183 : isGo Tryz.prog 183 = true := by kernel_rfl
@[go_sem] theorem go_182 : isGo Tryz.prog 182 = true := by kernel_rfl
@[go_sem] theorem go_186 : isGo Tryz.prog 186 = true := by kernel_rfl
@[go_sem] theorem ze_325 : zeroT Tryz.prog 325 = some (.agg #[]) := by kernel_rfl
@[go_sem] theorem pl_325 : placesT Tryz.prog 325 = some [] := by kernel_rfl
@[go_sem] theorem co_325 : concT Tryz.prog 325 = true := by kernel_rfl
@[go_sem] theorem bs_235_2 : bsT Tryz.prog 235 2 = some (20, [(0, 1), (1, 1)], [.nilIface, .nilIface]) := by kernel_rfl
@[go_sem] theorem ze_45 : zeroT Tryz.prog 45 = some (.nilIface) := by kernel_rfl
@[go_sem] theorem go_188 : isGo Tryz.prog 188 = true := by kernel_rfl
@[go_sem] theorem is_291 : isT Tryz.prog 291 = true := by kernel_rfl
@[go_sem] theorem ag_291 : aggT Tryz.prog 291 = false := by kernel_rfl
@[go_sem] theorem fo_293_0 : fieldOff Tryz.prog 293 0 = some 0 := by kernel_rfl
@[go_sem] theorem fo_293_1 : fieldOff Tryz.prog 293 1 = some 5 := by kernel_rfl
@[go_sem] theorem fo_293_2 : fieldOff Tryz.prog 293 2 = some 6 := by kernel_rfl
@[go_sem] theorem fo_293_3 : fieldOff Tryz.prog 293 3 = some 7 := by kernel_rfl
@[go_sem] theorem go_190 : isGo Tryz.prog 190 = true := by kernel_rfl
@[go_sem] theorem go_192 : isGo Tryz.prog 192 = true := by kernel_rfl
@[go_sem] theorem go_193 : isGo Tryz.prog 193 = true := by kernel_rfl
@[go_sem] theorem fo_276_2 : fieldOff Tryz.prog 276 2 = some 2 := by kernel_rfl
@[go_sem] theorem fo_276_1 : fieldOff Tryz.prog 276 1 = some 1 := by kernel_rfl
@[go_sem] theorem go_214 : isGo Tryz.prog 214 = true := by kernel_rfl
@[go_sem] theorem u8_126_5 : u8T Tryz.prog 126 5 = none := by kernel_rfl
@[go_sem] theorem kd_126_5 : kindT Tryz.prog 126 5 = some Go.IntKind.u8 := by kernel_rfl
@[go_sem] theorem go_218 : isGo Tryz.prog 218 = true := by kernel_rfl
@[go_sem] theorem go_219 : isGo Tryz.prog 219 = true := by kernel_rfl
@[go_sem] theorem go_220 : isGo Tryz.prog 220 = true := by kernel_rfl
@[go_sem] theorem go_222 : isGo Tryz.prog 222 = true := by kernel_rfl
@[go_sem] theorem go_228 : isGo Tryz.prog 228 = true := by kernel_rfl
@[go_sem] theorem go_229 : isGo Tryz.prog 229 = true := by kernel_rfl
@[go_sem] theorem bs_235_1 : bsT Tryz.prog 235 1 = some (20, [(0, 1)], [.nilIface]) := by kernel_rfl
@[go_sem] theorem fo_90_5 : fieldOff Tryz.prog 90 5 = some 6 := by kernel_rfl
@[go_sem] theorem pt_185 : ptrT Tryz.prog 185 = true := by kernel_rfl
@[go_sem] theorem ze_276 : zeroT Tryz.prog 276 = some (.agg #[.pointer none, .int Go.IntKind.i64 0, .bool false, .int Go.IntKind.i64 0, .int Go.IntKind.i64 0, .map none, .map none, .int Go.IntKind.i64 0, .string (B []), .string (B []), .int Go.IntKind.i64 0]) := by kernel_rfl
@[go_sem] theorem pl_276 : placesT Tryz.prog 276 = some [(0, 1), (1, 1), (2, 1), (3, 1), (4, 1), (5, 1), (6, 1), (7, 1), (8, 1), (9, 1), (10, 1)] := by kernel_rfl
@[go_sem] theorem go_231 : isGo Tryz.prog 231 = true := by kernel_rfl
@[go_sem] theorem go_232 : isGo Tryz.prog 232 = true := by kernel_rfl
@[go_sem] theorem go_239 : isGo Tryz.prog 239 = true := by kernel_rfl
@[go_sem] theorem go_240 : isGo Tryz.prog 240 = true := by kernel_rfl
@[go_sem] theorem fo_276_7 : fieldOff Tryz.prog 276 7 = some 7 := by kernel_rfl
@[go_sem] theorem go_246 : isGo Tryz.prog 246 = true := by kernel_rfl
@[go_sem] theorem go_247 : isGo Tryz.prog 247 = true := by kernel_rfl
@[go_sem] theorem is_49 : isT Tryz.prog 49 = true := by kernel_rfl
@[go_sem] theorem ag_49 : aggT Tryz.prog 49 = false := by kernel_rfl
@[go_sem] theorem sz_49 : sizeT Tryz.prog 49 = 1 := by kernel_rfl
@[go_sem] theorem go_256 : isGo Tryz.prog 256 = true := by kernel_rfl
@[go_sem] theorem go_262 : isGo Tryz.prog 262 = true := by kernel_rfl
@[go_sem] theorem go_268 : isGo Tryz.prog 268 = true := by kernel_rfl
@[go_sem] theorem go_286 : isGo Tryz.prog 286 = true := by kernel_rfl
@[go_sem] theorem pt_77 : ptrT Tryz.prog 77 = true := by kernel_rfl
@[go_sem] theorem go_298 : isGo Tryz.prog 298 = true := by kernel_rfl
@[go_sem] theorem ze_81 : zeroT Tryz.prog 81 = some (.agg #[.string (B []), .slice none 0 0, .int Go.IntKind.i64 0, .int Go.IntKind.i64 0, .slice none 0 0]) := by kernel_rfl
@[go_sem] theorem pl_81 : placesT Tryz.prog 81 = some [(0, 1), (1, 1), (2, 1), (3, 1), (4, 1)] := by kernel_rfl
@[go_sem] theorem go_299 : isGo Tryz.prog 299 = true := by kernel_rfl
@[go_sem] theorem go_300 : isGo Tryz.prog 300 = true := by kernel_rfl
@[go_sem] theorem u8_21_129 : u8T Tryz.prog 21 129 = none := by kernel_rfl
@[go_sem] theorem kd_21_129 : kindT Tryz.prog 21 129 = some Go.IntKind.u32 := by kernel_rfl
@[go_sem] theorem u8_21_5 : u8T Tryz.prog 21 5 = none := by kernel_rfl
@[go_sem] theorem kd_21_5 : kindT Tryz.prog 21 5 = some Go.IntKind.u8 := by kernel_rfl
end Go.Qw
-- Goroutine 0 beside goroutines that only leave: an environment; and the run's end.
namespace Go.Qw
open Go Go.Conc
open Go.ConcN (sumTo upd sumTo_upd upd_ne upd_same)

/-- Cells of hidden blocks may be touched atomically alone. -/
def ShunJ (J : Nat → Prop) : Loc → Prop := fun l => ∃ a : Addr, l = .cell a ∧ J a.block

theorem evL_of_evV {J : Nat → Prop} {n : Nat} {e : Event} (h : EvV J n e) : EvL (ShunJ J) n e := by
  obtain ⟨loc, wr, sy⟩ := e
  unfold EvV at h
  cases loc with
  | cell a =>
    obtain ⟨h1, h2⟩ : ¬ J a.block ∧ a.block < n := h
    refine ⟨fun x hx hs => ?_, by simp, by simp, ?_⟩
    · obtain ⟨b, hb, hj⟩ := hs
      have : x.loc = .cell a := by
        cases sy <;> simp [MemAct.ofEvent, MemAct.touch?] at hx <;> subst hx <;> rfl
      rw [this] at hb; cases hb
      exact absurd hj h1
    · cases sy <;> cases wr <;> exact h2
  | obj r =>
    obtain ⟨h1, h2⟩ : ¬ J r ∧ r < n := h
    refine ⟨fun x hx hs => ?_, by simp, by simp, ?_⟩
    · obtain ⟨b, hb, hj⟩ := hs
      exfalso
      cases sy <;> cases wr <;> simp [MemAct.ofEvent, MemAct.touch?] at hx <;> subst hx <;> cases hb
    · cases sy <;> cases wr <;> exact h2
  | output => exact h.elim
  | goroutines => exact h.elim
  | mark m =>
    have h : okMark m = true := h
    cases m <;> first | cases h | skip
    · exact ⟨fun x hx => by simp [MemAct.ofEvent, MemAct.touch?] at hx, by simp, by simp, trivial⟩
    · exact ⟨fun x hx => by simp [MemAct.ofEvent, MemAct.touch?] at hx, by simp, by simp, trivial⟩

/-- Nobody says a plain 'release'. -/
def NoRel (Q : Loc → Prop) (t : Trace) : Prop := ∀ op ∈ t, ∀ a, Q (.cell a) → op.act ≠ .mark (.release a)
theorem NoRel.app {Q : Loc → Prop} {t u : Trace} (h : NoRel Q t) (k : ∀ op ∈ u, ∀ a, op.act ≠ .mark (.release a)) : NoRel Q (t ++ u) := fun op hop => (Array.mem_append.1 hop).elim (h op) (fun hu a _ => k op hu a)
theorem norel_event {e : Event} (h : ∀ a, e.loc ≠ .mark (.release a)) : ∀ a, MemAct.ofEvent e ≠ .mark (.release a) := by
  intro a ha
  obtain ⟨loc, wr, sy⟩ := e
  cases loc <;> cases wr <;> cases sy <;> simp [MemAct.ofEvent] at ha <;> subst ha <;> exact h a rfl
theorem norel_mute {e : Event} (h : e.mute = true) : ∀ a, MemAct.ofEvent e ≠ .mark (.release a) := by
  refine norel_event fun a ha => ?_
  obtain ⟨loc, wr, sy⟩ := e
  cases ha
  simp [Event.mute] at h
theorem norel_evV {J : Nat → Prop} {n : Nat} {e : Event} (h : EvV J n e) : ∀ a, e.loc ≠ .mark (.release a) := by
  intro a ha
  unfold EvV at h
  rw [ha] at h
  exact absurd h (by simp [okMark])
theorem NoRel.events {Q : Loc → Prop} {t : Trace} (h : NoRel Q t) {g : Nat} {fn : FuncId} {pos : String} {es : Array Event} (k : ∀ e ∈ es, ∀ a, MemAct.ofEvent e ≠ .mark (.release a)) : NoRel Q (t ++ MemOp.ofEvents g fn pos es) :=
  h.app fun op hop => by obtain ⟨e, he, rfl⟩ := Conc.mem_ofEvents hop; exact k e he

/-- What does not turn in the whole run. -/
structure Firm (W w : World) : Prop where
  os : w.os = W.os
  tape : w.tape = W.tape
  output : w.output = W.output

theorem Firm.kept {W w w' : World} {J : Nat → Prop} (h : Firm W w) (k : Kept J w w') : Firm W w' := ⟨k.os.trans h.os, k.tape.trans h.tape, k.output.trans h.output⟩
theorem Firm.at {W w : World} (h : Firm W w) (d : Nat) : Firm W (w.at d) := ⟨h.os, h.tape, h.output⟩

/-- Goroutine 0's record is g; all others only leave; the visible heap is σ. -/
def SoloSt (P : Program) (W : World) (g : Goroutine) (σ : Hp) (m : Machine) (T : Trace) : Prop :=
  ∃ gs w sl q J, m = crowd gs w sl ∧ gs[0]? = some g ∧ Leavers P T gs q ∧ Past (ShunJ J) w.heap.size T ∧ Sees J w σ ∧ Firm W w ∧ NoRel (fun _ => False) T

theorem Sees.at {J : Nat → Prop} {w : World} {σ : Hp} (h : Sees J w σ) (d : Nat) : Sees J (w.at d) σ := ⟨h.heap, h.hid, h.low⟩

section
variable {P : Program} {W : World}

theorem solo_step0 {g : Goroutine} {σ : Hp} {X : Goroutine → Hp → Prop} (hX : StepOk P true g σ X) {gs : Array Goroutine} {w : World} {sl sl' : Option (Nat × Nat)} {t : Trace} {q : Nat → Nat} {J : Nat → Prop} {d : Nat} (h0 : gs[0]? = some g) (hL : Leavers P t gs q) (hP : Past (ShunJ J) w.heap.size t) (hS : Sees J w σ) (hF : Firm W w) (hN : NoRel (fun _ => False) t)
    (hst : stepT P (crowd gs w sl) = runT P (crowd gs (w.at d) sl') 0) : ∃ N m' t' g' σ', runNT P N (crowd gs w sl) t = (.next m', t') ∧ SoloSt P W g' σ' m' t' ∧ g'.status = .running ∧ X g' σ' := by
  have hs := hX J (w.at d) (hS.at d)
  cases hgo : stepG P true g (w.at d) with
  | go a' w' es =>
    rw [hgo, goes_go] at hs
    obtain ⟨σ', hS', hK, he, hr', hx⟩ := hs
    have hrunT := runT_crowd_go (P := P) (sl := sl') (i := 0) h0 (show stepG P (0 == 0) g (w.at d) = _ from hgo)
    have hlt : 0 < gs.size := (Array.getElem?_eq_some_iff.1 h0).1
    have hrun : runNT P 1 (crowd gs w sl) t = (.next (crowd ((gs.map (woken P g a' w')).setIfInBounds 0 a') w' sl'), t ++ MemOp.ofEvents 0 g.frame.fn g.frame.place es) := by
      simp only [runNT, hst, hrunT]
    refine ⟨1, _, _, a', σ', hrun, ⟨_, w', sl', q, J, rfl, Array.getElem?_setIfInBounds_self_of_lt (by simpa using hlt), ⟨fun j x hj hx => ?_, fun j hj => ?_⟩, (hP.mono hK.grows).own (fun e h => evL_of_evV (he e h)), hS', (hF.at d).kept hK, hN.events (fun e h => norel_event (norel_evV (he e h)))⟩, hr', hx⟩
    · have hne : 0 ≠ j := by omega
      rw [Array.getElem?_setIfInBounds_ne hne, Array.getElem?_map] at hx
      obtain ⟨z, hz, rfl⟩ := Option.map_eq_some_iff.1 hx
      have hq := hL.old j z hj hz
      rw [woken_quitsD hq, Deaf_other t (by omega) _ (fun op hop => by obtain ⟨e, _, rfl⟩ := Conc.mem_ofEvents hop; rfl)]
      exact hq
    · rw [Deaf_other t (g' := 0) (by simp at hj; omega) _ (fun op hop => by obtain ⟨e, _, rfl⟩ := Conc.mem_ofEvents hop; rfl)]
      exact hL.above j (by simpa using hj)
  | _ => rw [hgo] at hs; exact hs.elim

theorem solo_step {g : Goroutine} {σ : Hp} {X : Goroutine → Hp → Prop} (hrun : g.status = .running) (hX : StepOk P true g σ X) :
    ∀ (M : Nat) (gs : Array Goroutine) (w : World) (sl : Option (Nat × Nat)) (t : Trace) (q : Nat → Nat) (J : Nat → Prop), sumTo gs.size q ≤ M → gs[0]? = some g → Leavers P t gs q → Past (ShunJ J) w.heap.size t → Sees J w σ → Firm W w → NoRel (fun _ => False) t →
      ∃ N m' t' g' σ', runNT P N (crowd gs w sl) t = (.next m', t') ∧ SoloSt P W g' σ' m' t' ∧ g'.status = .running ∧ X g' σ' := by
  intro M
  induction M with
  | zero =>
    intro gs w sl t q J hM h0 hL hP hS hF hN
    have haw : ∀ g ∈ gs, awake g := by
      intro y hy
      obtain ⟨i, hi, rfl⟩ := Array.mem_iff_getElem.1 hy
      rcases Nat.eq_zero_or_pos i with rfl | hpos
      · have : gs[0] = g := by simpa [Array.getElem?_eq_getElem hi] using h0
        rw [this]; exact awake_of (.inl hrun)
      · exact awake_of ((hL.old i _ hpos (Array.getElem?_eq_getElem hi)).status.elim .inl fun x => .inr (.inr x))
    obtain ⟨i, y, d, sl', hi, hg, hst⟩ := crowd_pick (P := P) (w := w) (sl := sl) haw ⟨0, g, h0, hrun⟩
    rcases Nat.eq_zero_or_pos i with rfl | hpos
    · obtain rfl : y = g := by rw [h0] at hi; exact (Option.some.inj hi).symm
      exact solo_step0 hX h0 hL hP hS hF hN hst
    · have hq := hL.old i y hpos hi
      have hlt : i < gs.size := (Array.getElem?_eq_some_iff.1 hi).1
      have := Go.ConcN.le_sumTo (f := q) hlt
      have hqi : q i = 0 := by omega
      rw [hqi] at hq; rw [hq.1] at hg; cases hg
  | succ M ih =>
    intro gs w sl t q J hM h0 hL hP hS hF hN
    have haw : ∀ g ∈ gs, awake g := by
      intro y hy
      obtain ⟨i, hi, rfl⟩ := Array.mem_iff_getElem.1 hy
      rcases Nat.eq_zero_or_pos i with rfl | hpos
      · have : gs[0] = g := by simpa [Array.getElem?_eq_getElem hi] using h0
        rw [this]; exact awake_of (.inl hrun)
      · exact awake_of ((hL.old i _ hpos (Array.getElem?_eq_getElem hi)).status.elim .inl fun x => .inr (.inr x))
    obtain ⟨i, y, d, sl', hi, hg, hst⟩ := crowd_pick (P := P) (w := w) (sl := sl) haw ⟨0, g, h0, hrun⟩
    rcases Nat.eq_zero_or_pos i with rfl | hpos
    · obtain rfl : y = g := by rw [h0] at hi; exact (Option.some.inj hi).symm
      exact solo_step0 hX h0 hL hP hS hF hN hst
    · have hq := hL.old i y hpos hi
      have hi0 : (i == 0) = false := by simp; omega
      have hlt : i < gs.size := (Array.getElem?_eq_some_iff.1 hi).1
      cases hqi : q i with
      | zero => rw [hqi] at hq; rw [hq.1] at hg; cases hg
      | succ k =>
        rw [hqi] at hq
        rcases hq with ⟨hf, _⟩ | ⟨_, g', es, hm, hstp, hq'⟩
        · rw [hf] at hg; cases hg
        have hrunT := runT_crowd_go (P := P) (sl := sl') (i := i) hi (by rw [hi0]; exact hstp (w.at d))
        have hsz : ((gs.map (woken P y g' (w.at d))).setIfInBounds i g').size = gs.size := by simp
        have hsum : sumTo gs.size (upd q i k) + (k + 1) = sumTo gs.size q + k := by
          have := sumTo_upd q k id hlt
          simpa [hqi] using this
        have h0' : ((gs.map (woken P y g' (w.at d))).setIfInBounds i g')[0]? = some g := by
          rw [Array.getElem?_setIfInBounds_ne (by omega), Array.getElem?_map, h0]
          simp only [Option.map_some, Option.some.injEq]
          unfold woken
          split
          · exact again_running _ (.inl hrun)
          · exact rfl
        have hL' : Leavers P (t ++ MemOp.ofEvents i y.frame.fn y.frame.place es) ((gs.map (woken P y g' (w.at d))).setIfInBounds i g') (upd q i k) := by
          refine ⟨fun j x hj hx => ?_, fun j hj => ?_⟩
          · by_cases e : j = i
            · subst e
              rw [Array.getElem?_setIfInBounds_self_of_lt (by simpa using hlt)] at hx
              obtain rfl := Option.some.inj hx
              rw [upd_same, Deaf_own]; exact hq'
            · rw [Array.getElem?_setIfInBounds_ne (fun z => e z.symm), Array.getElem?_map] at hx
              obtain ⟨z, hz, rfl⟩ := Option.map_eq_some_iff.1 hx
              have hqj := hL.old j z hj hz
              rw [woken_quitsD hqj, upd_ne q k e, Deaf_other t (fun z => e z.symm) _ (fun op hop => by obtain ⟨e, _, rfl⟩ := Conc.mem_ofEvents hop; rfl)]
              exact hqj
          · rw [Deaf_other t (g' := i) (by simp at hj; omega) _ (fun op hop => by obtain ⟨e, _, rfl⟩ := Conc.mem_ofEvents hop; rfl)]
            exact hL.above j (by simpa using hj)
        obtain ⟨N, m', t', g₁, σ', hr, hSt, hr', hx⟩ := ih ((gs.map (woken P y g' (w.at d))).setIfInBounds i g') (w.at d) sl' (t ++ MemOp.ofEvents i y.frame.fn y.frame.place es) (upd q i k) J (by rw [hsz]; omega) h0' hL' (hP.mute (by omega) hm) (hS.at d) (hF.at d) (hN.events fun e he => norel_mute (hm e he))
        exact ⟨N + 1, m', t', g₁, σ', by simp only [runNT, hst, hrunT]; exact hr, hSt, hr', hx⟩

/-- The environment. -/
def solo (P : Program) (W : World) : Env P where
  main := true
  st := SoloSt P W
  weak := by
    rintro g σ τ m T ⟨gs, w, sl, q, J, rfl, h0, hL, hP, hS, hF, hN⟩ hle
    exact ⟨gs, w, sl, q, J, rfl, h0, hL, hP, hS.weak hle, hF, hN⟩
  own := by
    rintro g σ m T X ⟨gs, w, sl, q, J, rfl, h0, hL, hP, hS, hF, hN⟩ hr hX
    exact solo_step hr hX (sumTo gs.size q) gs w sl T q J (Nat.le_refl _) h0 hL hP hS hF hN

/-- At the beginning: nobody else, nothing hidden. -/
theorem solo_begin (g : Goroutine) (W : World) : SoloSt P W g ⟨fun b => W.heap[b]?⟩ (crowd #[g] W none) #[] := by
  refine ⟨#[g], W, none, fun _ => 0, fun _ => False, rfl, rfl, leavers_one P g, ?_, ⟨fun h => h, fun _ h => h.elim, fun _ h => h.elim⟩, ⟨rfl, rfl, rfl⟩, fun op hop => by simp at hop⟩
  have e : ShunJ (fun _ => False) = fun _ => False := by
    funext l; apply propext; constructor
    · rintro ⟨_, _, h⟩; exact h
    · exact fun h => h.elim
  rw [e]
  exact past_nil.mono (Nat.zero_le _)

/-- ████ A call that returns, from the beginning: the run ends well. ████ -/
theorem solo_ends {f : FuncId} {fn : Func} {t₀ : Tmp} {args : Array Value} {R : Value → Hp → Prop} {Post : Value → World → Prop} (hi : P.inits.idxOf? f = none) (hfn : P.funcs[f]? = some fn) (hres : fn.results = #[.tmp t₀])
    (h : CallsE (solo P W) f args ⟨fun b => W.heap[b]?⟩ (fun e σ' => ∃ v, e = .returned v ∧ R v σ')) (hpost : ∀ v σ' J w', R v σ' → Sees J w' σ' → Firm W w' → Post v w') :
    ∃ N last o w' t', runNT P (N + 1) (Conc.solo (G (Frame.enter P f args .normal) []) W) #[] = (.ended o w', t') ∧ runN P N (Conc.solo (G (Frame.enter P f args .normal) []) W) = .next last ∧ step P last = .ended o w' ∧ Conc.Good P Post last o w' t' := by
  obtain ⟨N, m', T', g', σ', hrun, ⟨gs, w, sl, q, J, rfl, h0, hL, hP, hS, hF, _⟩, e, fr, rfl, hff, hl, v, rfl, hR⟩ := h [] _ _ (solo_begin _ W)
  obtain ⟨hm, hd, hk, fn', hfn', hr⟩ := hl
  obtain rfl : fn' = fn := by rw [hff, hfn] at hfn'; exact (Option.some.inj hfn').symm
  have hv : fr.tmps.getD t₀ undef = v := by
    have : wpS P (results fn' fr.tmps) (fun v' σ'' => v' = v ∧ σ'' = σ') (fun _ _ => False) σ' := hr
    simp [results, hres, wpS_bind_eq, wpS_pure', wpS] at this
    simpa using this
  have hstep : ∀ w, stepG P true (G fr []) w = .ended (.done v) w #[] := by
    intro w
    have hrt : (results fn' fr.tmps).runT P w #[] = (.ok v w, #[]) := by
      rw [Sem.runT_eq, results_tmp hres, ← hv]
      simp [results, hres]
    simp only [G, stepG, hm, unwind, hd, hfn', hrt, doReturn, hk]
    simp [GStep.after, seen, hff, hi]
  obtain ⟨N', last, o, w', t', e1, e2, e3, e4⟩ := beside_ends (P := P) (D := fun _ _ _ => False) (Shun := ShunJ J) (B := w.heap.size) (Post := Post) (sl := sl) (n := 0) (fun _ _ _ h => h.elim) h0 hL hP
    (fun w₁ h₁ => by
      obtain ⟨d, rfl⟩ := h₁
      exact ⟨rfl, v, #[], hstep _, by simp, hpost v σ' J _ hR (hS.at d) (hF.at d)⟩)
  rw [solo_eq_crowd]
  refine ⟨N + N', last, o, w', t', ?_, ?_, e3, e4⟩
  · rw [Nat.add_assoc, runNT_add, hrun]; exact e1
  · rw [runN_add, ← runNT_fst P _ _ #[], hrun]; exact e2
end
end Go.Qw
-- Arguments that are read: take.
namespace Go.Qw
open Nat renaming reduceLT → yA, reduceLeDiff → yB, reduceBEq → yC, reduceAdd → yD, reduceSub → yE, reduceMul → yF, reduceEqDiff → yG
open Int renaming reduceToNat → wA, reduceLE → wB, reduceLT → wC, reduceEq → wD, reduceAdd → wE, reduceSub → wF, reduceMul → wG, reduceNeg → wH
open Go Go.Proofs

/-- What is thrown where an argument is none. -/
def badPanic : List PanicEntry := [{ v := .iface 325 (.agg #[]), recovered := false }]
set_option maxRecDepth 100000 in
theorem take_ok {E : Env Tryz.prog} {σ : Hp} {b off : Nat} {c : List Value} {e : TypeId} {s : List UInt8} {n : Int} (hb : σ.f b = some (.cells c.toArray e (0, 0))) (ho : c[off]? = some (.string (B s))) (h0 : 0 ≤ n) (hn : n ≤ s.length) :
    CallsE E 148 #[.pointer (some ⟨b, off, none⟩), .int .i64 n] σ fun e' σ' => e' = .returned (.string (B (s.take n.toNat))) ∧ σ' = σ.set b (.cells (c.set off (.string (B (s.drop n.toNat)))).toArray e) := by
  have hlt : off < c.length := (List.getElem?_eq_some_iff.1 ho).1
  have hn' : ¬ ((s.length : Int) < n) := by omega
  have hl : (s.length - n.toNat) = (s.drop n.toNat).length := by simp
  refine calls_enter Tryz.func148 Tryz.ntmps148 Tryz.results148 rfl (by simp) fun Q hQn hQr hQp => ?_
  simp only [go_sem, yA, yB, yC, yD, yE, yF, yG, wA, wB, wC, wD, wE, wF, wG, wH, hb, ho, h0, hn, hn', hlt]
  refine hQr _ _ _ _ resIs_one (Hp.le_refl _) ⟨?_, ?_⟩
  · simp only [go_sem, yA, yB, yC, yD, yE, yF, yG, wA, wB, wC, wD, wE, wF, wG, wH, Nat.sub_zero]
  · simp only [hl, List.take_length]

set_option maxRecDepth 100000 in
theorem take_bad {E : Env Tryz.prog} {σ : Hp} {b off : Nat} {c : List Value} {e : TypeId} {z : Nat × Nat} {s : List UInt8} {n : Int} (hb : σ.f b = some (.cells c.toArray e z)) (ho : c[off]? = some (.string (B s))) (hn : (s.length : Int) < n) :
    CallsE E 148 #[.pointer (some ⟨b, off, none⟩), .int .i64 n] σ fun e' σ' => e' = .panicked badPanic ∧ σ' = σ := by
  refine calls_enter Tryz.func148 Tryz.ntmps148 Tryz.results148 rfl (by simp) fun Q hQn hQr hQp => ?_
  simp only [go_sem, yA, yB, yC, yD, yE, yF, yG, wA, wB, wC, wD, wE, wF, wG, wH, hb, ho, hn]
  exact hQp _ _ _ _ (Hp.le_refl _) ⟨rfl, rfl⟩
end Go.Qw
