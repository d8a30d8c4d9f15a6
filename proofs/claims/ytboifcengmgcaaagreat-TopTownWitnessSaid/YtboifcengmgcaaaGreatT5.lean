/- Part 5 of a proof: CodeT, Zf, Wb, Wc, Wd, We, Wf, Wg, Wh, Wi, Wj, Wk, WLay, Wl, Wm, Wn, CodeWG, Wo. -/
import Derived.Test.YtboifcengmgcaaaGreatT3
import Derived.Test.YtboifcengmgcaaaGreatT4
import Derived.Shelf.SlSortCmp.Whole1
import Derived.Shelf.SlSortCmp.NoneTotal
import Derived.Shelf.SlicesG.Cmp
import Derived.Test.YtboifcengmgcaaaGreatProg
import Derived.StillTailTactics
import Derived.RegionTactic
import Derived.Laws.ResultCell
import Derived.Laws.Rows
set_option linter.unusedSimpArgs false
set_option linter.unusedVariables false
/- The shadow code of functions, as the kit's translation has them. -/
namespace Go.Proofs.YtboifcengmgcaaaGreat
open Go.RowKit
def k69_0 : SCode := .reg [⟨some 3, none, .box 47 (.tmp 0), [], false⟩, ⟨some 4, none, .box 49 (.tmp 1), [], false⟩, ⟨some 6, none, .mov (.const (.bool false)), [], false⟩] [2, 3, 4]
def k69_1 : SCode := .reg [⟨some 28, none, .idxA 2 1 (.tmp 3) (.const (.int .i64 0)), [], false⟩, ⟨some 29, none, .load false 1 (.tmp 28), [], false⟩, ⟨some 30, none, .conv .i64 (.tmp 29), [], false⟩, ⟨some 31, none, .bin .rem (.tmp 30) (.const (.int .i64 3601)), [], false⟩, ⟨some 32, none, .idxA 2 1 (.tmp 3) (.const (.int .i64 1)), [], false⟩, ⟨some 33, none, .load false 1 (.tmp 32), [], false⟩, ⟨some 34, none, .conv .i64 (.tmp 33), [], false⟩, ⟨some 35, none, .bin .rem (.tmp 34) (.const (.int .i64 3601)), [], false⟩, ⟨some 7, none, .mov (.tmp 31), [], false⟩, ⟨some 8, none, .mov (.tmp 35), [], false⟩] [2, 4, 7, 8]
def k69_2 : SCode := .reg [⟨some 36, none, .idxA 2 1 (.tmp 4) (.const (.int .i64 0)), [], false⟩, ⟨some 37, none, .load false 1 (.tmp 36), [], false⟩, ⟨some 38, none, .conv .i64 (.tmp 37), [], false⟩, ⟨some 39, none, .bin .add (.const (.int .i64 1)) (.tmp 38), [], false⟩, ⟨some 9, none, .mov (.tmp 39), [], false⟩] [2, 4, 7, 8, 9]
def k69_3 : SCode := .reg [⟨some 40, none, .mov (.tmp 7), [], false⟩, ⟨some 41, none, .mov (.tmp 9), [], false⟩, ⟨some 42, none, .mov (.tmp 8), [], false⟩, ⟨some 43, none, .call 11 [(.tmp 40), (.tmp 41), (.tmp 42)], [], false⟩, ⟨some 10, none, .alloc 53 [(.int .i64 0), (.slice none 0 0)], [], false⟩, ⟨none, none, .store 2 (.tmp 10) (.tmp 43), [], false⟩] [2, 4, 7, 8, 9, 10]
def k69_4 : SCode := .reg [⟨some 44, none, .mov (.tmp 2), [], false⟩, ⟨some 45, none, .conv .i64 (.tmp 44), [], false⟩, ⟨some 46, none, .bin .sub (.tmp 45) (.const (.int .i64 30)), [], false⟩, ⟨some 47, none, .mov (.tmp 2), [], false⟩, ⟨some 48, none, .conv .i64 (.tmp 47), [], false⟩, ⟨some 49, none, .bin .add (.tmp 48) (.const (.int .i64 30)), [], false⟩, ⟨some 50, none, .call 5 [(.tmp 46), (.tmp 49)], [], true⟩, ⟨some 51, none, .idxA 2 1 (.tmp 4) (.const (.int .i64 1)), [], true⟩, ⟨some 52, none, .load false 1 (.tmp 51), [], true⟩, ⟨some 53, none, .conv .i64 (.tmp 52), [], false⟩, ⟨some 54, none, .bin .add (.const (.int .i64 200)) (.tmp 53), [], false⟩, ⟨some 55, none, .idxA 2 1 (.tmp 4) (.const (.int .i64 0)), [], true⟩, ⟨some 56, none, .load false 1 (.tmp 55), [], true⟩, ⟨some 57, none, .conv .i64 (.tmp 56), [], false⟩, ⟨some 58, none, .bin .add (.const (.int .i64 70000)) (.tmp 57), [], false⟩, ⟨some 59, none, .build [(.int .i64 0), (.int .i64 0)] [(0, 1, (.tmp 54)), (1, 1, (.tmp 58))], [], false⟩, ⟨some 11, none, .alloc 24 [(.int .i64 0), (.int .i64 0)], [6, 7, 8, 11, 12], false⟩, ⟨some 12, none, .alloc 55 [(.int .i64 0), (.int .i64 0)], [6, 7, 8, 11, 12], false⟩, ⟨none, none, .store 2 (.tmp 11) (.tmp 50), [7, 8, 11, 12], false⟩, ⟨none, none, .store 2 (.tmp 12) (.tmp 59), [], false⟩] [2, 4, 7, 8, 9, 10, 11, 12]
def k69_5 : SCode := .reg [⟨some 60, none, .idxA 2 1 (.tmp 4) (.const (.int .i64 0)), [], false⟩, ⟨some 61, none, .load false 1 (.tmp 60), [], false⟩, ⟨some 62, none, .conv .i64 (.tmp 61), [], false⟩, ⟨some 63, none, .mov (.tmp 9), [], false⟩, ⟨some 64, none, .bin .sub (.tmp 63) (.const (.int .i64 200)), [], false⟩, ⟨some 65, none, .max [(.const (.int .i64 1)), (.tmp 64)], [], false⟩, ⟨some 66, none, .bin .rem (.tmp 62) (.tmp 65), [], false⟩, ⟨some 67, none, .bin .add (.const (.int .i64 200)) (.tmp 66), [], false⟩, ⟨some 68, none, .mov (.tmp 9), [], false⟩, ⟨some 69, none, .bin .add (.tmp 68) (.const (.int .i64 200)), [], false⟩, ⟨some 70, none, .idxA 2 1 (.tmp 4) (.const (.int .i64 1)), [], false⟩, ⟨some 71, none, .load false 1 (.tmp 70), [], false⟩, ⟨some 72, none, .conv .i64 (.tmp 71), [], false⟩, ⟨some 73, none, .bin .add (.tmp 69) (.tmp 72), [], false⟩, ⟨some 13, none, .mov (.tmp 67), [], false⟩, ⟨some 14, none, .mov (.tmp 73), [], false⟩] [2, 7, 8, 9, 10, 11, 12, 13, 14]
def k69_6 : SCode := .reg [⟨some 74, none, .mov (.tmp 9), [], false⟩, ⟨some 75, none, .bin .leq (.tmp 74) (.const (.int .i64 200)), [], false⟩] [2, 7, 8, 9, 10, 11, 12, 13, 14, 75]
def k69_7 : SCode := .reg [⟨some 76, none, .mov (.tmp 14), [], false⟩, ⟨some 13, none, .mov (.tmp 76), [], false⟩] [2, 7, 8, 9, 10, 11, 12, 13, 14]
def k69_8 : SCode := .cond (.tmp 75) k69_7 .skip
def k69_9 : SCode := .seq k69_6 k69_8
def k69_10 : SCode := .reg [⟨some 78, none, .load true 2 (.tmp 10), [], false⟩, ⟨some 79, none, .mov (.tmp 13), [], false⟩, ⟨some 80, none, .call 12 [(.tmp 78), (.tmp 79)], [], false⟩, ⟨some 77, none, .mov (.tmp 80), [], false⟩, ⟨some 81, none, .ext (.tmp 77) 0, [], false⟩, ⟨some 82, none, .ext (.tmp 77) 1, [], false⟩, ⟨some 83, none, .ext (.tmp 77) 2, [], false⟩, ⟨some 15, none, .mov (.tmp 81), [], false⟩, ⟨some 16, none, .mov (.tmp 82), [], false⟩, ⟨some 17, none, .mov (.tmp 83), [], false⟩] [2, 7, 8, 9, 10, 11, 12, 13, 14, 16, 17]
def k69_11 : SCode := .reg [⟨some 85, none, .load true 2 (.tmp 10), [], false⟩, ⟨some 86, none, .mov (.tmp 14), [], false⟩, ⟨some 87, none, .call 12 [(.tmp 85), (.tmp 86)], [], false⟩, ⟨some 84, none, .mov (.tmp 87), [], false⟩, ⟨some 88, none, .ext (.tmp 84) 0, [], false⟩, ⟨some 89, none, .ext (.tmp 84) 1, [], false⟩, ⟨some 90, none, .ext (.tmp 84) 2, [], false⟩, ⟨some 18, none, .mov (.tmp 88), [], false⟩, ⟨some 19, none, .mov (.tmp 89), [], false⟩, ⟨some 20, none, .mov (.tmp 90), [], false⟩] [2, 7, 8, 9, 11, 12, 13, 14, 16, 17, 19, 20]
def k69_12 : SCode := .reg [⟨some 91, none, .mov (.tmp 7), [], false⟩, ⟨some 92, none, .mov (.tmp 7), [], false⟩, ⟨some 93, none, .call 5 [(.tmp 91), (.tmp 92)], [], false⟩, ⟨some 94, none, .build [(.int .i64 0), (.int .i64 0)] [], [], false⟩, ⟨some 95, none, .call 13 [(.tmp 93), (.tmp 94)], [], false⟩, ⟨some 96, none, .mov (.tmp 8), [], false⟩, ⟨some 97, none, .mov (.tmp 8), [], false⟩, ⟨some 98, none, .call 5 [(.tmp 96), (.tmp 97)], [], false⟩, ⟨some 99, none, .build [(.int .i64 0), (.int .i64 0)] [], [], false⟩, ⟨some 100, none, .call 13 [(.tmp 98), (.tmp 99)], [], false⟩, ⟨some 21, none, .mov (.tmp 95), [], false⟩, ⟨some 22, none, .mov (.tmp 100), [], false⟩] [2, 7, 8, 9, 11, 12, 13, 14, 16, 17, 19, 20, 21, 22]
def k69_13 : SCode := .reg [⟨some 101, none, .mov (.tmp 2), [], false⟩, ⟨some 102, none, .conv .i64 (.tmp 101), [], false⟩, ⟨some 103, none, .mov (.tmp 2), [], false⟩, ⟨some 104, none, .conv .i64 (.tmp 103), [], false⟩, ⟨some 105, none, .call 5 [(.tmp 102), (.tmp 104)], [], false⟩, ⟨some 23, none, .alloc 24 [(.int .i64 0), (.int .i64 0)], [], false⟩, ⟨none, none, .store 2 (.tmp 23) (.tmp 105), [], false⟩] [2, 7, 8, 9, 11, 12, 13, 14, 16, 17, 19, 20, 21, 22, 23]
def k69_14 : SCode := .reg [⟨some 107, none, .mov (.tmp 22), [], false⟩, ⟨some 108, none, .mov (.tmp 14), [], false⟩, ⟨some 109, none, .mov (.tmp 19), [], false⟩, ⟨some 110, none, .mov (.tmp 2), [], false⟩, ⟨some 111, none, .conv .i64 (.tmp 110), [], false⟩, ⟨some 112, none, .load true 2 (.tmp 12), [], false⟩, ⟨some 113, none, .call 15 [(.tmp 108), (.tmp 109), (.tmp 111), (.tmp 112)], [], false⟩, ⟨some 114, none, .load true 2 (.tmp 11), [], false⟩, ⟨some 115, none, .call 14 [(.tmp 107), (.tmp 113), (.tmp 114)], [], false⟩, ⟨some 106, none, .mov (.tmp 115), [], false⟩, ⟨some 116, none, .ext (.tmp 106) 0, [], false⟩, ⟨some 117, none, .ext (.tmp 106) 1, [], false⟩, ⟨some 24, none, .mov (.tmp 116), [], false⟩, ⟨some 25, none, .mov (.tmp 117), [], false⟩] [2, 7, 8, 9, 11, 12, 13, 14, 16, 17, 19, 20, 21, 23, 24, 25]
def k69_15 : SCode := .reg [⟨some 118, none, .mov (.tmp 17), [], false⟩, ⟨some 119, none, .bin .neq (.tmp 118) (.const (.int .i64 0)), [], false⟩, ⟨some 120, none, .mov (.tmp 119), [], false⟩, ⟨some 121, (some (120, false)), .mov (.tmp 20), [], false⟩, ⟨some 122, (some (120, false)), .bin .neq (.tmp 121) (.const (.int .i64 0)), [], false⟩, ⟨some 123, none, .pick (.tmp 120) (.const (.bool true)) (.tmp 122), [], false⟩, ⟨some 124, none, .mov (.tmp 123), [], false⟩, ⟨some 125, (some (124, false)), .mov (.tmp 25), [], false⟩, ⟨some 126, (some (124, false)), .bin .neq (.tmp 125) (.const (.int .i64 0)), [], false⟩, ⟨some 127, none, .pick (.tmp 124) (.const (.bool true)) (.tmp 126), [], false⟩, ⟨some 128, none, .mov (.tmp 127), [], false⟩, ⟨some 129, (some (128, false)), .mov (.tmp 24), [], false⟩, ⟨some 130, (some (128, false)), .len (.tmp 129), [], false⟩, ⟨some 131, (some (128, false)), .bin .neq (.tmp 130) (.const (.int .i64 1)), [], false⟩, ⟨some 132, none, .pick (.tmp 128) (.const (.bool true)) (.tmp 131), [], false⟩, ⟨some 133, none, .mov (.tmp 132), [], false⟩, ⟨some 134, (some (133, false)), .mov (.tmp 24), [], false⟩, ⟨some 135, (some (133, false)), .idxS 2 (.tmp 134) (.const (.int .i64 0)), [], false⟩, ⟨some 136, (some (133, false)), .load true 2 (.tmp 135), [], false⟩, ⟨some 137, (some (133, false)), .load true 2 (.tmp 23), [], false⟩, ⟨some 138, (some (133, false)), .eqC true [true, true] (.tmp 136) (.tmp 137), [], false⟩, ⟨some 139, none, .pick (.tmp 133) (.const (.bool true)) (.tmp 138), [], false⟩] [2, 7, 8, 9, 11, 12, 13, 14, 16, 19, 21, 23, 139]
def k69_16 : SCode := .reg [⟨some 6, none, .mov (.const (.bool false)), [], false⟩] [6]
def k69_17 : SCode := .seq k69_16 .ret
def k69_18 : SCode := .cond (.tmp 139) k69_17 .skip
def k69_19 : SCode := .seq k69_15 k69_18
def k69_20 : SCode := .reg [⟨some 140, none, .mov (.tmp 9), [], false⟩, ⟨some 141, none, .bin .gtr (.tmp 140) (.const (.int .i64 200)), [], false⟩] [2, 7, 8, 11, 12, 13, 14, 16, 19, 21, 23, 141]
def k69_21 : SCode := .reg [⟨some 143, none, .mov (.tmp 21), [], false⟩, ⟨some 144, none, .mov (.tmp 13), [], false⟩, ⟨some 145, none, .mov (.tmp 16), [], false⟩, ⟨some 146, none, .mov (.tmp 2), [], false⟩, ⟨some 147, none, .conv .i64 (.tmp 146), [], false⟩, ⟨some 148, none, .load true 2 (.tmp 12), [], false⟩, ⟨some 149, none, .call 15 [(.tmp 144), (.tmp 145), (.tmp 147), (.tmp 148)], [], false⟩, ⟨some 150, none, .load true 2 (.tmp 11), [], false⟩, ⟨some 151, none, .call 14 [(.tmp 143), (.tmp 149), (.tmp 150)], [], false⟩, ⟨some 142, none, .mov (.tmp 151), [], false⟩, ⟨some 152, none, .ext (.tmp 142) 0, [], false⟩, ⟨some 153, none, .ext (.tmp 142) 1, [], false⟩, ⟨some 24, none, .mov (.tmp 152), [], false⟩, ⟨some 25, none, .mov (.tmp 153), [], false⟩] [2, 7, 8, 11, 12, 14, 19, 21, 23, 24, 25]
def k69_22 : SCode := .reg [⟨some 154, none, .mov (.tmp 25), [], false⟩, ⟨some 155, none, .bin .neq (.tmp 154) (.const (.int .i64 0)), [], false⟩, ⟨some 156, none, .mov (.tmp 155), [], false⟩, ⟨some 157, (some (156, false)), .mov (.tmp 24), [], false⟩, ⟨some 158, (some (156, false)), .len (.tmp 157), [], false⟩, ⟨some 159, (some (156, false)), .bin .neq (.tmp 158) (.const (.int .i64 1)), [], false⟩, ⟨some 160, none, .pick (.tmp 156) (.const (.bool true)) (.tmp 159), [], false⟩, ⟨some 161, none, .mov (.tmp 160), [], false⟩, ⟨some 162, (some (161, false)), .mov (.tmp 24), [], false⟩, ⟨some 163, (some (161, false)), .idxS 2 (.tmp 162) (.const (.int .i64 0)), [], false⟩, ⟨some 164, (some (161, false)), .load true 2 (.tmp 163), [], false⟩, ⟨some 165, (some (161, false)), .load true 2 (.tmp 23), [], false⟩, ⟨some 166, (some (161, false)), .eqC true [true, true] (.tmp 164) (.tmp 165), [], false⟩, ⟨some 167, none, .pick (.tmp 161) (.const (.bool true)) (.tmp 166), [], false⟩] [2, 7, 8, 11, 12, 14, 19, 21, 167]
def k69_23 : SCode := .reg [⟨some 6, none, .mov (.const (.bool false)), [], false⟩] [6]
def k69_24 : SCode := .seq k69_23 .ret
def k69_25 : SCode := .cond (.tmp 167) k69_24 .skip
def k69_26 : SCode := .seq k69_22 k69_25
def k69_27 : SCode := .seq k69_21 k69_26
def k69_28 : SCode := .cond (.tmp 141) k69_27 .skip
def k69_29 : SCode := .seq k69_20 k69_28
def k69_30 : SCode := .reg [⟨some 169, none, .mov (.tmp 21), [], false⟩, ⟨some 170, none, .mov (.tmp 14), [], false⟩, ⟨some 171, none, .mov (.tmp 19), [], false⟩, ⟨some 172, none, .mov (.tmp 2), [], false⟩, ⟨some 173, none, .conv .i64 (.tmp 172), [], false⟩, ⟨some 174, none, .load true 2 (.tmp 12), [], false⟩, ⟨some 175, none, .call 15 [(.tmp 170), (.tmp 171), (.tmp 173), (.tmp 174)], [], false⟩, ⟨some 176, none, .load true 2 (.tmp 11), [], false⟩, ⟨some 177, none, .call 16 [(.tmp 169), (.tmp 175), (.tmp 176)], [], false⟩, ⟨some 168, none, .mov (.tmp 177), [], false⟩, ⟨some 178, none, .ext (.tmp 168) 0, [], false⟩, ⟨some 179, none, .ext (.tmp 168) 1, [], false⟩, ⟨some 26, none, .mov (.tmp 178), [], false⟩, ⟨some 27, none, .mov (.tmp 179), [], false⟩] [7, 8, 26, 27]
def k69_31 : SCode := .reg [⟨some 180, none, .mov (.tmp 8), [], false⟩, ⟨some 181, none, .mov (.tmp 7), [], false⟩, ⟨some 182, none, .bin .eql (.tmp 180) (.tmp 181), [], false⟩] [26, 27, 182]
def k69_32 : SCode := .reg [⟨some 183, none, .mov (.tmp 27), [], false⟩, ⟨some 184, none, .bin .eql (.tmp 183) (.const (.int .i64 7)), [], false⟩, ⟨some 185, none, .mov (.tmp 184), [], false⟩, ⟨some 186, (some (185, true)), .call 7 [], [], false⟩, ⟨some 187, none, .pick (.tmp 185) (.tmp 186) (.const (.bool false)), [], false⟩, ⟨some 188, none, .mov (.tmp 187), [], false⟩, ⟨some 189, (some (188, true)), .call 17 [], [], false⟩, ⟨some 190, none, .pick (.tmp 188) (.tmp 189) (.const (.bool false)), [], false⟩, ⟨some 6, none, .mov (.tmp 190), [], false⟩] [6]
def k69_33 : SCode := .seq k69_32 .ret
def k69_34 : SCode := .cond (.tmp 182) k69_33 .skip
def k69_35 : SCode := .seq k69_31 k69_34
def k69_36 : SCode := .reg [⟨some 191, none, .mov (.tmp 27), [], false⟩, ⟨some 192, none, .bin .eql (.tmp 191) (.const (.int .i64 0)), [], false⟩, ⟨some 193, none, .mov (.tmp 192), [], false⟩, ⟨some 194, (some (193, true)), .mov (.tmp 26), [], false⟩, ⟨some 195, (some (193, true)), .bin .eql (.tmp 194) (.const (.int .i64 0)), [], false⟩, ⟨some 196, none, .pick (.tmp 193) (.tmp 195) (.const (.bool false)), [], false⟩, ⟨some 197, none, .mov (.tmp 196), [], false⟩, ⟨some 198, (some (197, true)), .call 7 [], [], false⟩, ⟨some 199, none, .pick (.tmp 197) (.tmp 198) (.const (.bool false)), [], false⟩, ⟨some 200, none, .mov (.tmp 199), [], false⟩, ⟨some 201, (some (200, true)), .call 17 [], [], false⟩, ⟨some 202, none, .pick (.tmp 200) (.tmp 201) (.const (.bool false)), [], false⟩, ⟨some 6, none, .mov (.tmp 202), [], false⟩] [6]
def k69_37 : SCode := .seq k69_36 .ret
def k69_38 : SCode := .seq k69_35 k69_37
def k69_39 : SCode := .seq k69_30 k69_38
def k69_40 : SCode := .seq k69_29 k69_39
def k69_41 : SCode := .seq k69_19 k69_40
def k69_42 : SCode := .seq k69_14 k69_41
def k69_43 : SCode := .seq k69_13 k69_42
def k69_44 : SCode := .seq k69_12 k69_43
def k69_45 : SCode := .seq k69_11 k69_44
def k69_46 : SCode := .seq k69_10 k69_45
def k69_47 : SCode := .seq k69_9 k69_46
def k69_48 : SCode := .seq k69_5 k69_47
def k69_49 : SCode := .seq k69_4 k69_48
def k69_50 : SCode := .seq k69_3 k69_49
def k69_51 : SCode := .seq k69_2 k69_50
def k69_52 : SCode := .seq k69_1 k69_51
def k69_53 : SCode := .seq k69_0 k69_52
@[simp] def rs_turrettop_TopTownWitness : List SRes := [.tmp 6]
theorem law_turrettop_TopTownWitness (cs : List CV) (r : CV) (hl : cs.length ≤ 203) (h : STri (cfF Tryz.prog [] 203) k69_53 (initT 0 cs) [] (retQ rs_turrettop_TopTownWitness r)) : SC Tryz.prog 4 cs r :=
  sc_of [] follows Tryz.func4 rfl Tryz.ntmps4 (by decide) (by kernel_rfl) (by kernel_rfl) hl h
def k70_0 : SCode := .reg [⟨some 4, none, .alloc 24 [(.int .i64 0), (.int .i64 0)], [], false⟩] [0, 1, 4]
def k70_1 : SCode := .reg [⟨some 5, none, .mov (.tmp 0), [], false⟩, ⟨some 6, none, .mov (.tmp 1), [], false⟩, ⟨some 7, none, .build [(.int .i64 0), (.int .i64 0)] [(0, 1, (.tmp 5)), (1, 1, (.tmp 6))], [], false⟩, ⟨none, none, .store 2 (.tmp 4) (.tmp 7), [], false⟩] [4]
def k70_2 : SCode := .seq k70_1 .ret
def k70_3 : SCode := .seq k70_0 k70_2
@[simp] def rs_turrettop_pubSpan : List SRes := [.cell 4 true 2]
theorem law_turrettop_pubSpan (cs : List CV) (r : CV) (hl : cs.length ≤ 8) (h : STri (cfF Tryz.prog [] 8) k70_3 (initT 0 cs) [] (retQ rs_turrettop_pubSpan r)) : SC Tryz.prog 5 cs r :=
  sc_of [] follows Tryz.func5 rfl Tryz.ntmps5 (by decide) (by kernel_rfl) (by kernel_rfl) hl h
def k71_0 : SCode := .reg [⟨some 0, none, .mov (.const (.bool false)), [], false⟩] []
def k71_1 : SCode := .reg [⟨some 6, none, .call 5 [(.const (.int .i64 0)), (.const (.int .i64 1))], [], false⟩, ⟨some 7, none, .build [(.int .i64 0), (.int .i64 0), (.int .i64 0), (.int .i64 0), (.int .i64 0), (.int .i64 0), (.int .i64 0), (.slice none 0 0)] [(0, 1, (.const (.int .i64 2))), (1, 2, (.tmp 6)), (3, 1, (.const (.int .i64 3600))), (6, 1, (.const (.int .i64 86400)))], [], false⟩, ⟨some 8, none, .call 5 [(.const (.int .i64 2)), (.const (.int .i64 5))], [], false⟩, ⟨some 9, none, .build [(.int .i64 0), (.int .i64 0), (.int .i64 0), (.int .i64 0), (.int .i64 0), (.int .i64 0), (.int .i64 0), (.slice none 0 0)] [(0, 1, (.const (.int .i64 4))), (1, 2, (.tmp 8))], [], false⟩, ⟨some 10, none, .call 5 [(.const (.int .i64 (-1))), (.const (.int .i64 1))], [], false⟩, ⟨some 11, none, .call 5 [(.const (.int .i64 0)), (.const (.int .i64 2000))], [], false⟩, ⟨some 12, none, .build [(.int .i64 0), (.int .i64 0), (.int .i64 0), (.int .i64 0), (.int .i64 0), (.int .i64 0), (.int .i64 0), (.slice none 0 0)] [(0, 1, (.const (.int .i64 1))), (1, 2, (.tmp 10)), (4, 2, (.tmp 11))], [], false⟩, ⟨some 13, none, .buildSl 40 8 [(.int .i64 0), (.int .i64 0), (.int .i64 0), (.int .i64 0), (.int .i64 0), (.int .i64 0), (.int .i64 0), (.slice none 0 0)] 3 [(0, (.tmp 7)), (1, (.tmp 9)), (2, (.tmp 12))], [], false⟩, ⟨some 1, none, .mov (.tmp 13), [], false⟩] [1]
def k71_2 : SCode := .reg [⟨some 15, none, .mov (.tmp 1), [], false⟩, ⟨some 16, none, .build [(.int .i64 0), (.int .i64 0), (.int .i64 0)] [(1, 1, (.const (.int .i64 3500)))], [], false⟩, ⟨some 17, none, .build [(.int .i64 0), (.int .i64 0), (.int .i64 0)] [(0, 1, (.const (.int .i64 1))), (1, 1, (.const (.int .i64 7000))), (2, 1, (.const (.int .i64 7098)))], [], false⟩, ⟨some 18, none, .build [(.int .i64 0), (.int .i64 0), (.int .i64 0)] [(0, 1, (.const (.int .i64 2))), (1, 1, (.const (.int .i64 86300))), (2, 1, (.const (.int .i64 2)))], [], false⟩, ⟨some 19, none, .buildSl 43 3 [(.int .i64 0), (.int .i64 0), (.int .i64 0)] 3 [(0, (.tmp 16)), (1, (.tmp 17)), (2, (.tmp 18))], [], false⟩, ⟨some 20, none, .call 5 [(.const (.int .i64 0)), (.const (.int .i64 200))], [], false⟩, ⟨some 21, none, .call 14 [(.tmp 15), (.tmp 19), (.tmp 20)], [], false⟩, ⟨some 14, none, .mov (.tmp 21), [], false⟩, ⟨some 22, none, .ext (.tmp 14) 0, [], false⟩, ⟨some 23, none, .ext (.tmp 14) 1, [], false⟩, ⟨some 2, none, .mov (.tmp 22), [], false⟩, ⟨some 3, none, .mov (.tmp 23), [], false⟩] [1, 2, 3]
def k71_3 : SCode := .reg [⟨some 25, none, .mov (.tmp 1), [], false⟩, ⟨some 26, none, .build [(.int .i64 0), (.int .i64 0), (.int .i64 0)] [(1, 1, (.const (.int .i64 3500)))], [], false⟩, ⟨some 27, none, .build [(.int .i64 0), (.int .i64 0), (.int .i64 0)] [(0, 1, (.const (.int .i64 1))), (1, 1, (.const (.int .i64 7000))), (2, 1, (.const (.int .i64 7098)))], [], false⟩, ⟨some 28, none, .build [(.int .i64 0), (.int .i64 0), (.int .i64 0)] [(0, 1, (.const (.int .i64 2))), (1, 1, (.const (.int .i64 86300))), (2, 1, (.const (.int .i64 40)))], [], false⟩, ⟨some 29, none, .buildSl 43 3 [(.int .i64 0), (.int .i64 0), (.int .i64 0)] 3 [(0, (.tmp 26)), (1, (.tmp 27)), (2, (.tmp 28))], [], false⟩, ⟨some 30, none, .call 5 [(.const (.int .i64 0)), (.const (.int .i64 200))], [], false⟩, ⟨some 31, none, .call 16 [(.tmp 25), (.tmp 29), (.tmp 30)], [], false⟩, ⟨some 24, none, .mov (.tmp 31), [], false⟩, ⟨some 32, none, .ext (.tmp 24) 0, [], false⟩, ⟨some 33, none, .ext (.tmp 24) 1, [], false⟩, ⟨some 4, none, .mov (.tmp 32), [], false⟩, ⟨some 5, none, .mov (.tmp 33), [], false⟩] [2, 3, 4, 5]
def k71_4 : SCode := .reg [⟨some 34, none, .mov (.tmp 3), [], false⟩, ⟨some 35, none, .bin .eql (.tmp 34) (.const (.int .i64 0)), [], false⟩, ⟨some 36, none, .mov (.tmp 35), [], false⟩, ⟨some 37, (some (36, true)), .mov (.tmp 5), [], false⟩, ⟨some 38, (some (36, true)), .bin .eql (.tmp 37) (.const (.int .i64 0)), [], false⟩, ⟨some 39, none, .pick (.tmp 36) (.tmp 38) (.const (.bool false)), [], false⟩, ⟨some 40, none, .mov (.tmp 39), [], false⟩, ⟨some 41, (some (40, true)), .mov (.tmp 2), [], false⟩, ⟨some 42, (some (40, true)), .len (.tmp 41), [], false⟩, ⟨some 43, (some (40, true)), .bin .eql (.tmp 42) (.const (.int .i64 1)), [], false⟩, ⟨some 44, none, .pick (.tmp 40) (.tmp 43) (.const (.bool false)), [], false⟩, ⟨some 45, none, .mov (.tmp 44), [], false⟩, ⟨some 46, (some (45, true)), .mov (.tmp 2), [], false⟩, ⟨some 47, (some (45, true)), .idxS 2 (.tmp 46) (.const (.int .i64 0)), [], false⟩, ⟨some 48, (some (45, true)), .load true 2 (.tmp 47), [], false⟩, ⟨some 49, (some (45, true)), .call 5 [(.const (.int .i64 100)), (.const (.int .i64 101))], [], false⟩, ⟨some 50, (some (45, true)), .eqC false [true, true] (.tmp 48) (.tmp 49), [], false⟩, ⟨some 51, none, .pick (.tmp 45) (.tmp 50) (.const (.bool false)), [], false⟩, ⟨some 52, none, .mov (.tmp 51), [], false⟩, ⟨some 53, (some (52, true)), .mov (.tmp 4), [], false⟩, ⟨some 54, (some (52, true)), .bin .eql (.tmp 53) (.const (.int .i64 2)), [], false⟩, ⟨some 55, none, .pick (.tmp 52) (.tmp 54) (.const (.bool false)), [], false⟩, ⟨some 0, none, .mov (.tmp 55), [], false⟩] [0]
def k71_5 : SCode := .seq k71_4 .ret
def k71_6 : SCode := .seq k71_3 k71_5
def k71_7 : SCode := .seq k71_2 k71_6
def k71_8 : SCode := .seq k71_1 k71_7
def k71_9 : SCode := .seq k71_0 k71_8
@[simp] def rs_turrettop_pubWire : List SRes := [.tmp 0]
theorem law_turrettop_pubWire (cs : List CV) (r : CV) (hl : cs.length ≤ 56) (h : STri (cfF Tryz.prog [] 56) k71_9 (initT 0 cs) [] (retQ rs_turrettop_pubWire r)) : SC Tryz.prog 7 cs r :=
  sc_of [] follows Tryz.func7 rfl Tryz.ntmps7 (by decide) (by kernel_rfl) (by kernel_rfl) hl h
def k72_0 : SCode := .reg [⟨some 6, none, .alloc 53 [(.int .i64 0), (.slice none 0 0)], [], false⟩] [0, 1, 2, 6]
def k72_1 : SCode := .reg [⟨some 7, none, .mov (.tmp 0), [], false⟩, ⟨some 8, none, .mov (.tmp 1), [], false⟩, ⟨some 9, none, .mov (.tmp 2), [], false⟩, ⟨some 10, none, .build [(.int .i64 0), (.int .i64 0)] [(0, 1, (.tmp 8)), (1, 1, (.tmp 9))], [], false⟩, ⟨some 11, none, .buildSl 87 2 [(.int .i64 0), (.int .i64 0)] 1 [(0, (.tmp 10))], [], false⟩, ⟨some 12, none, .build [(.int .i64 0), (.slice none 0 0)] [(0, 1, (.tmp 7)), (1, 1, (.tmp 11))], [], false⟩, ⟨none, none, .store 2 (.tmp 6) (.tmp 12), [], false⟩] [6]
def k72_2 : SCode := .seq k72_1 .ret
def k72_3 : SCode := .seq k72_0 k72_2
@[simp] def rs_turrettop_armTown : List SRes := [.cell 6 true 2]
theorem law_turrettop_armTown (cs : List CV) (r : CV) (hl : cs.length ≤ 13) (h : STri (cfF Tryz.prog [] 13) k72_3 (initT 0 cs) [] (retQ rs_turrettop_armTown r)) : SC Tryz.prog 11 cs r :=
  sc_of [] follows Tryz.func11 rfl Tryz.ntmps11 (by decide) (by kernel_rfl) (by kernel_rfl) hl h
def k73_0 : SCode := .reg [⟨some 2, none, .box 24 (.tmp 0), [], false⟩, ⟨some 3, none, .box 24 (.tmp 1), [], false⟩, ⟨some 4, none, .mov (.const (.slice none 0 0)), [], false⟩] [2, 3]
def k73_1 : SCode := .reg [⟨some 5, none, .load true 2 (.tmp 2), [], false⟩, ⟨some 6, none, .load true 2 (.tmp 3), [], false⟩, ⟨some 7, none, .build [(.int .i64 0), (.int .i64 0), (.int .i64 0), (.int .i64 0), (.int .i64 0), (.int .i64 0), (.int .i64 0), (.slice none 0 0)] [(0, 1, (.const (.int .i64 1))), (1, 2, (.tmp 5)), (4, 2, (.tmp 6))], [], false⟩, ⟨some 8, none, .build [(.int .i64 0), (.int .i64 0), (.int .i64 0), (.int .i64 0), (.int .i64 0), (.int .i64 0), (.int .i64 0), (.slice none 0 0)] [(0, 1, (.const (.int .i64 4)))], [], false⟩, ⟨some 9, none, .build [(.int .i64 0), (.int .i64 0), (.int .i64 0), (.int .i64 0), (.int .i64 0), (.int .i64 0), (.int .i64 0), (.slice none 0 0)] [(0, 1, (.const (.int .i64 4)))], [], false⟩, ⟨some 10, none, .buildSl 40 8 [(.int .i64 0), (.int .i64 0), (.int .i64 0), (.int .i64 0), (.int .i64 0), (.int .i64 0), (.int .i64 0), (.slice none 0 0)] 3 [(0, (.tmp 7)), (1, (.tmp 8)), (2, (.tmp 9))], [], false⟩, ⟨some 4, none, .mov (.tmp 10), [], false⟩] [4]
def k73_2 : SCode := .seq k73_1 .ret
def k73_3 : SCode := .seq k73_0 k73_2
@[simp] def rs_turrettop_armOffice : List SRes := [.tmp 4]
theorem law_turrettop_armOffice (cs : List CV) (r : CV) (hl : cs.length ≤ 11) (h : STri (cfF Tryz.prog [] 11) k73_3 (initT 0 cs) [] (retQ rs_turrettop_armOffice r)) : SC Tryz.prog 13 cs r :=
  sc_of [] follows Tryz.func13 rfl Tryz.ntmps13 (by decide) (by kernel_rfl) (by kernel_rfl) hl h
def k74_0 : SCode := .reg [⟨some 7, none, .box 55 (.tmp 3), [], false⟩, ⟨some 8, none, .mov (.const (.slice none 0 0)), [], false⟩] [0, 1, 2, 7]
def k74_1 : SCode := .reg [⟨some 9, none, .mov (.tmp 0), [], false⟩, ⟨some 10, none, .mov (.tmp 2), [], false⟩, ⟨some 11, none, .bin .sub (.tmp 9) (.tmp 10), [], false⟩, ⟨some 12, none, .mov (.tmp 1), [], false⟩, ⟨some 13, none, .call 33 [(.tmp 12), (.const (.int .i64 43200))], [], false⟩, ⟨some 14, none, .build [(.int .i64 0), (.int .i64 0), (.int .i64 0)] [(0, 1, (.const (.int .i64 0))), (1, 1, (.tmp 11)), (2, 1, (.tmp 13))], [], false⟩, ⟨some 15, none, .idxA 2 1 (.tmp 7) (.const (.int .i64 0)), [], false⟩, ⟨some 16, none, .load false 1 (.tmp 15), [], false⟩, ⟨some 17, none, .mov (.tmp 2), [], false⟩, ⟨some 18, none, .bin .sub (.tmp 16) (.tmp 17), [], false⟩, ⟨some 19, none, .idxA 2 1 (.tmp 7) (.const (.int .i64 0)), [], false⟩, ⟨some 20, none, .load false 1 (.tmp 19), [], false⟩, ⟨some 21, none, .build [(.int .i64 0), (.int .i64 0), (.int .i64 0)] [(0, 1, (.const (.int .i64 1))), (1, 1, (.tmp 18)), (2, 1, (.tmp 20))], [], false⟩, ⟨some 22, none, .idxA 2 1 (.tmp 7) (.const (.int .i64 1)), [], false⟩, ⟨some 23, none, .load false 1 (.tmp 22), [], false⟩, ⟨some 24, none, .mov (.tmp 2), [], false⟩, ⟨some 25, none, .bin .sub (.tmp 23) (.tmp 24), [], false⟩, ⟨some 26, none, .idxA 2 1 (.tmp 7) (.const (.int .i64 1)), [], false⟩, ⟨some 27, none, .load false 1 (.tmp 26), [], false⟩, ⟨some 28, none, .build [(.int .i64 0), (.int .i64 0), (.int .i64 0)] [(0, 1, (.const (.int .i64 2))), (1, 1, (.tmp 25)), (2, 1, (.tmp 27))], [], false⟩, ⟨some 29, none, .buildSl 43 3 [(.int .i64 0), (.int .i64 0), (.int .i64 0)] 3 [(0, (.tmp 14)), (1, (.tmp 21)), (2, (.tmp 28))], [], false⟩, ⟨some 8, none, .mov (.tmp 29), [], false⟩] [8]
def k74_2 : SCode := .seq k74_1 .ret
def k74_3 : SCode := .seq k74_0 k74_2
@[simp] def rs_turrettop_armNotes : List SRes := [.tmp 8]
theorem law_turrettop_armNotes (cs : List CV) (r : CV) (hl : cs.length ≤ 30) (h : STri (cfF Tryz.prog [] 30) k74_3 (initT 0 cs) [] (retQ rs_turrettop_armNotes r)) : SC Tryz.prog 15 cs r :=
  sc_of [] follows Tryz.func15 rfl Tryz.ntmps15 (by decide) (by kernel_rfl) (by kernel_rfl) hl h
def k75_0 : SCode := .reg [⟨some 0, none, .mov (.const (.bool false)), [], false⟩] []
def k75_1 : SCode := .reg [⟨some 8, none, .build [(.int .i64 0), (.int .i64 0)] [(0, 1, (.const (.int .i64 36000)))], [], false⟩, ⟨some 9, none, .buildSl 87 2 [(.int .i64 0), (.int .i64 0)] 1 [(0, (.tmp 8))], [], false⟩, ⟨some 10, none, .build [(.int .i64 0), (.slice none 0 0)] [(0, 1, (.const (.int .i64 (-300)))), (1, 1, (.tmp 9))], [], false⟩, ⟨some 1, none, .alloc 53 [(.int .i64 0), (.slice none 0 0)], [], false⟩, ⟨none, none, .store 2 (.tmp 1) (.tmp 10), [], false⟩] [1]
def k75_2 : SCode := .reg [⟨some 12, none, .load true 2 (.tmp 1), [], false⟩, ⟨some 13, none, .call 12 [(.tmp 12), (.const (.int .i64 35999))], [], false⟩, ⟨some 11, none, .mov (.tmp 13), [], false⟩, ⟨some 14, none, .ext (.tmp 11) 0, [], false⟩, ⟨some 15, none, .ext (.tmp 11) 1, [], false⟩, ⟨some 16, none, .ext (.tmp 11) 2, [], false⟩, ⟨some 2, none, .mov (.tmp 14), [], false⟩, ⟨some 3, none, .mov (.tmp 15), [], false⟩, ⟨some 4, none, .mov (.tmp 16), [], false⟩] [1, 2, 3, 4]
def k75_3 : SCode := .reg [⟨some 18, none, .load true 2 (.tmp 1), [], false⟩, ⟨some 19, none, .call 35 [(.tmp 18)], [], false⟩, ⟨some 17, none, .mov (.tmp 19), [], false⟩, ⟨some 20, none, .ext (.tmp 17) 0, [], false⟩, ⟨some 21, none, .ext (.tmp 17) 1, [], false⟩, ⟨some 22, none, .ext (.tmp 17) 2, [], false⟩, ⟨some 5, none, .mov (.tmp 20), [], false⟩, ⟨some 6, none, .mov (.tmp 21), [], false⟩, ⟨some 7, none, .mov (.tmp 22), [], false⟩] [2, 3, 4, 5, 6, 7]
def k75_4 : SCode := .reg [⟨some 23, none, .mov (.tmp 4), [], false⟩, ⟨some 24, none, .bin .eql (.tmp 23) (.const (.int .i64 0)), [], false⟩, ⟨some 25, none, .mov (.tmp 24), [], false⟩, ⟨some 26, (some (25, true)), .mov (.tmp 7), [], false⟩, ⟨some 27, (some (25, true)), .bin .eql (.tmp 26) (.const (.int .i64 0)), [], false⟩, ⟨some 28, none, .pick (.tmp 25) (.tmp 27) (.const (.bool false)), [], false⟩, ⟨some 29, none, .mov (.tmp 28), [], false⟩, ⟨some 30, (some (29, true)), .mov (.tmp 2), [], false⟩, ⟨some 31, (some (29, true)), .bin .eql (.tmp 30) (.const (.int .i64 0)), [], false⟩, ⟨some 32, none, .pick (.tmp 29) (.tmp 31) (.const (.bool false)), [], false⟩, ⟨some 33, none, .mov (.tmp 32), [], false⟩, ⟨some 34, (some (33, true)), .mov (.tmp 3), [], false⟩, ⟨some 35, (some (33, true)), .bin .eql (.tmp 34) (.const (.int .i64 35699)), [], false⟩, ⟨some 36, none, .pick (.tmp 33) (.tmp 35) (.const (.bool false)), [], false⟩, ⟨some 37, none, .mov (.tmp 36), [], false⟩, ⟨some 38, (some (37, true)), .mov (.tmp 5), [], false⟩, ⟨some 39, (some (37, true)), .len (.tmp 38), [], false⟩, ⟨some 40, (some (37, true)), .bin .eql (.tmp 39) (.const (.int .i64 0)), [], false⟩, ⟨some 41, none, .pick (.tmp 37) (.tmp 40) (.const (.bool false)), [], false⟩, ⟨some 42, none, .mov (.tmp 41), [], false⟩, ⟨some 43, (some (42, true)), .mov (.tmp 6), [], false⟩, ⟨some 44, (some (42, true)), .len (.tmp 43), [], false⟩, ⟨some 45, (some (42, true)), .bin .eql (.tmp 44) (.const (.int .i64 1)), [], false⟩, ⟨some 46, none, .pick (.tmp 42) (.tmp 45) (.const (.bool false)), [], false⟩, ⟨some 47, none, .mov (.tmp 46), [], false⟩, ⟨some 48, (some (47, true)), .mov (.tmp 6), [], false⟩, ⟨some 49, (some (47, true)), .idxS 2 (.tmp 48) (.const (.int .i64 0)), [], false⟩, ⟨some 50, (some (47, true)), .load true 2 (.tmp 49), [], false⟩, ⟨some 51, (some (47, true)), .call 5 [(.const (.int .i64 595)), (.const (.int .i64 599))], [], false⟩, ⟨some 52, (some (47, true)), .eqC false [true, true] (.tmp 50) (.tmp 51), [], false⟩, ⟨some 53, none, .pick (.tmp 47) (.tmp 52) (.const (.bool false)), [], false⟩, ⟨some 0, none, .mov (.tmp 53), [], false⟩] [0]
def k75_5 : SCode := .seq k75_4 .ret
def k75_6 : SCode := .seq k75_3 k75_5
def k75_7 : SCode := .seq k75_2 k75_6
def k75_8 : SCode := .seq k75_1 k75_7
def k75_9 : SCode := .seq k75_0 k75_8
@[simp] def rs_turrettop_pubTowns : List SRes := [.tmp 0]
theorem law_turrettop_pubTowns (cs : List CV) (r : CV) (hl : cs.length ≤ 54) (h : STri (cfF Tryz.prog [] 54) k75_9 (initT 0 cs) [] (retQ rs_turrettop_pubTowns r)) : SC Tryz.prog 17 cs r :=
  sc_of [] follows Tryz.func17 rfl Tryz.ntmps17 (by decide) (by kernel_rfl) (by kernel_rfl) hl h
def k76_0 : SCode := .reg [⟨some 4, none, .mov (.const (.int .i64 0)), [], false⟩] [0, 1]
def k76_1 : SCode := .reg [⟨some 5, none, .mov (.tmp 0), [], false⟩, ⟨some 6, none, .mov (.tmp 1), [], false⟩, ⟨some 7, none, .bin .rem (.tmp 5) (.tmp 6), [], false⟩, ⟨some 8, none, .mov (.tmp 1), [], false⟩, ⟨some 9, none, .bin .add (.tmp 7) (.tmp 8), [], false⟩, ⟨some 10, none, .mov (.tmp 1), [], false⟩, ⟨some 11, none, .bin .rem (.tmp 9) (.tmp 10), [], false⟩, ⟨some 4, none, .mov (.tmp 11), [], false⟩] [4]
def k76_2 : SCode := .seq k76_1 .ret
def k76_3 : SCode := .seq k76_0 k76_2
@[simp] def rs_turrettop_pubRest : List SRes := [.tmp 4]
theorem law_turrettop_pubRest (cs : List CV) (r : CV) (hl : cs.length ≤ 12) (h : STri (cfF Tryz.prog [] 12) k76_3 (initT 0 cs) [] (retQ rs_turrettop_pubRest r)) : SC Tryz.prog 33 cs r :=
  sc_of [] follows Tryz.func33 rfl Tryz.ntmps33 (by decide) (by kernel_rfl) (by kernel_rfl) hl h
end Go.Proofs.YtboifcengmgcaaaGreat
/- Top: towns with a change; what chapter 10's examples say. -/
namespace Go.Proofs.YtboifcengmgcaaaGreat
open Go.RowKit
def oneZ (o at' n : Int) : Zt := ⟨o, [(at', n)]⟩
theorem oneZ_ok {o at' n : Int} (o0 : -43200 ≤ o) (o1 : o ≤ 43200) (a0 : 1 ≤ at') (a1 : at' ≤ 3155760000) (n0 : -43200 ≤ n) (n1 : n ≤ 43200) : ZtOk (oneZ o at' n) := ⟨by simp [oneZ], ⟨o0, o1⟩, fun k h => by
  have h : k < 1 := h
  have : k = 0 := by omega
  subst this
  simp [oneZ, befZ]
  omega⟩
theorem oneZ_eras (o at' n : Int) : erasL (oneZ o at' n) = [⟨0, at' - 1, o⟩, ⟨at', 3155760000, n⟩] := rfl
theorem oneZ_before {o at' n t : Int} (h0 : 0 ≤ t) (h1 : t < at') : (atZ (oneZ o at' n) t).off = o := by
  unfold atZ
  rw [oneZ_eras]
  have e1 : inZ 0 (at' - 1) t = true := by unfold inZ; simp; omega
  have e2 : inZ at' 3155760000 t = false := by unfold inZ; simp; omega
  simp [e1, e2]
theorem oneZ_after {o at' n t : Int} (h0 : at' ≤ t) (h1 : t ≤ 3155760000) : (atZ (oneZ o at' n) t).off = n := by
  unfold atZ
  rw [oneZ_eras]
  have e2 : inZ at' 3155760000 t = true := by unfold inZ; simp; omega
  simp [e2]
theorem says_before {o at' n t : Int} (hz : ZtOk (oneZ o at' n)) (h0 : 0 ≤ t) (h1 : t < at') (h2 : t ≤ 3155760000) : SC Tryz.prog 12 [cZt (oneZ o at' n), I t] (.tup [I ((t + o) / 86400), I ((t + o) % 86400), I 0]) := by
  have h := sSays (oneZ o at' n) hz t h0 h2
  rw [oneZ_before h0 h1] at h
  exact h
theorem says_after {o at' n t : Int} (hz : ZtOk (oneZ o at' n)) (h0 : 0 ≤ t) (h1 : at' ≤ t) (h2 : t ≤ 3155760000) : SC Tryz.prog 12 [cZt (oneZ o at' n), I t] (.tup [I ((t + n) / 86400), I ((t + n) % 86400), I 0]) := by
  have h := sSays (oneZ o at' n) hz t h0 h2
  rw [oneZ_after h1 h2] at h
  exact h
theorem sSpanZ (lo hi : Int) : SC Tryz.prog 5 [I lo, I hi] (.agg [I lo, I hi]) := by
  refine law_turrettop_pubSpan _ _ (by simp) ?_
  (repeat' (first | ((first | with_reducible refine st_skip ?_ | with_reducible refine st_exit ?_); (try simp only [seqQ, blockQ, loopQ, forQ, whileQ, reduceIte, Nat.reduceEqDiff])) | (with_reducible refine st_ret ?_; ((try simp only [seqQ, blockQ, loopQ, forQ, whileQ]); first | (with_reducible refine retM_ret ?_) | refine retQ_ret ?_; simp)) | refine st_seq ?_ | refine st_block ?_ | ((with_reducible show (STri _ _ _ _ _) ∧ (STri _ _ _ _ _)); refine And.intro ?_ ?_) | ((first | refine st_reg ?_ | refine buildP_own ?_ | refine appP_own ?_) <;> (simp -dsimp; (repeat (simp -dsimp (disch := (first | omega | assumption | (refine Bool.eq_false_iff.1 ?_; assumption))) only [wrap_in, if_pos, if_neg]; (try simp -dsimp))))) | ((first | refine guardP_of (fun hc => ?_) (fun hc => ?_) | refine st_cond rfl (fun hc => ?_) (fun hc => ?_)) <;> (try simp only [lqA, lqB, lqC, lqD, lqE, lqF, lqG, lqH, lqI, lqJ, lqK, lqL, lqM, lqN, lqO] at hc) <;> (try (exfalso; first | omega | exact bool_tf hc (by assumption) | exact bool_ft hc (by assumption) | exact absurd (by assumption) hc)) <;> (first | with_reducible show STri _ _ _ _ _ _ | (simp -dsimp [hc]; (repeat (simp -dsimp (disch := (first | omega | assumption | (refine Bool.eq_false_iff.1 ?_; assumption))) only [wrap_in, if_pos, if_neg]; (try simp -dsimp [hc]))))))))
  all_goals exact .refl _
theorem ex_says : SC Tryz.prog 12 [cZt exZ, I 35999] (.tup [I 0, I 35699, I 0]) :=
  says_before (o := -300) (at' := 36000) (n := 0) (t := 35999) exZ_ok (by omega) (by omega) (by omega)
set_option maxRecDepth 100000 in
theorem sPubTowns : SC Tryz.prog 17 [] (B true) := by
  refine law_turrettop_pubTowns _ _ (by simp) ?_
  have a := ex_says
  have b := sOddEx
  simp only [cZt, exZ, slC, rowC, List.map_cons, List.map_nil] at a b
  (repeat' (first | ((first | with_reducible refine st_skip ?_ | with_reducible refine st_exit ?_); (try simp only [seqQ, blockQ, loopQ, forQ, whileQ, reduceIte, Nat.reduceEqDiff])) | (with_reducible refine st_ret ?_; ((try simp only [seqQ, blockQ, loopQ, forQ, whileQ]); first | (with_reducible refine retM_ret ?_) | refine retQ_ret ?_; simp)) | refine st_seq ?_ | refine st_block ?_ | ((with_reducible show (STri _ _ _ _ _) ∧ (STri _ _ _ _ _)); refine And.intro ?_ ?_) | ((first | refine st_reg ?_ | refine buildP_frz ?_ | refine appP_own ?_ | refine callP_b (a) rfl ?_ | refine callP_b (b) rfl ?_ | refine callP_b (sSpanZ 595 599) rfl ?_) <;> (simp -dsimp; (repeat (simp -dsimp (disch := (first | omega | assumption | (refine Bool.eq_false_iff.1 ?_; assumption))) only [wrap_in, if_pos, if_neg]; (try simp -dsimp))))) | ((first | refine guardP_of (fun hc => ?_) (fun hc => ?_) | refine st_cond rfl (fun hc => ?_) (fun hc => ?_)) <;> (try simp only [lqA, lqB, lqC, lqD, lqE, lqF, lqG, lqH, lqI, lqJ, lqK, lqL, lqM, lqN, lqO] at hc) <;> (try (exfalso; first | omega | exact bool_tf hc (by assumption) | exact bool_ft hc (by assumption) | exact absurd (by assumption) hc)) <;> (first | with_reducible show STri _ _ _ _ _ _ | (simp -dsimp [hc]; (repeat (simp -dsimp (disch := (first | omega | assumption | (refine Bool.eq_false_iff.1 ?_; assumption))) only [wrap_in, if_pos, if_neg]; (try simp -dsimp [hc]))))))))
  all_goals exact .refl _
theorem sArmTown (o at' n : Int) : SC Tryz.prog 11 [I o, I at', I n] (cZt (oneZ o at' n)) := by
  refine law_turrettop_armTown _ _ (by simp) ?_
  unfold oneZ
  (repeat' (first | ((first | with_reducible refine st_skip ?_ | with_reducible refine st_exit ?_); (try simp only [seqQ, blockQ, loopQ, forQ, whileQ, reduceIte, Nat.reduceEqDiff])) | (with_reducible refine st_ret ?_; ((try simp only [seqQ, blockQ, loopQ, forQ, whileQ]); first | (with_reducible refine retM_ret ?_) | refine retQ_ret ?_; simp)) | refine st_seq ?_ | refine st_block ?_ | ((with_reducible show (STri _ _ _ _ _) ∧ (STri _ _ _ _ _)); refine And.intro ?_ ?_) | ((first | refine st_reg ?_ | refine buildP_frz ?_ | refine appP_own ?_) <;> (simp -dsimp; (repeat (simp -dsimp (disch := (first | omega | assumption | (refine Bool.eq_false_iff.1 ?_; assumption))) only [wrap_in, if_pos, if_neg]; (try simp -dsimp))))) | ((first | refine guardP_of (fun hc => ?_) (fun hc => ?_) | refine st_cond rfl (fun hc => ?_) (fun hc => ?_)) <;> (try simp only [lqA, lqB, lqC, lqD, lqE, lqF, lqG, lqH, lqI, lqJ, lqK, lqL, lqM, lqN, lqO] at hc) <;> (try (exfalso; first | omega | exact bool_tf hc (by assumption) | exact bool_ft hc (by assumption) | exact absurd (by assumption) hc)) <;> (first | with_reducible show STri _ _ _ _ _ _ | (simp -dsimp [hc]; (repeat (simp -dsimp (disch := (first | omega | assumption | (refine Bool.eq_false_iff.1 ?_; assumption))) only [wrap_in, if_pos, if_neg]; (try simp -dsimp [hc]))))))))
  all_goals exact .refl _
end Go.Proofs.YtboifcengmgcaaaGreat
/- Wire, II: sources. -/
namespace Go.Proofs.YtboifcengmgcaaaGreat
open Go.RowKit
structure Wsrc where
  (kind elo ehi at' dlo dhi every : Int) (table : List Int)
structure Wnt where
  (src tick said : Int)
def rowSr (s : Wsrc) : List CV := [I s.kind, I s.elo, I s.ehi, I s.at', I s.dlo, I s.dhi, I s.every, slI s.table]
def cSr (s : Wsrc) : CV := .agg (rowSr s)
def slSr (w : List Wsrc) : CV := .sl 8 (w.map rowSr)
def rowN (n : Wnt) : List CV := [I n.src, I n.tick, I n.said]
def cN (n : Wnt) : CV := .agg (rowN n)
def slN (l : List Wnt) : CV := .sl 3 (l.map rowN)
attribute [simp] rowSr cSr slSr rowN cN slN
def within1 (lo hi n : Int) : Bool := decide (lo ≤ n) && decide (n ≤ hi)
theorem allIn_one (lo hi n : Int) : allIn lo hi [n] = within1 lo hi n := by simp [allIn, inB, within1]
def clockV (s : Wsrc) : Bool := within1 0 3155760000 s.at' && spanW s.dlo s.dhi 100000
def eventV (s : Wsrc) : Bool := within1 0 3155760000 s.at' && within1 1 3155760000 s.every
def sunV (s : Wsrc) : Bool := within1 1 366 s.table.length && allIn (-3600) 3600 s.table
theorem sClockV (s : Wsrc) : SC Tryz.prog 161 [cSr s] (B (clockV s)) := by
  refine law_wire_clock_isValid _ _ (by simp) ?_
  unfold clockV
  (repeat' (first | ((first | with_reducible refine st_skip ?_ | with_reducible refine st_exit ?_); (try simp only [seqQ, blockQ, loopQ, forQ, whileQ, reduceIte, Nat.reduceEqDiff])) | (with_reducible refine st_ret ?_; ((try simp only [seqQ, blockQ, loopQ, forQ, whileQ]); first | (with_reducible refine retM_ret ?_) | refine retQ_ret ?_; simp)) | refine st_seq ?_ | refine st_block ?_ | ((with_reducible show (STri _ _ _ _ _) ∧ (STri _ _ _ _ _)); refine And.intro ?_ ?_) | ((first | refine st_reg ?_ | refine buildP_own ?_ | refine appP_own ?_ | refine callP_b (sWithinW 0 3155760000 [s.at'] (by simp)) rfl ?_ | refine callP_b (sIsSpanW s.dlo s.dhi 100000 (by omega) (by omega)) rfl ?_) <;> (simp -dsimp; (repeat (simp -dsimp (disch := (first | omega | assumption | (refine Bool.eq_false_iff.1 ?_; assumption))) only [wrap_in, if_pos, if_neg]; (try simp -dsimp))))) | ((first | refine guardP_of (fun hc => ?_) (fun hc => ?_) | refine st_cond rfl (fun hc => ?_) (fun hc => ?_)) <;> (try simp only [lqA, lqB, lqC, lqD, lqE, lqF, lqG, lqH, lqI, lqJ, lqK, lqL, lqM, lqN, lqO] at hc) <;> (try (exfalso; first | omega | exact bool_tf hc (by assumption) | exact bool_ft hc (by assumption) | exact absurd (by assumption) hc)) <;> (first | with_reducible show STri _ _ _ _ _ _ | (simp -dsimp [hc]; (repeat (simp -dsimp (disch := (first | omega | assumption | (refine Bool.eq_false_iff.1 ?_; assumption))) only [wrap_in, if_pos, if_neg]; (try simp -dsimp [hc]))))))))
  all_goals (refine CLe.bool ?_; rw [allIn_one] at hc; simp [hc])
theorem sEventV (s : Wsrc) : SC Tryz.prog 167 [cSr s] (B (eventV s)) := by
  refine law_wire_event_isValid _ _ (by simp) ?_
  unfold eventV
  (repeat' (first | ((first | with_reducible refine st_skip ?_ | with_reducible refine st_exit ?_); (try simp only [seqQ, blockQ, loopQ, forQ, whileQ, reduceIte, Nat.reduceEqDiff])) | (with_reducible refine st_ret ?_; ((try simp only [seqQ, blockQ, loopQ, forQ, whileQ]); first | (with_reducible refine retM_ret ?_) | refine retQ_ret ?_; simp)) | refine st_seq ?_ | refine st_block ?_ | ((with_reducible show (STri _ _ _ _ _) ∧ (STri _ _ _ _ _)); refine And.intro ?_ ?_) | ((first | refine st_reg ?_ | refine buildP_own ?_ | refine appP_own ?_ | refine callP_b (sWithinW 0 3155760000 [s.at'] (by simp)) rfl ?_ | refine callP_b (sWithinW 1 3155760000 [s.every] (by simp)) rfl ?_) <;> (simp -dsimp; (repeat (simp -dsimp (disch := (first | omega | assumption | (refine Bool.eq_false_iff.1 ?_; assumption))) only [wrap_in, if_pos, if_neg]; (try simp -dsimp))))) | ((first | refine guardP_of (fun hc => ?_) (fun hc => ?_) | refine st_cond rfl (fun hc => ?_) (fun hc => ?_)) <;> (try simp only [lqA, lqB, lqC, lqD, lqE, lqF, lqG, lqH, lqI, lqJ, lqK, lqL, lqM, lqN, lqO] at hc) <;> (try (exfalso; first | omega | exact bool_tf hc (by assumption) | exact bool_ft hc (by assumption) | exact absurd (by assumption) hc)) <;> (first | with_reducible show STri _ _ _ _ _ _ | (simp -dsimp [hc]; (repeat (simp -dsimp (disch := (first | omega | assumption | (refine Bool.eq_false_iff.1 ?_; assumption))) only [wrap_in, if_pos, if_neg]; (try simp -dsimp [hc]))))))))
  all_goals (refine CLe.bool ?_; rw [allIn_one] at hc; simp [hc, allIn_one])
theorem sSunV (s : Wsrc) (h : s.table.length ≤ 1000000) : SC Tryz.prog 171 [cSr s] (B (sunV s)) := by
  refine law_wire_sun_isValid _ _ (by simp) ?_
  unfold sunV
  (repeat' (first | ((first | with_reducible refine st_skip ?_ | with_reducible refine st_exit ?_); (try simp only [seqQ, blockQ, loopQ, forQ, whileQ, reduceIte, Nat.reduceEqDiff])) | (with_reducible refine st_ret ?_; ((try simp only [seqQ, blockQ, loopQ, forQ, whileQ]); first | (with_reducible refine retM_ret ?_) | refine retQ_ret ?_; simp)) | refine st_seq ?_ | refine st_block ?_ | ((with_reducible show (STri _ _ _ _ _) ∧ (STri _ _ _ _ _)); refine And.intro ?_ ?_) | ((first | refine st_reg ?_ | refine buildP_own ?_ | refine appP_own ?_ | refine callP_b (sWithinW 1 366 [(s.table.length : Int)] (by simp)) rfl ?_ | refine callP_b (sWithinW (-3600) 3600 s.table h) rfl ?_) <;> (simp -dsimp; (repeat (simp -dsimp (disch := (first | omega | assumption | (refine Bool.eq_false_iff.1 ?_; assumption))) only [wrap_in, if_pos, if_neg]; (try simp -dsimp))))) | ((first | refine guardP_of (fun hc => ?_) (fun hc => ?_) | refine st_cond rfl (fun hc => ?_) (fun hc => ?_)) <;> (try simp only [lqA, lqB, lqC, lqD, lqE, lqF, lqG, lqH, lqI, lqJ, lqK, lqL, lqM, lqN, lqO] at hc) <;> (try (exfalso; first | omega | exact bool_tf hc (by assumption) | exact bool_ft hc (by assumption) | exact absurd (by assumption) hc)) <;> (first | with_reducible show STri _ _ _ _ _ _ | (simp -dsimp [hc]; (repeat (simp -dsimp (disch := (first | omega | assumption | (refine Bool.eq_false_iff.1 ?_; assumption))) only [wrap_in, if_pos, if_neg]; (try simp -dsimp [hc]))))))))
  all_goals (refine CLe.bool ?_; rw [allIn_one] at hc; simp [hc])
theorem sSignalV (s : Wsrc) : SC Tryz.prog 176 [cSr s] (B true) := by
  refine law_wire_signal_isValid _ _ (by simp) ?_
  (repeat' (first | ((first | with_reducible refine st_skip ?_ | with_reducible refine st_exit ?_); (try simp only [seqQ, blockQ, loopQ, forQ, whileQ, reduceIte, Nat.reduceEqDiff])) | (with_reducible refine st_ret ?_; ((try simp only [seqQ, blockQ, loopQ, forQ, whileQ]); first | (with_reducible refine retM_ret ?_) | refine retQ_ret ?_; simp)) | refine st_seq ?_ | refine st_block ?_ | ((with_reducible show (STri _ _ _ _ _) ∧ (STri _ _ _ _ _)); refine And.intro ?_ ?_) | ((first | refine st_reg ?_ | refine buildP_own ?_ | refine appP_own ?_) <;> (simp -dsimp; (repeat (simp -dsimp (disch := (first | omega | assumption | (refine Bool.eq_false_iff.1 ?_; assumption))) only [wrap_in, if_pos, if_neg]; (try simp -dsimp))))) | ((first | refine guardP_of (fun hc => ?_) (fun hc => ?_) | refine st_cond rfl (fun hc => ?_) (fun hc => ?_)) <;> (try simp only [lqA, lqB, lqC, lqD, lqE, lqF, lqG, lqH, lqI, lqJ, lqK, lqL, lqM, lqN, lqO] at hc) <;> (try (exfalso; first | omega | exact bool_tf hc (by assumption) | exact bool_ft hc (by assumption) | exact absurd (by assumption) hc)) <;> (first | with_reducible show STri _ _ _ _ _ _ | (simp -dsimp [hc]; (repeat (simp -dsimp (disch := (first | omega | assumption | (refine Bool.eq_false_iff.1 ?_; assumption))) only [wrap_in, if_pos, if_neg]; (try simp -dsimp [hc]))))))))
  exact .refl _
theorem sClockS (s : Wsrc) (n : Int) : SC Tryz.prog 160 [cSr s, I n] (B (within1 0 43199 n)) := by
  refine law_wire_clock_isSaid _ _ (by simp) ?_
  (repeat' (first | ((first | with_reducible refine st_skip ?_ | with_reducible refine st_exit ?_); (try simp only [seqQ, blockQ, loopQ, forQ, whileQ, reduceIte, Nat.reduceEqDiff])) | (with_reducible refine st_ret ?_; ((try simp only [seqQ, blockQ, loopQ, forQ, whileQ]); first | (with_reducible refine retM_ret ?_) | refine retQ_ret ?_; simp)) | refine st_seq ?_ | refine st_block ?_ | ((with_reducible show (STri _ _ _ _ _) ∧ (STri _ _ _ _ _)); refine And.intro ?_ ?_) | ((first | refine st_reg ?_ | refine buildP_own ?_ | refine appP_own ?_ | refine callP_b (sWithinW 0 43199 [n] (by simp)) rfl ?_) <;> (simp -dsimp; (repeat (simp -dsimp (disch := (first | omega | assumption | (refine Bool.eq_false_iff.1 ?_; assumption))) only [wrap_in, if_pos, if_neg]; (try simp -dsimp))))) | ((first | refine guardP_of (fun hc => ?_) (fun hc => ?_) | refine st_cond rfl (fun hc => ?_) (fun hc => ?_)) <;> (try simp only [lqA, lqB, lqC, lqD, lqE, lqF, lqG, lqH, lqI, lqJ, lqK, lqL, lqM, lqN, lqO] at hc) <;> (try (exfalso; first | omega | exact bool_tf hc (by assumption) | exact bool_ft hc (by assumption) | exact absurd (by assumption) hc)) <;> (first | with_reducible show STri _ _ _ _ _ _ | (simp -dsimp [hc]; (repeat (simp -dsimp (disch := (first | omega | assumption | (refine Bool.eq_false_iff.1 ?_; assumption))) only [wrap_in, if_pos, if_neg]; (try simp -dsimp [hc]))))))))
  all_goals (refine CLe.bool ?_; exact allIn_one _ _ _)
theorem sNothingS (n : Int) : SC Tryz.prog 168 [.agg [], I n] (B (decide (n = 0))) := by
  refine law_wire_nothing_isSaid _ _ (by simp) ?_
  (repeat' (first | ((first | with_reducible refine st_skip ?_ | with_reducible refine st_exit ?_); (try simp only [seqQ, blockQ, loopQ, forQ, whileQ, reduceIte, Nat.reduceEqDiff])) | (with_reducible refine st_ret ?_; ((try simp only [seqQ, blockQ, loopQ, forQ, whileQ]); first | (with_reducible refine retM_ret ?_) | refine retQ_ret ?_; simp)) | refine st_seq ?_ | refine st_block ?_ | ((with_reducible show (STri _ _ _ _ _) ∧ (STri _ _ _ _ _)); refine And.intro ?_ ?_) | ((first | refine st_reg ?_ | refine buildP_own ?_ | refine appP_own ?_) <;> (simp -dsimp; (repeat (simp -dsimp (disch := (first | omega | assumption | (refine Bool.eq_false_iff.1 ?_; assumption))) only [wrap_in, if_pos, if_neg]; (try simp -dsimp))))) | ((first | refine guardP_of (fun hc => ?_) (fun hc => ?_) | refine st_cond rfl (fun hc => ?_) (fun hc => ?_)) <;> (try simp only [lqA, lqB, lqC, lqD, lqE, lqF, lqG, lqH, lqI, lqJ, lqK, lqL, lqM, lqN, lqO] at hc) <;> (try (exfalso; first | omega | exact bool_tf hc (by assumption) | exact bool_ft hc (by assumption) | exact absurd (by assumption) hc)) <;> (first | with_reducible show STri _ _ _ _ _ _ | (simp -dsimp [hc]; (repeat (simp -dsimp (disch := (first | omega | assumption | (refine Bool.eq_false_iff.1 ?_; assumption))) only [wrap_in, if_pos, if_neg]; (try simp -dsimp [hc]))))))))
  all_goals (refine CLe.bool ?_; rw [Bool.eq_iff_iff]; simp)
theorem sEventS (s : Wsrc) (n : Int) : SC Tryz.prog 166 [cSr s, I n] (B (decide (n = 0))) := by
  refine law_wire_event_isSaid _ _ (by simp) ?_
  (repeat' (first | ((first | with_reducible refine st_skip ?_ | with_reducible refine st_exit ?_); (try simp only [seqQ, blockQ, loopQ, forQ, whileQ, reduceIte, Nat.reduceEqDiff])) | (with_reducible refine st_ret ?_; ((try simp only [seqQ, blockQ, loopQ, forQ, whileQ]); first | (with_reducible refine retM_ret ?_) | refine retQ_ret ?_; simp)) | refine st_seq ?_ | refine st_block ?_ | ((with_reducible show (STri _ _ _ _ _) ∧ (STri _ _ _ _ _)); refine And.intro ?_ ?_) | ((first | refine st_reg ?_ | refine buildP_own ?_ | refine appP_own ?_ | refine callP_b (sNothingS n) rfl ?_) <;> (simp -dsimp; (repeat (simp -dsimp (disch := (first | omega | assumption | (refine Bool.eq_false_iff.1 ?_; assumption))) only [wrap_in, if_pos, if_neg]; (try simp -dsimp))))) | ((first | refine guardP_of (fun hc => ?_) (fun hc => ?_) | refine st_cond rfl (fun hc => ?_) (fun hc => ?_)) <;> (try simp only [lqA, lqB, lqC, lqD, lqE, lqF, lqG, lqH, lqI, lqJ, lqK, lqL, lqM, lqN, lqO] at hc) <;> (try (exfalso; first | omega | exact bool_tf hc (by assumption) | exact bool_ft hc (by assumption) | exact absurd (by assumption) hc)) <;> (first | with_reducible show STri _ _ _ _ _ _ | (simp -dsimp [hc]; (repeat (simp -dsimp (disch := (first | omega | assumption | (refine Bool.eq_false_iff.1 ?_; assumption))) only [wrap_in, if_pos, if_neg]; (try simp -dsimp [hc]))))))))
  all_goals exact .refl _
theorem sSunS (s : Wsrc) (n : Int) : SC Tryz.prog 170 [cSr s, I n] (B (decide (n = 0))) := by
  refine law_wire_sun_isSaid _ _ (by simp) ?_
  (repeat' (first | ((first | with_reducible refine st_skip ?_ | with_reducible refine st_exit ?_); (try simp only [seqQ, blockQ, loopQ, forQ, whileQ, reduceIte, Nat.reduceEqDiff])) | (with_reducible refine st_ret ?_; ((try simp only [seqQ, blockQ, loopQ, forQ, whileQ]); first | (with_reducible refine retM_ret ?_) | refine retQ_ret ?_; simp)) | refine st_seq ?_ | refine st_block ?_ | ((with_reducible show (STri _ _ _ _ _) ∧ (STri _ _ _ _ _)); refine And.intro ?_ ?_) | ((first | refine st_reg ?_ | refine buildP_own ?_ | refine appP_own ?_ | refine callP_b (sNothingS n) rfl ?_) <;> (simp -dsimp; (repeat (simp -dsimp (disch := (first | omega | assumption | (refine Bool.eq_false_iff.1 ?_; assumption))) only [wrap_in, if_pos, if_neg]; (try simp -dsimp))))) | ((first | refine guardP_of (fun hc => ?_) (fun hc => ?_) | refine st_cond rfl (fun hc => ?_) (fun hc => ?_)) <;> (try simp only [lqA, lqB, lqC, lqD, lqE, lqF, lqG, lqH, lqI, lqJ, lqK, lqL, lqM, lqN, lqO] at hc) <;> (try (exfalso; first | omega | exact bool_tf hc (by assumption) | exact bool_ft hc (by assumption) | exact absurd (by assumption) hc)) <;> (first | with_reducible show STri _ _ _ _ _ _ | (simp -dsimp [hc]; (repeat (simp -dsimp (disch := (first | omega | assumption | (refine Bool.eq_false_iff.1 ?_; assumption))) only [wrap_in, if_pos, if_neg]; (try simp -dsimp [hc]))))))))
  all_goals exact .refl _
theorem sSignalS (s : Wsrc) (n : Int) : SC Tryz.prog 175 [cSr s, I n] (B (within1 0 3155760000 n)) := by
  refine law_wire_signal_isSaid _ _ (by simp) ?_
  (repeat' (first | ((first | with_reducible refine st_skip ?_ | with_reducible refine st_exit ?_); (try simp only [seqQ, blockQ, loopQ, forQ, whileQ, reduceIte, Nat.reduceEqDiff])) | (with_reducible refine st_ret ?_; ((try simp only [seqQ, blockQ, loopQ, forQ, whileQ]); first | (with_reducible refine retM_ret ?_) | refine retQ_ret ?_; simp)) | refine st_seq ?_ | refine st_block ?_ | ((with_reducible show (STri _ _ _ _ _) ∧ (STri _ _ _ _ _)); refine And.intro ?_ ?_) | ((first | refine st_reg ?_ | refine buildP_own ?_ | refine appP_own ?_ | refine callP_b (sWithinW 0 3155760000 [n] (by simp)) rfl ?_) <;> (simp -dsimp; (repeat (simp -dsimp (disch := (first | omega | assumption | (refine Bool.eq_false_iff.1 ?_; assumption))) only [wrap_in, if_pos, if_neg]; (try simp -dsimp))))) | ((first | refine guardP_of (fun hc => ?_) (fun hc => ?_) | refine st_cond rfl (fun hc => ?_) (fun hc => ?_)) <;> (try simp only [lqA, lqB, lqC, lqD, lqE, lqF, lqG, lqH, lqI, lqJ, lqK, lqL, lqM, lqN, lqO] at hc) <;> (try (exfalso; first | omega | exact bool_tf hc (by assumption) | exact bool_ft hc (by assumption) | exact absurd (by assumption) hc)) <;> (first | with_reducible show STri _ _ _ _ _ _ | (simp -dsimp [hc]; (repeat (simp -dsimp (disch := (first | omega | assumption | (refine Bool.eq_false_iff.1 ?_; assumption))) only [wrap_in, if_pos, if_neg]; (try simp -dsimp [hc]))))))))
  all_goals (refine CLe.bool ?_; exact allIn_one _ _ _)
structure TSm (t said elo ehi : Int) : Prop where
  t0 : -10000000000 ≤ t
  t1 : t ≤ 10000000000
  s0 : -10000000000 ≤ said
  s1 : said ≤ 10000000000
  l0 : -100000 ≤ elo
  l1 : elo ≤ 100000
  h0 : -100000 ≤ ehi
  h1 : ehi ≤ 100000
def clLo (s : Wsrc) (t elo : Int) : Int := elo + s.dlo * (t - s.at') / 86400000
def clHi (s : Wsrc) (t ehi : Int) : Int := ehi + upI (s.dhi * (t - s.at')) 86400000
def clockR (s : Wsrc) (t said elo ehi : Int) : Bool := decide (0 ≤ t - s.at') && decide ((said - t - clLo s t elo) % 43200 ≤ clHi s t ehi - clLo s t elo)
theorem mul_bd {a b : Int} (A B : Nat) (ha : a.natAbs ≤ A) (hb : b.natAbs ≤ B) : -((A * B : Nat) : Int) ≤ a * b ∧ a * b ≤ ((A * B : Nat) : Int) := by
  have h : (a * b).natAbs ≤ A * B := by rw [Int.natAbs_mul]; exact Nat.mul_le_mul ha hb
  omega
theorem div_bd (n b : Int) : -(n.natAbs : Int) ≤ n / b ∧ n / b ≤ n.natAbs := by
  have := Int.natAbs_ediv_le_natAbs n b
  omega
theorem clockV_is {s : Wsrc} (h : clockV s = true) : 0 ≤ s.at' ∧ s.at' ≤ 3155760000 ∧ -100000 ≤ s.dlo ∧ s.dlo ≤ s.dhi ∧ s.dhi ≤ 100000 := by
  unfold clockV within1 spanW at h
  simp at h
  omega
theorem cl_bd {s : Wsrc} (h : clockV s = true) {t said elo ehi : Int} (ht : TSm t said elo ehi) : -2000000000000000 ≤ s.dlo * (t - s.at') ∧ s.dlo * (t - s.at') ≤ 2000000000000000 ∧ -2000000000000000 ≤ s.dhi * (t - s.at') ∧ s.dhi * (t - s.at') ≤ 2000000000000000 := by
  obtain ⟨h1, h2, h3, h4, h5⟩ := clockV_is h
  have t0 := ht.t0
  have t1 := ht.t1
  have b1 := mul_bd (a := s.dlo) (b := t - s.at') 100000 20000000000 (by omega) (by omega)
  have b2 := mul_bd (a := s.dhi) (b := t - s.at') 100000 20000000000 (by omega) (by omega)
  omega
theorem sClockR (s : Wsrc) (hs : clockV s = true) (t said elo ehi : Int) (ht : TSm t said elo ehi) : SC Tryz.prog 159 [cSr s, I t, I said, .agg [I elo, I ehi]] (B (clockR s t said elo ehi)) := by
  refine law_wire_clock_isRight _ _ (by simp) ?_
  obtain ⟨h1, h2, h3, h4, h5⟩ := clockV_is hs
  obtain ⟨b1, b2, b3, b4⟩ := cl_bd hs ht
  obtain ⟨t0, t1, s0, s1, l0, l1, e0, e1⟩ := ht
  have c1 := div_bd (s.dlo * (t - s.at')) 86400000
  have c2 := div_bd (-(s.dhi * (t - s.at'))) 86400000
  unfold clockR clLo clHi
  generalize hx : s.dlo * (t - s.at') = x at *
  generalize hy : s.dhi * (t - s.at') = y at *
  have hu : upI y 86400000 = -(-y / 86400000) := rfl
  generalize hX : x / 86400000 = X at *
  generalize hY : upI y 86400000 = Y at *
  have sd := sDownW x 86400000 (by omega) (by omega) (by omega) (by omega)
  have su := sUpW y 86400000 (by omega) (by omega) (by omega) (by omega)
  rw [hX] at sd
  rw [hY] at su
  (repeat' (first | ((first | with_reducible refine st_skip ?_ | with_reducible refine st_exit ?_); (try simp only [seqQ, blockQ, loopQ, forQ, whileQ, reduceIte, Nat.reduceEqDiff])) | (with_reducible refine st_ret ?_; ((try simp only [seqQ, blockQ, loopQ, forQ, whileQ]); first | (with_reducible refine retM_ret ?_) | refine retQ_ret ?_; simp [hx, hy])) | refine st_seq ?_ | refine st_block ?_ | ((with_reducible show (STri _ _ _ _ _) ∧ (STri _ _ _ _ _)); refine And.intro ?_ ?_) | ((first | refine st_reg ?_ | refine buildP_own ?_ | refine appP_own ?_ | refine callP_b (sd) rfl ?_ | refine callP_b (su) rfl ?_ | refine callP_b (sModuloW (said - t - (elo + X)) 43200 (by omega) (by omega)) rfl ?_) <;> (simp -dsimp [hx, hy]; (repeat (simp -dsimp (disch := (first | omega | assumption | (refine Bool.eq_false_iff.1 ?_; assumption))) only [wrap_in, if_pos, if_neg]; (try simp -dsimp [hx, hy]))))) | ((first | refine guardP_of (fun hc => ?_) (fun hc => ?_) | refine st_cond rfl (fun hc => ?_) (fun hc => ?_)) <;> (try simp only [lqA, lqB, lqC, lqD, lqE, lqF, lqG, lqH, lqI, lqJ, lqK, lqL, lqM, lqN, lqO] at hc) <;> (try (exfalso; first | omega | exact bool_tf hc (by assumption) | exact bool_ft hc (by assumption) | exact absurd (by assumption) hc)) <;> (first | with_reducible show STri _ _ _ _ _ _ | (simp -dsimp [hx, hy, hc]; (repeat (simp -dsimp (disch := (first | omega | assumption | (refine Bool.eq_false_iff.1 ?_; assumption))) only [wrap_in, if_pos, if_neg]; (try simp -dsimp [hx, hy, hc]))))))))
  all_goals (refine CLe.bool ?_; simp_all; try (intros; omega))
def eventR (s : Wsrc) (t elo ehi : Int) : Bool := decide (max 0 (upI (t - s.at' - ehi) s.every) ≤ (t - s.at' - elo) / s.every)
theorem eventV_is {s : Wsrc} (h : eventV s = true) : 0 ≤ s.at' ∧ s.at' ≤ 3155760000 ∧ 1 ≤ s.every ∧ s.every ≤ 3155760000 := by
  unfold eventV within1 at h
  simp at h
  omega
theorem sEventR (s : Wsrc) (hs : eventV s = true) (t said elo ehi : Int) (ht : TSm t said elo ehi) : SC Tryz.prog 165 [cSr s, I t, I said, .agg [I elo, I ehi]] (B (eventR s t elo ehi)) := by
  refine law_wire_event_isRight _ _ (by simp) ?_
  obtain ⟨h1, h2, h3, h4⟩ := eventV_is hs
  obtain ⟨t0, t1, s0, s1, l0, l1, e0, e1⟩ := ht
  unfold eventR
  have sd := sDownW (t - s.at' - elo) s.every (by omega) (by omega) (by omega) (by omega)
  have su := sUpW (t - s.at' - ehi) s.every (by omega) (by omega) (by omega) (by omega)
  generalize hX : (t - s.at' - elo) / s.every = X at *
  generalize hY : upI (t - s.at' - ehi) s.every = Y at *
  (repeat' (first | ((first | with_reducible refine st_skip ?_ | with_reducible refine st_exit ?_); (try simp only [seqQ, blockQ, loopQ, forQ, whileQ, reduceIte, Nat.reduceEqDiff])) | (with_reducible refine st_ret ?_; ((try simp only [seqQ, blockQ, loopQ, forQ, whileQ]); first | (with_reducible refine retM_ret ?_) | refine retQ_ret ?_; simp)) | refine st_seq ?_ | refine st_block ?_ | ((with_reducible show (STri _ _ _ _ _) ∧ (STri _ _ _ _ _)); refine And.intro ?_ ?_) | ((first | refine st_reg ?_ | refine buildP_own ?_ | refine appP_own ?_ | refine callP_b (sd) rfl ?_ | refine callP_b (su) rfl ?_) <;> (simp -dsimp; (repeat (simp -dsimp (disch := (first | omega | assumption | (refine Bool.eq_false_iff.1 ?_; assumption))) only [wrap_in, if_pos, if_neg]; (try simp -dsimp))))) | ((first | refine guardP_of (fun hc => ?_) (fun hc => ?_) | refine st_cond rfl (fun hc => ?_) (fun hc => ?_)) <;> (try simp only [lqA, lqB, lqC, lqD, lqE, lqF, lqG, lqH, lqI, lqJ, lqK, lqL, lqM, lqN, lqO] at hc) <;> (try (exfalso; first | omega | exact bool_tf hc (by assumption) | exact bool_ft hc (by assumption) | exact absurd (by assumption) hc)) <;> (first | with_reducible show STri _ _ _ _ _ _ | (simp -dsimp [hc]; (repeat (simp -dsimp (disch := (first | omega | assumption | (refine Bool.eq_false_iff.1 ?_; assumption))) only [wrap_in, if_pos, if_neg]; (try simp -dsimp [hc]))))))))
  all_goals (refine CLe.bool ?_; rw [Bool.eq_iff_iff]; simp; try omega)
def signalR (t said elo ehi : Int) : Bool := within1 elo ehi (t - said)
theorem sSignalR (s : Wsrc) (t said elo ehi : Int) (ht : TSm t said elo ehi) : SC Tryz.prog 174 [cSr s, I t, I said, .agg [I elo, I ehi]] (B (signalR t said elo ehi)) := by
  refine law_wire_signal_isRight _ _ (by simp) ?_
  obtain ⟨t0, t1, s0, s1, l0, l1, e0, e1⟩ := ht
  (repeat' (first | ((first | with_reducible refine st_skip ?_ | with_reducible refine st_exit ?_); (try simp only [seqQ, blockQ, loopQ, forQ, whileQ, reduceIte, Nat.reduceEqDiff])) | (with_reducible refine st_ret ?_; ((try simp only [seqQ, blockQ, loopQ, forQ, whileQ]); first | (with_reducible refine retM_ret ?_) | refine retQ_ret ?_; simp)) | refine st_seq ?_ | refine st_block ?_ | ((with_reducible show (STri _ _ _ _ _) ∧ (STri _ _ _ _ _)); refine And.intro ?_ ?_) | ((first | refine st_reg ?_ | refine buildP_own ?_ | refine appP_own ?_ | refine callP_b (sWithinW elo ehi [t - said] (by simp)) rfl ?_) <;> (simp -dsimp; (repeat (simp -dsimp (disch := (first | omega | assumption | (refine Bool.eq_false_iff.1 ?_; assumption))) only [wrap_in, if_pos, if_neg]; (try simp -dsimp))))) | ((first | refine guardP_of (fun hc => ?_) (fun hc => ?_) | refine st_cond rfl (fun hc => ?_) (fun hc => ?_)) <;> (try simp only [lqA, lqB, lqC, lqD, lqE, lqF, lqG, lqH, lqI, lqJ, lqK, lqL, lqM, lqN, lqO] at hc) <;> (try (exfalso; first | omega | exact bool_tf hc (by assumption) | exact bool_ft hc (by assumption) | exact absurd (by assumption) hc)) <;> (first | with_reducible show STri _ _ _ _ _ _ | (simp -dsimp [hc]; (repeat (simp -dsimp (disch := (first | omega | assumption | (refine Bool.eq_false_iff.1 ?_; assumption))) only [wrap_in, if_pos, if_neg]; (try simp -dsimp [hc]))))))))
  all_goals (refine CLe.bool ?_; exact allIn_one _ _ _)
end Go.Proofs.YtboifcengmgcaaaGreat
/- Wire, III: suns. -/
namespace Go.Proofs.YtboifcengmgcaaaGreat
open Go.RowKit
def dayLo (t : Int) : Int := max 0 (t / 86400 - 1)
def noonI (s : Wsrc) (d : Int) : Int := d * 86400 + s.table.getD (d % s.table.length).toNat 0
def dayN (t : Int) : Nat := (t / 86400 + 2 - dayLo t).toNat
def dayL (s : Wsrc) (t : Int) : List (Int × Int) := (List.range (dayN t)).map fun (k : Nat) => (dayLo t + k, noonI s (dayLo t + k))
def rowD (x : Int × Int) : List CV := [I x.1, I x.2]
def sunR (s : Wsrc) (t elo ehi : Int) : Bool := (dayL s t).any fun x => within1 elo ehi (t - x.2)
theorem sunV_is {s : Wsrc} (h : sunV s = true) : 1 ≤ s.table.length ∧ s.table.length ≤ 366 ∧ ∀ x ∈ s.table, -3600 ≤ x ∧ x ≤ 3600 := by
  unfold sunV within1 allIn inB at h
  simp at h
  exact ⟨by omega, by omega, h.2⟩
theorem sDays (s : Wsrc) (t : Int) : SC Tryz.prog 172 [cSr s, I t] (.fn 173 [] [.ref [I t], .ref (rowSr s)]) := by
  refine law_wire_sun_days _ _ (by simp) ?_
  (repeat' (first | ((first | with_reducible refine st_skip ?_ | with_reducible refine st_exit ?_); (try simp only [seqQ, blockQ, loopQ, forQ, whileQ, reduceIte, Nat.reduceEqDiff])) | (with_reducible refine st_ret ?_; ((try simp only [seqQ, blockQ, loopQ, forQ, whileQ]); first | (with_reducible refine retM_ret ?_) | refine retQ_ret ?_; simp)) | refine st_seq ?_ | refine st_block ?_ | ((with_reducible show (STri _ _ _ _ _) ∧ (STri _ _ _ _ _)); refine And.intro ?_ ?_) | ((first | refine st_reg ?_ | refine buildP_own ?_ | refine appP_own ?_) <;> (simp -dsimp; (repeat (simp -dsimp (disch := (first | omega | assumption | (refine Bool.eq_false_iff.1 ?_; assumption))) only [wrap_in, if_pos, if_neg]; (try simp -dsimp))))) | ((first | refine guardP_of (fun hc => ?_) (fun hc => ?_) | refine st_cond rfl (fun hc => ?_) (fun hc => ?_)) <;> (try simp only [lqA, lqB, lqC, lqD, lqE, lqF, lqG, lqH, lqI, lqJ, lqK, lqL, lqM, lqN, lqO] at hc) <;> (try (exfalso; first | omega | exact bool_tf hc (by assumption) | exact bool_ft hc (by assumption) | exact absurd (by assumption) hc)) <;> (first | with_reducible show STri _ _ _ _ _ _ | (simp -dsimp [hc]; (repeat (simp -dsimp (disch := (first | omega | assumption | (refine Bool.eq_false_iff.1 ?_; assumption))) only [wrap_in, if_pos, if_neg]; (try simp -dsimp [hc]))))))))
  exact .refl _
theorem iDays (s : Wsrc) (hs : sunV s = true) (t : Int) (h0 : 0 ≤ t) (h1 : t ≤ 10000000000) : IterL Tryz.prog 173 1000 [] [.ref [I t], .ref (rowSr s)] ((dayL s t).map rowD) := by
  obtain ⟨l1, l2, l3⟩ := sunV_is hs
  refine ilaw_wire_sun_days_1 1000 _ _ _ (by omega) (by simp) (fun Iv A G id hG hY => ?_)
  have hlen : ((dayL s t).map rowD).length = dayN t := by simp [dayL]
  have ht : t.tdiv 86400 = t / 86400 := Int.tdiv_eq_ediv_of_nonneg h0
  have hD : dayLo t = max 0 (t / 86400 - 1) := rfl
  have hq0 : 0 ≤ t / 86400 := Int.ediv_nonneg h0 (by omega)
  have hq1 : t / 86400 ≤ 10000000000 := by omega
  have hN : (dayN t : Int) = t / 86400 + 2 - dayLo t := by unfold dayN; omega
  generalize hq : t / 86400 = q at *
  have hmx : (if 1 < q then q - 1 else 0) = dayLo t := by rw [hD]; split <;> omega
  have hd0 : 0 ≤ dayLo t := by omega
  have hd1 : dayLo t ≤ q := by omega
  (repeat' (first | ((first | with_reducible refine st_skip ?_ | with_reducible refine st_exit ?_); (try simp only [seqQ, blockQ, loopQ, forQ, whileQ, reduceIte, Nat.reduceEqDiff])) | (with_reducible refine st_ret ?_; ((try simp only [seqQ, blockQ, loopQ, forQ, whileQ]); first | (with_reducible refine retM_ret ?_) | refine retQ_ret ?_; simp [ht, hmx])) | refine st_seq ?_ | refine st_block ?_ | ((with_reducible show (STri _ _ _ _ _) ∧ (STri _ _ _ _ _)); refine And.intro ?_ ?_) | ((first | refine st_reg ?_ | refine buildP_own ?_ | refine appP_own ?_) <;> (simp -dsimp [ht, hmx]; (repeat (simp -dsimp (disch := (first | omega | assumption | (refine Bool.eq_false_iff.1 ?_; assumption))) only [wrap_in, if_pos, if_neg]; (try simp -dsimp [ht, hmx]))))) | ((first | refine guardP_of (fun hc => ?_) (fun hc => ?_) | refine st_cond rfl (fun hc => ?_) (fun hc => ?_)) <;> (try simp only [lqA, lqB, lqC, lqD, lqE, lqF, lqG, lqH, lqI, lqJ, lqK, lqL, lqM, lqN, lqO] at hc) <;> (try (exfalso; first | omega | exact bool_tf hc (by assumption) | exact bool_ft hc (by assumption) | exact absurd (by assumption) hc)) <;> (first | with_reducible show STri _ _ _ _ _ _ | (simp -dsimp [ht, hmx, hc]; (repeat (simp -dsimp (disch := (first | omega | assumption | (refine Bool.eq_false_iff.1 ?_; assumption))) only [wrap_in, if_pos, if_neg]; (try simp -dsimp [ht, hmx, hc]))))))))
  refine st_for [1000001000] (dayN t) (fun k T H => T = [(0, .yl id), (1, .c (.ref [I t])), (2, .c (.ref (rowSr s))), (4, .c (I (dayLo t + k)))] ∧ H = [(1000001000, .gh k false)]) (by simp) ⟨by simp, by simp⟩ ?_
  rintro k T H hk ⟨rfl, rfl⟩
  by_cases hlt : k < dayN t
  · have hle : dayLo t + k ≤ q + 1 := by omega
    have hrow : ((dayL s t).map rowD)[k]? = some [I (dayLo t + k), I (noonI s (dayLo t + k))] := by simp [dayL, hlt, rowD]
    have hm : (dayLo t + k).tmod s.table.length = (dayLo t + k) % s.table.length := Int.tmod_eq_emod_of_nonneg (by omega)
    have hm0 := Int.emod_nonneg (dayLo t + k) (show (s.table.length : Int) ≠ 0 by omega)
    have hm1 := Int.emod_lt_of_pos (dayLo t + k) (show (0 : Int) < s.table.length by omega)
    have hne : ¬ (s.table.length : Int) = 0 := by omega
    have hne2 : ¬ s.table = [] := fun e => by rw [e] at l1; simp at l1
    generalize hj : (dayLo t + k) % s.table.length = j at *
    have hjl : j.toNat < s.table.length := by omega
    have hx := l3 _ (List.getElem_mem hjl)
    have hno : noonI s (dayLo t + k) = (dayLo t + k) * 86400 + s.table[j.toNat]'hjl := by
      unfold noonI
      rw [hj]
      simp [hjl]
    rw [hno] at hrow
    (repeat' (first | ((first | with_reducible refine st_skip ?_ | with_reducible refine st_exit ?_); (try simp only [seqQ, blockQ, loopQ, forQ, whileQ, reduceIte, Nat.reduceEqDiff])) | (with_reducible refine st_ret ?_; ((try simp only [seqQ, blockQ, loopQ, forQ, whileQ]); first | (with_reducible refine retM_ret ?_) | refine retQ_ret ?_; simp [hle, ht, hq, hm, hm0, hne, hne2, hjl])) | refine st_seq ?_ | refine st_block ?_ | ((with_reducible show (STri _ _ _ _ _) ∧ (STri _ _ _ _ _)); refine And.intro ?_ ?_) | ((first | refine st_reg ?_ | ((with_reducible show callVP _ _ _ _ _ _ _); refine callV_yl (hY k _ hrow) [] (by first | rfl | simp) (fun j hj => by cases hj) rfl ?_ ?_) | refine buildP_own ?_ | refine appP_own ?_) <;> (simp -dsimp [hle, ht, hq, hm, hm0, hne, hne2, hjl]; (repeat (simp -dsimp (disch := (first | omega | assumption | (refine Bool.eq_false_iff.1 ?_; assumption))) only [wrap_in, if_pos, if_neg]; (try simp -dsimp [hle, ht, hq, hm, hm0, hne, hne2, hjl]))))) | ((first | refine guardP_of (fun hc => ?_) (fun hc => ?_) | refine st_cond rfl (fun hc => ?_) (fun hc => ?_)) <;> (try simp only [lqA, lqB, lqC, lqD, lqE, lqF, lqG, lqH, lqI, lqJ, lqK, lqL, lqM, lqN, lqO] at hc) <;> (try (exfalso; first | omega | exact bool_tf hc (by assumption) | exact bool_ft hc (by assumption) | exact absurd (by assumption) hc)) <;> (first | with_reducible show STri _ _ _ _ _ _ | (simp -dsimp [hle, ht, hq, hm, hm0, hne, hne2, hjl, hc]; (repeat (simp -dsimp (disch := (first | omega | assumption | (refine Bool.eq_false_iff.1 ?_; assumption))) only [wrap_in, if_pos, if_neg]; (try simp -dsimp [hle, ht, hq, hm, hm0, hne, hne2, hjl, hc]))))))))
    · exact ⟨hlt, by simp, by simp; omega, by simp⟩
    · exact st_ret ⟨.inr rfl, k + 1, true, rfl, fun h => by cases h⟩
  · have hle : ¬ dayLo t + k ≤ q + 1 := by omega
    (repeat' (first | ((first | with_reducible refine st_skip ?_ | with_reducible refine st_exit ?_); (try simp only [seqQ, blockQ, loopQ, forQ, whileQ, reduceIte, Nat.reduceEqDiff])) | (with_reducible refine st_ret ?_; ((try simp only [seqQ, blockQ, loopQ, forQ, whileQ]); first | (with_reducible refine retM_ret ?_) | refine retQ_ret ?_; simp [hle, ht, hq])) | refine st_seq ?_ | refine st_block ?_ | ((with_reducible show (STri _ _ _ _ _) ∧ (STri _ _ _ _ _)); refine And.intro ?_ ?_) | ((first | refine st_reg ?_ | refine buildP_own ?_ | refine appP_own ?_) <;> (simp -dsimp [hle, ht, hq]; (repeat (simp -dsimp (disch := (first | omega | assumption | (refine Bool.eq_false_iff.1 ?_; assumption))) only [wrap_in, if_pos, if_neg]; (try simp -dsimp [hle, ht, hq]))))) | ((first | refine guardP_of (fun hc => ?_) (fun hc => ?_) | refine st_cond rfl (fun hc => ?_) (fun hc => ?_)) <;> (try simp only [lqA, lqB, lqC, lqD, lqE, lqF, lqG, lqH, lqI, lqJ, lqK, lqL, lqM, lqN, lqO] at hc) <;> (try (exfalso; first | omega | exact bool_tf hc (by assumption) | exact bool_ft hc (by assumption) | exact absurd (by assumption) hc)) <;> (first | with_reducible show STri _ _ _ _ _ _ | (simp -dsimp [hle, ht, hq, hc]; (repeat (simp -dsimp (disch := (first | omega | assumption | (refine Bool.eq_false_iff.1 ?_; assumption))) only [wrap_in, if_pos, if_neg]; (try simp -dsimp [hle, ht, hq, hc]))))))))
    exact ⟨.inl rfl, k, false, rfl, fun _ => by rw [hlen]; omega⟩
def NoSun (s : Wsrc) (t elo ehi : Int) (k : Nat) : Prop := ∀ x ∈ (dayL s t).take k, within1 elo ehi (t - x.2) = false
theorem noon_bd {s : Wsrc} (hs : sunV s = true) (d : Int) (h0 : -100000 ≤ d) (h1 : d ≤ 1000000) : -10000000000 ≤ noonI s d ∧ noonI s d ≤ 100000000000 := by
  obtain ⟨l1, l2, l3⟩ := sunV_is hs
  have : -3600 ≤ s.table.getD (d % s.table.length).toNat 0 ∧ s.table.getD (d % s.table.length).toNat 0 ≤ 3600 := by
    rw [List.getD_eq_getElem?_getD]
    cases h : s.table[(d % s.table.length).toNat]? with
    | none => simp
    | some x => simpa using l3 x (List.mem_of_getElem? h)
  unfold noonI; omega
theorem sSunR (s : Wsrc) (hs : sunV s = true) (t said elo ehi : Int) (h0 : 0 ≤ t) (ht : TSm t said elo ehi) : SC Tryz.prog 169 [cSr s, I t, I said, .agg [I elo, I ehi]] (B (sunR s t elo ehi)) := by
  refine law_wire_sun_isRight _ _ (by simp) ?_
  obtain ⟨t0, t1, s0, s1, l0, l1, e0, e1⟩ := ht
  have hq0 : 0 ≤ t / 86400 := Int.ediv_nonneg h0 (by omega)
  have hq1 : t / 86400 ≤ 1000000 := by omega
  have hD : dayLo t = max 0 (t / 86400 - 1) := rfl
  (repeat' (first | ((first | with_reducible refine st_skip ?_ | with_reducible refine st_exit ?_); (try simp only [seqQ, blockQ, loopQ, forQ, whileQ, reduceIte, Nat.reduceEqDiff])) | (with_reducible refine st_ret ?_; ((try simp only [seqQ, blockQ, loopQ, forQ, whileQ]); first | (with_reducible refine retM_ret ?_) | refine retQ_ret ?_; simp)) | refine st_seq ?_ | refine st_block ?_ | ((with_reducible show (STri _ _ _ _ _) ∧ (STri _ _ _ _ _)); refine And.intro ?_ ?_) | ((first | refine st_reg ?_ | refine buildP_own ?_ | refine appP_own ?_ | refine callP_b (sDays s t) rfl ?_) <;> (simp -dsimp; (repeat (simp -dsimp (disch := (first | omega | assumption | (refine Bool.eq_false_iff.1 ?_; assumption))) only [wrap_in, if_pos, if_neg]; (try simp -dsimp))))) | ((first | refine guardP_of (fun hc => ?_) (fun hc => ?_) | refine st_cond rfl (fun hc => ?_) (fun hc => ?_)) <;> (try simp only [lqA, lqB, lqC, lqD, lqE, lqF, lqG, lqH, lqI, lqJ, lqK, lqL, lqM, lqN, lqO] at hc) <;> (try (exfalso; first | omega | exact bool_tf hc (by assumption) | exact bool_ft hc (by assumption) | exact absurd (by assumption) hc)) <;> (first | with_reducible show STri _ _ _ _ _ _ | (simp -dsimp [hc]; (repeat (simp -dsimp (disch := (first | omega | assumption | (refine Bool.eq_false_iff.1 ?_; assumption))) only [wrap_in, if_pos, if_neg]; (try simp -dsimp [hc]))))))))
  refine st_range (iDays s hs t h0 t1) [5, 7, 8] [] (fun k R => NoSun s t elo ehi k ∧ R = [(5, .box 3 [.c (I t)]), (7, .box 24 [.c (I elo), .c (I ehi)]), (8, .box 4 [.c (B false)])])
    rfl rfl rfl (by kernel_rfl) (by show (0 : Nat) + 1000 ≤ 1000; decide) (fun j hj => by cases hj) (fun row hrow => by obtain ⟨y, _, rfl⟩ := List.mem_map.1 hrow; rfl) (by simp) (by simp) ⟨fun x hx => by simp at hx, by simp⟩ ?_ ?_
  · rintro k row R ⟨hno, rfl⟩ hrow Iv1 G1 hGG hin
    obtain ⟨d, hdk, rfl⟩ : ∃ d, (dayL s t)[k]? = some d ∧ row = rowD d := by
      rw [List.getElem?_map, Option.map_eq_some_iff] at hrow
      obtain ⟨d, h1, h2⟩ := hrow
      exact ⟨d, h1, h2.symm⟩
    have hk : k < (dayL s t).length := (List.getElem?_eq_some_iff.1 hdk).1
    have hkd : (dayL s t)[k] = d := (List.getElem?_eq_some_iff.1 hdk).2
    have hbd : -10000000000 ≤ d.2 ∧ d.2 ≤ 100000000000 := by
      unfold dayL at hdk
      rw [List.getElem?_map, Option.map_eq_some_iff] at hdk
      obtain ⟨i, hi1, rfl⟩ := hdk
      have hi := List.mem_range.1 (List.mem_of_getElem? hi1)
      unfold dayN at hi
      exact noon_bd hs _ (by omega) (by omega)
    obtain ⟨b1, b2⟩ := hbd
    unfold rowD
    (repeat' (first | ((first | with_reducible refine st_skip ?_ | with_reducible refine st_exit ?_); (try simp only [seqQ, blockQ, loopQ, forQ, whileQ, reduceIte, Nat.reduceEqDiff])) | (with_reducible refine st_ret ?_; ((try simp only [seqQ, blockQ, loopQ, forQ, whileQ]); first | (with_reducible refine retM_ret ?_) | refine retQ_ret ?_; simp)) | refine st_seq ?_ | refine st_block ?_ | ((with_reducible show (STri _ _ _ _ _) ∧ (STri _ _ _ _ _)); refine And.intro ?_ ?_) | ((first | refine st_reg ?_ | refine buildP_own ?_ | refine appP_own ?_) <;> (simp -dsimp; (repeat (simp -dsimp (disch := (first | omega | assumption | (refine Bool.eq_false_iff.1 ?_; assumption))) only [wrap_in, if_pos, if_neg]; (try simp -dsimp))))) | ((first | refine guardP_of (fun hc => ?_) (fun hc => ?_) | refine st_cond rfl (fun hc => ?_) (fun hc => ?_)) <;> (try simp only [lqA, lqB, lqC, lqD, lqE, lqF, lqG, lqH, lqI, lqJ, lqK, lqL, lqM, lqN, lqO] at hc) <;> (try (exfalso; first | omega | exact bool_tf hc (by assumption) | exact bool_ft hc (by assumption) | exact absurd (by assumption) hc)) <;> (first | with_reducible show STri _ _ _ _ _ _ | (simp -dsimp [hc]; (repeat (simp -dsimp (disch := (first | omega | assumption | (refine Bool.eq_false_iff.1 ?_; assumption))) only [wrap_in, if_pos, if_neg]; (try simp -dsimp [hc]))))))))
    refine ⟨rfl, fun Iv2 hin2 => ?_⟩
    (repeat' (first | ((first | with_reducible refine st_skip ?_ | with_reducible refine st_exit ?_); (try simp only [seqQ, blockQ, loopQ, forQ, whileQ, reduceIte, Nat.reduceEqDiff])) | (with_reducible refine st_ret ?_; ((try simp only [seqQ, blockQ, loopQ, forQ, whileQ]); first | (with_reducible refine retM_ret ?_) | refine retQ_ret ?_; simp)) | refine st_seq ?_ | refine st_block ?_ | ((with_reducible show (STri _ _ _ _ _) ∧ (STri _ _ _ _ _)); refine And.intro ?_ ?_) | ((first | refine st_reg ?_ | refine buildP_own ?_ | refine appP_own ?_ | refine callP_b (sWithinW elo ehi [t - d.2] (by simp)) rfl ?_) <;> (simp -dsimp; (repeat (simp -dsimp (disch := (first | omega | assumption | (refine Bool.eq_false_iff.1 ?_; assumption))) only [wrap_in, if_pos, if_neg]; (try simp -dsimp))))) | ((first | refine guardP_of (fun hc => ?_) (fun hc => ?_) | refine st_cond rfl (fun hc => ?_) (fun hc => ?_)) <;> (try simp only [lqA, lqB, lqC, lqD, lqE, lqF, lqG, lqH, lqI, lqJ, lqK, lqL, lqM, lqN, lqO] at hc) <;> (try (exfalso; first | omega | exact bool_tf hc (by assumption) | exact bool_ft hc (by assumption) | exact absurd (by assumption) hc)) <;> (first | with_reducible show STri _ _ _ _ _ _ | (simp -dsimp [hc]; (repeat (simp -dsimp (disch := (first | omega | assumption | (refine Bool.eq_false_iff.1 ?_; assumption))) only [wrap_in, if_pos, if_neg]; (try simp -dsimp [hc]))))))))
    · rw [allIn_one] at hc
      refine st_ret ⟨by simp, by simp, ?_⟩
      show retQ _ _ _ _ _
      refine retQ_ret ?_
      simp
      have : sunR s t elo ehi = true := by
        unfold sunR
        rw [List.any_eq_true]
        exact ⟨d, hkd ▸ List.getElem_mem hk, hc⟩
      rw [this]
      exact .refl _
    · rw [allIn_one] at hc
      refine ⟨by simp, by simp, fun x hx => ?_, by simp⟩
      rw [List.take_succ_eq_append_getElem hk, List.mem_append] at hx
      rcases hx with hx | hx
      · exact hno x hx
      · simp only [List.mem_singleton] at hx
        rw [hx, hkd]; exact hc
  · rintro R ⟨hno, rfl⟩
    simp only [blockQ, seqQ]
    have : sunR s t elo ehi = false := by
      unfold sunR
      rw [List.any_eq_false]
      intro x hx
      have := hno x (by rw [List.length_map, List.take_length]; exact hx)
      rw [this]; decide
    rw [this]
    (repeat' (first | ((first | with_reducible refine st_skip ?_ | with_reducible refine st_exit ?_); (try simp only [seqQ, blockQ, loopQ, forQ, whileQ, reduceIte, Nat.reduceEqDiff])) | (with_reducible refine st_ret ?_; ((try simp only [seqQ, blockQ, loopQ, forQ, whileQ]); first | (with_reducible refine retM_ret ?_) | refine retQ_ret ?_; simp)) | refine st_seq ?_ | refine st_block ?_ | ((with_reducible show (STri _ _ _ _ _) ∧ (STri _ _ _ _ _)); refine And.intro ?_ ?_) | ((first | refine st_reg ?_ | refine buildP_own ?_ | refine appP_own ?_) <;> (simp -dsimp; (repeat (simp -dsimp (disch := (first | omega | assumption | (refine Bool.eq_false_iff.1 ?_; assumption))) only [wrap_in, if_pos, if_neg]; (try simp -dsimp))))) | ((first | refine guardP_of (fun hc => ?_) (fun hc => ?_) | refine st_cond rfl (fun hc => ?_) (fun hc => ?_)) <;> (try simp only [lqA, lqB, lqC, lqD, lqE, lqF, lqG, lqH, lqI, lqJ, lqK, lqL, lqM, lqN, lqO] at hc) <;> (try (exfalso; first | omega | exact bool_tf hc (by assumption) | exact bool_ft hc (by assumption) | exact absurd (by assumption) hc)) <;> (first | with_reducible show STri _ _ _ _ _ _ | (simp -dsimp [hc]; (repeat (simp -dsimp (disch := (first | omega | assumption | (refine Bool.eq_false_iff.1 ?_; assumption))) only [wrap_in, if_pos, if_neg]; (try simp -dsimp [hc]))))))))
    exact .refl _
end Go.Proofs.YtboifcengmgcaaaGreat
/- Wire, IV: a source of any kind. -/
namespace Go.Proofs.YtboifcengmgcaaaGreat
open Go.RowKit
def tyK (k : Int) : TypeId := if k = 1 then 166 else if k = 2 then 167 else if k = 3 then 168 else 169
def cI (s : Wsrc) : CV := .ifc (tyK s.kind) (cSr s)
def kindOK (k : Int) : Bool := decide (k = 1) || decide (k = 2) || decide (k = 3) || decide (k = 4)
theorem kind_cases {k : Int} (h : kindOK k = true) : k = 1 ∨ k = 2 ∨ k = 3 ∨ k = 4 := by
  unfold kindOK at h; simp at h; omega
def useV (s : Wsrc) : Bool := if s.kind = 1 then clockV s else if s.kind = 2 then eventV s else if s.kind = 3 then sunV s else true
def saidB (s : Wsrc) (n : Int) : Bool := if s.kind = 1 then within1 0 43199 n else if s.kind = 2 ∨ s.kind = 3 then decide (n = 0) else within1 0 3155760000 n
def rightB (s : Wsrc) (t said elo ehi : Int) : Bool := if s.kind = 1 then clockR s t said elo ehi else if s.kind = 2 then eventR s t elo ehi else if s.kind = 3 then sunR s t elo ehi else signalR t said elo ehi
theorem mValid (s : Wsrc) (hk : kindOK s.kind = true) (hl : s.table.length ≤ 1000000) : MethS Tryz.prog "turret/wire.isValid" (tyK s.kind) (cSr s) [] (B (useV s)) := by
  unfold useV tyK
  rcases kind_cases hk with h | h | h | h <;> rw [h]
  · exact ⟨_, by kernel_rfl, by kernel_rfl, sClockV s⟩
  · exact ⟨_, by kernel_rfl, by kernel_rfl, sEventV s⟩
  · exact ⟨_, by kernel_rfl, by kernel_rfl, sSunV s hl⟩
  · exact ⟨_, by kernel_rfl, by kernel_rfl, sSignalV s⟩
theorem mSaid (s : Wsrc) (hk : kindOK s.kind = true) (n : Int) : MethS Tryz.prog "turret/wire.isSaid" (tyK s.kind) (cSr s) [I n] (B (saidB s n)) := by
  unfold saidB tyK
  rcases kind_cases hk with h | h | h | h <;> rw [h]
  · exact ⟨_, by kernel_rfl, by kernel_rfl, sClockS s n⟩
  · exact ⟨_, by kernel_rfl, by kernel_rfl, sEventS s n⟩
  · exact ⟨_, by kernel_rfl, by kernel_rfl, sSunS s n⟩
  · exact ⟨_, by kernel_rfl, by kernel_rfl, sSignalS s n⟩
theorem mRight (s : Wsrc) (hk : kindOK s.kind = true) (hu : useV s = true) (t said elo ehi : Int) (h0 : 0 ≤ t) (ht : TSm t said elo ehi) :
    MethS Tryz.prog "turret/wire.isRight" (tyK s.kind) (cSr s) [I t, I said, .agg [I elo, I ehi]] (B (rightB s t said elo ehi)) := by
  unfold rightB tyK
  unfold useV at hu
  rcases kind_cases hk with h | h | h | h <;> rw [h] at hu ⊢
  · exact ⟨_, by kernel_rfl, by kernel_rfl, sClockR s hu t said elo ehi ht⟩
  · exact ⟨_, by kernel_rfl, by kernel_rfl, sEventR s hu t said elo ehi ht⟩
  · exact ⟨_, by kernel_rfl, by kernel_rfl, sSunR s hu t said elo ehi h0 ht⟩
  · exact ⟨_, by kernel_rfl, by kernel_rfl, sSignalR s t said elo ehi ht⟩
def kindsM : List (List Int × CV) := [([1], .fn 90 [] []), ([2], .fn 91 [] []), ([3], .fn 92 [] []), ([4], .fn 93 [] [])]
theorem sKinds : SC Tryz.prog 73 [] (.map false .i64 kindsM) := by
  refine law_wire_kinds _ _ (by simp) ?_
  unfold kindsM
  (repeat' (first | ((first | with_reducible refine st_skip ?_ | with_reducible refine st_exit ?_); (try simp only [seqQ, blockQ, loopQ, forQ, whileQ, reduceIte, Nat.reduceEqDiff])) | (with_reducible refine st_ret ?_; ((try simp only [seqQ, blockQ, loopQ, forQ, whileQ]); first | (with_reducible refine retM_ret ?_) | refine retQ_ret ?_; simp)) | refine st_seq ?_ | refine st_block ?_ | ((with_reducible show (STri _ _ _ _ _) ∧ (STri _ _ _ _ _)); refine And.intro ?_ ?_) | ((first | refine st_reg ?_ | refine buildP_own ?_ | refine appP_own ?_) <;> (simp -dsimp; (repeat (simp -dsimp (disch := (first | omega | assumption | (refine Bool.eq_false_iff.1 ?_; assumption))) only [wrap_in, if_pos, if_neg]; (try simp -dsimp))))) | ((first | refine guardP_of (fun hc => ?_) (fun hc => ?_) | refine st_cond rfl (fun hc => ?_) (fun hc => ?_)) <;> (try simp only [lqA, lqB, lqC, lqD, lqE, lqF, lqG, lqH, lqI, lqJ, lqK, lqL, lqM, lqN, lqO] at hc) <;> (try (exfalso; first | omega | exact bool_tf hc (by assumption) | exact bool_ft hc (by assumption) | exact absurd (by assumption) hc)) <;> (first | with_reducible show STri _ _ _ _ _ _ | (simp -dsimp [hc]; (repeat (simp -dsimp (disch := (first | omega | assumption | (refine Bool.eq_false_iff.1 ?_; assumption))) only [wrap_in, if_pos, if_neg]; (try simp -dsimp [hc]))))))))
  exact .refl _
theorem sKind1 (s : Wsrc) : SC Tryz.prog 90 [cSr s] (.ifc (tyK 1) (cSr s)) := by
  refine law_wire_kinds_1 _ _ (by simp) ?_
  (repeat' (first | ((first | with_reducible refine st_skip ?_ | with_reducible refine st_exit ?_); (try simp only [seqQ, blockQ, loopQ, forQ, whileQ, reduceIte, Nat.reduceEqDiff])) | (with_reducible refine st_ret ?_; ((try simp only [seqQ, blockQ, loopQ, forQ, whileQ]); first | (with_reducible refine retM_ret ?_) | refine retQ_ret ?_; simp)) | refine st_seq ?_ | refine st_block ?_ | ((with_reducible show (STri _ _ _ _ _) ∧ (STri _ _ _ _ _)); refine And.intro ?_ ?_) | ((first | refine st_reg ?_ | refine buildP_own ?_ | refine appP_own ?_) <;> (simp -dsimp; (repeat (simp -dsimp (disch := (first | omega | assumption | (refine Bool.eq_false_iff.1 ?_; assumption))) only [wrap_in, if_pos, if_neg]; (try simp -dsimp))))) | ((first | refine guardP_of (fun hc => ?_) (fun hc => ?_) | refine st_cond rfl (fun hc => ?_) (fun hc => ?_)) <;> (try simp only [lqA, lqB, lqC, lqD, lqE, lqF, lqG, lqH, lqI, lqJ, lqK, lqL, lqM, lqN, lqO] at hc) <;> (try (exfalso; first | omega | exact bool_tf hc (by assumption) | exact bool_ft hc (by assumption) | exact absurd (by assumption) hc)) <;> (first | with_reducible show STri _ _ _ _ _ _ | (simp -dsimp [hc]; (repeat (simp -dsimp (disch := (first | omega | assumption | (refine Bool.eq_false_iff.1 ?_; assumption))) only [wrap_in, if_pos, if_neg]; (try simp -dsimp [hc]))))))))
  exact .refl _
theorem sKind2 (s : Wsrc) : SC Tryz.prog 91 [cSr s] (.ifc (tyK 2) (cSr s)) := by
  refine law_wire_kinds_2 _ _ (by simp) ?_
  (repeat' (first | ((first | with_reducible refine st_skip ?_ | with_reducible refine st_exit ?_); (try simp only [seqQ, blockQ, loopQ, forQ, whileQ, reduceIte, Nat.reduceEqDiff])) | (with_reducible refine st_ret ?_; ((try simp only [seqQ, blockQ, loopQ, forQ, whileQ]); first | (with_reducible refine retM_ret ?_) | refine retQ_ret ?_; simp)) | refine st_seq ?_ | refine st_block ?_ | ((with_reducible show (STri _ _ _ _ _) ∧ (STri _ _ _ _ _)); refine And.intro ?_ ?_) | ((first | refine st_reg ?_ | refine buildP_own ?_ | refine appP_own ?_) <;> (simp -dsimp; (repeat (simp -dsimp (disch := (first | omega | assumption | (refine Bool.eq_false_iff.1 ?_; assumption))) only [wrap_in, if_pos, if_neg]; (try simp -dsimp))))) | ((first | refine guardP_of (fun hc => ?_) (fun hc => ?_) | refine st_cond rfl (fun hc => ?_) (fun hc => ?_)) <;> (try simp only [lqA, lqB, lqC, lqD, lqE, lqF, lqG, lqH, lqI, lqJ, lqK, lqL, lqM, lqN, lqO] at hc) <;> (try (exfalso; first | omega | exact bool_tf hc (by assumption) | exact bool_ft hc (by assumption) | exact absurd (by assumption) hc)) <;> (first | with_reducible show STri _ _ _ _ _ _ | (simp -dsimp [hc]; (repeat (simp -dsimp (disch := (first | omega | assumption | (refine Bool.eq_false_iff.1 ?_; assumption))) only [wrap_in, if_pos, if_neg]; (try simp -dsimp [hc]))))))))
  exact .refl _
theorem sKind3 (s : Wsrc) : SC Tryz.prog 92 [cSr s] (.ifc (tyK 3) (cSr s)) := by
  refine law_wire_kinds_3 _ _ (by simp) ?_
  (repeat' (first | ((first | with_reducible refine st_skip ?_ | with_reducible refine st_exit ?_); (try simp only [seqQ, blockQ, loopQ, forQ, whileQ, reduceIte, Nat.reduceEqDiff])) | (with_reducible refine st_ret ?_; ((try simp only [seqQ, blockQ, loopQ, forQ, whileQ]); first | (with_reducible refine retM_ret ?_) | refine retQ_ret ?_; simp)) | refine st_seq ?_ | refine st_block ?_ | ((with_reducible show (STri _ _ _ _ _) ∧ (STri _ _ _ _ _)); refine And.intro ?_ ?_) | ((first | refine st_reg ?_ | refine buildP_own ?_ | refine appP_own ?_) <;> (simp -dsimp; (repeat (simp -dsimp (disch := (first | omega | assumption | (refine Bool.eq_false_iff.1 ?_; assumption))) only [wrap_in, if_pos, if_neg]; (try simp -dsimp))))) | ((first | refine guardP_of (fun hc => ?_) (fun hc => ?_) | refine st_cond rfl (fun hc => ?_) (fun hc => ?_)) <;> (try simp only [lqA, lqB, lqC, lqD, lqE, lqF, lqG, lqH, lqI, lqJ, lqK, lqL, lqM, lqN, lqO] at hc) <;> (try (exfalso; first | omega | exact bool_tf hc (by assumption) | exact bool_ft hc (by assumption) | exact absurd (by assumption) hc)) <;> (first | with_reducible show STri _ _ _ _ _ _ | (simp -dsimp [hc]; (repeat (simp -dsimp (disch := (first | omega | assumption | (refine Bool.eq_false_iff.1 ?_; assumption))) only [wrap_in, if_pos, if_neg]; (try simp -dsimp [hc]))))))))
  exact .refl _
theorem sKind4 (s : Wsrc) : SC Tryz.prog 93 [cSr s] (.ifc (tyK 4) (cSr s)) := by
  refine law_wire_kinds_4 _ _ (by simp) ?_
  (repeat' (first | ((first | with_reducible refine st_skip ?_ | with_reducible refine st_exit ?_); (try simp only [seqQ, blockQ, loopQ, forQ, whileQ, reduceIte, Nat.reduceEqDiff])) | (with_reducible refine st_ret ?_; ((try simp only [seqQ, blockQ, loopQ, forQ, whileQ]); first | (with_reducible refine retM_ret ?_) | refine retQ_ret ?_; simp)) | refine st_seq ?_ | refine st_block ?_ | ((with_reducible show (STri _ _ _ _ _) ∧ (STri _ _ _ _ _)); refine And.intro ?_ ?_) | ((first | refine st_reg ?_ | refine buildP_own ?_ | refine appP_own ?_) <;> (simp -dsimp; (repeat (simp -dsimp (disch := (first | omega | assumption | (refine Bool.eq_false_iff.1 ?_; assumption))) only [wrap_in, if_pos, if_neg]; (try simp -dsimp))))) | ((first | refine guardP_of (fun hc => ?_) (fun hc => ?_) | refine st_cond rfl (fun hc => ?_) (fun hc => ?_)) <;> (try simp only [lqA, lqB, lqC, lqD, lqE, lqF, lqG, lqH, lqI, lqJ, lqK, lqL, lqM, lqN, lqO] at hc) <;> (try (exfalso; first | omega | exact bool_tf hc (by assumption) | exact bool_ft hc (by assumption) | exact absurd (by assumption) hc)) <;> (first | with_reducible show STri _ _ _ _ _ _ | (simp -dsimp [hc]; (repeat (simp -dsimp (disch := (first | omega | assumption | (refine Bool.eq_false_iff.1 ?_; assumption))) only [wrap_in, if_pos, if_neg]; (try simp -dsimp [hc]))))))))
  exact .refl _
end Go.Proofs.YtboifcengmgcaaaGreat
/- Wire, V: sources are made. -/
namespace Go.Proofs.YtboifcengmgcaaaGreat
open Go.RowKit
def baseV (s : Wsrc) : Bool := kindOK s.kind && spanW s.elo s.ehi 3600
def validV (s : Wsrc) : Bool := baseV s && useV s
def srcX (s : Wsrc) : CV := if baseV s = true then cI s else .val .nilIface
theorem findK1 : kindsM.find? (fun p => p.1 == [1]) = some ([1], .fn 90 [] []) := rfl
theorem findK2 : kindsM.find? (fun p => p.1 == [2]) = some ([2], .fn 91 [] []) := rfl
theorem findK3 : kindsM.find? (fun p => p.1 == [3]) = some ([3], .fn 92 [] []) := rfl
theorem findK4 : kindsM.find? (fun p => p.1 == [4]) = some ([4], .fn 93 [] []) := rfl
theorem findK0 {k : Int} (h : ¬ kindOK k = true) : kindsM.find? (fun p => p.1 == [k]) = none := by
  unfold kindOK at h
  simp at h
  unfold kindsM
  have a1 : ¬ 1 = k := fun e => by omega
  have a2 : ¬ 2 = k := fun e => by omega
  have a3 : ¬ 3 = k := fun e => by omega
  have a4 : ¬ 4 = k := fun e => by omega
  simp [a1, a2, a3, a4]
theorem sNewSource (s : Wsrc) (hl : s.table.length ≤ 1000000) : SC Tryz.prog 47 [cSr s] (.tup [srcX s, B (validV s)]) := by
  refine law_wire_newSource _ _ (by simp) ?_
  have hs := sIsSpanW s.elo s.ehi 3600 (by omega) (by omega)
  by_cases hk : kindOK s.kind = true
  · have hm := mValid s hk hl
    have hv : validV s = (spanW s.elo s.ehi 3600 && useV s) := by unfold validV baseV; rw [hk]; rfl
    have hx : srcX s = if spanW s.elo s.ehi 3600 = true then .ifc (tyK s.kind) (cSr s) else .val .nilIface := by unfold srcX baseV cI; rw [hk]; simp
    rw [hv, hx]
    generalize spanW s.elo s.ehi 3600 = sp at *
    generalize useV s = uv at *
    obtain ⟨kind, elo, ehi, at', dlo, dhi, every, table⟩ := s
    simp only at hk hl
    rcases kind_cases hk with h | h | h | h <;> subst h
    · (repeat' (first | ((first | with_reducible refine st_skip ?_ | with_reducible refine st_exit ?_); (try simp only [seqQ, blockQ, loopQ, forQ, whileQ, reduceIte, Nat.reduceEqDiff])) | (with_reducible refine st_ret ?_; ((try simp only [seqQ, blockQ, loopQ, forQ, whileQ]); first | (with_reducible refine retM_ret ?_) | refine retQ_ret ?_; simp [findK1])) | refine st_seq ?_ | refine st_block ?_ | ((with_reducible show (STri _ _ _ _ _) ∧ (STri _ _ _ _ _)); refine And.intro ?_ ?_) | ((first | refine st_reg ?_ | ((with_reducible show callVP _ _ _ _ _ _ _); refine callV_b (by first | exact Ent.h (by assumption) | kernel_rfl) (sKind1 ⟨1, elo, ehi, at', dlo, dhi, every, table⟩) rfl ?_) | refine buildP_own ?_ | refine appP_own ?_ | ((with_reducible show callIP _ _ _ _ _ _ _); refine callI_m (hm) rfl ?_) | refine callP_b (sKinds) rfl ?_ | refine callP_b (hs) rfl ?_) <;> (simp -dsimp [findK1]; (repeat (simp -dsimp (disch := (first | omega | assumption | (refine Bool.eq_false_iff.1 ?_; assumption))) only [wrap_in, if_pos, if_neg]; (try simp -dsimp [findK1]))))) | ((first | refine guardP_of (fun hc => ?_) (fun hc => ?_) | refine st_cond rfl (fun hc => ?_) (fun hc => ?_)) <;> (try simp only [lqA, lqB, lqC, lqD, lqE, lqF, lqG, lqH, lqI, lqJ, lqK, lqL, lqM, lqN, lqO] at hc) <;> (try (exfalso; first | omega | exact bool_tf hc (by assumption) | exact bool_ft hc (by assumption) | exact absurd (by assumption) hc)) <;> (first | with_reducible show STri _ _ _ _ _ _ | (simp -dsimp [findK1, hc]; (repeat (simp -dsimp (disch := (first | omega | assumption | (refine Bool.eq_false_iff.1 ?_; assumption))) only [wrap_in, if_pos, if_neg]; (try simp -dsimp [findK1, hc]))))))))
      all_goals (subst hc; first | exact .refl _ | (simp; exact .refl _))
    · (repeat' (first | ((first | with_reducible refine st_skip ?_ | with_reducible refine st_exit ?_); (try simp only [seqQ, blockQ, loopQ, forQ, whileQ, reduceIte, Nat.reduceEqDiff])) | (with_reducible refine st_ret ?_; ((try simp only [seqQ, blockQ, loopQ, forQ, whileQ]); first | (with_reducible refine retM_ret ?_) | refine retQ_ret ?_; simp [findK2])) | refine st_seq ?_ | refine st_block ?_ | ((with_reducible show (STri _ _ _ _ _) ∧ (STri _ _ _ _ _)); refine And.intro ?_ ?_) | ((first | refine st_reg ?_ | ((with_reducible show callVP _ _ _ _ _ _ _); refine callV_b (by first | exact Ent.h (by assumption) | kernel_rfl) (sKind2 ⟨2, elo, ehi, at', dlo, dhi, every, table⟩) rfl ?_) | refine buildP_own ?_ | refine appP_own ?_ | ((with_reducible show callIP _ _ _ _ _ _ _); refine callI_m (hm) rfl ?_) | refine callP_b (sKinds) rfl ?_ | refine callP_b (hs) rfl ?_) <;> (simp -dsimp [findK2]; (repeat (simp -dsimp (disch := (first | omega | assumption | (refine Bool.eq_false_iff.1 ?_; assumption))) only [wrap_in, if_pos, if_neg]; (try simp -dsimp [findK2]))))) | ((first | refine guardP_of (fun hc => ?_) (fun hc => ?_) | refine st_cond rfl (fun hc => ?_) (fun hc => ?_)) <;> (try simp only [lqA, lqB, lqC, lqD, lqE, lqF, lqG, lqH, lqI, lqJ, lqK, lqL, lqM, lqN, lqO] at hc) <;> (try (exfalso; first | omega | exact bool_tf hc (by assumption) | exact bool_ft hc (by assumption) | exact absurd (by assumption) hc)) <;> (first | with_reducible show STri _ _ _ _ _ _ | (simp -dsimp [findK2, hc]; (repeat (simp -dsimp (disch := (first | omega | assumption | (refine Bool.eq_false_iff.1 ?_; assumption))) only [wrap_in, if_pos, if_neg]; (try simp -dsimp [findK2, hc]))))))))
      all_goals (subst hc; first | exact .refl _ | (simp; exact .refl _))
    · (repeat' (first | ((first | with_reducible refine st_skip ?_ | with_reducible refine st_exit ?_); (try simp only [seqQ, blockQ, loopQ, forQ, whileQ, reduceIte, Nat.reduceEqDiff])) | (with_reducible refine st_ret ?_; ((try simp only [seqQ, blockQ, loopQ, forQ, whileQ]); first | (with_reducible refine retM_ret ?_) | refine retQ_ret ?_; simp [findK3])) | refine st_seq ?_ | refine st_block ?_ | ((with_reducible show (STri _ _ _ _ _) ∧ (STri _ _ _ _ _)); refine And.intro ?_ ?_) | ((first | refine st_reg ?_ | ((with_reducible show callVP _ _ _ _ _ _ _); refine callV_b (by first | exact Ent.h (by assumption) | kernel_rfl) (sKind3 ⟨3, elo, ehi, at', dlo, dhi, every, table⟩) rfl ?_) | refine buildP_own ?_ | refine appP_own ?_ | ((with_reducible show callIP _ _ _ _ _ _ _); refine callI_m (hm) rfl ?_) | refine callP_b (sKinds) rfl ?_ | refine callP_b (hs) rfl ?_) <;> (simp -dsimp [findK3]; (repeat (simp -dsimp (disch := (first | omega | assumption | (refine Bool.eq_false_iff.1 ?_; assumption))) only [wrap_in, if_pos, if_neg]; (try simp -dsimp [findK3]))))) | ((first | refine guardP_of (fun hc => ?_) (fun hc => ?_) | refine st_cond rfl (fun hc => ?_) (fun hc => ?_)) <;> (try simp only [lqA, lqB, lqC, lqD, lqE, lqF, lqG, lqH, lqI, lqJ, lqK, lqL, lqM, lqN, lqO] at hc) <;> (try (exfalso; first | omega | exact bool_tf hc (by assumption) | exact bool_ft hc (by assumption) | exact absurd (by assumption) hc)) <;> (first | with_reducible show STri _ _ _ _ _ _ | (simp -dsimp [findK3, hc]; (repeat (simp -dsimp (disch := (first | omega | assumption | (refine Bool.eq_false_iff.1 ?_; assumption))) only [wrap_in, if_pos, if_neg]; (try simp -dsimp [findK3, hc]))))))))
      all_goals (subst hc; first | exact .refl _ | (simp; exact .refl _))
    · (repeat' (first | ((first | with_reducible refine st_skip ?_ | with_reducible refine st_exit ?_); (try simp only [seqQ, blockQ, loopQ, forQ, whileQ, reduceIte, Nat.reduceEqDiff])) | (with_reducible refine st_ret ?_; ((try simp only [seqQ, blockQ, loopQ, forQ, whileQ]); first | (with_reducible refine retM_ret ?_) | refine retQ_ret ?_; simp [findK4])) | refine st_seq ?_ | refine st_block ?_ | ((with_reducible show (STri _ _ _ _ _) ∧ (STri _ _ _ _ _)); refine And.intro ?_ ?_) | ((first | refine st_reg ?_ | ((with_reducible show callVP _ _ _ _ _ _ _); refine callV_b (by first | exact Ent.h (by assumption) | kernel_rfl) (sKind4 ⟨4, elo, ehi, at', dlo, dhi, every, table⟩) rfl ?_) | refine buildP_own ?_ | refine appP_own ?_ | ((with_reducible show callIP _ _ _ _ _ _ _); refine callI_m (hm) rfl ?_) | refine callP_b (sKinds) rfl ?_ | refine callP_b (hs) rfl ?_) <;> (simp -dsimp [findK4]; (repeat (simp -dsimp (disch := (first | omega | assumption | (refine Bool.eq_false_iff.1 ?_; assumption))) only [wrap_in, if_pos, if_neg]; (try simp -dsimp [findK4]))))) | ((first | refine guardP_of (fun hc => ?_) (fun hc => ?_) | refine st_cond rfl (fun hc => ?_) (fun hc => ?_)) <;> (try simp only [lqA, lqB, lqC, lqD, lqE, lqF, lqG, lqH, lqI, lqJ, lqK, lqL, lqM, lqN, lqO] at hc) <;> (try (exfalso; first | omega | exact bool_tf hc (by assumption) | exact bool_ft hc (by assumption) | exact absurd (by assumption) hc)) <;> (first | with_reducible show STri _ _ _ _ _ _ | (simp -dsimp [findK4, hc]; (repeat (simp -dsimp (disch := (first | omega | assumption | (refine Bool.eq_false_iff.1 ?_; assumption))) only [wrap_in, if_pos, if_neg]; (try simp -dsimp [findK4, hc]))))))))
      all_goals (subst hc; first | exact .refl _ | (simp; exact .refl _))
  · have hb : baseV s = false := by unfold baseV; simp [hk]
    have hv : validV s = false := by unfold validV; rw [hb]; rfl
    have hx : srcX s = .val .nilIface := by unfold srcX; rw [hb]; rfl
    have hg2 := findK0 hk
    rw [hv, hx]
    (repeat' (first | ((first | with_reducible refine st_skip ?_ | with_reducible refine st_exit ?_); (try simp only [seqQ, blockQ, loopQ, forQ, whileQ, reduceIte, Nat.reduceEqDiff])) | (with_reducible refine st_ret ?_; ((try simp only [seqQ, blockQ, loopQ, forQ, whileQ]); first | (with_reducible refine retM_ret ?_) | refine retQ_ret ?_; simp [hg2])) | refine st_seq ?_ | refine st_block ?_ | ((with_reducible show (STri _ _ _ _ _) ∧ (STri _ _ _ _ _)); refine And.intro ?_ ?_) | ((first | refine st_reg ?_ | refine buildP_own ?_ | refine appP_own ?_ | refine callP_b (sKinds) rfl ?_) <;> (simp -dsimp [hg2]; (repeat (simp -dsimp (disch := (first | omega | assumption | (refine Bool.eq_false_iff.1 ?_; assumption))) only [wrap_in, if_pos, if_neg]; (try simp -dsimp [hg2]))))) | ((first | refine guardP_of (fun hc => ?_) (fun hc => ?_) | refine st_cond rfl (fun hc => ?_) (fun hc => ?_)) <;> (try simp only [lqA, lqB, lqC, lqD, lqE, lqF, lqG, lqH, lqI, lqJ, lqK, lqL, lqM, lqN, lqO] at hc) <;> (try (exfalso; first | omega | exact bool_tf hc (by assumption) | exact bool_ft hc (by assumption) | exact absurd (by assumption) hc)) <;> (first | with_reducible show STri _ _ _ _ _ _ | (simp -dsimp [hg2, hc]; (repeat (simp -dsimp (disch := (first | omega | assumption | (refine Bool.eq_false_iff.1 ?_; assumption))) only [wrap_in, if_pos, if_neg]; (try simp -dsimp [hg2, hc]))))))))
    exact .refl _
end Go.Proofs.YtboifcengmgcaaaGreat
/- Wire, VI: books. -/
namespace Go.Proofs.YtboifcengmgcaaaGreat
open Go.RowKit
structure Wbk where
  (srcs : List Wsrc) (errs : List (Int × Int)) (notes : List Wnt) (nlo nhi : Int)
def rowS (s : Wsrc) : List CV := [cI s]
def rowE (e : Int × Int) : List CV := [I e.1, I e.2]
def rowBk (b : Wbk) : List CV := [.sl 1 (b.srcs.map rowS), .sl 2 (b.errs.map rowE), slN b.notes, I b.nlo, I b.nhi]
def cBk (b : Wbk) : CV := .agg (rowBk b)
attribute [simp] rowS rowE rowBk cBk cI
def errOf (s : Wsrc) : Int × Int := (s.elo, s.ehi)
def bare (w : List Wsrc) : Wbk := ⟨w, w.map errOf, [], 0, 0⟩
def sizeW (w : List Wsrc) : Bool := within1 1 10 w.length
def noteErr (w : List Wsrc) (n : Wnt) : Int :=
  if within1 0 (w.length - 1) n.src = true then (if within1 0 3155760000 n.tick = true ∧ (w.map fun s => saidB s n.said).getD n.src.toNat false = true then 0 else 2) else 7
def notesErr (w : List Wsrc) (l : List Wnt) : Int := match l.find? (fun n => decide (noteErr w n ≠ 0)) with
  | some n => noteErr w n
  | none => 0
def newErr (w : List Wsrc) (l : List Wnt) (nlo nhi : Int) : Int :=
  if ¬ sizeW w = true then 2 else if ¬ w.all validV = true then 2 else if 60 < l.length then 5 else if ¬ notesErr w l = 0 then notesErr w l else if spanW nlo nhi 7200 = true then 0 else 3
def newBk (w : List Wsrc) (l : List Wnt) (nlo nhi : Int) : Wbk :=
  if ¬ sizeW w = true then bare [] else if ¬ w.all validV = true then bare (w.takeWhile validV) else if newErr w l nlo nhi = 0 then ⟨w, w.map errOf, l, nlo, nhi⟩ else bare w
def AllV (w : List Wsrc) (k : Nat) : Prop := ∀ s ∈ w.take k, validV s = true
theorem allV_succ {w : List Wsrc} {k : Nat} (hlt : k < w.length) (h : AllV w k) (hv : validV w[k] = true) : AllV w (k + 1) := fun s hs => by
  rw [List.take_succ_eq_append_getElem hlt, List.mem_append] at hs
  rcases hs with hs | hs
  · exact h s hs
  · simp at hs; rw [hs]; exact hv
theorem allV_all {w : List Wsrc} (h : AllV w w.length) : w.all validV = true := List.all_eq_true.2 fun s hs => h s (by rw [List.take_length]; exact hs)
theorem allV_stop : ∀ {w : List Wsrc} {k : Nat} (hlt : k < w.length), AllV w k → validV w[k] = false → w.takeWhile validV = w.take k ∧ ¬ w.all validV = true
  | s :: w, 0, _, _, hv => by
    have : validV s = false := hv
    simp [this]
  | s :: w, k + 1, hlt, h, hv => by
    have h1 : validV s = true := h s (by simp)
    obtain ⟨e1, e2⟩ := allV_stop (w := w) (k := k) (by simpa using hlt) (fun x hx => h x (by simp [hx])) (by simpa using hv)
    exact ⟨by simp [h1, e1], by simp only [List.all_cons, h1, Bool.true_and]; exact e2⟩
theorem valid_X {s : Wsrc} (h : validV s = true) : srcX s = cI s := by
  unfold validV at h
  unfold srcX
  rw [if_pos (by simp at h; exact h.1)]
def NotesTo (w : List Wsrc) (l : List Wnt) (k : Nat) : Prop := ∀ n ∈ l.take k, noteErr w n = 0
theorem notes_succ {w : List Wsrc} {l : List Wnt} {k : Nat} (hlt : k < l.length) (h : NotesTo w l k) (hv : noteErr w l[k] = 0) : NotesTo w l (k + 1) := fun s hs => by
  rw [List.take_succ_eq_append_getElem hlt, List.mem_append] at hs
  rcases hs with hs | hs
  · exact h s hs
  · simp at hs; rw [hs]; exact hv
theorem notes_all {w : List Wsrc} {l : List Wnt} (h : NotesTo w l l.length) : notesErr w l = 0 := by
  unfold notesErr
  rw [List.find?_eq_none.2 (fun n hn => by simpa using h n (by rw [List.take_length]; exact hn))]
theorem notes_stop : ∀ {w : List Wsrc} {l : List Wnt} {k : Nat} (hlt : k < l.length), NotesTo w l k → ¬ noteErr w l[k] = 0 → notesErr w l = noteErr w l[k]
  | w, n :: l, 0, _, _, hv => by
    unfold notesErr
    have : ¬ noteErr w n = 0 := hv
    simp [this]
  | w, n :: l, k + 1, hlt, h, hv => by
    have h1 : noteErr w n = 0 := h n (by simp)
    have ih := notes_stop (w := w) (l := l) (k := k) (by simpa using hlt) (fun x hx => h x (by simp [hx])) (by simpa using hv)
    unfold notesErr at ih ⊢
    simp [h1] at ih ⊢
    exact ih
theorem take_map_succ {α β : Type} (f : α → β) {w : List α} {k : Nat} (hlt : k < w.length) : (w.map f).take (k + 1) = (w.map f).take k ++ [f w[k]] := by
  rw [List.take_succ_eq_append_getElem (by simpa using hlt), List.getElem_map]
structure WLen (w : List Wsrc) : Prop where
  h : ∀ s ∈ w, s.table.length ≤ 1000000
theorem sNewBook (w : List Wsrc) (hw : WLen w) (l : List Wnt) (hl : l.length ≤ 1000000) (nlo nhi : Int) :
    SC Tryz.prog 24 [slSr w, slN l, .agg [I nlo, I nhi]] (.tup [cBk (newBk w l nlo nhi), I (newErr w l nlo nhi)]) := by
  refine law_wire_newBook _ _ (by simp) ?_
  have s1 := sWithinW 1 10 [(w.length : Int)] (by simp)
  rw [allIn_one] at s1
  change SC _ _ _ (B (sizeW w)) at s1
  by_cases hz : sizeW w = true
  case neg =>
    have e1 : newBk w l nlo nhi = bare [] := by unfold newBk; rw [if_pos hz]
    have e2 : newErr w l nlo nhi = 2 := by unfold newErr; rw [if_pos hz]
    rw [e1, e2]
    unfold bare
    (repeat' (first | (refine st_nilB 6 0 200 119 1 rfl (by simp) rfl (by simp [newOK]) ?_) | (refine st_nilB 6 1 201 24 2 rfl (by simp) rfl (by simp [newOK]) ?_) | (refine st_nilB 6 2 202 43 3 rfl (by simp) rfl (by simp [newOK]) ?_) | ((first | with_reducible refine st_skip ?_ | with_reducible refine st_exit ?_); (try simp only [seqQ, blockQ, loopQ, forQ, whileQ, reduceIte, Nat.reduceEqDiff])) | (with_reducible refine st_ret ?_; ((try simp only [seqQ, blockQ, loopQ, forQ, whileQ]); first | (with_reducible refine retM_ret ?_) | refine retQ_ret ?_; simp [hz])) | refine st_seq ?_ | refine st_block ?_ | ((with_reducible show (STri _ _ _ _ _) ∧ (STri _ _ _ _ _)); refine And.intro ?_ ?_) | ((first | refine st_reg ?_ | refine buildP_own ?_ | refine appP_own ?_ | refine callP_b (s1) rfl ?_) <;> (simp -dsimp [hz]; (repeat (simp -dsimp (disch := (first | omega | assumption | (refine Bool.eq_false_iff.1 ?_; assumption))) only [wrap_in, if_pos, if_neg]; (try simp -dsimp [hz]))))) | ((first | refine guardP_of (fun hc => ?_) (fun hc => ?_) | refine st_cond rfl (fun hc => ?_) (fun hc => ?_)) <;> (try simp only [lqA, lqB, lqC, lqD, lqE, lqF, lqG, lqH, lqI, lqJ, lqK, lqL, lqM, lqN, lqO] at hc) <;> (try (exfalso; first | omega | exact bool_tf hc (by assumption) | exact bool_ft hc (by assumption) | exact absurd (by assumption) hc)) <;> (first | with_reducible show STri _ _ _ _ _ _ | (simp -dsimp [hz, hc]; (repeat (simp -dsimp (disch := (first | omega | assumption | (refine Bool.eq_false_iff.1 ?_; assumption))) only [wrap_in, if_pos, if_neg]; (try simp -dsimp [hz, hc]))))))))
    all_goals exact .refl _
  have hlen : 1 ≤ w.length ∧ w.length ≤ 10 := by
    unfold sizeW within1 at hz; simp at hz; omega
  (repeat' (first | (refine st_nilB 6 0 200 119 1 rfl (by simp) rfl (by simp [newOK]) ?_) | (refine st_nilB 6 1 201 24 2 rfl (by simp) rfl (by simp [newOK]) ?_) | (refine st_nilB 6 2 202 43 3 rfl (by simp) rfl (by simp [newOK]) ?_) | ((first | with_reducible refine st_skip ?_ | with_reducible refine st_exit ?_); (try simp only [seqQ, blockQ, loopQ, forQ, whileQ, reduceIte, Nat.reduceEqDiff])) | (with_reducible refine st_ret ?_; ((try simp only [seqQ, blockQ, loopQ, forQ, whileQ]); first | (with_reducible refine retM_ret ?_) | refine retQ_ret ?_; simp [hz])) | refine st_seq ?_ | refine st_block ?_ | ((with_reducible show (STri _ _ _ _ _) ∧ (STri _ _ _ _ _)); refine And.intro ?_ ?_) | ((first | refine st_reg ?_ | refine buildP_own ?_ | refine appP_own ?_ | refine callP_b (s1) rfl ?_) <;> (simp -dsimp [hz]; (repeat (simp -dsimp (disch := (first | omega | assumption | (refine Bool.eq_false_iff.1 ?_; assumption))) only [wrap_in, if_pos, if_neg]; (try simp -dsimp [hz]))))) | ((first | refine guardP_of (fun hc => ?_) (fun hc => ?_) | refine st_cond rfl (fun hc => ?_) (fun hc => ?_)) <;> (try simp only [lqA, lqB, lqC, lqD, lqE, lqF, lqG, lqH, lqI, lqJ, lqK, lqL, lqM, lqN, lqO] at hc) <;> (try (exfalso; first | omega | exact bool_tf hc (by assumption) | exact bool_ft hc (by assumption) | exact absurd (by assumption) hc)) <;> (first | with_reducible show STri _ _ _ _ _ _ | (simp -dsimp [hz, hc]; (repeat (simp -dsimp (disch := (first | omega | assumption | (refine Bool.eq_false_iff.1 ?_; assumption))) only [wrap_in, if_pos, if_neg]; (try simp -dsimp [hz, hc]))))))))
  refine st_for [5, 6, 200, 201, 202] w.length (fun k T H => AllV w k ∧ T = [(0, .c (slSr w)), (1, .c (slN l)), (5, .ptr 5 0), (6, .ptr 6 0), (20, .c (slSr w)), (21, .c (I w.length)), (22, .c (I k))] ∧
    H = [(5, .box 24 [.c (I nlo), .c (I nhi)]), (6, .box 81 [.own 200 k, .own 201 k, .own 202 0, .c (I 0), .c (I 0)]), (200, .arr 119 1 ((w.take k).map rowS)), (201, .arr 24 2 (((w.take k).map errOf).map rowE)), (202, .arr 43 3 [])]) (by simp) ⟨fun s hs => by simp at hs, by simp, by simp⟩ ?_
  rintro k T H hk ⟨hall, rfl, rfl⟩
  by_cases hlt : k < w.length
  · have sn := sNewSource w[k] (hw.h _ (List.getElem_mem hlt))
    have hkl : (w.take k).length = k := by rw [List.length_take]; omega
    have hm : min k w.length = k := by omega
    have hA : k ≤ 9223372036854775806 := by omega
    have hB : (k + 1) * 16 ≤ 140737488355328 := by omega
    by_cases hv : validV w[k] = true
    · rw [valid_X hv, hv] at sn
      (repeat' (first | ((first | with_reducible refine st_skip ?_ | with_reducible refine st_exit ?_); (try simp only [seqQ, blockQ, loopQ, forQ, whileQ, reduceIte, Nat.reduceEqDiff])) | (with_reducible refine st_ret ?_; ((try simp only [seqQ, blockQ, loopQ, forQ, whileQ]); first | (with_reducible refine retM_ret ?_) | refine retQ_ret ?_; simp [hlt, hm, hA, hB])) | refine st_seq ?_ | refine st_block ?_ | ((with_reducible show (STri _ _ _ _ _) ∧ (STri _ _ _ _ _)); refine And.intro ?_ ?_) | ((first | refine st_reg ?_ | refine buildP_own ?_ | refine appP_own ?_ | refine callP_b (sn) rfl ?_) <;> (simp -dsimp [hlt, hm, hA, hB]; (repeat (simp -dsimp (disch := (first | omega | assumption | (refine Bool.eq_false_iff.1 ?_; assumption))) only [wrap_in, if_pos, if_neg]; (try simp -dsimp [hlt, hm, hA, hB]))))) | ((first | refine guardP_of (fun hc => ?_) (fun hc => ?_) | refine st_cond rfl (fun hc => ?_) (fun hc => ?_)) <;> (try simp only [lqA, lqB, lqC, lqD, lqE, lqF, lqG, lqH, lqI, lqJ, lqK, lqL, lqM, lqN, lqO] at hc) <;> (try (exfalso; first | omega | exact bool_tf hc (by assumption) | exact bool_ft hc (by assumption) | exact absurd (by assumption) hc)) <;> (first | with_reducible show STri _ _ _ _ _ _ | (simp -dsimp [hlt, hm, hA, hB, hc]; (repeat (simp -dsimp (disch := (first | omega | assumption | (refine Bool.eq_false_iff.1 ?_; assumption))) only [wrap_in, if_pos, if_neg]; (try simp -dsimp [hlt, hm, hA, hB, hc]))))))))
      exact ⟨hlt, by simp, allV_succ hlt hall hv, by simp, by simp [take_map_succ _ hlt, hm, errOf]⟩
    · rw [Bool.not_eq_true] at hv
      rw [hv] at sn
      obtain ⟨e3, e4⟩ := allV_stop hlt hall hv
      have e1 : newBk w l nlo nhi = bare (w.take k) := by unfold newBk; rw [if_neg (by rw [hz]; decide), if_pos e4, e3]
      have e2 : newErr w l nlo nhi = 2 := by unfold newErr; rw [if_neg (by rw [hz]; decide), if_pos e4]
      rw [e1, e2]
      unfold bare
      (repeat' (first | ((first | with_reducible refine st_skip ?_ | with_reducible refine st_exit ?_); (try simp only [seqQ, blockQ, loopQ, forQ, whileQ, reduceIte, Nat.reduceEqDiff])) | (with_reducible refine st_ret ?_; ((try simp only [seqQ, blockQ, loopQ, forQ, whileQ]); first | (with_reducible refine retM_ret ?_) | refine retQ_ret ?_; simp [hlt, hm])) | refine st_seq ?_ | refine st_block ?_ | ((with_reducible show (STri _ _ _ _ _) ∧ (STri _ _ _ _ _)); refine And.intro ?_ ?_) | ((first | refine st_reg ?_ | refine buildP_own ?_ | refine appP_own ?_ | refine callP_b (sn) rfl ?_) <;> (simp -dsimp [hlt, hm]; (repeat (simp -dsimp (disch := (first | omega | assumption | (refine Bool.eq_false_iff.1 ?_; assumption))) only [wrap_in, if_pos, if_neg]; (try simp -dsimp [hlt, hm]))))) | ((first | refine guardP_of (fun hc => ?_) (fun hc => ?_) | refine st_cond rfl (fun hc => ?_) (fun hc => ?_)) <;> (try simp only [lqA, lqB, lqC, lqD, lqE, lqF, lqG, lqH, lqI, lqJ, lqK, lqL, lqM, lqN, lqO] at hc) <;> (try (exfalso; first | omega | exact bool_tf hc (by assumption) | exact bool_ft hc (by assumption) | exact absurd (by assumption) hc)) <;> (first | with_reducible show STri _ _ _ _ _ _ | (simp -dsimp [hlt, hm, hc]; (repeat (simp -dsimp (disch := (first | omega | assumption | (refine Bool.eq_false_iff.1 ?_; assumption))) only [wrap_in, if_pos, if_neg]; (try simp -dsimp [hlt, hm, hc]))))))))
      exact .refl _
  have hkw : k = w.length := by omega
  subst hkw
  have hav := allV_all hall
  have hz1 : ¬ ¬ sizeW w = true := by rw [hz]; decide
  have hz2 : ¬ ¬ w.all validV = true := by rw [hav]; decide
  have hbk : newBk w l nlo nhi = if newErr w l nlo nhi = 0 then ⟨w, w.map errOf, l, nlo, nhi⟩ else bare w := by unfold newBk; rw [if_neg hz1, if_neg hz2]
  have her : newErr w l nlo nhi = if 60 < l.length then 5 else if ¬ notesErr w l = 0 then notesErr w l else if spanW nlo nhi 7200 = true then 0 else 3 := by unfold newErr; rw [if_neg hz1, if_neg hz2]
  rw [List.take_length]
  by_cases h60 : 60 < l.length
  · rw [if_pos h60] at her
    rw [hbk, her, if_neg (by decide)]
    unfold bare
    (repeat' (first | ((first | with_reducible refine st_skip ?_ | with_reducible refine st_exit ?_); (try simp only [seqQ, blockQ, loopQ, forQ, whileQ, reduceIte, Nat.reduceEqDiff])) | (with_reducible refine st_ret ?_; ((try simp only [seqQ, blockQ, loopQ, forQ, whileQ]); first | (with_reducible refine retM_ret ?_) | refine retQ_ret ?_; simp [hlt, h60])) | refine st_seq ?_ | refine st_block ?_ | ((with_reducible show (STri _ _ _ _ _) ∧ (STri _ _ _ _ _)); refine And.intro ?_ ?_) | ((first | refine st_reg ?_ | refine buildP_own ?_ | refine appP_own ?_) <;> (simp -dsimp [hlt, h60]; (repeat (simp -dsimp (disch := (first | omega | assumption | (refine Bool.eq_false_iff.1 ?_; assumption))) only [wrap_in, if_pos, if_neg]; (try simp -dsimp [hlt, h60]))))) | ((first | refine guardP_of (fun hc => ?_) (fun hc => ?_) | refine st_cond rfl (fun hc => ?_) (fun hc => ?_)) <;> (try simp only [lqA, lqB, lqC, lqD, lqE, lqF, lqG, lqH, lqI, lqJ, lqK, lqL, lqM, lqN, lqO] at hc) <;> (try (exfalso; first | omega | exact bool_tf hc (by assumption) | exact bool_ft hc (by assumption) | exact absurd (by assumption) hc)) <;> (first | with_reducible show STri _ _ _ _ _ _ | (simp -dsimp [hlt, h60, hc]; (repeat (simp -dsimp (disch := (first | omega | assumption | (refine Bool.eq_false_iff.1 ?_; assumption))) only [wrap_in, if_pos, if_neg]; (try simp -dsimp [hlt, h60, hc]))))))))
    exact .refl _
  rw [if_neg h60] at her
  (repeat' (first | ((first | with_reducible refine st_skip ?_ | with_reducible refine st_exit ?_); (try simp only [seqQ, blockQ, loopQ, forQ, whileQ, reduceIte, Nat.reduceEqDiff])) | (with_reducible refine st_ret ?_; ((try simp only [seqQ, blockQ, loopQ, forQ, whileQ]); first | (with_reducible refine retM_ret ?_) | refine retQ_ret ?_; simp [hlt, h60])) | refine st_seq ?_ | refine st_block ?_ | ((with_reducible show (STri _ _ _ _ _) ∧ (STri _ _ _ _ _)); refine And.intro ?_ ?_) | ((first | refine st_reg ?_ | refine buildP_own ?_ | refine appP_own ?_) <;> (simp -dsimp [hlt, h60]; (repeat (simp -dsimp (disch := (first | omega | assumption | (refine Bool.eq_false_iff.1 ?_; assumption))) only [wrap_in, if_pos, if_neg]; (try simp -dsimp [hlt, h60]))))) | ((first | refine guardP_of (fun hc => ?_) (fun hc => ?_) | refine st_cond rfl (fun hc => ?_) (fun hc => ?_)) <;> (try simp only [lqA, lqB, lqC, lqD, lqE, lqF, lqG, lqH, lqI, lqJ, lqK, lqL, lqM, lqN, lqO] at hc) <;> (try (exfalso; first | omega | exact bool_tf hc (by assumption) | exact bool_ft hc (by assumption) | exact absurd (by assumption) hc)) <;> (first | with_reducible show STri _ _ _ _ _ _ | (simp -dsimp [hlt, h60, hc]; (repeat (simp -dsimp (disch := (first | omega | assumption | (refine Bool.eq_false_iff.1 ?_; assumption))) only [wrap_in, if_pos, if_neg]; (try simp -dsimp [hlt, h60, hc]))))))))
  refine st_for [5, 6, 200, 201, 202] l.length (fun j T H => NotesTo w l j ∧ T = [(0, .c (slSr w)), (1, .c (slN l)), (5, .ptr 5 0), (6, .ptr 6 0), (52, .c (slN l)), (53, .c (I l.length)), (54, .c (I j))] ∧
    H = [(5, .box 24 [.c (I nlo), .c (I nhi)]), (6, .box 81 [.own 200 w.length, .own 201 w.length, .own 202 0, .c (I 0), .c (I 0)]), (200, .arr 119 1 (w.map rowS)), (201, .arr 24 2 ((w.map errOf).map rowE)), (202, .arr 43 3 [])]) (by simp) ⟨fun s hs => by simp at hs, by simp, by simp⟩ ?_
  rintro j T H hj ⟨hno, rfl, rfl⟩
  by_cases hlt2 : j < l.length
  · have s1 := sWithinW 0 (w.length - 1) [l[j].src] (by simp)
    have s2 := sWithinW 0 3155760000 [l[j].tick] (by simp)
    rw [allIn_one] at s1 s2
    by_cases b1 : within1 0 (w.length - 1) l[j].src = true
    · rw [b1] at s1
      have hr : 0 ≤ l[j].src ∧ l[j].src.toNat < w.length := by
        unfold within1 at b1; simp at b1; omega
      obtain ⟨r1, r2⟩ := hr
      have hsv := List.all_eq_true.1 hav _ (List.getElem_mem r2)
      have hbase : kindOK (w[l[j].src.toNat]).kind = true := by
        unfold validV baseV at hsv; simp at hsv; exact hsv.1.1
      have hm := mSaid _ hbase l[j].said
      have hget : (w.map fun s => saidB s l[j].said).getD l[j].src.toNat false = saidB (w[l[j].src.toNat]) l[j].said := by simp [r2]
      have hne : noteErr w l[j] = if within1 0 3155760000 l[j].tick = true ∧ saidB (w[l[j].src.toNat]) l[j].said = true then 0 else 2 := by unfold noteErr; rw [if_pos b1, hget]
      by_cases b2 : within1 0 3155760000 l[j].tick = true
      · rw [b2] at s2 hne
        by_cases b3 : saidB (w[l[j].src.toNat]) l[j].said = true
        · rw [b3] at hm hne
          rw [if_pos ⟨rfl, rfl⟩] at hne
          (repeat' (first | ((first | with_reducible refine st_skip ?_ | with_reducible refine st_exit ?_); (try simp only [seqQ, blockQ, loopQ, forQ, whileQ, reduceIte, Nat.reduceEqDiff])) | (with_reducible refine st_ret ?_; ((try simp only [seqQ, blockQ, loopQ, forQ, whileQ]); first | (with_reducible refine retM_ret ?_) | refine retQ_ret ?_; simp [hlt2, r1, r2])) | refine st_seq ?_ | refine st_block ?_ | ((with_reducible show (STri _ _ _ _ _) ∧ (STri _ _ _ _ _)); refine And.intro ?_ ?_) | ((first | refine st_reg ?_ | refine buildP_own ?_ | refine appP_own ?_ | ((with_reducible show callIP _ _ _ _ _ _ _); refine callI_m (hm) rfl ?_) | refine callP_b (s1) rfl ?_ | refine callP_b (s2) rfl ?_) <;> (simp -dsimp [hlt2, r1, r2]; (repeat (simp -dsimp (disch := (first | omega | assumption | (refine Bool.eq_false_iff.1 ?_; assumption))) only [wrap_in, if_pos, if_neg]; (try simp -dsimp [hlt2, r1, r2]))))) | ((first | refine guardP_of (fun hc => ?_) (fun hc => ?_) | refine st_cond rfl (fun hc => ?_) (fun hc => ?_)) <;> (try simp only [lqA, lqB, lqC, lqD, lqE, lqF, lqG, lqH, lqI, lqJ, lqK, lqL, lqM, lqN, lqO] at hc) <;> (try (exfalso; first | omega | exact bool_tf hc (by assumption) | exact bool_ft hc (by assumption) | exact absurd (by assumption) hc)) <;> (first | with_reducible show STri _ _ _ _ _ _ | (simp -dsimp [hlt2, r1, r2, hc]; (repeat (simp -dsimp (disch := (first | omega | assumption | (refine Bool.eq_false_iff.1 ?_; assumption))) only [wrap_in, if_pos, if_neg]; (try simp -dsimp [hlt2, r1, r2, hc]))))))))
          exact ⟨hlt2, by simp, notes_succ hlt2 hno hne, by simp, by simp⟩
        · rw [Bool.not_eq_true] at b3
          rw [b3] at hm hne
          rw [if_neg (by simp)] at hne
          have h2 := notes_stop hlt2 hno (by omega)
          rw [hne] at h2
          rw [h2] at her
          rw [hbk, her]
          unfold bare
          (repeat' (first | ((first | with_reducible refine st_skip ?_ | with_reducible refine st_exit ?_); (try simp only [seqQ, blockQ, loopQ, forQ, whileQ, reduceIte, Nat.reduceEqDiff])) | (with_reducible refine st_ret ?_; ((try simp only [seqQ, blockQ, loopQ, forQ, whileQ]); first | (with_reducible refine retM_ret ?_) | refine retQ_ret ?_; simp [hlt2, r1, r2])) | refine st_seq ?_ | refine st_block ?_ | ((with_reducible show (STri _ _ _ _ _) ∧ (STri _ _ _ _ _)); refine And.intro ?_ ?_) | ((first | refine st_reg ?_ | refine buildP_own ?_ | refine appP_own ?_ | ((with_reducible show callIP _ _ _ _ _ _ _); refine callI_m (hm) rfl ?_) | refine callP_b (s1) rfl ?_ | refine callP_b (s2) rfl ?_) <;> (simp -dsimp [hlt2, r1, r2]; (repeat (simp -dsimp (disch := (first | omega | assumption | (refine Bool.eq_false_iff.1 ?_; assumption))) only [wrap_in, if_pos, if_neg]; (try simp -dsimp [hlt2, r1, r2]))))) | ((first | refine guardP_of (fun hc => ?_) (fun hc => ?_) | refine st_cond rfl (fun hc => ?_) (fun hc => ?_)) <;> (try simp only [lqA, lqB, lqC, lqD, lqE, lqF, lqG, lqH, lqI, lqJ, lqK, lqL, lqM, lqN, lqO] at hc) <;> (try (exfalso; first | omega | exact bool_tf hc (by assumption) | exact bool_ft hc (by assumption) | exact absurd (by assumption) hc)) <;> (first | with_reducible show STri _ _ _ _ _ _ | (simp -dsimp [hlt2, r1, r2, hc]; (repeat (simp -dsimp (disch := (first | omega | assumption | (refine Bool.eq_false_iff.1 ?_; assumption))) only [wrap_in, if_pos, if_neg]; (try simp -dsimp [hlt2, r1, r2, hc]))))))))
          exact .refl _
      · rw [Bool.not_eq_true] at b2
        rw [b2] at s2 hne
        rw [if_neg (by simp)] at hne
        have h2 := notes_stop hlt2 hno (by omega)
        rw [hne] at h2
        rw [h2] at her
        rw [hbk, her]
        unfold bare
        (repeat' (first | ((first | with_reducible refine st_skip ?_ | with_reducible refine st_exit ?_); (try simp only [seqQ, blockQ, loopQ, forQ, whileQ, reduceIte, Nat.reduceEqDiff])) | (with_reducible refine st_ret ?_; ((try simp only [seqQ, blockQ, loopQ, forQ, whileQ]); first | (with_reducible refine retM_ret ?_) | refine retQ_ret ?_; simp [hlt2])) | refine st_seq ?_ | refine st_block ?_ | ((with_reducible show (STri _ _ _ _ _) ∧ (STri _ _ _ _ _)); refine And.intro ?_ ?_) | ((first | refine st_reg ?_ | refine buildP_own ?_ | refine appP_own ?_ | refine callP_b (s1) rfl ?_ | refine callP_b (s2) rfl ?_) <;> (simp -dsimp [hlt2]; (repeat (simp -dsimp (disch := (first | omega | assumption | (refine Bool.eq_false_iff.1 ?_; assumption))) only [wrap_in, if_pos, if_neg]; (try simp -dsimp [hlt2]))))) | ((first | refine guardP_of (fun hc => ?_) (fun hc => ?_) | refine st_cond rfl (fun hc => ?_) (fun hc => ?_)) <;> (try simp only [lqA, lqB, lqC, lqD, lqE, lqF, lqG, lqH, lqI, lqJ, lqK, lqL, lqM, lqN, lqO] at hc) <;> (try (exfalso; first | omega | exact bool_tf hc (by assumption) | exact bool_ft hc (by assumption) | exact absurd (by assumption) hc)) <;> (first | with_reducible show STri _ _ _ _ _ _ | (simp -dsimp [hlt2, hc]; (repeat (simp -dsimp (disch := (first | omega | assumption | (refine Bool.eq_false_iff.1 ?_; assumption))) only [wrap_in, if_pos, if_neg]; (try simp -dsimp [hlt2, hc]))))))))
        exact .refl _
    · have hne : noteErr w l[j] = 7 := by unfold noteErr; rw [if_neg b1]
      rw [Bool.not_eq_true] at b1
      rw [b1] at s1
      have h2 := notes_stop hlt2 hno (by omega)
      rw [hne] at h2
      rw [h2] at her
      rw [hbk, her]
      unfold bare
      (repeat' (first | ((first | with_reducible refine st_skip ?_ | with_reducible refine st_exit ?_); (try simp only [seqQ, blockQ, loopQ, forQ, whileQ, reduceIte, Nat.reduceEqDiff])) | (with_reducible refine st_ret ?_; ((try simp only [seqQ, blockQ, loopQ, forQ, whileQ]); first | (with_reducible refine retM_ret ?_) | refine retQ_ret ?_; simp [hlt2])) | refine st_seq ?_ | refine st_block ?_ | ((with_reducible show (STri _ _ _ _ _) ∧ (STri _ _ _ _ _)); refine And.intro ?_ ?_) | ((first | refine st_reg ?_ | refine buildP_own ?_ | refine appP_own ?_ | refine callP_b (s1) rfl ?_) <;> (simp -dsimp [hlt2]; (repeat (simp -dsimp (disch := (first | omega | assumption | (refine Bool.eq_false_iff.1 ?_; assumption))) only [wrap_in, if_pos, if_neg]; (try simp -dsimp [hlt2]))))) | ((first | refine guardP_of (fun hc => ?_) (fun hc => ?_) | refine st_cond rfl (fun hc => ?_) (fun hc => ?_)) <;> (try simp only [lqA, lqB, lqC, lqD, lqE, lqF, lqG, lqH, lqI, lqJ, lqK, lqL, lqM, lqN, lqO] at hc) <;> (try (exfalso; first | omega | exact bool_tf hc (by assumption) | exact bool_ft hc (by assumption) | exact absurd (by assumption) hc)) <;> (first | with_reducible show STri _ _ _ _ _ _ | (simp -dsimp [hlt2, hc]; (repeat (simp -dsimp (disch := (first | omega | assumption | (refine Bool.eq_false_iff.1 ?_; assumption))) only [wrap_in, if_pos, if_neg]; (try simp -dsimp [hlt2, hc]))))))))
      exact .refl _
  · have hjl : j = l.length := by omega
    subst hjl
    have h2 := notes_all hno
    have s3 := sIsSpanW nlo nhi 7200 (by omega) (by omega)
    rw [h2] at her
    rw [if_neg (by decide)] at her
    rw [hbk, her]
    by_cases b4 : spanW nlo nhi 7200 = true
    · rw [b4] at s3
      (repeat' (first | ((first | with_reducible refine st_skip ?_ | with_reducible refine st_exit ?_); (try simp only [seqQ, blockQ, loopQ, forQ, whileQ, reduceIte, Nat.reduceEqDiff])) | (with_reducible refine st_ret ?_; ((try simp only [seqQ, blockQ, loopQ, forQ, whileQ]); first | (with_reducible refine retM_ret ?_) | refine retQ_ret ?_; simp [hlt2, b4])) | refine st_seq ?_ | refine st_block ?_ | ((with_reducible show (STri _ _ _ _ _) ∧ (STri _ _ _ _ _)); refine And.intro ?_ ?_) | ((first | refine st_reg ?_ | refine buildP_own ?_ | refine appP_own ?_ | refine callP_b (s3) rfl ?_) <;> (simp -dsimp [hlt2, b4]; (repeat (simp -dsimp (disch := (first | omega | assumption | (refine Bool.eq_false_iff.1 ?_; assumption))) only [wrap_in, if_pos, if_neg]; (try simp -dsimp [hlt2, b4]))))) | ((first | refine guardP_of (fun hc => ?_) (fun hc => ?_) | refine st_cond rfl (fun hc => ?_) (fun hc => ?_)) <;> (try simp only [lqA, lqB, lqC, lqD, lqE, lqF, lqG, lqH, lqI, lqJ, lqK, lqL, lqM, lqN, lqO] at hc) <;> (try (exfalso; first | omega | exact bool_tf hc (by assumption) | exact bool_ft hc (by assumption) | exact absurd (by assumption) hc)) <;> (first | with_reducible show STri _ _ _ _ _ _ | (simp -dsimp [hlt2, b4, hc]; (repeat (simp -dsimp (disch := (first | omega | assumption | (refine Bool.eq_false_iff.1 ?_; assumption))) only [wrap_in, if_pos, if_neg]; (try simp -dsimp [hlt2, b4, hc]))))))))
      exact .refl _
    · rw [Bool.not_eq_true] at b4
      rw [b4] at s3
      unfold bare
      (repeat' (first | ((first | with_reducible refine st_skip ?_ | with_reducible refine st_exit ?_); (try simp only [seqQ, blockQ, loopQ, forQ, whileQ, reduceIte, Nat.reduceEqDiff])) | (with_reducible refine st_ret ?_; ((try simp only [seqQ, blockQ, loopQ, forQ, whileQ]); first | (with_reducible refine retM_ret ?_) | refine retQ_ret ?_; simp [hlt2, b4])) | refine st_seq ?_ | refine st_block ?_ | ((with_reducible show (STri _ _ _ _ _) ∧ (STri _ _ _ _ _)); refine And.intro ?_ ?_) | ((first | refine st_reg ?_ | refine buildP_own ?_ | refine appP_own ?_ | refine callP_b (s3) rfl ?_) <;> (simp -dsimp [hlt2, b4]; (repeat (simp -dsimp (disch := (first | omega | assumption | (refine Bool.eq_false_iff.1 ?_; assumption))) only [wrap_in, if_pos, if_neg]; (try simp -dsimp [hlt2, b4]))))) | ((first | refine guardP_of (fun hc => ?_) (fun hc => ?_) | refine st_cond rfl (fun hc => ?_) (fun hc => ?_)) <;> (try simp only [lqA, lqB, lqC, lqD, lqE, lqF, lqG, lqH, lqI, lqJ, lqK, lqL, lqM, lqN, lqO] at hc) <;> (try (exfalso; first | omega | exact bool_tf hc (by assumption) | exact bool_ft hc (by assumption) | exact absurd (by assumption) hc)) <;> (first | with_reducible show STri _ _ _ _ _ _ | (simp -dsimp [hlt2, b4, hc]; (repeat (simp -dsimp (disch := (first | omega | assumption | (refine Bool.eq_false_iff.1 ?_; assumption))) only [wrap_in, if_pos, if_neg]; (try simp -dsimp [hlt2, b4, hc]))))))))
      exact .refl _
end Go.Proofs.YtboifcengmgcaaaGreat
/- Wire, VII: notes that are right; sets of sources that are wrong. -/
namespace Go.Proofs.YtboifcengmgcaaaGreat
open Go.RowKit
structure BkOK (b : Wbk) : Prop where
  len : b.srcs.length ≤ 10
  el : b.errs.length = b.srcs.length
  va : ∀ s ∈ b.srcs, validV s = true
  er : ∀ e ∈ b.errs, -20000 ≤ e.1 ∧ e.1 ≤ 20000 ∧ -20000 ≤ e.2 ∧ e.2 ≤ 20000
  nl : b.notes.length ≤ 60
  no : ∀ n ∈ b.notes, 0 ≤ n.src ∧ n.src < b.srcs.length ∧ 0 ≤ n.tick ∧ n.tick ≤ 3155760000 ∧ 0 ≤ n.said ∧ n.said ≤ 3155760000
  n0 : -7200 ≤ b.nlo
  n1 : b.nlo ≤ b.nhi
  n2 : b.nhi ≤ 7200
def noSrc : Wsrc := ⟨0, 0, 0, 0, 0, 0, 0, []⟩
def rightN (b : Wbk) (n : Wnt) (y : Int) : Bool :=
  within1 0 3155760000 (n.tick + y) && rightB (b.srcs.getD n.src.toNat noSrc) (n.tick + y) n.said (b.errs.getD n.src.toNat (0, 0)).1 (b.errs.getD n.src.toNat (0, 0)).2
theorem sIsRight (b : Wbk) (hb : BkOK b) (n : Wnt) (hn : n ∈ b.notes) (y : Int) (y0 : -7200 ≤ y) (y1 : y ≤ 7200) : SC Tryz.prog 94 [cBk b, cN n, I y] (B (rightN b n y)) := by
  refine law_wire_book_isRight _ _ (by simp) ?_
  obtain ⟨n1, n2, n3, n4, n5, n6⟩ := hb.no n hn
  have hs : n.src.toNat < b.srcs.length := by omega
  have he : n.src.toNat < b.errs.length := by rw [hb.el]; omega
  have hE := hb.er _ (List.getElem_mem he)
  have hv := hb.va _ (List.getElem_mem hs)
  have e1 : b.srcs.getD n.src.toNat noSrc = b.srcs[n.src.toNat] := by simp [hs]
  have e2 : b.errs.getD n.src.toNat (0, 0) = b.errs[n.src.toNat] := by simp [he]
  unfold rightN
  rw [e1, e2]
  have s1 := sWithinW 0 3155760000 [n.tick + y] (by simp)
  rw [allIn_one] at s1
  unfold validV at hv
  rw [Bool.and_eq_true] at hv
  have hk : kindOK (b.srcs[n.src.toNat]).kind = true := by
    have := hv.1
    unfold baseV at this
    simp at this; exact this.1
  by_cases hw : within1 0 3155760000 (n.tick + y) = true
  · rw [hw] at s1 ⊢
    have hw' : 0 ≤ n.tick + y ∧ n.tick + y ≤ 3155760000 := by unfold within1 at hw; simp at hw; exact hw
    have hm := mRight _ hk hv.2 (n.tick + y) n.said (b.errs[n.src.toNat]).1 (b.errs[n.src.toNat]).2 hw'.1 ⟨by omega, by omega, by omega, by omega, by omega, by omega, by omega, by omega⟩
    (repeat' (first | ((first | with_reducible refine st_skip ?_ | with_reducible refine st_exit ?_); (try simp only [seqQ, blockQ, loopQ, forQ, whileQ, reduceIte, Nat.reduceEqDiff])) | (with_reducible refine st_ret ?_; ((try simp only [seqQ, blockQ, loopQ, forQ, whileQ]); first | (with_reducible refine retM_ret ?_) | refine retQ_ret ?_; simp [hs, he, n1])) | refine st_seq ?_ | refine st_block ?_ | ((with_reducible show (STri _ _ _ _ _) ∧ (STri _ _ _ _ _)); refine And.intro ?_ ?_) | ((first | refine st_reg ?_ | refine buildP_own ?_ | refine appP_own ?_ | ((with_reducible show callIP _ _ _ _ _ _ _); refine callI_m (hm) rfl ?_) | refine callP_b (s1) rfl ?_) <;> (simp -dsimp [hs, he, n1]; (repeat (simp -dsimp (disch := (first | omega | assumption | (refine Bool.eq_false_iff.1 ?_; assumption))) only [wrap_in, if_pos, if_neg]; (try simp -dsimp [hs, he, n1]))))) | ((first | refine guardP_of (fun hc => ?_) (fun hc => ?_) | refine st_cond rfl (fun hc => ?_) (fun hc => ?_)) <;> (try simp only [lqA, lqB, lqC, lqD, lqE, lqF, lqG, lqH, lqI, lqJ, lqK, lqL, lqM, lqN, lqO] at hc) <;> (try (exfalso; first | omega | exact bool_tf hc (by assumption) | exact bool_ft hc (by assumption) | exact absurd (by assumption) hc)) <;> (first | with_reducible show STri _ _ _ _ _ _ | (simp -dsimp [hs, he, n1, hc]; (repeat (simp -dsimp (disch := (first | omega | assumption | (refine Bool.eq_false_iff.1 ?_; assumption))) only [wrap_in, if_pos, if_neg]; (try simp -dsimp [hs, he, n1, hc]))))))))
    exact .refl _
  · rw [Bool.not_eq_true] at hw
    rw [hw] at s1 ⊢
    (repeat' (first | ((first | with_reducible refine st_skip ?_ | with_reducible refine st_exit ?_); (try simp only [seqQ, blockQ, loopQ, forQ, whileQ, reduceIte, Nat.reduceEqDiff])) | (with_reducible refine st_ret ?_; ((try simp only [seqQ, blockQ, loopQ, forQ, whileQ]); first | (with_reducible refine retM_ret ?_) | refine retQ_ret ?_; simp [hs, he, n1])) | refine st_seq ?_ | refine st_block ?_ | ((with_reducible show (STri _ _ _ _ _) ∧ (STri _ _ _ _ _)); refine And.intro ?_ ?_) | ((first | refine st_reg ?_ | refine buildP_own ?_ | refine appP_own ?_ | refine callP_b (s1) rfl ?_) <;> (simp -dsimp [hs, he, n1]; (repeat (simp -dsimp (disch := (first | omega | assumption | (refine Bool.eq_false_iff.1 ?_; assumption))) only [wrap_in, if_pos, if_neg]; (try simp -dsimp [hs, he, n1]))))) | ((first | refine guardP_of (fun hc => ?_) (fun hc => ?_) | refine st_cond rfl (fun hc => ?_) (fun hc => ?_)) <;> (try simp only [lqA, lqB, lqC, lqD, lqE, lqF, lqG, lqH, lqI, lqJ, lqK, lqL, lqM, lqN, lqO] at hc) <;> (try (exfalso; first | omega | exact bool_tf hc (by assumption) | exact bool_ft hc (by assumption) | exact absurd (by assumption) hc)) <;> (first | with_reducible show STri _ _ _ _ _ _ | (simp -dsimp [hs, he, n1, hc]; (repeat (simp -dsimp (disch := (first | omega | assumption | (refine Bool.eq_false_iff.1 ?_; assumption))) only [wrap_in, if_pos, if_neg]; (try simp -dsimp [hs, he, n1, hc]))))))))
    exact .refl _
def wrongTo (b : Wbk) (y : Int) (k : Nat) : Nat := (b.notes.take k).foldl (fun a n => if rightN b n y = true then a else a ||| 2 ^ n.src.toNat) 0
def wrongN (b : Wbk) (y : Int) : Nat := wrongTo b y b.notes.length
theorem wrongTo_succ {b : Wbk} {y : Int} {k : Nat} (hlt : k < b.notes.length) : wrongTo b y (k + 1) = if rightN b b.notes[k] y = true then wrongTo b y k else wrongTo b y k ||| 2 ^ (b.notes[k]).src.toNat := by
  unfold wrongTo
  rw [List.take_succ_eq_append_getElem hlt, List.foldl_append]
  rfl
def wrongB (b : Wbk) (y : Int) (k i : Nat) : Bool := (b.notes.take k).any fun n => decide (n.src.toNat = i) && !rightN b n y
theorem wrongTo_bit (b : Wbk) (y : Int) (k i : Nat) (hk : k ≤ b.notes.length) : (wrongTo b y k).testBit i = wrongB b y k i := by
  induction k with
  | zero => simp [wrongTo, wrongB]
  | succ k ih =>
    have hlt : k < b.notes.length := by omega
    have e : wrongB b y (k + 1) i = (wrongB b y k i || (decide ((b.notes[k]).src.toNat = i) && !rightN b b.notes[k] y)) := by
      unfold wrongB
      rw [List.take_succ_eq_append_getElem hlt, List.any_append]
      simp
    rw [wrongTo_succ hlt, e, ← ih (by omega)]
    by_cases hr : rightN b b.notes[k] y = true
    · rw [if_pos hr]; simp [hr]
    · rw [if_neg hr, Nat.testBit_or, Nat.testBit_two_pow]
      simp [hr]
theorem wrongTo_lt {b : Wbk} (hb : BkOK b) (y : Int) (k : Nat) (hk : k ≤ b.notes.length) : wrongTo b y k < 2 ^ b.srcs.length := by
  apply Nat.lt_pow_two_of_testBit
  intro i hi
  rw [wrongTo_bit b y k i hk]
  unfold wrongB
  rw [List.any_eq_false]
  intro n hn
  have := hb.no n (List.mem_of_mem_take hn)
  have : ¬ n.src.toNat = i := by omega
  simp [this]
theorem sWrong (b : Wbk) (hb : BkOK b) (y : Int) (y0 : -7200 ≤ y) (y1 : y ≤ 7200) : SC Tryz.prog 74 [cBk b, I y] (.val (.int .u64 (wrongN b y))) := by
  refine law_wire_book_wrong _ _ (by simp) ?_
  have hl := hb.nl
  (repeat' (first | ((first | with_reducible refine st_skip ?_ | with_reducible refine st_exit ?_); (try simp only [seqQ, blockQ, loopQ, forQ, whileQ, reduceIte, Nat.reduceEqDiff])) | (with_reducible refine st_ret ?_; ((try simp only [seqQ, blockQ, loopQ, forQ, whileQ]); first | (with_reducible refine retM_ret ?_) | refine retQ_ret ?_; simp)) | refine st_seq ?_ | refine st_block ?_ | ((with_reducible show (STri _ _ _ _ _) ∧ (STri _ _ _ _ _)); refine And.intro ?_ ?_) | ((first | refine st_reg ?_ | refine buildP_own ?_ | refine appP_own ?_) <;> (simp -dsimp; (repeat (simp -dsimp (disch := (first | omega | assumption | (refine Bool.eq_false_iff.1 ?_; assumption))) only [wrap_in, if_pos, if_neg]; (try simp -dsimp))))) | ((first | refine guardP_of (fun hc => ?_) (fun hc => ?_) | refine st_cond rfl (fun hc => ?_) (fun hc => ?_)) <;> (try simp only [lqA, lqB, lqC, lqD, lqE, lqF, lqG, lqH, lqI, lqJ, lqK, lqL, lqM, lqN, lqO] at hc) <;> (try (exfalso; first | omega | exact bool_tf hc (by assumption) | exact bool_ft hc (by assumption) | exact absurd (by assumption) hc)) <;> (first | with_reducible show STri _ _ _ _ _ _ | (simp -dsimp [hc]; (repeat (simp -dsimp (disch := (first | omega | assumption | (refine Bool.eq_false_iff.1 ?_; assumption))) only [wrap_in, if_pos, if_neg]; (try simp -dsimp [hc]))))))))
  refine st_for [2] b.notes.length (fun k T H => T = [(1, .c (I y)), (2, .ptr 2 0), (4, .c (.val (.int .u64 (wrongTo b y k)))), (8, .c (slN b.notes)), (9, .c (I b.notes.length)), (10, .c (I k))] ∧ H = [(2, .box 81 ((rowBk b).map .c))]) (by simp) ⟨by simp [wrongTo], by simp⟩ ?_
  rintro k T H hk ⟨rfl, rfl⟩
  by_cases hlt : k < b.notes.length
  · have sr := sIsRight b hb b.notes[k] (List.getElem_mem hlt) y y0 y1
    obtain ⟨n1, n2, n3, n4, n5, n6⟩ := hb.no b.notes[k] (List.getElem_mem hlt)
    have hws := wrongTo_succ (y := y) hlt
    obtain ⟨i, hi⟩ : ∃ i : Nat, (b.notes[k]).src = i := ⟨(b.notes[k]).src.toNat, by omega⟩
    have hi2 : i ≤ 64 := by have := hb.len; omega
    have f1 := shr_nat (wrongTo b y k) i hi2
    simp only [cN, rowN, hi] at sr
    have ha : wrongTo b y k < 2 ^ 64 := Nat.lt_of_lt_of_le (wrongTo_lt hb y k hk) (Nat.pow_le_pow_right (by omega) (by have := hb.len; omega))
    have f3 := and_one (wrongTo b y k) i
    have f2 := shl_one i (by have := hb.len; omega)
    (repeat' (first | ((first | with_reducible refine st_skip ?_ | with_reducible refine st_exit ?_); (try simp only [seqQ, blockQ, loopQ, forQ, whileQ, reduceIte, Nat.reduceEqDiff])) | (with_reducible refine st_ret ?_; ((try simp only [seqQ, blockQ, loopQ, forQ, whileQ]); first | (with_reducible refine retM_ret ?_) | refine retQ_ret ?_; simp [hlt, hi, f1, f2, f3])) | refine st_seq ?_ | refine st_block ?_ | ((with_reducible show (STri _ _ _ _ _) ∧ (STri _ _ _ _ _)); refine And.intro ?_ ?_) | ((first | refine st_reg ?_ | refine buildP_own ?_ | refine appP_own ?_ | refine callP_b (sr) rfl ?_) <;> (simp -dsimp [hlt, hi, f1, f2, f3]; (repeat (simp -dsimp (disch := (first | omega | assumption | (refine Bool.eq_false_iff.1 ?_; assumption))) only [wrap_in, if_pos, if_neg]; (try simp -dsimp [hlt, hi, f1, f2, f3]))))) | ((first | refine guardP_of (fun hc => ?_) (fun hc => ?_) | refine st_cond rfl (fun hc => ?_) (fun hc => ?_)) <;> (try simp only [lqA, lqB, lqC, lqD, lqE, lqF, lqG, lqH, lqI, lqJ, lqK, lqL, lqM, lqN, lqO] at hc) <;> (try (exfalso; first | omega | exact bool_tf hc (by assumption) | exact bool_ft hc (by assumption) | exact absurd (by assumption) hc)) <;> (first | with_reducible show STri _ _ _ _ _ _ | (simp -dsimp [hlt, hi, f1, f2, f3, hc]; (repeat (simp -dsimp (disch := (first | omega | assumption | (refine Bool.eq_false_iff.1 ?_; assumption))) only [wrap_in, if_pos, if_neg]; (try simp -dsimp [hlt, hi, f1, f2, f3, hc]))))))))
    · rw [hi, Int.toNat_natCast, if_neg (by rw [hc]; decide)] at hws
      have hi3 : i < 64 := by have := hb.len; omega
      refine ⟨hlt, by simp, ?_, by simp⟩
      rw [or_two ha hi3, hws]
      simp
    · rw [if_pos hc] at hws
      exact ⟨hlt, by simp, by rw [hws]; simp, by simp⟩
    · rename_i h0 _ _ _ _
      rw [bitI, Bool.not_eq_false] at h0
      rw [hi, Int.toNat_natCast, or_self h0] at hws
      refine ⟨hlt, by simp, ?_, by simp⟩
      rw [hws]
      simp
  · (repeat' (first | ((first | with_reducible refine st_skip ?_ | with_reducible refine st_exit ?_); (try simp only [seqQ, blockQ, loopQ, forQ, whileQ, reduceIte, Nat.reduceEqDiff])) | (with_reducible refine st_ret ?_; ((try simp only [seqQ, blockQ, loopQ, forQ, whileQ]); first | (with_reducible refine retM_ret ?_) | refine retQ_ret ?_; simp [hlt])) | refine st_seq ?_ | refine st_block ?_ | ((with_reducible show (STri _ _ _ _ _) ∧ (STri _ _ _ _ _)); refine And.intro ?_ ?_) | ((first | refine st_reg ?_ | refine buildP_own ?_ | refine appP_own ?_) <;> (simp -dsimp [hlt]; (repeat (simp -dsimp (disch := (first | omega | assumption | (refine Bool.eq_false_iff.1 ?_; assumption))) only [wrap_in, if_pos, if_neg]; (try simp -dsimp [hlt]))))) | ((first | refine guardP_of (fun hc => ?_) (fun hc => ?_) | refine st_cond rfl (fun hc => ?_) (fun hc => ?_)) <;> (try simp only [lqA, lqB, lqC, lqD, lqE, lqF, lqG, lqH, lqI, lqJ, lqK, lqL, lqM, lqN, lqO] at hc) <;> (try (exfalso; first | omega | exact bool_tf hc (by assumption) | exact bool_ft hc (by assumption) | exact absurd (by assumption) hc)) <;> (first | with_reducible show STri _ _ _ _ _ _ | (simp -dsimp [hlt, hc]; (repeat (simp -dsimp (disch := (first | omega | assumption | (refine Bool.eq_false_iff.1 ?_; assumption))) only [wrap_in, if_pos, if_neg]; (try simp -dsimp [hlt, hc]))))))))
    have : k = b.notes.length := by omega
    subst this
    exact .refl _
end Go.Proofs.YtboifcengmgcaaaGreat
/- Wire, VIII: all corrections; spans of them. -/
namespace Go.Proofs.YtboifcengmgcaaaGreat
open Go.RowKit
def bookN (b : Wbk) : Nat := (b.nhi + 1 - b.nlo).toNat
def allL (b : Wbk) : List (Int × Nat) := (List.range (bookN b)).map fun (k : Nat) => (b.nlo + k, wrongN b (b.nlo + k))
def rowA (x : Int × Nat) : List CV := [I x.1, U x.2]
theorem allL_get {b : Wbk} {k : Nat} (h : k < bookN b) : (allL b)[k]? = some (b.nlo + k, wrongN b (b.nlo + k)) := by simp [allL, h]
theorem allL_len (b : Wbk) : (allL b).length = bookN b := by simp [allL]
theorem iAll (b : Wbk) (hb : BkOK b) : IterL Tryz.prog 49 1000 [cBk b] [] ((allL b).map rowA) := by
  refine ilaw_wire_book_all 1000 _ _ _ (by omega) (by simp) (fun Iv A G id hG hY => ?_)
  have hlen : ((allL b).map rowA).length = bookN b := by simp [allL]
  have n0 := hb.n0
  have n1 := hb.n1
  have n2 := hb.n2
  have hN : (bookN b : Int) = b.nhi + 1 - b.nlo := by unfold bookN; omega
  (repeat' (first | ((first | with_reducible refine st_skip ?_ | with_reducible refine st_exit ?_); (try simp only [seqQ, blockQ, loopQ, forQ, whileQ, reduceIte, Nat.reduceEqDiff])) | (with_reducible refine st_ret ?_; ((try simp only [seqQ, blockQ, loopQ, forQ, whileQ]); first | (with_reducible refine retM_ret ?_) | refine retQ_ret ?_; simp)) | refine st_seq ?_ | refine st_block ?_ | ((with_reducible show (STri _ _ _ _ _) ∧ (STri _ _ _ _ _)); refine And.intro ?_ ?_) | ((first | refine st_reg ?_ | refine buildP_own ?_ | refine appP_own ?_) <;> (simp -dsimp; (repeat (simp -dsimp (disch := (first | omega | assumption | (refine Bool.eq_false_iff.1 ?_; assumption))) only [wrap_in, if_pos, if_neg]; (try simp -dsimp))))) | ((first | refine guardP_of (fun hc => ?_) (fun hc => ?_) | refine st_cond rfl (fun hc => ?_) (fun hc => ?_)) <;> (try simp only [lqA, lqB, lqC, lqD, lqE, lqF, lqG, lqH, lqI, lqJ, lqK, lqL, lqM, lqN, lqO] at hc) <;> (try (exfalso; first | omega | exact bool_tf hc (by assumption) | exact bool_ft hc (by assumption) | exact absurd (by assumption) hc)) <;> (first | with_reducible show STri _ _ _ _ _ _ | (simp -dsimp [hc]; (repeat (simp -dsimp (disch := (first | omega | assumption | (refine Bool.eq_false_iff.1 ?_; assumption))) only [wrap_in, if_pos, if_neg]; (try simp -dsimp [hc]))))))))
  refine st_for [1000001000, 1002] (bookN b) (fun k T H => T = [(1, .yl id), (2, .ptr 1002 0), (4, .c (I (b.nlo + k)))] ∧ H = [(1000001000, .gh k false), (1002, .box 81 ((rowBk b).map .c))]) (by simp) ⟨by simp, by simp⟩ ?_
  rintro k T H hk ⟨rfl, rfl⟩
  by_cases hlt : k < bookN b
  · have hle : b.nlo + k ≤ b.nhi := by omega
    have hrow : ((allL b).map rowA)[k]? = some [I (b.nlo + k), .val (.int .u64 (wrongN b (b.nlo + k)))] := by rw [List.getElem?_map, allL_get hlt]; rfl
    have sw := sWrong b hb (b.nlo + k) (by omega) (by omega)
    (repeat' (first | ((first | with_reducible refine st_skip ?_ | with_reducible refine st_exit ?_); (try simp only [seqQ, blockQ, loopQ, forQ, whileQ, reduceIte, Nat.reduceEqDiff])) | (with_reducible refine st_ret ?_; ((try simp only [seqQ, blockQ, loopQ, forQ, whileQ]); first | (with_reducible refine retM_ret ?_) | refine retQ_ret ?_; simp [hle])) | refine st_seq ?_ | refine st_block ?_ | ((with_reducible show (STri _ _ _ _ _) ∧ (STri _ _ _ _ _)); refine And.intro ?_ ?_) | ((first | refine st_reg ?_ | ((with_reducible show callVP _ _ _ _ _ _ _); refine callV_yl (hY k _ hrow) [] (by first | rfl | simp) (fun j hj => by cases hj) rfl ?_ ?_) | refine buildP_own ?_ | refine appP_own ?_ | refine callP_b (sw) rfl ?_) <;> (simp -dsimp [hle]; (repeat (simp -dsimp (disch := (first | omega | assumption | (refine Bool.eq_false_iff.1 ?_; assumption))) only [wrap_in, if_pos, if_neg]; (try simp -dsimp [hle]))))) | ((first | refine guardP_of (fun hc => ?_) (fun hc => ?_) | refine st_cond rfl (fun hc => ?_) (fun hc => ?_)) <;> (try simp only [lqA, lqB, lqC, lqD, lqE, lqF, lqG, lqH, lqI, lqJ, lqK, lqL, lqM, lqN, lqO] at hc) <;> (try (exfalso; first | omega | exact bool_tf hc (by assumption) | exact bool_ft hc (by assumption) | exact absurd (by assumption) hc)) <;> (first | with_reducible show STri _ _ _ _ _ _ | (simp -dsimp [hle, hc]; (repeat (simp -dsimp (disch := (first | omega | assumption | (refine Bool.eq_false_iff.1 ?_; assumption))) only [wrap_in, if_pos, if_neg]; (try simp -dsimp [hle, hc]))))))))
    · exact ⟨hlt, by simp, by simp; omega, by simp⟩
    · exact st_ret ⟨.inr rfl, k + 1, true, rfl, fun h => by cases h⟩
  · have hle : ¬ b.nlo + k ≤ b.nhi := by omega
    (repeat' (first | ((first | with_reducible refine st_skip ?_ | with_reducible refine st_exit ?_); (try simp only [seqQ, blockQ, loopQ, forQ, whileQ, reduceIte, Nat.reduceEqDiff])) | (with_reducible refine st_ret ?_; ((try simp only [seqQ, blockQ, loopQ, forQ, whileQ]); first | (with_reducible refine retM_ret ?_) | refine retQ_ret ?_; simp [hle])) | refine st_seq ?_ | refine st_block ?_ | ((with_reducible show (STri _ _ _ _ _) ∧ (STri _ _ _ _ _)); refine And.intro ?_ ?_) | ((first | refine st_reg ?_ | refine buildP_own ?_ | refine appP_own ?_) <;> (simp -dsimp [hle]; (repeat (simp -dsimp (disch := (first | omega | assumption | (refine Bool.eq_false_iff.1 ?_; assumption))) only [wrap_in, if_pos, if_neg]; (try simp -dsimp [hle]))))) | ((first | refine guardP_of (fun hc => ?_) (fun hc => ?_) | refine st_cond rfl (fun hc => ?_) (fun hc => ?_)) <;> (try simp only [lqA, lqB, lqC, lqD, lqE, lqF, lqG, lqH, lqI, lqJ, lqK, lqL, lqM, lqN, lqO] at hc) <;> (try (exfalso; first | omega | exact bool_tf hc (by assumption) | exact bool_ft hc (by assumption) | exact absurd (by assumption) hc)) <;> (first | with_reducible show STri _ _ _ _ _ _ | (simp -dsimp [hle, hc]; (repeat (simp -dsimp (disch := (first | omega | assumption | (refine Bool.eq_false_iff.1 ?_; assumption))) only [wrap_in, if_pos, if_neg]; (try simp -dsimp [hle, hc]))))))))
    exact ⟨.inl rfl, k, false, rfl, fun _ => by rw [hlen]; omega⟩
def spanStep (p : Nat → Bool) (acc : List (Int × Int)) (x : Int × Nat) : List (Int × Int) :=
  if p x.2 = true then match acc.getLast? with
    | some l => if l.2 = x.1 - 1 then acc.dropLast ++ [(l.1, x.1)] else acc ++ [(x.1, x.1)]
    | none => [(x.1, x.1)]
  else acc
def spansTo (b : Wbk) (p : Nat → Bool) (k : Nat) : List (Int × Int) := ((allL b).take k).foldl (spanStep p) []
def spansL (b : Wbk) (p : Nat → Bool) : List (Int × Int) := (allL b).foldl (spanStep p) []
def slE (l : List (Int × Int)) : CV := .sl 2 (l.map rowE)
attribute [simp] slE
theorem spansTo_succ {b : Wbk} {p : Nat → Bool} {k : Nat} (h : k < (allL b).length) : spansTo b p (k + 1) = spanStep p (spansTo b p k) (allL b)[k] := by
  unfold spansTo
  rw [List.take_succ_eq_append_getElem h, List.foldl_append]
  rfl
theorem step_len (p : Nat → Bool) (acc : List (Int × Int)) (x : Int × Nat) : (spanStep p acc x).length ≤ acc.length + 1 := by
  unfold spanStep
  split
  · split
    · split <;> simp <;> omega
    · simp
  · omega
theorem spansTo_len (b : Wbk) (p : Nat → Bool) (k : Nat) (hk : k ≤ (allL b).length) : (spansTo b p k).length ≤ k := by
  induction k with
  | zero => simp [spansTo]
  | succ k ih =>
    rw [spansTo_succ (by omega)]
    have := step_len p (spansTo b p k) ((allL b)[k]'(by omega))
    have := ih (by omega)
    omega
def spI (b : Wbk) (p : Nat → Bool) (f : CV) (k : Nat) (R : HL) : Prop := R = [(3, .box 85 [.c f]), (4, .box 29 [.own 200 (spansTo b p k).length]), (200, .arr 24 2 ((spansTo b p k).map rowE))]
theorem sSpansL (b : Wbk) (hb : BkOK b) (p : Nat → Bool) (f : FuncId) (fs es : List CV) (he : Ent Tryz.prog f) (hp : ∀ x ∈ allL b, SC Tryz.prog f (fs ++ [U x.2] ++ es) (B (p x.2))) : SC Tryz.prog 25 [cBk b, .fn f fs es] (slE (spansL b p)) := by
  refine law_wire_book_spans _ _ (by simp) ?_
  have n0 := hb.n0
  have n1 := hb.n1
  have n2 := hb.n2
  have hlen := allL_len b
  have hN : (bookN b : Int) = b.nhi + 1 - b.nlo := by unfold bookN; omega
  (repeat' (first | (refine st_nilB 4 0 200 24 2 rfl (by simp) rfl (by simp [newOK]) ?_) | ((first | with_reducible refine st_skip ?_ | with_reducible refine st_exit ?_); (try simp only [seqQ, blockQ, loopQ, forQ, whileQ, reduceIte, Nat.reduceEqDiff])) | (with_reducible refine st_ret ?_; ((try simp only [seqQ, blockQ, loopQ, forQ, whileQ]); first | (with_reducible refine retM_ret ?_) | refine retQ_ret ?_; simp)) | refine st_seq ?_ | refine st_block ?_ | ((with_reducible show (STri _ _ _ _ _) ∧ (STri _ _ _ _ _)); refine And.intro ?_ ?_) | ((first | refine st_reg ?_ | refine buildP_own ?_ | refine appP_own ?_) <;> (simp -dsimp; (repeat (simp -dsimp (disch := (first | omega | assumption | (refine Bool.eq_false_iff.1 ?_; assumption))) only [wrap_in, if_pos, if_neg]; (try simp -dsimp))))) | ((first | refine guardP_of (fun hc => ?_) (fun hc => ?_) | refine st_cond rfl (fun hc => ?_) (fun hc => ?_)) <;> (try simp only [lqA, lqB, lqC, lqD, lqE, lqF, lqG, lqH, lqI, lqJ, lqK, lqL, lqM, lqN, lqO] at hc) <;> (try (exfalso; first | omega | exact bool_tf hc (by assumption) | exact bool_ft hc (by assumption) | exact absurd (by assumption) hc)) <;> (first | with_reducible show STri _ _ _ _ _ _ | (simp -dsimp [hc]; (repeat (simp -dsimp (disch := (first | omega | assumption | (refine Bool.eq_false_iff.1 ?_; assumption))) only [wrap_in, if_pos, if_neg]; (try simp -dsimp [hc]))))))))
  refine st_range (iAll b hb) [3, 4, 200] [] (fun k R => spI b p (.fn f fs es) k R)
    rfl rfl rfl (by kernel_rfl) (by show (0 : Nat) + 1000 ≤ 1000; decide) (fun j hj => by cases hj) (fun row hrow => by obtain ⟨y, _, rfl⟩ := List.mem_map.1 hrow; rfl) (by simp) (by simp) (by simp [spI, spansTo]) ?_ ?_
  · rintro k row R rfl hrow Iv1 G1 hGG hin
    obtain ⟨d, hdk, rfl⟩ : ∃ d, (allL b)[k]? = some d ∧ row = rowA d := by
      rw [List.getElem?_map, Option.map_eq_some_iff] at hrow
      obtain ⟨d, h1, h2⟩ := hrow
      exact ⟨d, h1, h2.symm⟩
    have hk : k < (allL b).length := (List.getElem?_eq_some_iff.1 hdk).1
    have hkd : (allL b)[k] = d := (List.getElem?_eq_some_iff.1 hdk).2
    have hs := spansTo_succ (p := p) hk
    rw [hkd] at hs
    have hcl := hp d (hkd ▸ List.getElem_mem hk)
    have hd1 : d.1 = b.nlo + k := by
      rw [allL_get (by omega)] at hdk; cases hdk; rfl
    have hsl := spansTo_len b p k (by omega)
    unfold rowA
    (repeat' (first | ((first | with_reducible refine st_skip ?_ | with_reducible refine st_exit ?_); (try simp only [seqQ, blockQ, loopQ, forQ, whileQ, reduceIte, Nat.reduceEqDiff])) | (with_reducible refine st_ret ?_; ((try simp only [seqQ, blockQ, loopQ, forQ, whileQ]); first | (with_reducible refine retM_ret ?_) | refine retQ_ret ?_; simp)) | refine st_seq ?_ | refine st_block ?_ | ((with_reducible show (STri _ _ _ _ _) ∧ (STri _ _ _ _ _)); refine And.intro ?_ ?_) | ((first | refine st_reg ?_ | refine buildP_own ?_ | refine appP_own ?_) <;> (simp -dsimp; (repeat (simp -dsimp (disch := (first | omega | assumption | (refine Bool.eq_false_iff.1 ?_; assumption))) only [wrap_in, if_pos, if_neg]; (try simp -dsimp))))) | ((first | refine guardP_of (fun hc => ?_) (fun hc => ?_) | refine st_cond rfl (fun hc => ?_) (fun hc => ?_)) <;> (try simp only [lqA, lqB, lqC, lqD, lqE, lqF, lqG, lqH, lqI, lqJ, lqK, lqL, lqM, lqN, lqO] at hc) <;> (try (exfalso; first | omega | exact bool_tf hc (by assumption) | exact bool_ft hc (by assumption) | exact absurd (by assumption) hc)) <;> (first | with_reducible show STri _ _ _ _ _ _ | (simp -dsimp [hc]; (repeat (simp -dsimp (disch := (first | omega | assumption | (refine Bool.eq_false_iff.1 ?_; assumption))) only [wrap_in, if_pos, if_neg]; (try simp -dsimp [hc]))))))))
    refine ⟨rfl, fun Iv2 hin2 => ?_⟩
    show STri _ _ _ _ (rangeQ _ _ _ (fun k R => spI b p (.fn f fs es) k R) _ _ _)
    generalize hq : spansTo b p k = acc at *
    by_cases hpd : p d.2 = true
    · unfold spanStep at hs
      rw [hpd] at hcl
      rw [if_pos hpd] at hs
      rcases List.eq_nil_or_concat acc with rfl | ⟨ini, l, rfl⟩
      · simp only [List.getLast?_nil] at hs
        (repeat' (first | ((first | with_reducible refine st_skip ?_ | with_reducible refine st_exit ?_); (try simp only [seqQ, blockQ, loopQ, forQ, whileQ, reduceIte, Nat.reduceEqDiff])) | (with_reducible refine st_ret ?_; ((try simp only [seqQ, blockQ, loopQ, forQ, whileQ]); first | (with_reducible refine retM_ret ?_) | refine retQ_ret ?_; simp)) | refine st_seq ?_ | refine st_block ?_ | ((with_reducible show (STri _ _ _ _ _) ∧ (STri _ _ _ _ _)); refine And.intro ?_ ?_) | ((first | refine st_reg ?_ | ((with_reducible show callVP _ _ _ _ _ _ _); refine callV_b (by first | exact Ent.h (by assumption) | kernel_rfl) (hcl) rfl ?_) | refine buildP_own ?_ | refine appP_own ?_) <;> (simp -dsimp; (repeat (simp -dsimp (disch := (first | omega | assumption | (refine Bool.eq_false_iff.1 ?_; assumption))) only [wrap_in, if_pos, if_neg]; (try simp -dsimp))))) | ((first | refine guardP_of (fun hc => ?_) (fun hc => ?_) | refine st_cond rfl (fun hc => ?_) (fun hc => ?_)) <;> (try simp only [lqA, lqB, lqC, lqD, lqE, lqF, lqG, lqH, lqI, lqJ, lqK, lqL, lqM, lqN, lqO] at hc) <;> (try (exfalso; first | omega | exact bool_tf hc (by assumption) | exact bool_ft hc (by assumption) | exact absurd (by assumption) hc)) <;> (first | with_reducible show STri _ _ _ _ _ _ | (simp -dsimp [hc]; (repeat (simp -dsimp (disch := (first | omega | assumption | (refine Bool.eq_false_iff.1 ?_; assumption))) only [wrap_in, if_pos, if_neg]; (try simp -dsimp [hc]))))))))
        exact ⟨by simp, by simp, by simp [spI, hs]⟩
      · rw [List.concat_eq_append] at *
        simp only [List.getLast?_append, List.getLast?_singleton, Option.some_or, List.dropLast_concat] at hs
        have hA : ini.length + 1 ≤ 9223372036854775806 := by simp at hsl; omega
        have hB : (ini.length + 1 + 1) * 16 ≤ 140737488355328 := by simp at hsl; omega
        have hget : (ini.map rowE ++ [rowE l])[ini.length]? = some (rowE l) := by simp
        have hset : ∀ r, (ini.map rowE ++ [rowE l]).set ini.length r = ini.map rowE ++ [r] := fun r => by simp
        by_cases hl : l.2 = d.1 - 1
        · rw [if_pos hl] at hs
          (repeat' (first | ((first | with_reducible refine st_skip ?_ | with_reducible refine st_exit ?_); (try simp only [seqQ, blockQ, loopQ, forQ, whileQ, reduceIte, Nat.reduceEqDiff])) | (with_reducible refine st_ret ?_; ((try simp only [seqQ, blockQ, loopQ, forQ, whileQ]); first | (with_reducible refine retM_ret ?_) | refine retQ_ret ?_; simp [hl, hget, hset])) | refine st_seq ?_ | refine st_block ?_ | ((with_reducible show (STri _ _ _ _ _) ∧ (STri _ _ _ _ _)); refine And.intro ?_ ?_) | ((first | refine st_reg ?_ | ((with_reducible show callVP _ _ _ _ _ _ _); refine callV_b (by first | exact Ent.h (by assumption) | kernel_rfl) (hcl) rfl ?_) | refine buildP_own ?_ | refine appP_own ?_) <;> (simp -dsimp [hl, hget, hset]; (repeat (simp -dsimp (disch := (first | omega | assumption | (refine Bool.eq_false_iff.1 ?_; assumption))) only [wrap_in, if_pos, if_neg]; (try simp -dsimp [hl, hget, hset]))))) | ((first | refine guardP_of (fun hc => ?_) (fun hc => ?_) | refine st_cond rfl (fun hc => ?_) (fun hc => ?_)) <;> (try simp only [lqA, lqB, lqC, lqD, lqE, lqF, lqG, lqH, lqI, lqJ, lqK, lqL, lqM, lqN, lqO] at hc) <;> (try (exfalso; first | omega | exact bool_tf hc (by assumption) | exact bool_ft hc (by assumption) | exact absurd (by assumption) hc)) <;> (first | with_reducible show STri _ _ _ _ _ _ | (simp -dsimp [hl, hget, hset, hc]; (repeat (simp -dsimp (disch := (first | omega | assumption | (refine Bool.eq_false_iff.1 ?_; assumption))) only [wrap_in, if_pos, if_neg]; (try simp -dsimp [hl, hget, hset, hc]))))))))
          exact ⟨by simp, by simp, by simp [spI, hs]⟩
        · rw [if_neg hl] at hs
          (repeat' (first | ((first | with_reducible refine st_skip ?_ | with_reducible refine st_exit ?_); (try simp only [seqQ, blockQ, loopQ, forQ, whileQ, reduceIte, Nat.reduceEqDiff])) | (with_reducible refine st_ret ?_; ((try simp only [seqQ, blockQ, loopQ, forQ, whileQ]); first | (with_reducible refine retM_ret ?_) | refine retQ_ret ?_; simp [hl, hget, hA, hB])) | refine st_seq ?_ | refine st_block ?_ | ((with_reducible show (STri _ _ _ _ _) ∧ (STri _ _ _ _ _)); refine And.intro ?_ ?_) | ((first | refine st_reg ?_ | ((with_reducible show callVP _ _ _ _ _ _ _); refine callV_b (by first | exact Ent.h (by assumption) | kernel_rfl) (hcl) rfl ?_) | refine buildP_own ?_ | refine appP_own ?_) <;> (simp -dsimp [hl, hget, hA, hB]; (repeat (simp -dsimp (disch := (first | omega | assumption | (refine Bool.eq_false_iff.1 ?_; assumption))) only [wrap_in, if_pos, if_neg]; (try simp -dsimp [hl, hget, hA, hB]))))) | ((first | refine guardP_of (fun hc => ?_) (fun hc => ?_) | refine st_cond rfl (fun hc => ?_) (fun hc => ?_)) <;> (try simp only [lqA, lqB, lqC, lqD, lqE, lqF, lqG, lqH, lqI, lqJ, lqK, lqL, lqM, lqN, lqO] at hc) <;> (try (exfalso; first | omega | exact bool_tf hc (by assumption) | exact bool_ft hc (by assumption) | exact absurd (by assumption) hc)) <;> (first | with_reducible show STri _ _ _ _ _ _ | (simp -dsimp [hl, hget, hA, hB, hc]; (repeat (simp -dsimp (disch := (first | omega | assumption | (refine Bool.eq_false_iff.1 ?_; assumption))) only [wrap_in, if_pos, if_neg]; (try simp -dsimp [hl, hget, hA, hB, hc]))))))))
          exact ⟨by simp, by simp, by simp [spI, hs]⟩
    · unfold spanStep at hs
      rw [if_neg hpd] at hs
      rw [Bool.not_eq_true] at hpd
      rw [hpd] at hcl
      (repeat' (first | ((first | with_reducible refine st_skip ?_ | with_reducible refine st_exit ?_); (try simp only [seqQ, blockQ, loopQ, forQ, whileQ, reduceIte, Nat.reduceEqDiff])) | (with_reducible refine st_ret ?_; ((try simp only [seqQ, blockQ, loopQ, forQ, whileQ]); first | (with_reducible refine retM_ret ?_) | refine retQ_ret ?_; simp)) | refine st_seq ?_ | refine st_block ?_ | ((with_reducible show (STri _ _ _ _ _) ∧ (STri _ _ _ _ _)); refine And.intro ?_ ?_) | ((first | refine st_reg ?_ | ((with_reducible show callVP _ _ _ _ _ _ _); refine callV_b (by first | exact Ent.h (by assumption) | kernel_rfl) (hcl) rfl ?_) | refine buildP_own ?_ | refine appP_own ?_) <;> (simp -dsimp; (repeat (simp -dsimp (disch := (first | omega | assumption | (refine Bool.eq_false_iff.1 ?_; assumption))) only [wrap_in, if_pos, if_neg]; (try simp -dsimp))))) | ((first | refine guardP_of (fun hc => ?_) (fun hc => ?_) | refine st_cond rfl (fun hc => ?_) (fun hc => ?_)) <;> (try simp only [lqA, lqB, lqC, lqD, lqE, lqF, lqG, lqH, lqI, lqJ, lqK, lqL, lqM, lqN, lqO] at hc) <;> (try (exfalso; first | omega | exact bool_tf hc (by assumption) | exact bool_ft hc (by assumption) | exact absurd (by assumption) hc)) <;> (first | with_reducible show STri _ _ _ _ _ _ | (simp -dsimp [hc]; (repeat (simp -dsimp (disch := (first | omega | assumption | (refine Bool.eq_false_iff.1 ?_; assumption))) only [wrap_in, if_pos, if_neg]; (try simp -dsimp [hc]))))))))
      exact ⟨by simp, by simp, by simp [spI, hs]⟩
  · rintro R rfl
    simp only [blockQ, seqQ]
    have e : spansTo b p ((allL b).map rowA).length = spansL b p := by unfold spansTo spansL; rw [List.length_map, List.take_length]
    rw [e]
    (repeat' (first | ((first | with_reducible refine st_skip ?_ | with_reducible refine st_exit ?_); (try simp only [seqQ, blockQ, loopQ, forQ, whileQ, reduceIte, Nat.reduceEqDiff])) | (with_reducible refine st_ret ?_; ((try simp only [seqQ, blockQ, loopQ, forQ, whileQ]); first | (with_reducible refine retM_ret ?_) | refine retQ_ret ?_; simp)) | refine st_seq ?_ | refine st_block ?_ | ((with_reducible show (STri _ _ _ _ _) ∧ (STri _ _ _ _ _)); refine And.intro ?_ ?_) | ((first | refine st_reg ?_ | refine buildP_own ?_ | refine appP_own ?_) <;> (simp -dsimp; (repeat (simp -dsimp (disch := (first | omega | assumption | (refine Bool.eq_false_iff.1 ?_; assumption))) only [wrap_in, if_pos, if_neg]; (try simp -dsimp))))) | ((first | refine guardP_of (fun hc => ?_) (fun hc => ?_) | refine st_cond rfl (fun hc => ?_) (fun hc => ?_)) <;> (try simp only [lqA, lqB, lqC, lqD, lqE, lqF, lqG, lqH, lqI, lqJ, lqK, lqL, lqM, lqN, lqO] at hc) <;> (try (exfalso; first | omega | exact bool_tf hc (by assumption) | exact bool_ft hc (by assumption) | exact absurd (by assumption) hc)) <;> (first | with_reducible show STri _ _ _ _ _ _ | (simp -dsimp [hc]; (repeat (simp -dsimp (disch := (first | omega | assumption | (refine Bool.eq_false_iff.1 ?_; assumption))) only [wrap_in, if_pos, if_neg]; (try simp -dsimp [hc]))))))))
    exact .refl _
theorem sNobody (n : Nat) : SC Tryz.prog 26 [U n] (B (decide (n = 0))) := by
  refine law_wire_nobody _ _ (by simp) ?_
  (repeat' (first | ((first | with_reducible refine st_skip ?_ | with_reducible refine st_exit ?_); (try simp only [seqQ, blockQ, loopQ, forQ, whileQ, reduceIte, Nat.reduceEqDiff])) | (with_reducible refine st_ret ?_; ((try simp only [seqQ, blockQ, loopQ, forQ, whileQ]); first | (with_reducible refine retM_ret ?_) | refine retQ_ret ?_; simp)) | refine st_seq ?_ | refine st_block ?_ | ((with_reducible show (STri _ _ _ _ _) ∧ (STri _ _ _ _ _)); refine And.intro ?_ ?_) | ((first | refine st_reg ?_ | refine buildP_own ?_ | refine appP_own ?_) <;> (simp -dsimp; (repeat (simp -dsimp (disch := (first | omega | assumption | (refine Bool.eq_false_iff.1 ?_; assumption))) only [wrap_in, if_pos, if_neg]; (try simp -dsimp))))) | ((first | refine guardP_of (fun hc => ?_) (fun hc => ?_) | refine st_cond rfl (fun hc => ?_) (fun hc => ?_)) <;> (try simp only [lqA, lqB, lqC, lqD, lqE, lqF, lqG, lqH, lqI, lqJ, lqK, lqL, lqM, lqN, lqO] at hc) <;> (try (exfalso; first | omega | exact bool_tf hc (by assumption) | exact bool_ft hc (by assumption) | exact absurd (by assumption) hc)) <;> (first | with_reducible show STri _ _ _ _ _ _ | (simp -dsimp [hc]; (repeat (simp -dsimp (disch := (first | omega | assumption | (refine Bool.eq_false_iff.1 ?_; assumption))) only [wrap_in, if_pos, if_neg]; (try simp -dsimp [hc]))))))))
  all_goals (refine CLe.bool ?_; rw [Bool.eq_iff_iff]; simp)
theorem new_ok {w : List Wsrc} {l : List Wnt} {nlo nhi : Int} (h : newErr w l nlo nhi = 0) : newBk w l nlo nhi = ⟨w, w.map errOf, l, nlo, nhi⟩ ∧ sizeW w = true ∧ w.all validV = true ∧ l.length ≤ 60 ∧ notesErr w l = 0 ∧ spanW nlo nhi 7200 = true := by
  have h0 := h
  unfold newErr at h
  split at h
  · cases h
  rename_i h1
  split at h
  · cases h
  rename_i h2
  split at h
  · cases h
  rename_i h3
  split at h
  · rename_i h4; exact absurd h h4
  rename_i h4
  split at h
  case isFalse => cases h
  rename_i h5
  refine ⟨by unfold newBk; rw [if_neg h1, if_neg h2, if_pos h0], by simpa using h1, by simpa using h2, by omega, by simpa using h4, h5⟩
theorem noteErr_zero {w : List Wsrc} {n : Wnt} (h : noteErr w n = 0) : 0 ≤ n.src ∧ n.src < w.length ∧ 0 ≤ n.tick ∧ n.tick ≤ 3155760000 ∧ (w.map fun s => saidB s n.said).getD n.src.toNat false = true := by
  unfold noteErr at h
  split at h
  case isFalse => cases h
  rename_i h1
  split at h
  case isFalse => cases h
  rename_i h2
  unfold within1 at h1 h2
  simp only [Bool.and_eq_true, decide_eq_true_eq] at h1 h2
  exact ⟨h1.1, by omega, h2.1.1, h2.1.2, h2.2⟩
theorem notesErr_zero {w : List Wsrc} {l : List Wnt} (h : notesErr w l = 0) : ∀ n ∈ l, noteErr w n = 0 := by
  unfold notesErr at h
  cases hf : l.find? (fun n => decide (noteErr w n ≠ 0)) with
  | none => intro n hn; simpa using List.find?_eq_none.1 hf n hn
  | some n =>
    rw [hf] at h
    have := List.find?_some hf
    simp at this
    exact absurd h this
theorem said_bd {s : Wsrc} {n : Int} (h : saidB s n = true) : 0 ≤ n ∧ n ≤ 3155760000 := by
  unfold saidB within1 at h
  split at h
  · simp at h; omega
  · split at h <;> simp at h <;> omega
theorem new_bk {w : List Wsrc} {l : List Wnt} {nlo nhi : Int} (h : newErr w l nlo nhi = 0) : BkOK (newBk w l nlo nhi) := by
  obtain ⟨e, h1, h2, h3, h4, h5⟩ := new_ok h
  rw [e]
  have hz : 1 ≤ w.length ∧ w.length ≤ 10 := by unfold sizeW within1 at h1; simp at h1; omega
  have hv : ∀ s ∈ w, validV s = true := List.all_eq_true.1 h2
  have hsp : -7200 ≤ nlo ∧ nlo ≤ nhi ∧ nhi ≤ 7200 := by unfold spanW at h5; simp at h5; omega
  refine ⟨hz.2, by simp, hv, fun x hx => ?_, h3, fun n hn => ?_, hsp.1, hsp.2.1, hsp.2.2⟩
  · obtain ⟨s, hs, rfl⟩ := List.mem_map.1 hx
    have := hv s hs
    unfold validV baseV spanW at this
    simp at this
    show -20000 ≤ s.elo ∧ s.elo ≤ 20000 ∧ -20000 ≤ s.ehi ∧ s.ehi ≤ 20000
    omega
  · obtain ⟨g1, g2, g3, g4, g5⟩ := noteErr_zero (notesErr_zero h4 n hn)
    have hlt : n.src.toNat < w.length := by omega
    have h6 : saidB (w[n.src.toNat]) n.said = true := by simpa [hlt] using g5
    have := said_bd h6
    exact ⟨g1, g2, g3, g4, this.1, this.2⟩
theorem sFits (w : List Wsrc) (hw : WLen w) (l : List Wnt) (hl : l.length ≤ 1000000) (nlo nhi : Int) : SC Tryz.prog 14 [slSr w, slN l, .agg [I nlo, I nhi]]
    (.tup [slE (if newErr w l nlo nhi = 0 then spansL (newBk w l nlo nhi) (fun m => decide (m = 0)) else []), I (if newErr w l nlo nhi = 0 then (if spansL (newBk w l nlo nhi) (fun m => decide (m = 0)) = [] then 7 else 0) else newErr w l nlo nhi)]) := by
  refine law_wire_Fits _ _ (by simp) ?_
  have sb := sNewBook w hw l hl nlo nhi
  by_cases h : newErr w l nlo nhi = 0
  · have hb := new_bk h
    have ss := sSpansL _ hb (fun m => decide (m = 0)) 26 [] [] ⟨by kernel_rfl⟩ (fun x _ => sNobody x.2)
    rw [if_pos h, if_pos h]
    rw [h] at sb
    generalize newBk w l nlo nhi = b at *
    generalize spansL b (fun m => decide (m = 0)) = r at *
    by_cases hr : r = []
    · subst hr
      (repeat' (first | ((first | with_reducible refine st_skip ?_ | with_reducible refine st_exit ?_); (try simp only [seqQ, blockQ, loopQ, forQ, whileQ, reduceIte, Nat.reduceEqDiff])) | (with_reducible refine st_ret ?_; ((try simp only [seqQ, blockQ, loopQ, forQ, whileQ]); first | (with_reducible refine retM_ret ?_) | refine retQ_ret ?_; simp)) | refine st_seq ?_ | refine st_block ?_ | ((with_reducible show (STri _ _ _ _ _) ∧ (STri _ _ _ _ _)); refine And.intro ?_ ?_) | ((first | refine st_reg ?_ | refine buildP_own ?_ | refine appP_own ?_ | refine callP_b (sb) rfl ?_ | refine callP_b (ss) rfl ?_) <;> (simp -dsimp; (repeat (simp -dsimp (disch := (first | omega | assumption | (refine Bool.eq_false_iff.1 ?_; assumption))) only [wrap_in, if_pos, if_neg]; (try simp -dsimp))))) | ((first | refine guardP_of (fun hc => ?_) (fun hc => ?_) | refine st_cond rfl (fun hc => ?_) (fun hc => ?_)) <;> (try simp only [lqA, lqB, lqC, lqD, lqE, lqF, lqG, lqH, lqI, lqJ, lqK, lqL, lqM, lqN, lqO] at hc) <;> (try (exfalso; first | omega | exact bool_tf hc (by assumption) | exact bool_ft hc (by assumption) | exact absurd (by assumption) hc)) <;> (first | with_reducible show STri _ _ _ _ _ _ | (simp -dsimp [hc]; (repeat (simp -dsimp (disch := (first | omega | assumption | (refine Bool.eq_false_iff.1 ?_; assumption))) only [wrap_in, if_pos, if_neg]; (try simp -dsimp [hc]))))))))
      exact cle_nilT 2 _
    · have hr2 : ¬ r.length = 0 := fun e => hr (List.length_eq_zero_iff.1 e)
      (repeat' (first | ((first | with_reducible refine st_skip ?_ | with_reducible refine st_exit ?_); (try simp only [seqQ, blockQ, loopQ, forQ, whileQ, reduceIte, Nat.reduceEqDiff])) | (with_reducible refine st_ret ?_; ((try simp only [seqQ, blockQ, loopQ, forQ, whileQ]); first | (with_reducible refine retM_ret ?_) | refine retQ_ret ?_; simp [hr, hr2])) | refine st_seq ?_ | refine st_block ?_ | ((with_reducible show (STri _ _ _ _ _) ∧ (STri _ _ _ _ _)); refine And.intro ?_ ?_) | ((first | refine st_reg ?_ | refine buildP_own ?_ | refine appP_own ?_ | refine callP_b (sb) rfl ?_ | refine callP_b (ss) rfl ?_) <;> (simp -dsimp [hr, hr2]; (repeat (simp -dsimp (disch := (first | omega | assumption | (refine Bool.eq_false_iff.1 ?_; assumption))) only [wrap_in, if_pos, if_neg]; (try simp -dsimp [hr, hr2]))))) | ((first | refine guardP_of (fun hc => ?_) (fun hc => ?_) | refine st_cond rfl (fun hc => ?_) (fun hc => ?_)) <;> (try simp only [lqA, lqB, lqC, lqD, lqE, lqF, lqG, lqH, lqI, lqJ, lqK, lqL, lqM, lqN, lqO] at hc) <;> (try (exfalso; first | omega | exact bool_tf hc (by assumption) | exact bool_ft hc (by assumption) | exact absurd (by assumption) hc)) <;> (first | with_reducible show STri _ _ _ _ _ _ | (simp -dsimp [hr, hr2, hc]; (repeat (simp -dsimp (disch := (first | omega | assumption | (refine Bool.eq_false_iff.1 ?_; assumption))) only [wrap_in, if_pos, if_neg]; (try simp -dsimp [hr, hr2, hc]))))))))
      all_goals exact .refl _
  · rw [if_neg h, if_neg h]
    generalize newErr w l nlo nhi = e at *
    generalize newBk w l nlo nhi = b at *
    (repeat' (first | ((first | with_reducible refine st_skip ?_ | with_reducible refine st_exit ?_); (try simp only [seqQ, blockQ, loopQ, forQ, whileQ, reduceIte, Nat.reduceEqDiff])) | (with_reducible refine st_ret ?_; ((try simp only [seqQ, blockQ, loopQ, forQ, whileQ]); first | (with_reducible refine retM_ret ?_) | refine retQ_ret ?_; simp [h])) | refine st_seq ?_ | refine st_block ?_ | ((with_reducible show (STri _ _ _ _ _) ∧ (STri _ _ _ _ _)); refine And.intro ?_ ?_) | ((first | refine st_reg ?_ | refine buildP_own ?_ | refine appP_own ?_ | refine callP_b (sb) rfl ?_) <;> (simp -dsimp [h]; (repeat (simp -dsimp (disch := (first | omega | assumption | (refine Bool.eq_false_iff.1 ?_; assumption))) only [wrap_in, if_pos, if_neg]; (try simp -dsimp [h]))))) | ((first | refine guardP_of (fun hc => ?_) (fun hc => ?_) | refine st_cond rfl (fun hc => ?_) (fun hc => ?_)) <;> (try simp only [lqA, lqB, lqC, lqD, lqE, lqF, lqG, lqH, lqI, lqJ, lqK, lqL, lqM, lqN, lqO] at hc) <;> (try (exfalso; first | omega | exact bool_tf hc (by assumption) | exact bool_ft hc (by assumption) | exact absurd (by assumption) hc)) <;> (first | with_reducible show STri _ _ _ _ _ _ | (simp -dsimp [h, hc]; (repeat (simp -dsimp (disch := (first | omega | assumption | (refine Bool.eq_false_iff.1 ?_; assumption))) only [wrap_in, if_pos, if_neg]; (try simp -dsimp [h, hc]))))))))
    all_goals exact cle_nilT 2 _
end Go.Proofs.YtboifcengmgcaaaGreat
/- Wire, IX: the sets of sources that are wrong. -/
namespace Go.Proofs.YtboifcengmgcaaaGreat
open Go.RowKit
def entU (w : Nat) : List Int × CV := ([(w : Int)], .val (.bool true))
attribute [simp] entU
def entsU (l : List Nat) : List (List Int × CV) := l.map entU
def addU (l : List Nat) (w : Nat) : List Nat := if w ∈ l then l else l ++ [w]
def setsTo (b : Wbk) (k : Nat) : List Nat := ((allL b).take k).foldl (fun l x => addU l x.2) []
def setsL (b : Wbk) : List Nat := (allL b).foldl (fun l x => addU l x.2) []
theorem putU (l : List Nat) (w : Nat) : putM (entsU l) [(w : Int)] (.val (.bool true)) = entsU (addU l w) := by
  have hany : (entsU l).any (fun p => p.1 == [(w : Int)]) = decide (w ∈ l) := by
    rw [Bool.eq_iff_iff]
    simp only [entsU, List.any_map, List.any_eq_true, Function.comp_def, entU, decide_eq_true_eq, beq_iff_eq, List.cons.injEq, and_true]
    constructor
    · rintro ⟨x, hx, h⟩
      have : x = w := by omega
      rw [← this]; exact hx
    · exact fun h => ⟨w, h, rfl⟩
  unfold putM addU
  rw [hany]
  by_cases h : w ∈ l
  · rw [if_pos h, if_pos (by simpa using h)]
    unfold entsU
    rw [List.map_map]
    refine List.map_congr_left fun x _ => ?_
    simp only [Function.comp_def, entU]
    exact ite_self _
  · rw [if_neg h, if_neg (by simpa using h)]
    simp [entsU, entU]
theorem setsTo_succ {b : Wbk} {k : Nat} (h : k < (allL b).length) : setsTo b (k + 1) = addU (setsTo b k) (allL b)[k].2 := by
  unfold setsTo
  rw [List.take_succ_eq_append_getElem h, List.foldl_append]
  rfl
theorem addU_len (l : List Nat) (w : Nat) : (addU l w).length ≤ l.length + 1 := by
  unfold addU; split <;> simp
theorem setsTo_len (b : Wbk) (k : Nat) (hk : k ≤ (allL b).length) : (setsTo b k).length ≤ k := by
  induction k with
  | zero => simp [setsTo]
  | succ k ih =>
    rw [setsTo_succ (by omega)]
    have := addU_len (setsTo b k) ((allL b)[k]'(by omega)).2
    have := ih (by omega)
    omega
theorem mem_addU {l : List Nat} {w x : Nat} : x ∈ addU l w ↔ x ∈ l ∨ x = w := by
  unfold addU
  split
  · rename_i h
    constructor
    · exact fun hx => .inl hx
    · rintro (hx | rfl)
      · exact hx
      · exact h
  · simp
theorem mem_fold : ∀ (xs : List (Int × Nat)) (l : List Nat) (x : Nat), x ∈ xs.foldl (fun l x => addU l x.2) l ↔ x ∈ l ∨ ∃ y ∈ xs, y.2 = x
  | [], l, x => by simp
  | y :: xs, l, x => by
    rw [List.foldl_cons, mem_fold xs, mem_addU]
    constructor
    · rintro ((h | h) | ⟨z, hz, h⟩)
      · exact .inl h
      · exact .inr ⟨y, by simp, h.symm⟩
      · exact .inr ⟨z, by simp [hz], h⟩
    · rintro (h | ⟨z, hz, h⟩)
      · exact .inl (.inl h)
      · rcases List.mem_cons.1 hz with rfl | hz
        · exact .inl (.inr h.symm)
        · exact .inr ⟨z, hz, h⟩
theorem nodup_addU {l : List Nat} (h : l.Nodup) (w : Nat) : (addU l w).Nodup := by
  unfold addU
  split
  · exact h
  · rename_i hw
    rw [List.nodup_append]
    exact ⟨h, by simp, fun a ha b hb => by simp at hb; subst hb; exact fun e => hw (e ▸ ha)⟩
theorem nodup_fold : ∀ (xs : List (Int × Nat)) (l : List Nat), l.Nodup → (xs.foldl (fun l x => addU l x.2) l).Nodup
  | [], _, h => h
  | y :: xs, l, h => by rw [List.foldl_cons]; exact nodup_fold xs _ (nodup_addU h _)
theorem mem_setsL {b : Wbk} {x : Nat} : x ∈ setsL b ↔ ∃ y ∈ allL b, y.2 = x := by
  unfold setsL
  rw [mem_fold]; simp
theorem setsL_nodup (b : Wbk) : (setsL b).Nodup := nodup_fold _ _ List.nodup_nil
theorem ents_perm {l : List Nat} {p : List Int × CV} {rest : List (List Int × CV)} (h : (entsU l).Perm (p :: rest)) : ∃ w R, p = entU w ∧ rest = entsU R ∧ l.Perm (w :: R) := by
  have inv : ∀ q ∈ entsU l, entU (q.1.headD 0).toNat = q := fun q hq => by
    obtain ⟨w, _, rfl⟩ := List.mem_map.1 hq
    simp [entU]
  have hl : (entsU l).map (fun q => (q.1.headD 0).toNat) = l := by
    unfold entsU
    rw [List.map_map]
    conv => rhs; rw [← List.map_id l]
    exact List.map_congr_left fun x _ => by simp [entU]
  refine ⟨(p.1.headD 0).toNat, rest.map (fun q => (q.1.headD 0).toNat), (inv p (h.mem_iff.2 (by simp))).symm, ?_, ?_⟩
  · unfold entsU
    rw [List.map_map]
    conv => lhs; rw [← List.map_id rest]
    exact List.map_congr_left fun q hq => (inv q (h.mem_iff.2 (by simp [hq]))).symm
  · have := h.map (fun q : List Int × CV => (q.1.headD 0).toNat)
    rw [hl] at this
    exact this
theorem sSets (b : Wbk) (hb : BkOK b) : SC Tryz.prog 55 [cBk b] (.map false .u64 (entsU (setsL b))) := by
  refine law_wire_book_sets _ _ (by simp) ?_
  have n0 := hb.n0
  have n2 := hb.n2
  have hlen := allL_len b
  have hN : bookN b ≤ 20000 := by unfold bookN; omega
  (repeat' (first | ((first | with_reducible refine st_skip ?_ | with_reducible refine st_exit ?_); (try simp only [seqQ, blockQ, loopQ, forQ, whileQ, reduceIte, Nat.reduceEqDiff])) | (with_reducible refine st_ret ?_; ((try simp only [seqQ, blockQ, loopQ, forQ, whileQ]); first | (with_reducible refine retM_ret ?_) | refine retQ_ret ?_; simp)) | refine st_seq ?_ | refine st_block ?_ | ((with_reducible show (STri _ _ _ _ _) ∧ (STri _ _ _ _ _)); refine And.intro ?_ ?_) | ((first | refine st_reg ?_ | refine buildP_own ?_ | refine appP_own ?_) <;> (simp -dsimp; (repeat (simp -dsimp (disch := (first | omega | assumption | (refine Bool.eq_false_iff.1 ?_; assumption))) only [wrap_in, if_pos, if_neg]; (try simp -dsimp))))) | ((first | refine guardP_of (fun hc => ?_) (fun hc => ?_) | refine st_cond rfl (fun hc => ?_) (fun hc => ?_)) <;> (try simp only [lqA, lqB, lqC, lqD, lqE, lqF, lqG, lqH, lqI, lqJ, lqK, lqL, lqM, lqN, lqO] at hc) <;> (try (exfalso; first | omega | exact bool_tf hc (by assumption) | exact bool_ft hc (by assumption) | exact absurd (by assumption) hc)) <;> (first | with_reducible show STri _ _ _ _ _ _ | (simp -dsimp [hc]; (repeat (simp -dsimp (disch := (first | omega | assumption | (refine Bool.eq_false_iff.1 ?_; assumption))) only [wrap_in, if_pos, if_neg]; (try simp -dsimp [hc]))))))))
  refine st_range (iAll b hb) [3, 6] [] (fun k R => R = [(3, .box 129 [.om 6]), (6, .map false .u64 (entsU (setsTo b k)))])
    rfl rfl rfl (by kernel_rfl) (by show (0 : Nat) + 1000 ≤ 1000; decide) (fun j hj => by cases hj) (fun row hrow => by obtain ⟨y, _, rfl⟩ := List.mem_map.1 hrow; rfl) (by simp) (by simp) (by simp [setsTo, entsU]) ?_ ?_
  · rintro k row R rfl hrow Iv1 G1 hGG hin
    obtain ⟨d, hdk, rfl⟩ : ∃ d, (allL b)[k]? = some d ∧ row = rowA d := by
      rw [List.getElem?_map, Option.map_eq_some_iff] at hrow
      obtain ⟨d, h1, h2⟩ := hrow
      exact ⟨d, h1, h2.symm⟩
    have hk : k < (allL b).length := (List.getElem?_eq_some_iff.1 hdk).1
    have hkd : (allL b)[k] = d := (List.getElem?_eq_some_iff.1 hdk).2
    have hs := setsTo_succ hk
    rw [hkd] at hs
    have hsl := setsTo_len b k (by omega)
    have hA : (entsU (setsTo b k)).length < 9223372036854775807 := by simp [entsU]; omega
    have hput := putU (setsTo b k) d.2
    rw [← hs] at hput
    unfold rowA
    generalize entsU (setsTo b k) = es at *
    (repeat' (first | ((first | with_reducible refine st_skip ?_ | with_reducible refine st_exit ?_); (try simp only [seqQ, blockQ, loopQ, forQ, whileQ, reduceIte, Nat.reduceEqDiff])) | (with_reducible refine st_ret ?_; ((try simp only [seqQ, blockQ, loopQ, forQ, whileQ]); first | (with_reducible refine retM_ret ?_) | refine retQ_ret ?_; simp)) | refine st_seq ?_ | refine st_block ?_ | ((with_reducible show (STri _ _ _ _ _) ∧ (STri _ _ _ _ _)); refine And.intro ?_ ?_) | ((first | refine st_reg ?_ | refine buildP_own ?_ | refine appP_own ?_) <;> (simp -dsimp; (repeat (simp -dsimp (disch := (first | omega | assumption | (refine Bool.eq_false_iff.1 ?_; assumption))) only [wrap_in, if_pos, if_neg]; (try simp -dsimp))))) | ((first | refine guardP_of (fun hc => ?_) (fun hc => ?_) | refine st_cond rfl (fun hc => ?_) (fun hc => ?_)) <;> (try simp only [lqA, lqB, lqC, lqD, lqE, lqF, lqG, lqH, lqI, lqJ, lqK, lqL, lqM, lqN, lqO] at hc) <;> (try (exfalso; first | omega | exact bool_tf hc (by assumption) | exact bool_ft hc (by assumption) | exact absurd (by assumption) hc)) <;> (first | with_reducible show STri _ _ _ _ _ _ | (simp -dsimp [hc]; (repeat (simp -dsimp (disch := (first | omega | assumption | (refine Bool.eq_false_iff.1 ?_; assumption))) only [wrap_in, if_pos, if_neg]; (try simp -dsimp [hc]))))))))
    refine ⟨rfl, fun Iv2 hin2 => ?_⟩
    (repeat' (first | ((first | with_reducible refine st_skip ?_ | with_reducible refine st_exit ?_); (try simp only [seqQ, blockQ, loopQ, forQ, whileQ, reduceIte, Nat.reduceEqDiff])) | (with_reducible refine st_ret ?_; ((try simp only [seqQ, blockQ, loopQ, forQ, whileQ]); first | (with_reducible refine retM_ret ?_) | refine retQ_ret ?_; simp [hput, hA])) | refine st_seq ?_ | refine st_block ?_ | ((with_reducible show (STri _ _ _ _ _) ∧ (STri _ _ _ _ _)); refine And.intro ?_ ?_) | ((first | refine st_reg ?_ | refine buildP_own ?_ | refine appP_own ?_) <;> (simp -dsimp [hput, hA]; (repeat (simp -dsimp (disch := (first | omega | assumption | (refine Bool.eq_false_iff.1 ?_; assumption))) only [wrap_in, if_pos, if_neg]; (try simp -dsimp [hput, hA]))))) | ((first | refine guardP_of (fun hc => ?_) (fun hc => ?_) | refine st_cond rfl (fun hc => ?_) (fun hc => ?_)) <;> (try simp only [lqA, lqB, lqC, lqD, lqE, lqF, lqG, lqH, lqI, lqJ, lqK, lqL, lqM, lqN, lqO] at hc) <;> (try (exfalso; first | omega | exact bool_tf hc (by assumption) | exact bool_ft hc (by assumption) | exact absurd (by assumption) hc)) <;> (first | with_reducible show STri _ _ _ _ _ _ | (simp -dsimp [hput, hA, hc]; (repeat (simp -dsimp (disch := (first | omega | assumption | (refine Bool.eq_false_iff.1 ?_; assumption))) only [wrap_in, if_pos, if_neg]; (try simp -dsimp [hput, hA, hc]))))))))
    simp only [putM, beq_iff_eq] at hput
    exact ⟨by simp, by simp, by simp [hput]⟩
  · rintro R rfl
    simp only [blockQ, seqQ]
    have e : setsTo b ((allL b).map rowA).length = setsL b := by unfold setsTo setsL; rw [List.length_map, List.take_length]
    rw [e]
    (repeat' (first | ((first | with_reducible refine st_skip ?_ | with_reducible refine st_exit ?_); (try simp only [seqQ, blockQ, loopQ, forQ, whileQ, reduceIte, Nat.reduceEqDiff])) | (with_reducible refine st_ret ?_; ((try simp only [seqQ, blockQ, loopQ, forQ, whileQ]); first | (with_reducible refine retM_ret ?_) | refine retQ_ret ?_; simp)) | refine st_seq ?_ | refine st_block ?_ | ((with_reducible show (STri _ _ _ _ _) ∧ (STri _ _ _ _ _)); refine And.intro ?_ ?_) | ((first | refine st_reg ?_ | refine buildP_own ?_ | refine appP_own ?_) <;> (simp -dsimp; (repeat (simp -dsimp (disch := (first | omega | assumption | (refine Bool.eq_false_iff.1 ?_; assumption))) only [wrap_in, if_pos, if_neg]; (try simp -dsimp))))) | ((first | refine guardP_of (fun hc => ?_) (fun hc => ?_) | refine st_cond rfl (fun hc => ?_) (fun hc => ?_)) <;> (try simp only [lqA, lqB, lqC, lqD, lqE, lqF, lqG, lqH, lqI, lqJ, lqK, lqL, lqM, lqN, lqO] at hc) <;> (try (exfalso; first | omega | exact bool_tf hc (by assumption) | exact bool_ft hc (by assumption) | exact absurd (by assumption) hc)) <;> (first | with_reducible show STri _ _ _ _ _ _ | (simp -dsimp [hc]; (repeat (simp -dsimp (disch := (first | omega | assumption | (refine Bool.eq_false_iff.1 ?_; assumption))) only [wrap_in, if_pos, if_neg]; (try simp -dsimp [hc]))))))))
    exact .refl _
def minU (best : Nat) (l : List Nat) : Nat := l.foldl (fun m x => min m (popN x)) best
def fewN (b : Wbk) : Nat := minU b.srcs.length (setsL b)
theorem minU_perm {l l' : List Nat} (h : l.Perm l') (m : Nat) : minU m l = minU m l' :=
  h.foldl_eq' (fun x _ y _ z => by show min (min z (popN x)) (popN y) = min (min z (popN y)) (popN x); omega) m
theorem minU_le : ∀ (l : List Nat) (m : Nat), minU m l ≤ m ∧ ∀ x ∈ l, minU m l ≤ popN x
  | [], m => ⟨Nat.le_refl _, fun x hx => by cases hx⟩
  | y :: l, m => by
    obtain ⟨h1, h2⟩ := minU_le l (min m (popN y))
    refine ⟨?_, fun x hx => ?_⟩
    · show minU (min m (popN y)) l ≤ m
      omega
    · show minU (min m (popN y)) l ≤ popN x
      rcases List.mem_cons.1 hx with rfl | hx
      · omega
      · exact h2 x hx
theorem minU_at : ∀ (l : List Nat) (m : Nat), minU m l = m ∨ ∃ x ∈ l, minU m l = popN x
  | [], m => .inl rfl
  | y :: l, m => by
    rcases minU_at l (min m (popN y)) with h | ⟨x, hx, h⟩
    · by_cases hm : m ≤ popN y
      · left; show minU (min m (popN y)) l = m; omega
      · right; exact ⟨y, by simp, by show minU (min m (popN y)) l = popN y; omega⟩
    · exact .inr ⟨x, by simp [hx], h⟩
theorem set_lt {b : Wbk} (hb : BkOK b) {x : Nat} (hx : x ∈ setsL b) : x < 1024 := by
  obtain ⟨y, hy, rfl⟩ := mem_setsL.1 hx
  obtain ⟨k, hk, rfl⟩ := List.mem_map.1 hy
  have h1 := wrongTo_lt hb (b.nlo + k) b.notes.length (Nat.le_refl _)
  have h2 : 2 ^ b.srcs.length ≤ 2 ^ 10 := Nat.pow_le_pow_right (by omega) hb.len
  show wrongTo b (b.nlo + k) b.notes.length < 1024
  omega
theorem pop_le (x : Nat) : popN x ≤ 10 := by
  unfold popN
  exact Nat.le_trans (List.length_filter_le _ _) (by simp)
def feI (b : Wbk) (m : Nat) (T : TL) (H : HL) : Prop := ∃ L cur best, m = L.length ∧ (∀ x ∈ L, x < 1024) ∧ best ≤ 10 ∧ minU best L = fewN b ∧ T = [(3, .c (I (best : Nat))), (10, .it 10)] ∧ H = [(10, .it false .u64 (entsU L) cur)]
theorem sFewest (b : Wbk) (hb : BkOK b) : SC Tryz.prog 54 [cBk b] (I (fewN b)) := by
  refine law_wire_book_fewest _ _ (by simp) ?_
  have ss := sSets b hb
  have hlen := hb.len
  (repeat' (first | ((first | with_reducible refine st_skip ?_ | with_reducible refine st_exit ?_); (try simp only [seqQ, blockQ, loopQ, forQ, whileQ, reduceIte, Nat.reduceEqDiff])) | (with_reducible refine st_ret ?_; ((try simp only [seqQ, blockQ, loopQ, forQ, whileQ]); first | (with_reducible refine retM_ret ?_) | refine retQ_ret ?_; simp)) | refine st_seq ?_ | refine st_block ?_ | ((with_reducible show (STri _ _ _ _ _) ∧ (STri _ _ _ _ _)); refine And.intro ?_ ?_) | ((first | refine st_reg ?_ | refine buildP_own ?_ | refine appP_own ?_ | refine callP_b (ss) rfl ?_) <;> (simp -dsimp; (repeat (simp -dsimp (disch := (first | omega | assumption | (refine Bool.eq_false_iff.1 ?_; assumption))) only [wrap_in, if_pos, if_neg]; (try simp -dsimp))))) | ((first | refine guardP_of (fun hc => ?_) (fun hc => ?_) | refine st_cond rfl (fun hc => ?_) (fun hc => ?_)) <;> (try simp only [lqA, lqB, lqC, lqD, lqE, lqF, lqG, lqH, lqI, lqJ, lqK, lqL, lqM, lqN, lqO] at hc) <;> (try (exfalso; first | omega | exact bool_tf hc (by assumption) | exact bool_ft hc (by assumption) | exact absurd (by assumption) hc)) <;> (first | with_reducible show STri _ _ _ _ _ _ | (simp -dsimp [hc]; (repeat (simp -dsimp (disch := (first | omega | assumption | (refine Bool.eq_false_iff.1 ?_; assumption))) only [wrap_in, if_pos, if_neg]; (try simp -dsimp [hc]))))))))
  refine st_while [10] (feI b) (setsL b).length (by simp) ⟨setsL b, none, b.srcs.length, rfl, fun x hx => set_lt hb hx, hlen, rfl, by simp, by simp⟩ ?_
  rintro m T H ⟨L, cur, best, rfl, hL, hbest, hmin, rfl, rfl⟩
  (repeat' (first | ((first | with_reducible refine st_skip ?_ | with_reducible refine st_exit ?_); (try simp only [seqQ, blockQ, loopQ, forQ, whileQ, reduceIte, Nat.reduceEqDiff])) | (with_reducible refine st_ret ?_; ((try simp only [seqQ, blockQ, loopQ, forQ, whileQ]); first | (with_reducible refine retM_ret ?_) | refine retQ_ret ?_; simp)) | refine st_seq ?_ | refine st_block ?_ | ((with_reducible show (STri _ _ _ _ _) ∧ (STri _ _ _ _ _)); refine And.intro ?_ ?_) | ((first | refine st_reg ?_ | refine buildP_own ?_ | refine appP_own ?_ | ((with_reducible show nextP _ _ _ _); refine next_of (by first | rfl | simp) (fun hl0 => ?_) (fun pe re hpm => ?_) <;> (first | (obtain ⟨wq, Rq, rfl, rfl, hpq⟩ := ents_perm hpm) | skip)) | refine callP_b (sOnes wq (hL wq (hpq.mem_iff.2 (by simp)))) rfl ?_) <;> (simp -dsimp; (repeat (simp -dsimp (disch := (first | omega | assumption | (refine Bool.eq_false_iff.1 ?_; assumption))) only [wrap_in, if_pos, if_neg]; (try simp -dsimp))))) | ((first | refine guardP_of (fun hc => ?_) (fun hc => ?_) | refine st_cond rfl (fun hc => ?_) (fun hc => ?_)) <;> (try simp only [lqA, lqB, lqC, lqD, lqE, lqF, lqG, lqH, lqI, lqJ, lqK, lqL, lqM, lqN, lqO] at hc) <;> (try (exfalso; first | omega | exact bool_tf hc (by assumption) | exact bool_ft hc (by assumption) | exact absurd (by assumption) hc)) <;> (first | with_reducible show STri _ _ _ _ _ _ | (simp -dsimp [hc]; (repeat (simp -dsimp (disch := (first | omega | assumption | (refine Bool.eq_false_iff.1 ?_; assumption))) only [wrap_in, if_pos, if_neg]; (try simp -dsimp [hc]))))))))
  · have : L = [] := by simpa [entsU] using hl0
    subst this
    refine CLe.int ?_
    rw [← hmin]; rfl
  · have hp := pop_le wq
    have h1 := minU_perm hpq best
    have h2 : minU best (wq :: Rq) = minU (min best (popN wq)) Rq := rfl
    have hl := hpq.length_eq
    refine ⟨Rq.length, by simp at hl; omega, by simp, Rq, some (entU wq), min best (popN wq), rfl, fun x hx => hL x (hpq.mem_iff.2 (by simp [hx])), by omega, by rw [← h2, ← h1]; exact hmin, ?_, by simp⟩
    simp
    omega
end Go.Proofs.YtboifcengmgcaaaGreat
/- Wire, X: the most that can be right; pairs. -/
namespace Go.Proofs.YtboifcengmgcaaaGreat
open Go.RowKit
end Go.Proofs.YtboifcengmgcaaaGreat
/- Wire, XI: pairs. -/
namespace Go.Proofs.YtboifcengmgcaaaGreat
open Go.RowKit
end Go.Proofs.YtboifcengmgcaaaGreat
/- The shelf's structure for slices.SortFunc at lists of integers, laid at this seat. -/
namespace Go.Proofs.YtboifcengmgcaaaGreat
open Go.Shelf
def Tryz.sortW_ren : Go.Shelf.Ren := ⟨fun | 6 => 58 | 15 => 78 | 14 => 79 | 28 => 95 | 29 => 96 | 20 => 97 | 21 => 98 | 22 => 99 | 23 => 100 | 24 => 101 | 25 => 102 | 26 => 103 | 27 => 104 | 46 => 117 | 47 => 118 | 48 => 119 | 49 => 120 | 50 => 121 | 57 => 135 | n => n, fun | 22 => 97 | 24 => 38 | 25 => 134 | 3 => 3 | 39 => 125 | 0 => 0 | 53 => 154 | 55 => 156 | 4 => 4 | 46 => 173 | 45 => 172 | 50 => 114 | 5 => 5 | 9 => 9 | 66 => 186 | 70 => 189 | 76 => 200 | 77 => 201 | n => n, fun | n => n⟩
theorem Tryz.sortW : Go.Proofs.SlLaysF.n6 Tryz.prog Tryz.sortW_ren := {
  mixed := by kernel_rfl
  f6 := ⟨Tryz.f58.name, by decide, Tryz.func58.trans (congrArg some (by kernel_rfl))⟩
  f14 := ⟨Tryz.f79.name, by decide, Tryz.func79.trans (congrArg some (by kernel_rfl))⟩
  f15 := Tryz.func78.trans (congrArg some (by kernel_rfl))
  f20 := ⟨Tryz.f97.name, by decide, Tryz.func97.trans (congrArg some (by kernel_rfl))⟩
  f21 := ⟨Tryz.f98.name, by decide, Tryz.func98.trans (congrArg some (by kernel_rfl))⟩
  f22 := ⟨Tryz.f99.name, by decide, Tryz.func99.trans (congrArg some (by kernel_rfl))⟩
  f23 := ⟨Tryz.f100.name, by decide, Tryz.func100.trans (congrArg some (by kernel_rfl))⟩
  f24 := ⟨Tryz.f101.name, by decide, Tryz.func101.trans (congrArg some (by kernel_rfl))⟩
  f25 := ⟨Tryz.f102.name, by decide, Tryz.func102.trans (congrArg some (by kernel_rfl))⟩
  f26 := ⟨Tryz.f103.name, by decide, Tryz.func103.trans (congrArg some (by kernel_rfl))⟩
  f27 := ⟨Tryz.f104.name, by decide, Tryz.func104.trans (congrArg some (by kernel_rfl))⟩
  f28 := Tryz.func95.trans (congrArg some (by kernel_rfl))
  f29 := Tryz.func96.trans (congrArg some (by kernel_rfl))
  f46 := ⟨Tryz.f117.name, by decide, Tryz.func117.trans (congrArg some (by kernel_rfl))⟩
  f47 := Tryz.func118.trans (congrArg some (by kernel_rfl))
  f48 := Tryz.func119.trans (congrArg some (by kernel_rfl))
  f49 := ⟨Tryz.f120.name, by decide, Tryz.func120.trans (congrArg some (by kernel_rfl))⟩
  f50 := ⟨Tryz.f121.name, by decide, Tryz.func121.trans (congrArg some (by kernel_rfl))⟩
  f57 := ⟨Tryz.f135.name, by decide, Tryz.func135.trans (congrArg some (by kernel_rfl))⟩
  t0 := Tryz.underlying0
  a0 := Tryz.isAgg0
  z0 := Tryz.sizeOf0
  v0 := Tryz.zeroValue0
  t3 := Tryz.underlying3
  a3 := Tryz.isAgg3
  z3 := Tryz.sizeOf3
  v3 := Tryz.zeroValue3
  t4 := Tryz.underlying4
  a4 := Tryz.isAgg4
  z4 := Tryz.sizeOf4
  v4 := Tryz.zeroValue4
  t5 := Tryz.underlying5
  a5 := Tryz.isAgg5
  z5 := Tryz.sizeOf5
  v5 := Tryz.zeroValue5
  t9 := Tryz.underlying9
  a9 := Tryz.isAgg9
  z9 := Tryz.sizeOf9
  v9 := Tryz.zeroValue9
  t22 := Tryz.underlying97
  a22 := Tryz.isAgg97
  z22 := Tryz.sizeOf97
  v22 := Tryz.zeroValue97
  a24 := Tryz.isAgg38
  z24 := Tryz.sizeOf38
  t25 := Tryz.underlying134
  a25 := Tryz.isAgg134
  z25 := Tryz.sizeOf134
  v25 := Tryz.zeroValue134
  t39 := Tryz.underlying125
  a39 := Tryz.isAgg125
  z39 := Tryz.sizeOf125
  v39 := Tryz.zeroValue125
  t45 := Tryz.underlying172
  a45 := Tryz.isAgg172
  z45 := Tryz.sizeOf172
  v45 := Tryz.zeroValue172
  t46 := Tryz.underlying173
  a46 := Tryz.isAgg173
  z46 := Tryz.sizeOf173
  v46 := Tryz.zeroValue173
  t50 := Tryz.underlying114
  a50 := Tryz.isAgg114
  z50 := Tryz.sizeOf114
  v50 := Tryz.zeroValue114
  t53 := Tryz.underlying154
  a53 := Tryz.isAgg154
  z53 := Tryz.sizeOf154
  v53 := Tryz.zeroValue154
  t55 := Tryz.underlying156
  a55 := Tryz.isAgg156
  z55 := Tryz.sizeOf156
  v55 := Tryz.zeroValue156
  t66 := Tryz.underlying186
  a66 := Tryz.isAgg186
  z66 := Tryz.sizeOf186
  v66 := Tryz.zeroValue186
  t70 := Tryz.underlying189
  a70 := Tryz.isAgg189
  z70 := Tryz.sizeOf189
  v70 := Tryz.zeroValue189
  t76 := Tryz.underlying200
  a76 := Tryz.isAgg200
  z76 := Tryz.sizeOf200
  v76 := Tryz.zeroValue200
  t77 := Tryz.underlying201
  a77 := Tryz.isAgg201
  z77 := Tryz.sizeOf201
  v77 := Tryz.zeroValue201 }
def Tryz.cmpInt_ren : Go.Shelf.Ren := ⟨fun | 5 => 80 | 7 => 105 | n => n, fun | 22 => 3 | 3 => 3 | 4 => 4 | n => n, fun | n => n⟩
theorem Tryz.cmpInt : Go.Proofs.SlLaysC2.n5 Tryz.prog Tryz.cmpInt_ren := {
  mixed := by kernel_rfl
  f5 := ⟨Tryz.f80.name, by decide, Tryz.func80.trans (congrArg some (by kernel_rfl))⟩
  f7 := ⟨Tryz.f105.name, by decide, Tryz.func105.trans (congrArg some (by kernel_rfl))⟩
  t3 := Tryz.underlying3
  a3 := Tryz.isAgg3
  z3 := Tryz.sizeOf3
  v3 := Tryz.zeroValue3
  t4 := Tryz.underlying4
  a4 := Tryz.isAgg4
  z4 := Tryz.sizeOf4
  v4 := Tryz.zeroValue4
  t22 := Tryz.underlying3
  a22 := Tryz.isAgg3
  z22 := Tryz.sizeOf3
  v22 := Tryz.zeroValue3 }
end Go.Proofs.YtboifcengmgcaaaGreat
/- Wire, XII: lists of integers are compared. -/
namespace Go.Proofs.YtboifcengmgcaaaGreat
open Go.RowKit Go.Sort Go.Shelf
def cmpZ (x y : Int) : Int := if x < y then -1 else if y < x then 1 else 0
def cmpL : List Int → List Int → Int
  | [], [] => 0
  | [], _ :: _ => -1
  | _ :: _, [] => 1
  | x :: xs, y :: ys => if cmpZ x y = 0 then cmpL xs ys else cmpZ x y
def SlI (w : World) (v : Value) (xs : List Int) : Prop := ∃ ad c, v = .slice ad xs.length c ∧ ∀ (j : Nat) (h : j < xs.length), ∃ b off, ad = some ⟨b, off, none⟩ ∧ b < w.heap.size ∧ w.cell? ⟨b, off + j, none⟩ = some (.int .i64 xs[j])
theorem cmpL_at {xs ys : List Int} {k : Nat} (h1 : k < xs.length) (h2 : k < ys.length) : cmpL (xs.drop k) (ys.drop k) = if cmpZ xs[k] ys[k] = 0 then cmpL (xs.drop (k + 1)) (ys.drop (k + 1)) else cmpZ xs[k] ys[k] := by
  rw [List.drop_eq_getElem_cons h1, List.drop_eq_getElem_cons h2]
  rfl
theorem compareInt_eq (x y : Int) : Lib.compareInt x y = cmpZ x y := by
  unfold Lib.compareInt cmpZ
  by_cases h1 : x < y
  · simp [h1]
  · by_cases h2 : y < x <;> simp [h1, h2]
set_option maxRecDepth 100000 in
set_option maxHeartbeats 1000000 in
theorem compare_any (xs ys : List Int) (v1 v2 : Value) (w : World) (hlx : xs.length ≤ 1000000000) (h1 : SlI w v1 xs) (h2 : SlI w v2 ys) :
    Calls Tryz.prog 59 #[v1, v2] w fun e w' => e = .returned (.int .i64 (cmpL xs ys)) ∧ w' = w := by
  obtain ⟨a1, c1, rfl, h1⟩ := h1
  obtain ⟨a2, c2, rfl, h2⟩ := h2
  have H1 := Lib.hid h1
  have H2 := Lib.hid h2
  have HC := fun x y W => Lib.hid (show Calls Tryz.prog 80 #[.int .i64 x, .int .i64 y] W _ from AnyG.cmp_Compare_int Tryz.cmpInt x y W)
  clear h1 h2
  go_enter Tryz.func59, Tryz.ntmps59
  go_wp2
  go_loopw [11] (fun i wr => ∃ k : Nat, k ≤ xs.length ∧ k ≤ ys.length ∧ i = .int .i64 k ∧ cmpL xs ys = cmpL (xs.drop k) (ys.drop k) ∧ wr = w) (fun i _ => xs.length - (intOf i).toNat)
  case atStart => exact ⟨0, Nat.zero_le _, Nat.zero_le _, rfl, by simp, rfl⟩
  case round =>
    obtain ⟨k, hk1, hk2, rfl, he, rfl⟩ := hrel
    have HE := Lib.hid he
    clear he
    by_cases hlt : k < xs.length
    · obtain ⟨b1, o1, rfl, hb1, g1⟩ := H1.out k hlt
      by_cases hlt2 : k < ys.length
      · obtain ⟨b2, o2, rfl, hb2, g2⟩ := H2.out k hlt2
        have HA := Lib.hid (cmpL_at hlt hlt2)
        have hge : ¬ ((k : Int) ≥ ys.length) := by omega
        generalize xs[k] = x at *
        generalize ys[k] = y at *
        by_cases hz : cmpZ x y = 0
        · have hz2 : (Lib.compareInt x y != 0) = false := by rw [compareInt_eq, hz]; rfl
          have HZ := Lib.hid hz
          clear hz
          go_wp2_with (go_at_call 80; refine (HC x y _).out.mono ?_; rintro e w2 ⟨rfl, rfl⟩)
          go_roundw
          case rel => exact ⟨k + 1, by omega, by omega, by go_num, by rw [HE.out, HA.out, if_pos HZ.out], trivial⟩
          case measure => simp [intOf]; omega
        · have hz2 : (Lib.compareInt x y != 0) = true := by rw [compareInt_eq]; simpa using hz
          have HZ := Lib.hid hz
          clear hz
          go_wp2_with (go_at_call 80; refine (HC x y _).out.mono ?_; rintro e w2 ⟨rfl, rfl⟩)
          go_ret
          (first | (rw [HE.out, HA.out, if_neg HZ.out, compareInt_eq]; first | done | rfl) | exact ⟨by rw [HE.out, HA.out, if_neg HZ.out, compareInt_eq]; first | done | rfl, rfl⟩)
      · have hge : ((k : Int) ≥ ys.length) := by omega
        have HV := Lib.hid (show cmpL (xs.drop k) (ys.drop k) = 1 from by rw [List.drop_eq_getElem_cons hlt, List.drop_eq_nil_of_le (by omega : ys.length ≤ k)]; rfl)
        generalize xs[k] = x at *
        go_wp2
        go_ret
        (first | (rw [HE.out, HV.out]; first | done | rfl) | exact ⟨by rw [HE.out, HV.out]; first | done | rfl, rfl⟩)
    · by_cases hlt2 : k < ys.length
      · have hll : (xs.length : Int) < ys.length := by omega
        have HV := Lib.hid (show cmpL (xs.drop k) (ys.drop k) = -1 from by rw [List.drop_eq_nil_of_le (by omega : xs.length ≤ k), List.drop_eq_getElem_cons hlt2]; rfl)
        go_wp2
        go_ret
        (first | (rw [HE.out, HV.out]; first | done | rfl) | exact ⟨by rw [HE.out, HV.out]; first | done | rfl, rfl⟩)
      · have hll : ¬ ((xs.length : Int) < ys.length) := by omega
        have HV := Lib.hid (show cmpL (xs.drop k) (ys.drop k) = 0 from by rw [List.drop_eq_nil_of_le (by omega : xs.length ≤ k), List.drop_eq_nil_of_le (by omega : ys.length ≤ k)]; rfl)
        go_wp2
        go_ret
        (first | (rw [HE.out, HV.out]; first | done | rfl) | exact ⟨by rw [HE.out, HV.out]; first | done | rfl, rfl⟩)
end Go.Proofs.YtboifcengmgcaaaGreat
/- Wire, XIII: lists of lists of integers are sorted. -/
namespace Go.Proofs.YtboifcengmgcaaaGreat
open Go.RowKit Go.Sort Go.Shelf
/-! The order of lists -/
theorem cmpZ_anti (x y : Int) : cmpZ y x = -cmpZ x y := by unfold cmpZ; split <;> split <;> (try split) <;> omega
theorem cmpL_anti : ∀ xs ys : List Int, cmpL ys xs = -cmpL xs ys
  | [], [] => rfl
  | [], _ :: _ => rfl
  | _ :: _, [] => rfl
  | x :: xs, y :: ys => by
    have h1 := cmpZ_anti x y
    have ih := cmpL_anti xs ys
    simp only [cmpL]
    by_cases h : cmpZ x y = 0
    · rw [if_pos h, if_pos (by omega)]; exact ih
    · rw [if_neg h, if_neg (by omega)]; exact h1
theorem cmpZ_eq {x y : Int} (h : cmpZ x y = 0) : x = y := by unfold cmpZ at h; split at h <;> (try split at h) <;> omega
theorem cmpL_eq : ∀ {xs ys : List Int}, cmpL xs ys = 0 → xs = ys
  | [], [], _ => rfl
  | [], _ :: _, h => by simp [cmpL] at h
  | _ :: _, [], h => by simp [cmpL] at h
  | x :: xs, y :: ys, h => by
    simp only [cmpL] at h
    by_cases h0 : cmpZ x y = 0
    · rw [if_pos h0] at h; rw [cmpZ_eq h0, cmpL_eq h]
    · rw [if_neg h0] at h; exact absurd h h0
theorem cmpL_refl : ∀ xs : List Int, cmpL xs xs = 0
  | [] => rfl
  | x :: xs => by
    have : cmpZ x x = 0 := by unfold cmpZ; simp
    simp only [cmpL, if_pos this]; exact cmpL_refl xs
theorem cmpL_trans : ∀ {xs ys zs : List Int}, cmpL xs ys ≤ 0 → cmpL ys zs ≤ 0 → cmpL xs zs ≤ 0 ∧ (cmpL xs ys < 0 ∨ cmpL ys zs < 0 → cmpL xs zs < 0)
  | [], [], [], _, _ => by simp [cmpL]
  | [], [], _ :: _, _, _ => by simp [cmpL]
  | [], _ :: _, [], _, h => by simp [cmpL] at h
  | [], _ :: _, _ :: _, _, _ => by simp [cmpL]
  | _ :: _, [], _, h, _ => by simp [cmpL] at h
  | _ :: _, _ :: _, [], _, h => by simp [cmpL] at h
  | x :: xs, y :: ys, z :: zs, h1, h2 => by
    have ih := @cmpL_trans xs ys zs
    simp only [cmpL] at h1 h2 ⊢
    have e1 : cmpZ x y = 0 ∧ x = y ∨ cmpZ x y = -1 ∧ x < y ∨ cmpZ x y = 1 ∧ y < x := by unfold cmpZ; split <;> (try split) <;> omega
    have e2 : cmpZ y z = 0 ∧ y = z ∨ cmpZ y z = -1 ∧ y < z ∨ cmpZ y z = 1 ∧ z < y := by unfold cmpZ; split <;> (try split) <;> omega
    have e3 : cmpZ x z = 0 ∧ x = z ∨ cmpZ x z = -1 ∧ x < z ∨ cmpZ x z = 1 ∧ z < x := by unfold cmpZ; split <;> (try split) <;> omega
    rcases e1 with ⟨c1, d1⟩ | ⟨c1, d1⟩ | ⟨c1, d1⟩ <;> rcases e2 with ⟨c2, d2⟩ | ⟨c2, d2⟩ | ⟨c2, d2⟩ <;> rcases e3 with ⟨c3, d3⟩ | ⟨c3, d3⟩ | ⟨c3, d3⟩ <;> simp only [c1, c2, c3, if_true, Int.reduceEq, if_false] at h1 h2 ⊢ <;> first
      | omega
      | exact ih h1 h2
def ltL (xs ys : List Int) : Bool := decide (cmpL xs ys < 0)
section
variable {ok : Value × List Int → Prop}
def cfW (x y : {x : Value × List Int // ok x}) : Int := cmpL x.1.2 y.1.2
def enW (x : {x : Value × List Int // ok x}) : Value := x.1.1
theorem swoW : SWO (ltOf (cfW (ok := ok))) where
  irrefl x := by unfold ltOf cfW; rw [cmpL_refl]; rfl
  trans x y z h1 h2 := by
    unfold ltOf cfW at *
    simp only [decide_eq_true_eq] at *
    exact (cmpL_trans (by omega) (by omega)).2 (.inl h1)
  ntrans x y z h1 h2 := by
    unfold ltOf cfW at *
    simp only [decide_eq_false_iff_not] at *
    have a1 := cmpL_anti x.1.2 y.1.2
    have a2 := cmpL_anti y.1.2 z.1.2
    have a3 := cmpL_anti x.1.2 z.1.2
    have := (cmpL_trans (xs := z.1.2) (ys := y.1.2) (zs := x.1.2) (by omega) (by omega)).1
    omega
end
/-! A closed list of integers lies in a world -/
theorem repC_sli {w : World} {N : Nat → Prop} {v : Value} {l : List Int} (h : RepC w N (slI l) v) {w' : World} (hw : ∀ b, b < w.heap.size → ¬ N b → w'.heap[b]? = w.heap[b]?) (hsz : w.heap.size ≤ w'.heap.size) : SlI w' v l := by
  unfold slI at h
  obtain ⟨ad, c, rfl, h1, h2, h3⟩ := h.sl_inv
  refine ⟨ad, c, by simp, fun j hj => ?_⟩
  rcases h3 with h3 | ⟨b, off, u, rfl, h4, h5, h6, h7, h8⟩
  · simp at h3; subst h3; simp at hj
  · refine ⟨b, off, rfl, by omega, ?_⟩
    have hr : (l.map rowI)[j]? = some (rowI l[j]) := by simp [hj]
    have e := h7 j _ 0 (I l[j]) hr rfl
    have r := h8 j _ 0 (I l[j]) hr rfl
    rw [World.cell?_of_block (w := w) (w' := w') (a := ⟨b, off + j, none⟩) (hw b h4 h5)]
    have e2 : off + j * 1 + 0 = off + j := by omega
    rw [e2] at e
    rw [e]
    generalize u j 0 = x at r
    cases r; rfl
def rowL1 (l : List Int) : List CV := [slI l]
attribute [simp] rowL1
def SortsL (ls : List (List Int)) (rows : List (List CV)) : Prop := ∃ ys : List (List Int), rows = ys.map rowL1 ∧ ys.Perm ls ∧ ys.Pairwise fun x y => ltL y x = false
theorem grow_none (W : World) : grow (W.drewN 0) #[] = W := by
  unfold grow World.drewN
  simp
end Go.Proofs.YtboifcengmgcaaaGreat
/- Wire, XIV: slices.SortFunc at lists of integers. -/
namespace Go.Proofs.YtboifcengmgcaaaGreat
open Go.RowKit Go.Sort Go.Shelf
theorem sw_old {α : Type} [Inhabited α] (en : α → Value) (w : World) (b m : Nat) (dk : Array α) (os : Array Obj) : (∀ q, q < w.heap.size → q ≠ b → (sortWorld en w b 0 m dk os).heap[q]? = w.heap[q]?) ∧ w.heap.size ≤ (sortWorld en w b 0 m dk os).heap.size := by
  have hs : (putRow en (Sort.ahead w m) b 0 dk).heap.size = w.heap.size := by simp [putRow, mapBlock, Sort.ahead]
  refine ⟨fun q hq hne => ?_, ?_⟩
  · unfold sortWorld
    rw [heap_grow_old _ _ (by rw [hs]; exact hq)]
    simp [putRow, mapBlock, Sort.ahead, Array.getElem?_modify, Ne.symm hne]
  · unfold sortWorld grow
    simp [hs]
theorem sw_at {α : Type} [Inhabited α] (en : α → Value) (w : World) (b m : Nat) (dk : Array α) (os : Array Obj) {cur : Array Value} {t : TypeId} {fr : Nat × Nat} (hb : w.heap[b]? = some (.cells cur t fr)) : (sortWorld en w b 0 m dk os).heap[b]? = some (.cells (putCells en 0 dk cur) t fr) := by
  have hs : (putRow en (Sort.ahead w m) b 0 dk).heap.size = w.heap.size := by simp [putRow, mapBlock, Sort.ahead]
  have hlt : b < w.heap.size := (Array.getElem?_eq_some_iff.1 hb).1
  unfold sortWorld
  rw [heap_grow_old _ _ (by rw [hs]; exact hlt)]
  simp [putRow, mapBlock, Sort.ahead, Array.getElem?_modify, hb, onCells]
theorem permIn_list {α : Type} [Inhabited α] {d d' : Array α} (h : PermIn 0 d.size d d') : d'.toList.Perm d.toList := by
  obtain ⟨h1, _, h3⟩ := h
  have e1 : d'.extract 0 d.size = d' := by rw [← h1]; simp
  have e2 : d.extract 0 d.size = d := by simp
  rw [e1, e2] at h3
  exact h3
theorem sortedIn_list {α : Type} [Inhabited α] {lt : α → α → Bool} {d' : Array α} (h : SortedIn lt 0 d'.size d') : d'.toList.Pairwise fun x y => lt y x = false := by
  rw [List.pairwise_iff_getElem]
  intro i j hi hj hij
  have hi' : i < d'.size := by simpa using hi
  have hj' : j < d'.size := by simpa using hj
  have := h i j (Nat.zero_le _) hij hj'
  simpa [getElem!_pos, hi', hj'] using this
theorem mSortL (ls : List (List Int)) (hl : ls.length ≤ 1000000000) (hll : ∀ l ∈ ls, l.length ≤ 1000000000) : MC Tryz.prog 58 38 1 (ls.map rowL1) [.fn 59 [] []] (SortsL ls) (some (.tup [])) := fun w NA p v0 vs hna hnp hB ho1 hov hs hv => by
  match vs, hs with
  | ⟨[v1]⟩, _ =>
  have h1 := hv 0 _ v1 rfl rfl
  cases h1 with
  | fn _ _ _ vf vc a1 a2 =>
  have e1 : vf = #[] := Array.size_eq_zero_iff.1 a1
  have e2 : vc = #[] := Array.size_eq_zero_iff.1 a2
  subst e1; subst e2
  change Calls _ _ #[v0, .func (.func 59) #[] #[]] w _
  clear hv
  rw [List.length_map] at hov
  rcases hov with ⟨hp, h0, rfl⟩ | ⟨b, cap, cur, t', hp, rfl, hg, hsz, hcap, hmax⟩
  · have : ls = [] := List.length_eq_zero_iff.1 h0
    subst this
    refine Calls.mono (show Calls Tryz.prog 58 #[.slice none 0 0, .func (.func 59) #[] #[]] w _ from AnyF.slices_SortFunc_none (P := Tryz.prog) (ρ := Tryz.sortW_ren) { Tryz.sortW with } none 0 _ w) ?_
    rintro e w' ⟨rfl, rfl⟩
    exact ⟨_, [], rfl, ⟨[], rfl, .refl _, .nil⟩, rfl, hB, fun b cs t' hb hc => ⟨cs, hc, rfl⟩, ⟨rfl, rfl, rfl, Nat.le_refl _, fun _ _ _ => rfl⟩, .tup [] #[] rfl (fun i x v hx => by simp at hx)⟩
  · subst hp
    obtain ⟨N, hN⟩ : ∃ N, N = Mut NA (fun _ => some b) (one1 38 1 (ls.map rowL1)) := ⟨_, rfl⟩
    have hNb : N b := by rw [hN]; exact mut_one.2 (.inr rfl)
    rcases hB with ⟨g1, _⟩ | ⟨b', cs', cap', g1, g2, g3, g4, g5, g6, g7⟩
    · cases g1
    have e3 : b = b' := Option.some.inj g1
    subst e3
    rw [hg] at g2; cases g2
    rw [← hN] at g7
    have hcell : ∀ (j : Nat) (hj : j < ls.length), ∃ v, cur[j]? = some v ∧ RepC w N (slI ls[j]) v := fun j hj => by
      obtain ⟨v, k1, k2⟩ := g7 j (rowL1 ls[j]) 0 (slI ls[j]) (by simp [hj]) rfl
      exact ⟨v, by simpa using k1, k2⟩
    -- the elements, each with what it reads as
    obtain ⟨ok, hok⟩ : ∃ ok : Value × List Int → Prop, ok = fun x => RepC w N (slI x.2) x.1 ∧ x.2.length ≤ 1000000000 := ⟨_, rfl⟩
    obtain ⟨ps, hps⟩ : ∃ ps : List (Value × List Int), ps = (List.range ls.length).map fun j => (cur.getD j undef, ls.getD j []) := ⟨_, rfl⟩
    have hpl : ps.length = ls.length := by rw [hps]; simp
    have hpj : ∀ (j : Nat) (hj : j < ls.length), ps[j]? = some (cur.getD j undef, ls[j]) := fun j hj => by rw [hps]; simp [hj]
    have hpo : ∀ x ∈ ps, ok x := fun x hx => by
      obtain ⟨j, hj, rfl⟩ := List.getElem_of_mem hx
      have hj2 : j < ls.length := by omega
      have e := hpj j hj2
      rw [List.getElem?_eq_getElem hj] at e
      have e := Option.some.inj e
      obtain ⟨v, k1, k2⟩ := hcell j hj2
      rw [e, hok]
      refine ⟨?_, hll _ (List.getElem_mem hj2)⟩
      have : cur.getD j undef = v := by simp [k1]
      rw [this]; exact k2
    have hp2 : ps.map (·.2) = ls := by
      apply List.ext_getElem?
      intro j
      rw [List.getElem?_map]
      by_cases hj : j < ls.length
      · rw [hpj j hj, List.getElem?_eq_getElem hj]; rfl
      · rw [List.getElem?_eq_none (by omega), List.getElem?_eq_none (by omega)]; rfl
    obtain ⟨zs, hz⟩ : ∃ zs : List {x : Value × List Int // ok x}, zs.map (·.1) = ps := ⟨ps.attachWith ok hpo, List.attachWith_map_subtype_val hpo⟩
    have hzl : zs.length = ls.length := by rw [← hpl, ← hz, List.length_map]
    have hok0 : ok (.slice none 0 0, []) := by
      rw [hok]
      exact ⟨.nil 1 none 0 (Nat.zero_le _), Nat.zero_le _⟩
    letI : Inhabited {x : Value × List Int // ok x} := ⟨⟨_, hok0⟩⟩
    have hokI : ∀ y, ok y → RepC w N (slI y.2) y.1 ∧ y.2.length ≤ 1000000000 := fun y hy => by
      rw [hok] at hy
      exact hy
    have hrep : ∀ x : {x : Value × List Int // ok x}, RepC w N (slI x.1.2) x.1.1 ∧ x.1.2.length ≤ 1000000000 := fun x => hokI _ x.2
    have hone : OneCell (enW (ok := ok)) := fun x => by
      obtain ⟨ad, c, e, _⟩ := (hrep x).1.sl_inv
      show x.1.1.oneCell' = true
      rw [e]; rfl
    have hcmp : CmpLays1 Tryz.prog 59 #[] (enW (ok := ok)) cfW b 0 zs.toArray.size w := fun m os dk hs x y => by
      obtain ⟨o1, o2⟩ := sw_old enW w b m dk os
      have hold : ∀ q, q < w.heap.size → ¬ N q → (sortWorld enW w b 0 m dk os).heap[q]? = w.heap[q]? := fun q hq hn => o1 q hq (fun e => hn (e ▸ hNb))
      refine Calls.mono (show Calls Tryz.prog 59 #[x.1.1, y.1.1] (sortWorld enW w b 0 m dk os) _ from compare_any x.1.2 y.1.2 x.1.1 y.1.1 _ (hrep x).2 (repC_sli (hrep x).1 hold o2) (repC_sli (hrep y).1 hold o2)) ?_
      rintro e w' ⟨rfl, rfl⟩
      exact ⟨rfl, 0, #[], (grow_none _).symm⟩
    have hblk : b < w.heap.size := (Array.getElem?_eq_some_iff.1 hg).1
    have hzj : ∀ (j : Nat) (hj : j < zs.length), enW zs[j] = cur.getD j undef ∧ zs[j].1.2 = ls[j]'(by omega) := fun j hj => by
      have hj2 : j < ls.length := by omega
      have e : (zs.map (·.1))[j]? = ps[j]? := by rw [hz]
      rw [List.getElem?_map, List.getElem?_eq_getElem hj, hpj j hj2] at e
      have e := Option.some.inj e
      exact ⟨congrArg Prod.fst e, congrArg Prod.snd e⟩
    have hH : Holds (enW (ok := ok)) w b 0 zs.toArray := fun j hj => by
      have hj1 : j < zs.length := by simpa using hj
      have hj2 : j < ls.length := by omega
      obtain ⟨v, k1, _⟩ := hcell j hj2
      have e0 : zs.toArray[j]! = zs[j] := by simp [hj1]
      rw [e0, (hzj j hj1).1]
      refine ⟨?_, by simp [World.frozen?, hg]⟩
      rw [Nat.zero_add, cell_of_row w b j cur _ (0, 0) hg, k1]
      simp [k1]
    have hmain := Any.slices_SortFunc (P := Tryz.prog) (ρ := Tryz.sortW_ren) Tryz.sortW enW hone cfW swoW 59 #[] b 0 cap zs.toArray w (enters_of Tryz.func59 (by kernel_rfl) rfl) hcmp hH hblk (by simp; omega)
    have hzs : zs.toArray.size = ls.length := by simpa using hzl
    rw [hzs] at hmain
    refine Calls.mono (show Calls Tryz.prog 58 #[.slice (some ⟨b, 0, none⟩) ls.length cap, .func (.func 59) #[] #[]] w _ from hmain) ?_
    rintro e w' ⟨rfl, d', n, os, hp, hs, rfl⟩
    rw [← hzs] at hp
    have hd : d'.size = ls.length := by rw [← hzs]; exact hp.1
    have hperm := permIn_list hp
    rw [← hd] at hs
    have hsort := sortedIn_list hs
    obtain ⟨o1, o2⟩ := sw_old enW w b n d' os
    have hat := sw_at enW w b n d' os hg
    have hsz2 : (putCells enW 0 d' cur).size = cur.size := by simp [putCells]
    have hys : (d'.toList.map fun x => x.1.2).length = ls.length := by simpa using hd
    refine ⟨_, (d'.toList.map fun x => x.1.2).map rowL1, rfl, ⟨_, rfl, ?_, ?_⟩, by simp [hd], ?_, fun b2 cs t2 hb2 hc2 => ?_, ⟨rfl, rfl, rfl, o2, fun q hq hne => o1 q hq (fun e => hne (by rw [e]))⟩, .tup [] #[] rfl (fun i x v hx => by simp at hx)⟩
    · have h2 := hperm.map fun x : {x : Value × List Int // ok x} => x.1.2
      have e : (zs.toArray.toList.map fun x : {x : Value × List Int // ok x} => x.1.2) = ls := by
        rw [← hp2, ← hz, List.map_map]
        rfl
      rw [e] at h2
      exact h2
    · rw [List.pairwise_map]
      exact hsort
    · have hcalm : Calm w N (sortWorld enW w b 0 n d' os) (Mut NA (fun _ => some b) (one1 38 1 ((d'.toList.map fun x => x.1.2).map rowL1))) := by
        refine ⟨o2, fun q hq hn => ⟨o1 q hq (fun e => hn (e ▸ hNb)), fun hm => hn ?_⟩⟩
        rw [hN]
        exact mut_one.2 (mut_one.1 hm)
      refine .inr ⟨b, _, cap, rfl, hat, by rw [hsz2]; exact hsz, by rw [List.length_map, hys]; exact hcap, hmax, fun j row hr => ?_, fun j row i x hr hx => ?_⟩
      · rw [List.getElem?_map, Option.map_eq_some_iff] at hr
        obtain ⟨l, _, rfl⟩ := hr
        exact ⟨rfl, rfl⟩
      · rw [List.getElem?_map, Option.map_eq_some_iff] at hr
        obtain ⟨l, hy, rfl⟩ := hr
        rw [List.getElem?_map, Option.map_eq_some_iff] at hy
        obtain ⟨y, hy, rfl⟩ := hy
        have hj : j < d'.toList.length := (List.getElem?_eq_some_iff.1 hy).1
        have hjd : j < d'.size := by simpa using hj
        have hjc : j < cur.size := by rw [hsz]; omega
        have hi : i = 0 := by
          have := (List.getElem?_eq_some_iff.1 hx).1
          simpa using this
        subst hi
        simp at hx
        subst hx
        refine ⟨enW y, ?_, ((hrep y).1).move hcalm⟩
        have ey : d'[j]! = y := by
          have := (List.getElem?_eq_some_iff.1 hy).2
          simpa [hjd] using this
        simp [putCells, hjd, hjc, ← ey]
    · have e4 : b = b2 := Option.some.inj hb2
      subst e4
      rw [hg] at hc2; cases hc2
      exact ⟨_, hat, hsz2⟩
end Go.Proofs.YtboifcengmgcaaaGreat
/- The shadow code of functions, as the kit's translation has them. -/
namespace Go.Proofs.YtboifcengmgcaaaGreat
open Go.RowKit
def markW : List FuncId := [58]
def k77_0 : SCode := .reg [⟨some 1, none, .box 81 (.tmp 0), [], false⟩, ⟨some 2, none, .mov (.const (.slice none 0 0)), [], false⟩] [1, 2]
def k77_1 : SCode := .reg [⟨some 5, none, .load true 5 (.tmp 1), [], false⟩, ⟨some 6, none, .call 54 [(.tmp 5)], [], false⟩, ⟨some 3, none, .mov (.tmp 6), [], false⟩] [1, 2, 3]
def k77_2 : SCode := .reg [⟨some 7, none, .load true 5 (.tmp 1), [], false⟩, ⟨some 8, none, .call 55 [(.tmp 7)], [], false⟩, ⟨some 9, none, .rng false .u64 (.tmp 8), [], false⟩] [2, 3, 9]
def k77_3 : SCode := .reg [⟨some 10, none, .nxt (.tmp 9), [], false⟩, ⟨some 11, none, .ext (.tmp 10) 0, [], false⟩] [2, 3, 9, 11]
def k77_4 : SCode := .cond (.tmp 11) .skip (.exit 0)
def k77_5 : SCode := .reg [⟨some 12, none, .ent (.tmp 9), [], false⟩, ⟨some 13, none, .ext (.tmp 12) 0, [], false⟩, ⟨some 4, none, .mov (.tmp 13), [], false⟩] [2, 3, 4, 9]
def k77_6 : SCode := .reg [⟨some 14, none, .mov (.tmp 4), [], false⟩, ⟨some 15, none, .call 56 [(.tmp 14)], [], false⟩, ⟨some 16, none, .mov (.tmp 3), [], false⟩, ⟨some 17, none, .bin .eql (.tmp 15) (.tmp 16), [], false⟩] [2, 3, 4, 9, 17]
def k77_7 : SCode := .reg [⟨some 18, none, .mov (.tmp 2), [], false⟩, ⟨some 19, none, .mov (.tmp 4), [], false⟩, ⟨some 20, none, .call 57 [(.tmp 19)], [], false⟩, ⟨some 21, none, .buildSl 38 1 [(.slice none 0 0)] 1 [(0, (.tmp 20))], [], false⟩, ⟨some 22, none, .append 38 1 24 (.tmp 18) (.tmp 21), [], false⟩, ⟨some 2, none, .mov (.tmp 22), [], false⟩] [2, 3, 9]
def k77_8 : SCode := .cond (.tmp 17) k77_7 .skip
def k77_9 : SCode := .seq k77_6 k77_8
def k77_10 : SCode := .seq k77_5 k77_9
def k77_11 : SCode := .block 1 k77_10
def k77_12 : SCode := .seq k77_4 k77_11
def k77_13 : SCode := .seq k77_3 k77_12
def k77_14 : SCode := .loop k77_13
def k77_15 : SCode := .block 0 k77_14
def k77_16 : SCode := .seq k77_2 k77_15
def k77_17 : SCode := .reg [⟨some 23, none, .mov (.tmp 2), [], false⟩, ⟨some 24, none, .callM 58 [(.tmp 23), (.func 59)], [], false⟩] [2]
def k77_18 : SCode := .reg [⟨some 25, none, .mov (.tmp 2), [], false⟩, ⟨some 2, none, .mov (.tmp 25), [], false⟩] [2]
def k77_19 : SCode := .seq k77_18 .ret
def k77_20 : SCode := .seq k77_17 k77_19
def k77_21 : SCode := .seq k77_16 k77_20
def k77_22 : SCode := .seq k77_1 k77_21
def k77_23 : SCode := .seq k77_0 k77_22
theorem glaw_wire_book_least (cs : List CV) (r : CV) (hl : cs.length ≤ 26) (h : STri (cfF Tryz.prog markW 26) k77_23 (initT 0 cs) [] (retQ rs_wire_book_least r)) : SC Tryz.prog 34 cs r :=
  sc_of markW follows Tryz.func34 rfl Tryz.ntmps34 (by decide) (by kernel_rfl) (by kernel_rfl) hl h
end Go.Proofs.YtboifcengmgcaaaGreat
/- Wire, XV: the smallest sets of sources that are wrong. -/
namespace Go.Proofs.YtboifcengmgcaaaGreat
open Go.RowKit
def numsTo (x k : Nat) : List Int := ((List.range k).filter fun i => x.testBit i).map fun (i : Nat) => (i : Int)
def numsL (x : Nat) : List Int := numsTo x (lenN x)
theorem numsTo_succ (x k : Nat) : numsTo x (k + 1) = if x.testBit k = true then numsTo x k ++ [(k : Int)] else numsTo x k := by
  unfold numsTo
  rw [List.range_succ, List.filter_append, List.map_append]
  by_cases h : x.testBit k = true <;> simp [h]
theorem numsTo_len (x k : Nat) : (numsTo x k).length ≤ k := by
  unfold numsTo
  rw [List.length_map]
  exact Nat.le_trans (List.length_filter_le _ _) (by simp)
theorem len_le : ∀ x : Nat, x < 1024 → lenN x ≤ 10 := by decide +kernel
theorem sNumbers (x : Nat) (hx : x < 1024) : SC Tryz.prog 57 [U x] (slI (numsL x)) := by
  refine law_wire_numbers _ _ (by simp) ?_
  have hl := len_le x hx
  (repeat' (first | ((first | with_reducible refine st_skip ?_ | with_reducible refine st_exit ?_); (try simp only [seqQ, blockQ, loopQ, forQ, whileQ, reduceIte, Nat.reduceEqDiff])) | (with_reducible refine st_ret ?_; ((try simp only [seqQ, blockQ, loopQ, forQ, whileQ]); first | (with_reducible refine retM_ret ?_) | refine retQ_ret ?_; simp)) | refine st_seq ?_ | refine st_block ?_ | ((with_reducible show (STri _ _ _ _ _) ∧ (STri _ _ _ _ _)); refine And.intro ?_ ?_) | ((first | refine st_reg ?_ | refine buildP_own ?_ | refine appP_own ?_ | refine callP_b (sLen x hx) rfl ?_) <;> (simp -dsimp; (repeat (simp -dsimp (disch := (first | omega | assumption | (refine Bool.eq_false_iff.1 ?_; assumption))) only [wrap_in, if_pos, if_neg]; (try simp -dsimp))))) | ((first | refine guardP_of (fun hc => ?_) (fun hc => ?_) | refine st_cond rfl (fun hc => ?_) (fun hc => ?_)) <;> (try simp only [lqA, lqB, lqC, lqD, lqE, lqF, lqG, lqH, lqI, lqJ, lqK, lqL, lqM, lqN, lqO] at hc) <;> (try (exfalso; first | omega | exact bool_tf hc (by assumption) | exact bool_ft hc (by assumption) | exact absurd (by assumption) hc)) <;> (first | with_reducible show STri _ _ _ _ _ _ | (simp -dsimp [hc]; (repeat (simp -dsimp (disch := (first | omega | assumption | (refine Bool.eq_false_iff.1 ?_; assumption))) only [wrap_in, if_pos, if_neg]; (try simp -dsimp [hc]))))))))
  refine st_nil 2 200 3 1 rfl (by simp [newOK]) ?_
  refine st_less [(0, .c (U x)), (2, .own 200 0), (5, .c (I (lenN x))), (6, .c (I 0))] [(200, .arr 3 1 [])] (by simp [Less, LessT, LessH, dropOK, dropK, SV.outD, Blk.outD]) ?_
  refine st_for [200] (lenN x) (fun k T H => T = [(0, .c (U x)), (2, .own 200 (numsTo x k).length), (5, .c (I (lenN x))), (6, .c (I k))] ∧ H = [(200, .arr 3 1 ((numsTo x k).map rowI))]) (by simp) ⟨by simp [numsTo], by simp [numsTo]⟩ ?_
  rintro k T H hk ⟨rfl, rfl⟩
  by_cases hlt : k < lenN x
  · have f1 := shr_nat x k (by omega)
    have hs := numsTo_succ x k
    have hlen := numsTo_len x k
    have e : ((x : Int) >>> k % 2 = 1) = (x.testBit k = true) := by
      have e0 : (x : Int) >>> k = ((x >>> k : Nat) : Int) := rfl
      rw [← bit_odd, e0]
      apply propext
      omega
    generalize numsTo x k = l at *
    (repeat' (first | ((first | with_reducible refine st_skip ?_ | with_reducible refine st_exit ?_); (try simp only [seqQ, blockQ, loopQ, forQ, whileQ, reduceIte, Nat.reduceEqDiff])) | (with_reducible refine st_ret ?_; ((try simp only [seqQ, blockQ, loopQ, forQ, whileQ]); first | (with_reducible refine retM_ret ?_) | refine retQ_ret ?_; simp [hlt, f1, and_one])) | refine st_seq ?_ | refine st_block ?_ | ((with_reducible show (STri _ _ _ _ _) ∧ (STri _ _ _ _ _)); refine And.intro ?_ ?_) | ((first | refine st_reg ?_ | refine buildP_own ?_ | refine appP_own ?_) <;> (simp -dsimp [hlt, f1, and_one]; (repeat (simp -dsimp (disch := (first | omega | assumption | (refine Bool.eq_false_iff.1 ?_; assumption))) only [wrap_in, if_pos, if_neg]; (try simp -dsimp [hlt, f1, and_one]))))) | ((first | refine guardP_of (fun hc => ?_) (fun hc => ?_) | refine st_cond rfl (fun hc => ?_) (fun hc => ?_)) <;> (try simp only [lqA, lqB, lqC, lqD, lqE, lqF, lqG, lqH, lqI, lqJ, lqK, lqL, lqM, lqN, lqO] at hc) <;> (try (exfalso; first | omega | exact bool_tf hc (by assumption) | exact bool_ft hc (by assumption) | exact absurd (by assumption) hc)) <;> (first | with_reducible show STri _ _ _ _ _ _ | (simp -dsimp [hlt, f1, and_one, hc]; (repeat (simp -dsimp (disch := (first | omega | assumption | (refine Bool.eq_false_iff.1 ?_; assumption))) only [wrap_in, if_pos, if_neg]; (try simp -dsimp [hlt, f1, and_one, hc]))))))))
    · rw [e] at hc
      rw [if_pos hc] at hs
      exact ⟨hlt, by simp, by simp [hs], by simp [hs]⟩
    · rw [e] at hc
      rw [if_neg hc] at hs
      exact ⟨hlt, by simp, by simp [hs], by simp [hs]⟩
  · have : k = lenN x := by omega
    subst this
    (repeat' (first | ((first | with_reducible refine st_skip ?_ | with_reducible refine st_exit ?_); (try simp only [seqQ, blockQ, loopQ, forQ, whileQ, reduceIte, Nat.reduceEqDiff])) | (with_reducible refine st_ret ?_; ((try simp only [seqQ, blockQ, loopQ, forQ, whileQ]); first | (with_reducible refine retM_ret ?_) | refine retQ_ret ?_; simp [hlt])) | refine st_seq ?_ | refine st_block ?_ | ((with_reducible show (STri _ _ _ _ _) ∧ (STri _ _ _ _ _)); refine And.intro ?_ ?_) | ((first | refine st_reg ?_ | refine buildP_own ?_ | refine appP_own ?_) <;> (simp -dsimp [hlt]; (repeat (simp -dsimp (disch := (first | omega | assumption | (refine Bool.eq_false_iff.1 ?_; assumption))) only [wrap_in, if_pos, if_neg]; (try simp -dsimp [hlt]))))) | ((first | refine guardP_of (fun hc => ?_) (fun hc => ?_) | refine st_cond rfl (fun hc => ?_) (fun hc => ?_)) <;> (try simp only [lqA, lqB, lqC, lqD, lqE, lqF, lqG, lqH, lqI, lqJ, lqK, lqL, lqM, lqN, lqO] at hc) <;> (try (exfalso; first | omega | exact bool_tf hc (by assumption) | exact bool_ft hc (by assumption) | exact absurd (by assumption) hc)) <;> (first | with_reducible show STri _ _ _ _ _ _ | (simp -dsimp [hlt, hc]; (repeat (simp -dsimp (disch := (first | omega | assumption | (refine Bool.eq_false_iff.1 ?_; assumption))) only [wrap_in, if_pos, if_neg]; (try simp -dsimp [hlt, hc]))))))))
    exact .refl _
def sortL (ls : List (List Int)) : List (List Int) := ls.mergeSort fun x y => !ltL y x
def leastS (b : Wbk) : List Nat := (setsL b).filter fun x => decide (popN x = fewN b)
def leastL (b : Wbk) : List (List Int) := sortL ((leastS b).map numsL)
def slL (ls : List (List Int)) : CV := .sl 1 (ls.map rowL1)
attribute [simp] slL
theorem sortL_pair (ls : List (List Int)) : (sortL ls).Pairwise fun x y => ltL y x = false := by
  have h1 : (sortL ls).Pairwise fun x y => (!ltL y x) = true := List.pairwise_mergeSort (le := fun x y => !ltL y x) (fun x y z h1 h2 => by
      unfold ltL at *
      simp only [Bool.not_eq_true', decide_eq_false_iff_not] at *
      have a1 := cmpL_anti x y
      have a2 := cmpL_anti y z
      have a3 := cmpL_anti x z
      have := (cmpL_trans (xs := x) (ys := y) (zs := z) (by omega) (by omega)).1
      omega) (fun x y => by
      unfold ltL
      have a1 := cmpL_anti x y
      simp only [Bool.or_eq_true, Bool.not_eq_true', decide_eq_false_iff_not]
      omega) ls
  exact h1.imp fun h => by simpa using h
theorem sortL_of {xs ys : List (List Int)} (hp : ys.Perm xs) (hs : ys.Pairwise fun x y => ltL y x = false) : ys = sortL xs := by
  refine List.Perm.eq_of_pairwise (le := fun x y => ltL y x = false) (fun x y _ _ h1 h2 => ?_) hs (sortL_pair xs) (hp.trans (List.mergeSort_perm xs _).symm)
  unfold ltL at h1 h2
  simp only [decide_eq_false_iff_not] at h1 h2
  have a1 := cmpL_anti x y
  exact cmpL_eq (by omega)
def rowsU (acc : List Nat) : List (List CV) := (acc.map numsL).map rowL1
@[simp] theorem rowsU_len (acc : List Nat) : (rowsU acc).length = acc.length := by simp [rowsU]
theorem rowsU_snoc (acc : List Nat) (x : Nat) : rowsU (acc ++ [x]) = rowsU acc ++ [[.sl 1 ((numsL x).map rowI)]] := by simp [rowsU]
def leI (b : Wbk) (m : Nat) (T : TL) (H : HL) : Prop := ∃ L cur acc, m = L.length ∧ (∀ x ∈ L, x < 1024) ∧ (acc ++ L.filter fun x => decide (popN x = fewN b)).Perm (leastS b) ∧ acc.length + L.length ≤ 20000 ∧
  T = [(2, .own 200 acc.length), (3, .c (I (fewN b : Nat))), (9, .it 9)] ∧ H = [(200, .arr 38 1 (rowsU acc)), (9, .it false .u64 (entsU L) cur)]
theorem nums_len (x : Nat) (hx : x < 1024) : (numsL x).length ≤ 1000000000 := by
  have := numsTo_len x (lenN x)
  have := len_le x hx
  unfold numsL; omega
theorem sLeast (b : Wbk) (hb : BkOK b) : SC Tryz.prog 34 [cBk b] (slL (leastL b)) := by
  refine glaw_wire_book_least _ _ (by simp) ?_
  have sf := sFewest b hb
  have ss := sSets b hb
  have hsl : (setsL b).length ≤ 20000 := by
    have h1 := setsTo_len b (allL b).length (Nat.le_refl _)
    have h2 : setsTo b (allL b).length = setsL b := by unfold setsTo setsL; rw [List.take_length]
    have h3 := allL_len b
    have n0 := hb.n0
    have n2 := hb.n2
    rw [h2] at h1
    unfold bookN at h3
    omega
  have hst : ∀ x ∈ leastS b, x < 1024 := fun x hx => set_lt hb (List.mem_filter.1 hx).1
  (repeat' (first | ((first | with_reducible refine st_skip ?_ | with_reducible refine st_exit ?_); (try simp only [seqQ, blockQ, loopQ, forQ, whileQ, reduceIte, Nat.reduceEqDiff])) | (with_reducible refine st_ret ?_; ((try simp only [seqQ, blockQ, loopQ, forQ, whileQ]); first | (with_reducible refine retM_ret ?_) | refine retQ_ret ?_; simp)) | refine st_seq ?_ | refine st_block ?_ | ((with_reducible show (STri _ _ _ _ _) ∧ (STri _ _ _ _ _)); refine And.intro ?_ ?_) | ((first | refine st_reg ?_ | refine buildP_own ?_ | refine appP_own ?_ | ((with_reducible show callGP _ _ _ _ _ _ _); refine callG_b (sf) ?hcc ?hpp ?_; (case hcc => (first | rfl | (simp <;> fail))); (case hpp => (first | rfl | (simp <;> fail)))) | ((with_reducible show callGP _ _ _ _ _ _ _); refine callG_b (ss) ?hcc ?hpp ?_; (case hcc => (first | rfl | (simp <;> fail))); (case hpp => (first | rfl | (simp <;> fail)))) | refine callP_b (sf) rfl ?_ | refine callP_b (ss) rfl ?_) <;> (simp -dsimp; (repeat (simp -dsimp (disch := (first | omega | assumption | (refine Bool.eq_false_iff.1 ?_; assumption))) only [wrap_in, if_pos, if_neg]; (try simp -dsimp))))) | ((first | refine guardP_of (fun hc => ?_) (fun hc => ?_) | refine st_cond rfl (fun hc => ?_) (fun hc => ?_)) <;> (try simp only [lqA, lqB, lqC, lqD, lqE, lqF, lqG, lqH, lqI, lqJ, lqK, lqL, lqM, lqN, lqO] at hc) <;> (try (exfalso; first | omega | exact bool_tf hc (by assumption) | exact bool_ft hc (by assumption) | exact absurd (by assumption) hc)) <;> (first | with_reducible show STri _ _ _ _ _ _ | (simp -dsimp [hc]; (repeat (simp -dsimp (disch := (first | omega | assumption | (refine Bool.eq_false_iff.1 ?_; assumption))) only [wrap_in, if_pos, if_neg]; (try simp -dsimp [hc]))))))))
  refine st_nil 2 200 38 1 rfl (by simp [newOK]) ?_
  refine st_less [(2, .own 200 0), (3, .c (I (fewN b : Nat))), (9, .it 9)] [(200, .arr 38 1 []), (9, .it false .u64 (entsU (setsL b)) none)] (by simp [Less, LessT, LessH, dropOK, dropK, SV.outD, Blk.outD]) ?_
  refine st_while [200, 9] (leI b) (setsL b).length (by simp) ⟨setsL b, none, [], rfl, fun x hx => set_lt hb hx, .refl _, by simpa using hsl, by simp, by simp [rowsU]⟩ ?_
  rintro m T H ⟨L, cur, acc, rfl, hL, hperm, hlen, rfl, rfl⟩
  have hA : acc.length ≤ 9223372036854775806 := by omega
  have hB : (acc.length + 1) * 24 ≤ 140737488355328 := by omega
  have ms := mSortL (acc.map numsL) (by simp; omega) (fun l hl => by
    obtain ⟨x, hx, rfl⟩ := List.mem_map.1 hl
    exact nums_len x (hst x (hperm.subset (by simp [hx]))))
  (repeat' (first | ((with_reducible show STri _ SCode.skip [(2, _), (3, _), (4, _), (9, _), (17, _)] _ _); refine st_less [(2, .own 200 acc.length), (3, .c (I (fewN b : Nat))), (9, .it 9)] [(200, .arr 38 1 (rowsU acc)), (9, .it false .u64 (entsU Rq) (some (entU wq)))] (by simp [Less, LessT, LessH, dropOK, dropK, SV.outD, Blk.outD]) ?_) | ((first | with_reducible refine st_skip ?_ | with_reducible refine st_exit ?_); (try simp only [seqQ, blockQ, loopQ, forQ, whileQ, reduceIte, Nat.reduceEqDiff])) | (with_reducible refine st_ret ?_; ((try simp only [seqQ, blockQ, loopQ, forQ, whileQ]); first | (with_reducible refine retM_ret ?_) | refine retQ_ret ?_; simp [hA, hB])) | refine st_seq ?_ | refine st_block ?_ | ((with_reducible show (STri _ _ _ _ _) ∧ (STri _ _ _ _ _)); refine And.intro ?_ ?_) | ((first | refine st_reg ?_ | ((with_reducible show callMP _ _ _ _ _ _); refine callM_of (ms ) (by decide) (by first | rfl | simp) (by first | rfl | simp) (by first | rfl | simp) (by first | rfl | simp) (fun rows2 hR2 hl2 => ?_);  obtain ⟨ys, rfl, q1, q2⟩ := hR2) | refine buildP_own ?_ | refine appP_own ?_ | ((with_reducible show callGP _ _ _ _ _ _ _); refine callG_b (sOnes wq (hL wq (hpq.mem_iff.2 (by simp)))) ?hcc ?hpp ?_; (case hcc => (first | rfl | (simp <;> fail))); (case hpp => (first | rfl | (simp <;> fail)))) | ((with_reducible show callGP _ _ _ _ _ _ _); refine callG_b (sNumbers wq (hL wq (hpq.mem_iff.2 (by simp)))) ?hcc ?hpp ?_; (case hcc => (first | rfl | (simp <;> fail))); (case hpp => (first | rfl | (simp <;> fail)))) | ((with_reducible show nextP _ _ _ _); refine next_of (by first | rfl | simp) (fun hl0 => ?_) (fun pe re hpm => ?_) <;> (first | (obtain ⟨wq, Rq, rfl, rfl, hpq⟩ := ents_perm hpm) | skip)) | refine callP_b (sOnes wq (hL wq (hpq.mem_iff.2 (by simp)))) rfl ?_ | refine callP_b (sNumbers wq (hL wq (hpq.mem_iff.2 (by simp)))) rfl ?_) <;> (simp -dsimp [hA, hB]; (repeat (simp -dsimp (disch := (first | omega | assumption | (refine Bool.eq_false_iff.1 ?_; assumption))) only [wrap_in, if_pos, if_neg]; (try simp -dsimp [hA, hB]))))) | ((first | refine guardP_of (fun hc => ?_) (fun hc => ?_) | refine st_cond rfl (fun hc => ?_) (fun hc => ?_)) <;> (try simp only [lqA, lqB, lqC, lqD, lqE, lqF, lqG, lqH, lqI, lqJ, lqK, lqL, lqM, lqN, lqO] at hc) <;> (try (exfalso; first | omega | exact bool_tf hc (by assumption) | exact bool_ft hc (by assumption) | exact absurd (by assumption) hc)) <;> (first | with_reducible show STri _ _ _ _ _ _ | (simp -dsimp [hA, hB, hc]; (repeat (simp -dsimp (disch := (first | omega | assumption | (refine Bool.eq_false_iff.1 ?_; assumption))) only [wrap_in, if_pos, if_neg]; (try simp -dsimp [hA, hB, hc]))))))))
  · have hL0 : L = [] := by simpa [entsU] using hl0
    subst hL0
    simp only [List.filter_nil, List.append_nil] at hperm
    have e : ys = leastL b := sortL_of (q1.trans (hperm.map numsL)) q2
    have hly := q1.length_eq
    have hly2 : ys.length = acc.length := by simpa using hly
    subst e
    rw [if_pos hly2.symm]
    exact ⟨_, rfl, .refl _⟩
  · have h1 : decide (popN wq = fewN b) = true := by simpa using (show popN wq = fewN b by omega)
    have hl2 := hpq.length_eq
    simp only [List.length_cons] at hl2
    refine ⟨Rq.length, by omega, by simp, Rq, some (entU wq), acc ++ [wq], rfl, fun x hx => hL x (hpq.mem_iff.2 (by simp [hx])), ?_, by simp; omega, by simp, by simp [rowsU_snoc]⟩
    refine List.Perm.trans ?_ hperm
    have := (hpq.filter fun x => decide (popN x = fewN b)).append_left acc
    rw [List.filter_cons_of_pos (p := fun x => decide (popN x = fewN b)) h1] at this
    rw [List.append_assoc]
    exact this.symm
  · have h1 : ¬ decide (popN wq = fewN b) = true := by simpa using (show ¬ popN wq = fewN b by omega)
    have hl2 := hpq.length_eq
    simp only [List.length_cons] at hl2
    refine ⟨Rq.length, by omega, by simp, Rq, some (entU wq), acc, rfl, fun x hx => hL x (hpq.mem_iff.2 (by simp [hx])), ?_, by omega, by simp, by simp⟩
    refine List.Perm.trans ?_ hperm
    have := (hpq.filter fun x => decide (popN x = fewN b)).append_left acc
    rw [List.filter_cons_of_neg (p := fun x => decide (popN x = fewN b)) h1] at this
    exact this.symm
end Go.Proofs.YtboifcengmgcaaaGreat
