/- Part 7 of a proof: CodeWL, Ka, Kb, Kc0, Kc, Kd, Lift, OpenS, Gw0, Ke, Kf. -/
import Derived.Test.YtakdmliblijgmaaK5
import Derived.Test.YtakdmliblijgmaaK6
import Derived.Test.YtakdmliblijgmaaK3
import Derived.ChangeSame
import Derived.JoinedOf
import Derived.JoinedAt
import Derived.RowKit3
import Derived.ReadAgain
import Derived.RowKit2
import Derived.ChangeSlices
import Derived.OpenShut
import Derived.Test.YtakdmliblijgmaaK4
set_option linter.unusedSimpArgs false
set_option linter.unusedVariables false
/- The shadow code of functions, as the kit's translation has them. -/
namespace Go.Proofs.Ytakdmliblijgmaa
open Go.RowKit
def k71_0 : SCode := .reg [⟨some 5, none, .box 25 (.tmp 2), [], false⟩, ⟨some 6, none, .mov (.const (.bool false)), [], false⟩] [0, 1, 5]
def k71_1 : SCode := .reg [⟨some 21, none, .mov (.tmp 0), [], false⟩, ⟨some 22, none, .mov (.tmp 1), [], false⟩, ⟨some 23, none, .load true 2 (.tmp 5), [], false⟩, ⟨some 24, none, .call 12 [(.tmp 21), (.tmp 22), (.tmp 23)], [], false⟩] [0, 1, 5, 24]
def k71_2 : SCode := .reg [⟨some 25, none, .call 13 [], [], false⟩, ⟨some 6, none, .mov (.tmp 25), [], false⟩] [6]
def k71_3 : SCode := .seq k71_2 .ret
def k71_4 : SCode := .cond (.tmp 24) k71_3 .skip
def k71_5 : SCode := .seq k71_1 k71_4
def k71_6 : SCode := .reg [⟨some 26, none, .mov (.tmp 0), [], false⟩, ⟨some 27, none, .call 14 [(.tmp 26)], [], false⟩, ⟨some 28, none, .mov (.tmp 1), [], false⟩, ⟨some 29, none, .call 15 [(.tmp 28)], [], false⟩, ⟨some 7, none, .mov (.tmp 27), [], false⟩, ⟨some 8, none, .mov (.tmp 29), [], false⟩] [0, 1, 5, 7, 8]
def k71_7 : SCode := .reg [⟨some 31, none, .mov (.tmp 7), [], false⟩, ⟨some 32, none, .mov (.tmp 8), [], false⟩, ⟨some 33, none, .load true 2 (.tmp 5), [], false⟩, ⟨some 34, none, .call 16 [(.tmp 31), (.tmp 32), (.tmp 33)], [], false⟩, ⟨some 30, none, .mov (.tmp 34), [], false⟩, ⟨some 35, none, .ext (.tmp 30) 0, [], false⟩, ⟨some 36, none, .ext (.tmp 30) 1, [], false⟩, ⟨some 9, none, .mov (.tmp 35), [], false⟩, ⟨some 10, none, .mov (.tmp 36), [], false⟩] [0, 1, 5, 7, 8, 9, 10]
def k71_8 : SCode := .reg [⟨some 38, none, .mov (.tmp 7), [], false⟩, ⟨some 39, none, .mov (.tmp 8), [], false⟩, ⟨some 40, none, .load true 2 (.tmp 5), [], false⟩, ⟨some 41, none, .call 17 [(.tmp 38), (.tmp 39), (.tmp 40)], [], false⟩, ⟨some 37, none, .mov (.tmp 41), [], false⟩, ⟨some 42, none, .ext (.tmp 37) 0, [], false⟩, ⟨some 43, none, .ext (.tmp 37) 1, [], false⟩, ⟨some 11, none, .mov (.tmp 42), [], false⟩, ⟨some 12, none, .mov (.tmp 43), [], false⟩] [0, 1, 5, 7, 8, 9, 10, 11, 12]
def k71_9 : SCode := .reg [⟨some 45, none, .mov (.tmp 7), [], false⟩, ⟨some 46, none, .mov (.tmp 8), [], false⟩, ⟨some 47, none, .load true 2 (.tmp 5), [], false⟩, ⟨some 48, none, .call 18 [(.tmp 45), (.tmp 46), (.tmp 47)], [], false⟩, ⟨some 44, none, .mov (.tmp 48), [], false⟩, ⟨some 49, none, .ext (.tmp 44) 0, [], false⟩, ⟨some 50, none, .ext (.tmp 44) 1, [], false⟩, ⟨some 51, none, .ext (.tmp 44) 2, [], false⟩, ⟨some 13, none, .mov (.tmp 49), [], false⟩, ⟨some 14, none, .mov (.tmp 50), [], false⟩, ⟨some 15, none, .mov (.tmp 51), [], false⟩] [0, 1, 5, 7, 8, 9, 10, 11, 12, 13, 14, 15]
def k71_10 : SCode := .reg [⟨some 52, none, .mov (.tmp 7), [], false⟩, ⟨some 53, none, .mov (.tmp 0), [], false⟩, ⟨some 54, none, .mov (.tmp 8), [], false⟩, ⟨some 55, none, .mov (.tmp 1), [], false⟩, ⟨some 56, none, .call 19 [(.tmp 52), (.tmp 53), (.tmp 54), (.tmp 55)], [], false⟩, ⟨some 57, none, .un .not (.tmp 56), [], false⟩] [0, 1, 5, 9, 10, 11, 12, 13, 14, 15, 57]
def k71_11 : SCode := .reg [⟨some 6, none, .mov (.const (.bool false)), [], false⟩] [6]
def k71_12 : SCode := .seq k71_11 .ret
def k71_13 : SCode := .cond (.tmp 57) k71_12 .skip
def k71_14 : SCode := .seq k71_10 k71_13
def k71_15 : SCode := .reg [⟨some 58, none, .mov (.tmp 0), [], false⟩, ⟨some 59, none, .mov (.tmp 1), [], false⟩, ⟨some 60, none, .load true 2 (.tmp 5), [], false⟩, ⟨some 61, none, .call 20 [(.tmp 58), (.tmp 59), (.tmp 60)], [], false⟩, ⟨some 16, none, .mov (.tmp 61), [], false⟩] [0, 1, 5, 9, 10, 11, 12, 13, 14, 15, 16]
def k71_16 : SCode := .reg [⟨some 62, none, .mov (.tmp 16), [], false⟩, ⟨some 63, none, .bin .neq (.tmp 62) (.const (.int .i64 0)), [], false⟩] [0, 1, 5, 9, 10, 11, 12, 13, 14, 15, 16, 63]
def k71_17 : SCode := .reg [⟨some 64, none, .mov (.tmp 10), [], false⟩, ⟨some 65, none, .mov (.tmp 16), [], false⟩, ⟨some 66, none, .bin .eql (.tmp 64) (.tmp 65), [], false⟩, ⟨some 67, none, .mov (.tmp 66), [], false⟩, ⟨some 68, (some (67, true)), .mov (.tmp 12), [], false⟩, ⟨some 69, (some (67, true)), .mov (.tmp 16), [], false⟩, ⟨some 70, (some (67, true)), .bin .eql (.tmp 68) (.tmp 69), [], false⟩, ⟨some 71, none, .pick (.tmp 67) (.tmp 70) (.const (.bool false)), [], false⟩, ⟨some 72, none, .mov (.tmp 71), [], false⟩, ⟨some 73, (some (72, true)), .mov (.tmp 15), [], false⟩, ⟨some 74, (some (72, true)), .mov (.tmp 16), [], false⟩, ⟨some 75, (some (72, true)), .bin .eql (.tmp 73) (.tmp 74), [], false⟩, ⟨some 76, none, .pick (.tmp 72) (.tmp 75) (.const (.bool false)), [], false⟩, ⟨some 77, none, .mov (.tmp 76), [], false⟩, ⟨some 78, (some (77, true)), .mov (.tmp 9), [], false⟩, ⟨some 79, (some (77, true)), .len (.tmp 78), [], false⟩, ⟨some 80, (some (77, true)), .mov (.tmp 11), [], false⟩, ⟨some 81, (some (77, true)), .len (.tmp 80), [], false⟩, ⟨some 82, (some (77, true)), .bin .add (.tmp 79) (.tmp 81), [], false⟩, ⟨some 83, (some (77, true)), .mov (.tmp 14), [], false⟩, ⟨some 84, (some (77, true)), .len (.tmp 83), [], false⟩, ⟨some 85, (some (77, true)), .bin .add (.tmp 82) (.tmp 84), [], false⟩, ⟨some 86, (some (77, true)), .bin .eql (.tmp 85) (.const (.int .i64 0)), [], false⟩, ⟨some 87, none, .pick (.tmp 77) (.tmp 86) (.const (.bool false)), [], false⟩, ⟨some 88, none, .mov (.tmp 87), [], false⟩, ⟨some 89, (some (88, true)), .mov (.tmp 13), [], false⟩, ⟨some 90, (some (88, true)), .bin .eql (.tmp 89) (.const (.int .i64 0)), [], false⟩, ⟨some 91, none, .pick (.tmp 88) (.tmp 90) (.const (.bool false)), [], false⟩, ⟨some 92, none, .mov (.tmp 91), [], false⟩, ⟨some 93, (some (92, true)), .call 13 [], [], false⟩, ⟨some 94, none, .pick (.tmp 92) (.tmp 93) (.const (.bool false)), [], false⟩, ⟨some 6, none, .mov (.tmp 94), [], false⟩] [6]
def k71_18 : SCode := .seq k71_17 .ret
def k71_19 : SCode := .cond (.tmp 63) k71_18 .skip
def k71_20 : SCode := .seq k71_16 k71_19
def k71_21 : SCode := .seq k71_15 k71_20
def k71_22 : SCode := .reg [⟨some 95, none, .mov (.tmp 0), [], false⟩, ⟨some 96, none, .mov (.tmp 1), [], false⟩, ⟨some 97, none, .load true 2 (.tmp 5), [], false⟩, ⟨some 98, none, .call 21 [(.tmp 95), (.tmp 96), (.tmp 97)], [], false⟩, ⟨some 17, none, .mov (.tmp 98), [], false⟩] [0, 5, 9, 10, 11, 12, 13, 14, 15, 17]
def k71_23 : SCode := .reg [⟨some 99, none, .mov (.tmp 17), [], false⟩, ⟨some 100, none, .call 22 [(.tmp 99)], [], false⟩, ⟨some 101, none, .mov (.tmp 17), [], false⟩, ⟨some 102, none, .mov (.tmp 0), [], false⟩, ⟨some 103, none, .len (.tmp 102), [], false⟩, ⟨some 104, none, .call 23 [(.tmp 101), (.tmp 103)], [], false⟩, ⟨some 18, none, .mov (.tmp 100), [], false⟩, ⟨some 19, none, .mov (.tmp 104), [], false⟩] [0, 5, 9, 10, 11, 12, 13, 14, 15, 17, 18, 19]
def k71_24 : SCode := .reg [⟨some 105, none, .mov (.tmp 12), [], false⟩, ⟨some 106, none, .bin .neq (.tmp 105) (.const (.int .i64 0)), [], false⟩, ⟨some 107, none, .mov (.tmp 106), [], false⟩, ⟨some 108, (some (107, false)), .mov (.tmp 15), [], false⟩, ⟨some 109, (some (107, false)), .bin .neq (.tmp 108) (.const (.int .i64 0)), [], false⟩, ⟨some 110, none, .pick (.tmp 107) (.const (.bool true)) (.tmp 109), [], false⟩, ⟨some 111, none, .mov (.tmp 110), [], false⟩, ⟨some 112, (some (111, false)), .mov (.tmp 13), [], false⟩, ⟨some 113, (some (111, false)), .mov (.tmp 0), [], false⟩, ⟨some 114, (some (111, false)), .len (.tmp 113), [], false⟩, ⟨some 115, (some (111, false)), .mov (.tmp 18), [], false⟩, ⟨some 116, (some (111, false)), .bin .sub (.tmp 114) (.tmp 115), [], false⟩, ⟨some 117, (some (111, false)), .bin .neq (.tmp 112) (.tmp 116), [], false⟩, ⟨some 118, none, .pick (.tmp 111) (.const (.bool true)) (.tmp 117), [], false⟩, ⟨some 119, none, .mov (.tmp 118), [], false⟩, ⟨some 120, (some (119, false)), .mov (.tmp 14), [], false⟩, ⟨some 121, (some (119, false)), .mov (.tmp 17), [], false⟩, ⟨some 122, (some (119, false)), .load true 2 (.tmp 5), [], false⟩, ⟨some 123, (some (119, false)), .mov (.tmp 18), [], false⟩, ⟨some 124, (some (119, false)), .call 25 [(.tmp 121), (.tmp 122), (.tmp 123)], [], false⟩, ⟨some 125, (some (119, false)), .call 24 [(.tmp 120), (.tmp 124)], [], false⟩, ⟨some 126, (some (119, false)), .un .not (.tmp 125), [], false⟩, ⟨some 127, none, .pick (.tmp 119) (.const (.bool true)) (.tmp 126), [], false⟩, ⟨some 128, none, .mov (.tmp 127), [], false⟩, ⟨some 129, (some (128, false)), .mov (.tmp 11), [], false⟩, ⟨some 130, (some (128, false)), .len (.tmp 129), [], false⟩, ⟨some 131, (some (128, false)), .mov (.tmp 19), [], false⟩, ⟨some 132, (some (128, false)), .len (.tmp 131), [], false⟩, ⟨some 133, (some (128, false)), .bin .neq (.tmp 130) (.tmp 132), [], false⟩, ⟨some 134, none, .pick (.tmp 128) (.const (.bool true)) (.tmp 133), [], false⟩, ⟨some 135, none, .mov (.tmp 134), [], false⟩, ⟨some 136, (some (135, false)), .mov (.tmp 10), [], false⟩, ⟨some 137, (some (135, false)), .bin .eql (.tmp 136) (.const (.int .i64 0)), [], false⟩, ⟨some 138, (some (135, false)), .mov (.tmp 18), [], false⟩, ⟨some 139, (some (135, false)), .bin .eql (.tmp 138) (.const (.int .i64 0)), [], false⟩, ⟨some 140, (some (135, false)), .binB true (.tmp 137) (.tmp 139), [], false⟩, ⟨some 141, none, .pick (.tmp 135) (.const (.bool true)) (.tmp 140), [], false⟩, ⟨some 142, none, .mov (.tmp 141), [], false⟩, ⟨some 143, (some (142, false)), .mov (.tmp 10), [], false⟩, ⟨some 144, (some (142, false)), .bin .neq (.tmp 143) (.const (.int .i64 0)), [], false⟩, ⟨some 145, (some (142, false)), .mov (.tmp 144), [], false⟩, ⟨some 146, (some (145, true)), .mov (.tmp 10), [], false⟩, ⟨some 147, (some (145, true)), .bin .neq (.tmp 146) (.const (.int .i64 7)), [], false⟩, ⟨some 148, (some (142, false)), .pick (.tmp 145) (.tmp 147) (.const (.bool false)), [], false⟩, ⟨some 149, none, .pick (.tmp 142) (.const (.bool true)) (.tmp 148), [], false⟩, ⟨some 150, none, .mov (.tmp 149), [], false⟩, ⟨some 151, (some (150, false)), .mov (.tmp 9), [], false⟩, ⟨some 152, (some (150, false)), .mov (.tmp 17), [], false⟩, ⟨some 153, (some (150, false)), .load true 2 (.tmp 5), [], false⟩, ⟨some 154, (some (150, false)), .call 25 [(.tmp 152), (.tmp 153), (.const (.int .i64 0))], [], false⟩, ⟨some 155, (some (150, false)), .call 24 [(.tmp 151), (.tmp 154)], [], false⟩, ⟨some 156, (some (150, false)), .un .not (.tmp 155), [], false⟩, ⟨some 157, none, .pick (.tmp 150) (.const (.bool true)) (.tmp 156), [], false⟩] [11, 19, 157]
def k71_25 : SCode := .reg [⟨some 6, none, .mov (.const (.bool false)), [], false⟩] [6]
def k71_26 : SCode := .seq k71_25 .ret
def k71_27 : SCode := .cond (.tmp 157) k71_26 .skip
def k71_28 : SCode := .seq k71_24 k71_27
def k71_29 : SCode := .reg [⟨some 20, none, .mov (.const (.int .i64 0)), [], false⟩] [11, 19, 20]
def k71_30 : SCode := .reg [⟨some 158, none, .mov (.tmp 20), [], false⟩, ⟨some 159, none, .mov (.tmp 11), [], false⟩, ⟨some 160, none, .len (.tmp 159), [], false⟩, ⟨some 161, none, .bin .lss (.tmp 158) (.tmp 160), [], false⟩] [11, 19, 20, 161]
def k71_31 : SCode := .cond (.tmp 161) .skip (.exit 0)
def k71_32 : SCode := .seq k71_30 k71_31
def k71_33 : SCode := .reg [⟨some 164, none, .mov (.tmp 11), [], false⟩, ⟨some 165, none, .mov (.tmp 20), [], false⟩, ⟨some 166, none, .idxS 2 (.tmp 164) (.tmp 165), [], false⟩, ⟨some 167, none, .load true 2 (.tmp 166), [], false⟩, ⟨some 168, none, .mov (.tmp 19), [], false⟩, ⟨some 169, none, .mov (.tmp 20), [], false⟩, ⟨some 170, none, .idxS 2 (.tmp 168) (.tmp 169), [], false⟩, ⟨some 171, none, .load true 2 (.tmp 170), [], false⟩, ⟨some 172, none, .eqC true [true, true] (.tmp 167) (.tmp 171), [], false⟩] [11, 19, 20, 172]
def k71_34 : SCode := .reg [⟨some 6, none, .mov (.const (.bool false)), [], false⟩] [6]
def k71_35 : SCode := .seq k71_34 .ret
def k71_36 : SCode := .cond (.tmp 172) k71_35 .skip
def k71_37 : SCode := .seq k71_33 k71_36
def k71_38 : SCode := .block 1 k71_37
def k71_39 : SCode := .reg [⟨some 162, none, .mov (.tmp 20), [], false⟩, ⟨some 163, none, .bin .add (.tmp 162) (.const (.int .i64 1)), [], false⟩, ⟨some 20, none, .mov (.tmp 163), [], false⟩] [11, 19, 20]
def k71_40 : SCode := .seq k71_38 k71_39
def k71_41 : SCode := .seq k71_32 k71_40
def k71_42 : SCode := .loop k71_41
def k71_43 : SCode := .block 0 k71_42
def k71_44 : SCode := .seq k71_29 k71_43
def k71_45 : SCode := .reg [⟨some 173, none, .call 13 [], [], false⟩, ⟨some 6, none, .mov (.tmp 173), [], false⟩] [6]
def k71_46 : SCode := .seq k71_45 .ret
def k71_47 : SCode := .seq k71_44 k71_46
def k71_48 : SCode := .seq k71_28 k71_47
def k71_49 : SCode := .seq k71_23 k71_48
def k71_50 : SCode := .seq k71_22 k71_49
def k71_51 : SCode := .seq k71_21 k71_50
def k71_52 : SCode := .seq k71_14 k71_51
def k71_53 : SCode := .seq k71_9 k71_52
def k71_54 : SCode := .seq k71_8 k71_53
def k71_55 : SCode := .seq k71_7 k71_54
def k71_56 : SCode := .seq k71_6 k71_55
def k71_57 : SCode := .seq k71_5 k71_56
def k71_58 : SCode := .seq k71_0 k71_57
@[simp] def rs_turretlaw08_WireFits : List SRes := [.tmp 6]
theorem law_turretlaw08_WireFits (cs : List CV) (r : CV) (hl : cs.length ≤ 174) (h : STri (cfF Try.prog [] 174) k71_58 (initT 0 cs) [] (retQ rs_turretlaw08_WireFits r)) : SC Try.prog 3 cs r :=
  sc_of [] follows Try.func3 rfl Try.ntmps3 (by decide) (by kernel_rfl) (by kernel_rfl) hl h
def k72_0 : SCode := .reg [⟨some 5, none, .box 57 (.tmp 2), [], false⟩, ⟨some 6, none, .mov (.const (.bool false)), [], false⟩] [0, 1, 5]
def k72_1 : SCode := .reg [⟨some 13, none, .fld 0 (.tmp 5), [], true⟩, ⟨some 14, none, .load true 2 (.tmp 13), [], true⟩, ⟨some 15, none, .fld 2 (.tmp 5), [], true⟩, ⟨some 16, none, .load false 1 (.tmp 15), [], true⟩, ⟨some 7, none, .alloc 25 [(.int .i64 0), (.int .i64 0)], [0, 1, 2, 3], false⟩, ⟨none, none, .store 2 (.tmp 7) (.tmp 14), [2, 3], false⟩, ⟨some 8, none, .mov (.tmp 16), [], false⟩] [0, 1, 7, 8]
def k72_2 : SCode := .reg [⟨some 17, none, .mov (.tmp 0), [], false⟩, ⟨some 18, none, .mov (.tmp 1), [], false⟩, ⟨some 19, none, .load true 2 (.tmp 7), [], false⟩, ⟨some 20, none, .call 12 [(.tmp 17), (.tmp 18), (.tmp 19)], [], false⟩] [0, 1, 7, 8, 20]
def k72_3 : SCode := .reg [⟨some 21, none, .call 13 [], [], false⟩, ⟨some 6, none, .mov (.tmp 21), [], false⟩] [6]
def k72_4 : SCode := .seq k72_3 .ret
def k72_5 : SCode := .cond (.tmp 20) k72_4 .skip
def k72_6 : SCode := .seq k72_2 k72_5
def k72_7 : SCode := .reg [⟨some 22, none, .mov (.tmp 0), [], false⟩, ⟨some 23, none, .call 14 [(.tmp 22)], [], false⟩, ⟨some 9, none, .mov (.tmp 23), [], false⟩] [0, 1, 7, 8, 9]
def k72_8 : SCode := .reg [⟨some 25, none, .mov (.tmp 9), [], false⟩, ⟨some 26, none, .mov (.tmp 1), [], false⟩, ⟨some 27, none, .call 15 [(.tmp 26)], [], false⟩, ⟨some 28, none, .load true 2 (.tmp 7), [], false⟩, ⟨some 29, none, .mov (.tmp 8), [], false⟩, ⟨some 30, none, .call 30 [(.tmp 25), (.tmp 27), (.tmp 28), (.tmp 29)], [], false⟩, ⟨some 24, none, .mov (.tmp 30), [], false⟩, ⟨some 31, none, .ext (.tmp 24) 0, [], false⟩, ⟨some 32, none, .ext (.tmp 24) 1, [], false⟩, ⟨some 10, none, .mov (.tmp 31), [], false⟩, ⟨some 11, none, .mov (.tmp 32), [], false⟩] [0, 1, 7, 8, 9, 10, 11]
def k72_9 : SCode := .reg [⟨some 33, none, .mov (.tmp 0), [], false⟩, ⟨some 34, none, .mov (.tmp 1), [], false⟩, ⟨some 35, none, .load true 2 (.tmp 7), [], false⟩, ⟨some 36, none, .call 20 [(.tmp 33), (.tmp 34), (.tmp 35)], [], false⟩, ⟨some 12, none, .mov (.tmp 36), [], false⟩] [0, 1, 7, 8, 9, 10, 11, 12]
def k72_10 : SCode := .reg [⟨some 37, none, .mov (.tmp 12), [], false⟩, ⟨some 38, none, .bin .eql (.tmp 37) (.const (.int .i64 0)), [], false⟩, ⟨some 39, none, .mov (.tmp 38), [], false⟩, ⟨some 40, (some (39, true)), .mov (.tmp 8), [], false⟩, ⟨some 41, (some (39, true)), .mov (.tmp 0), [], false⟩, ⟨some 42, (some (39, true)), .len (.tmp 41), [], false⟩, ⟨some 43, (some (39, true)), .bin .sub (.tmp 42) (.const (.int .i64 1)), [], false⟩, ⟨some 44, (some (39, true)), .call 31 [(.tmp 40), (.const (.int .i64 0)), (.tmp 43)], [], false⟩, ⟨some 45, (some (39, true)), .un .not (.tmp 44), [], false⟩, ⟨some 46, none, .pick (.tmp 39) (.tmp 45) (.const (.bool false)), [], false⟩] [0, 1, 7, 8, 9, 10, 11, 12, 46]
def k72_11 : SCode := .reg [⟨some 12, none, .mov (.const (.int .i64 7)), [], false⟩] [0, 1, 7, 8, 9, 10, 11, 12]
def k72_12 : SCode := .cond (.tmp 46) k72_11 .skip
def k72_13 : SCode := .seq k72_10 k72_12
def k72_14 : SCode := .reg [⟨some 47, none, .mov (.tmp 9), [], false⟩, ⟨some 48, none, .mov (.tmp 0), [], false⟩, ⟨some 49, none, .call 19 [(.tmp 47), (.tmp 48), (.const (.slice none 0 0)), (.const (.slice none 0 0))], [], false⟩, ⟨some 50, none, .un .not (.tmp 49), [], false⟩, ⟨some 51, none, .mov (.tmp 50), [], false⟩, ⟨some 52, (some (51, false)), .mov (.tmp 12), [], false⟩, ⟨some 53, (some (51, false)), .bin .neq (.tmp 52) (.const (.int .i64 0)), [], false⟩, ⟨some 54, none, .pick (.tmp 51) (.const (.bool true)) (.tmp 53), [], false⟩] [0, 1, 7, 8, 9, 10, 11, 12, 54]
def k72_15 : SCode := .reg [⟨some 55, none, .mov (.tmp 9), [], false⟩, ⟨some 56, none, .mov (.tmp 0), [], false⟩, ⟨some 57, none, .call 19 [(.tmp 55), (.tmp 56), (.const (.slice none 0 0)), (.const (.slice none 0 0))], [], false⟩, ⟨some 58, none, .mov (.tmp 57), [], false⟩, ⟨some 59, (some (58, true)), .mov (.tmp 11), [], false⟩, ⟨some 60, (some (58, true)), .mov (.tmp 12), [], false⟩, ⟨some 61, (some (58, true)), .bin .eql (.tmp 59) (.tmp 60), [], false⟩, ⟨some 62, none, .pick (.tmp 58) (.tmp 61) (.const (.bool false)), [], false⟩, ⟨some 63, none, .mov (.tmp 62), [], false⟩, ⟨some 64, (some (63, true)), .mov (.tmp 10), [], false⟩, ⟨some 65, (some (63, true)), .bin .eql (.tmp 64) (.const (.int .i64 0)), [], false⟩, ⟨some 66, none, .pick (.tmp 63) (.tmp 65) (.const (.bool false)), [], false⟩, ⟨some 67, none, .mov (.tmp 66), [], false⟩, ⟨some 68, (some (67, true)), .call 13 [], [], false⟩, ⟨some 69, none, .pick (.tmp 67) (.tmp 68) (.const (.bool false)), [], false⟩, ⟨some 6, none, .mov (.tmp 69), [], false⟩] [6]
def k72_16 : SCode := .seq k72_15 .ret
def k72_17 : SCode := .cond (.tmp 54) k72_16 .skip
def k72_18 : SCode := .seq k72_14 k72_17
def k72_19 : SCode := .reg [⟨some 70, none, .mov (.tmp 11), [], false⟩, ⟨some 71, none, .bin .neq (.tmp 70) (.const (.int .i64 0)), [], false⟩] [0, 1, 7, 8, 10, 11, 71]
def k72_20 : SCode := .reg [⟨some 72, none, .mov (.tmp 11), [], false⟩, ⟨some 73, none, .bin .eql (.tmp 72) (.const (.int .i64 9)), [], false⟩, ⟨some 74, none, .mov (.tmp 73), [], false⟩, ⟨some 75, (some (74, true)), .mov (.tmp 10), [], false⟩, ⟨some 76, (some (74, true)), .bin .eql (.tmp 75) (.const (.int .i64 0)), [], false⟩, ⟨some 77, none, .pick (.tmp 74) (.tmp 76) (.const (.bool false)), [], false⟩, ⟨some 78, none, .mov (.tmp 77), [], false⟩, ⟨some 79, (some (78, true)), .mov (.tmp 0), [], false⟩, ⟨some 80, (some (78, true)), .mov (.tmp 1), [], false⟩, ⟨some 81, (some (78, true)), .load true 2 (.tmp 7), [], false⟩, ⟨some 82, (some (78, true)), .mov (.tmp 8), [], false⟩, ⟨some 83, (some (78, true)), .call 32 [(.tmp 79), (.tmp 80), (.tmp 81), (.tmp 82), (.const (.int .i64 10000))], [], false⟩, ⟨some 84, (some (78, true)), .un .not (.tmp 83), [], false⟩, ⟨some 85, none, .pick (.tmp 78) (.tmp 84) (.const (.bool false)), [], false⟩, ⟨some 86, none, .mov (.tmp 85), [], false⟩, ⟨some 87, (some (86, true)), .call 13 [], [], false⟩, ⟨some 88, none, .pick (.tmp 86) (.tmp 87) (.const (.bool false)), [], false⟩, ⟨some 6, none, .mov (.tmp 88), [], false⟩] [6]
def k72_21 : SCode := .seq k72_20 .ret
def k72_22 : SCode := .cond (.tmp 71) k72_21 .skip
def k72_23 : SCode := .seq k72_19 k72_22
def k72_24 : SCode := .reg [⟨some 89, none, .mov (.tmp 10), [], false⟩, ⟨some 90, none, .call 31 [(.tmp 89), (.const (.int .i64 0)), (.const (.int .i64 10000))], [], false⟩, ⟨some 91, none, .mov (.tmp 90), [], false⟩, ⟨some 92, (some (91, true)), .mov (.tmp 0), [], false⟩, ⟨some 93, (some (91, true)), .mov (.tmp 1), [], false⟩, ⟨some 94, (some (91, true)), .load true 2 (.tmp 7), [], false⟩, ⟨some 95, (some (91, true)), .mov (.tmp 8), [], false⟩, ⟨some 96, (some (91, true)), .mov (.tmp 10), [], false⟩, ⟨some 97, (some (91, true)), .call 32 [(.tmp 92), (.tmp 93), (.tmp 94), (.tmp 95), (.tmp 96)], [], false⟩, ⟨some 98, none, .pick (.tmp 91) (.tmp 97) (.const (.bool false)), [], false⟩, ⟨some 99, none, .mov (.tmp 98), [], false⟩, ⟨some 100, (some (99, true)), .mov (.tmp 10), [], false⟩, ⟨some 101, (some (99, true)), .bin .eql (.tmp 100) (.const (.int .i64 0)), [], false⟩, ⟨some 102, (some (99, true)), .mov (.tmp 101), [], false⟩, ⟨some 103, (some (102, false)), .mov (.tmp 0), [], false⟩, ⟨some 104, (some (102, false)), .mov (.tmp 1), [], false⟩, ⟨some 105, (some (102, false)), .load true 2 (.tmp 7), [], false⟩, ⟨some 106, (some (102, false)), .mov (.tmp 8), [], false⟩, ⟨some 107, (some (102, false)), .mov (.tmp 10), [], false⟩, ⟨some 108, (some (102, false)), .bin .sub (.tmp 107) (.const (.int .i64 1)), [], false⟩, ⟨some 109, (some (102, false)), .call 32 [(.tmp 103), (.tmp 104), (.tmp 105), (.tmp 106), (.tmp 108)], [], false⟩, ⟨some 110, (some (102, false)), .un .not (.tmp 109), [], false⟩, ⟨some 111, (some (99, true)), .pick (.tmp 102) (.const (.bool true)) (.tmp 110), [], false⟩, ⟨some 112, none, .pick (.tmp 99) (.tmp 111) (.const (.bool false)), [], false⟩, ⟨some 113, none, .mov (.tmp 112), [], false⟩, ⟨some 114, (some (113, true)), .call 13 [], [], false⟩, ⟨some 115, none, .pick (.tmp 113) (.tmp 114) (.const (.bool false)), [], false⟩, ⟨some 6, none, .mov (.tmp 115), [], false⟩] [6]
def k72_25 : SCode := .seq k72_24 .ret
def k72_26 : SCode := .seq k72_23 k72_25
def k72_27 : SCode := .seq k72_18 k72_26
def k72_28 : SCode := .seq k72_13 k72_27
def k72_29 : SCode := .seq k72_9 k72_28
def k72_30 : SCode := .seq k72_8 k72_29
def k72_31 : SCode := .seq k72_7 k72_30
def k72_32 : SCode := .seq k72_6 k72_31
def k72_33 : SCode := .seq k72_1 k72_32
def k72_34 : SCode := .seq k72_0 k72_33
@[simp] def rs_turretlaw08_WireStretches : List SRes := [.tmp 6]
theorem law_turretlaw08_WireStretches (cs : List CV) (r : CV) (hl : cs.length ≤ 116) (h : STri (cfF Try.prog [] 116) k72_34 (initT 0 cs) [] (retQ rs_turretlaw08_WireStretches r)) : SC Try.prog 5 cs r :=
  sc_of [] follows Try.func5 rfl Try.ntmps5 (by decide) (by kernel_rfl) (by kernel_rfl) hl h
def k73_0 : SCode := .reg [⟨some 4, none, .box 73 (.tmp 1), [], false⟩, ⟨some 5, none, .box 25 (.tmp 2), [], false⟩, ⟨some 6, none, .mov (.const (.bool false)), [], false⟩] [0, 4, 5]
def k73_1 : SCode := .reg [⟨some 12, none, .mov (.tmp 0), [], false⟩, ⟨some 13, none, .load true 3 (.tmp 4), [], false⟩, ⟨some 14, none, .buildSl 73 3 [(.int .i64 0), (.int .i64 0), (.int .i64 0)] 1 [(0, (.tmp 13))], [], false⟩, ⟨some 15, none, .load true 2 (.tmp 5), [], false⟩, ⟨some 16, none, .call 12 [(.tmp 12), (.tmp 14), (.tmp 15)], [], false⟩] [0, 4, 5, 16]
def k73_2 : SCode := .reg [⟨some 17, none, .call 13 [], [], false⟩, ⟨some 6, none, .mov (.tmp 17), [], false⟩] [6]
def k73_3 : SCode := .seq k73_2 .ret
def k73_4 : SCode := .cond (.tmp 16) k73_3 .skip
def k73_5 : SCode := .seq k73_1 k73_4
def k73_6 : SCode := .reg [⟨some 18, none, .mov (.tmp 0), [], false⟩, ⟨some 19, none, .call 14 [(.tmp 18)], [], false⟩, ⟨some 7, none, .mov (.tmp 19), [], false⟩] [0, 4, 5, 7]
def k73_7 : SCode := .reg [⟨some 20, none, .mov (.tmp 7), [], false⟩, ⟨some 21, none, .call 40 [(.tmp 20)], [], false⟩, ⟨some 8, none, .mov (.tmp 21), [], false⟩] [0, 4, 5, 7, 8]
def k73_8 : SCode := .reg [⟨some 23, none, .mov (.tmp 7), [], false⟩, ⟨some 24, none, .load true 3 (.tmp 4), [], false⟩, ⟨some 25, none, .load true 2 (.tmp 5), [], false⟩, ⟨some 26, none, .call 37 [(.tmp 23), (.tmp 24), (.tmp 25)], [], false⟩, ⟨some 22, none, .mov (.tmp 26), [], false⟩, ⟨some 27, none, .ext (.tmp 22) 0, [], false⟩, ⟨some 28, none, .ext (.tmp 22) 1, [], false⟩, ⟨some 9, none, .mov (.tmp 27), [], false⟩, ⟨some 10, none, .mov (.tmp 28), [], false⟩] [0, 4, 5, 7, 8, 9, 10]
def k73_9 : SCode := .reg [⟨some 29, none, .mov (.tmp 7), [], false⟩, ⟨some 30, none, .mov (.tmp 0), [], false⟩, ⟨some 31, none, .call 19 [(.tmp 29), (.tmp 30), (.const (.slice none 0 0)), (.const (.slice none 0 0))], [], false⟩, ⟨some 32, none, .un .not (.tmp 31), [], false⟩, ⟨some 33, none, .mov (.tmp 32), [], false⟩, ⟨some 34, (some (33, false)), .mov (.tmp 8), [], false⟩, ⟨some 35, (some (33, false)), .bin .eql (.tmp 34) (.const (.int .i64 0)), [], false⟩, ⟨some 36, (some (33, false)), .mov (.tmp 0), [], false⟩, ⟨some 37, (some (33, false)), .call 41 [(.tmp 36)], [], false⟩, ⟨some 38, (some (33, false)), .binB true (.tmp 35) (.tmp 37), [], false⟩, ⟨some 39, none, .pick (.tmp 33) (.const (.bool true)) (.tmp 38), [], false⟩, ⟨some 40, none, .mov (.tmp 39), [], false⟩, ⟨some 41, (some (40, false)), .mov (.tmp 8), [], false⟩, ⟨some 42, (some (40, false)), .bin .neq (.tmp 41) (.const (.int .i64 0)), [], false⟩, ⟨some 43, (some (40, false)), .mov (.tmp 42), [], false⟩, ⟨some 44, (some (43, true)), .mov (.tmp 8), [], false⟩, ⟨some 45, (some (43, true)), .bin .neq (.tmp 44) (.const (.int .i64 2)), [], false⟩, ⟨some 46, (some (40, false)), .pick (.tmp 43) (.tmp 45) (.const (.bool false)), [], false⟩, ⟨some 47, none, .pick (.tmp 40) (.const (.bool true)) (.tmp 46), [], false⟩] [0, 4, 5, 9, 10, 47]
def k73_10 : SCode := .reg [⟨some 6, none, .mov (.const (.bool false)), [], false⟩] [6]
def k73_11 : SCode := .seq k73_10 .ret
def k73_12 : SCode := .cond (.tmp 47) k73_11 .skip
def k73_13 : SCode := .seq k73_9 k73_12
def k73_14 : SCode := .reg [⟨some 48, none, .mov (.tmp 0), [], false⟩, ⟨some 49, none, .load true 3 (.tmp 4), [], false⟩, ⟨some 50, none, .buildSl 73 3 [(.int .i64 0), (.int .i64 0), (.int .i64 0)] 1 [(0, (.tmp 49))], [], false⟩, ⟨some 51, none, .load true 2 (.tmp 5), [], false⟩, ⟨some 52, none, .call 20 [(.tmp 48), (.tmp 50), (.tmp 51)], [], false⟩, ⟨some 11, none, .mov (.tmp 52), [], false⟩] [0, 4, 5, 9, 10, 11]
def k73_15 : SCode := .reg [⟨some 53, none, .mov (.tmp 11), [], false⟩, ⟨some 54, none, .bin .neq (.tmp 53) (.const (.int .i64 0)), [], false⟩] [0, 4, 5, 9, 10, 11, 54]
def k73_16 : SCode := .reg [⟨some 55, none, .mov (.tmp 10), [], false⟩, ⟨some 56, none, .mov (.tmp 11), [], false⟩, ⟨some 57, none, .bin .eql (.tmp 55) (.tmp 56), [], false⟩, ⟨some 58, none, .mov (.tmp 57), [], false⟩, ⟨some 59, (some (58, true)), .mov (.tmp 9), [], false⟩, ⟨some 60, (some (58, true)), .len (.tmp 59), [], false⟩, ⟨some 61, (some (58, true)), .bin .eql (.tmp 60) (.const (.int .i64 0)), [], false⟩, ⟨some 62, none, .pick (.tmp 58) (.tmp 61) (.const (.bool false)), [], false⟩, ⟨some 63, none, .mov (.tmp 62), [], false⟩, ⟨some 64, (some (63, true)), .call 13 [], [], false⟩, ⟨some 65, none, .pick (.tmp 63) (.tmp 64) (.const (.bool false)), [], false⟩, ⟨some 6, none, .mov (.tmp 65), [], false⟩] [6]
def k73_17 : SCode := .seq k73_16 .ret
def k73_18 : SCode := .cond (.tmp 54) k73_17 .skip
def k73_19 : SCode := .seq k73_15 k73_18
def k73_20 : SCode := .seq k73_14 k73_19
def k73_21 : SCode := .reg [⟨some 66, none, .mov (.tmp 10), [], false⟩, ⟨some 67, none, .bin .eql (.tmp 66) (.const (.int .i64 0)), [], false⟩, ⟨some 68, none, .mov (.tmp 67), [], false⟩, ⟨some 69, (some (68, true)), .mov (.tmp 9), [], false⟩, ⟨some 70, (some (68, true)), .mov (.tmp 0), [], false⟩, ⟨some 71, (some (68, true)), .load true 3 (.tmp 4), [], false⟩, ⟨some 72, (some (68, true)), .buildSl 73 3 [(.int .i64 0), (.int .i64 0), (.int .i64 0)] 1 [(0, (.tmp 71))], [], true⟩, ⟨some 73, (some (68, true)), .load true 2 (.tmp 5), [6], false⟩, ⟨some 74, (some (68, true)), .call 21 [(.tmp 70), (.tmp 72), (.tmp 73)], [], false⟩, ⟨some 75, (some (68, true)), .load true 2 (.tmp 5), [6], false⟩, ⟨some 76, (some (68, true)), .call 25 [(.tmp 74), (.tmp 75), (.const (.int .i64 0))], [], false⟩, ⟨some 77, (some (68, true)), .call 24 [(.tmp 69), (.tmp 76)], [], false⟩, ⟨some 78, none, .pick (.tmp 68) (.tmp 77) (.const (.bool false)), [], false⟩, ⟨some 79, none, .mov (.tmp 78), [], false⟩, ⟨some 80, (some (79, true)), .call 13 [], [], false⟩, ⟨some 81, none, .pick (.tmp 79) (.tmp 80) (.const (.bool false)), [], false⟩, ⟨some 6, none, .mov (.tmp 81), [], false⟩] [6]
def k73_22 : SCode := .seq k73_21 .ret
def k73_23 : SCode := .seq k73_20 k73_22
def k73_24 : SCode := .seq k73_13 k73_23
def k73_25 : SCode := .seq k73_8 k73_24
def k73_26 : SCode := .seq k73_7 k73_25
def k73_27 : SCode := .seq k73_6 k73_26
def k73_28 : SCode := .seq k73_5 k73_27
def k73_29 : SCode := .seq k73_0 k73_28
@[simp] def rs_turretlaw08_WireChecks : List SRes := [.tmp 6]
theorem law_turretlaw08_WireChecks (cs : List CV) (r : CV) (hl : cs.length ≤ 82) (h : STri (cfF Try.prog [] 82) k73_29 (initT 0 cs) [] (retQ rs_turretlaw08_WireChecks r)) : SC Try.prog 11 cs r :=
  sc_of [] follows Try.func11 rfl Try.ntmps11 (by decide) (by kernel_rfl) (by kernel_rfl) hl h
def k74_0 : SCode := .reg [⟨some 5, none, .box 25 (.tmp 2), [], false⟩, ⟨some 6, none, .mov (.const (.bool false)), [], false⟩] [0, 1, 5]
def k74_1 : SCode := .reg [⟨some 7, none, .mov (.const (.int .i64 0)), [], false⟩] [0, 1, 5, 7]
def k74_2 : SCode := .reg [⟨some 8, none, .mov (.tmp 7), [], false⟩, ⟨some 9, none, .mov (.tmp 0), [], false⟩, ⟨some 10, none, .len (.tmp 9), [], false⟩, ⟨some 11, none, .bin .lss (.tmp 8) (.tmp 10), [], false⟩, ⟨some 12, none, .mov (.tmp 11), [], false⟩, ⟨some 13, (some (12, true)), .mov (.tmp 7), [], false⟩, ⟨some 14, (some (12, true)), .bin .lss (.tmp 13) (.const (.int .i64 13)), [], false⟩, ⟨some 15, none, .pick (.tmp 12) (.tmp 14) (.const (.bool false)), [], false⟩] [0, 1, 5, 7, 15]
def k74_3 : SCode := .cond (.tmp 15) .skip (.exit 0)
def k74_4 : SCode := .seq k74_2 k74_3
def k74_5 : SCode := .reg [⟨some 18, none, .mov (.tmp 0), [], false⟩, ⟨some 19, none, .mov (.tmp 7), [], false⟩, ⟨some 20, none, .idxS 8 (.tmp 18) (.tmp 19), [], false⟩, ⟨some 21, none, .fld 7 (.tmp 20), [], false⟩, ⟨some 22, none, .load false 1 (.tmp 21), [], false⟩, ⟨some 23, none, .len (.tmp 22), [], false⟩, ⟨some 24, none, .bin .gtr (.tmp 23) (.const (.int .i64 370)), [], false⟩] [0, 1, 5, 7, 24]
def k74_6 : SCode := .reg [⟨some 6, none, .mov (.const (.bool true)), [], false⟩] [6]
def k74_7 : SCode := .seq k74_6 .ret
def k74_8 : SCode := .cond (.tmp 24) k74_7 .skip
def k74_9 : SCode := .seq k74_5 k74_8
def k74_10 : SCode := .block 1 k74_9
def k74_11 : SCode := .reg [⟨some 16, none, .mov (.tmp 7), [], false⟩, ⟨some 17, none, .bin .add (.tmp 16) (.const (.int .i64 1)), [], false⟩, ⟨some 7, none, .mov (.tmp 17), [], false⟩] [0, 1, 5, 7]
def k74_12 : SCode := .seq k74_10 k74_11
def k74_13 : SCode := .seq k74_4 k74_12
def k74_14 : SCode := .loop k74_13
def k74_15 : SCode := .block 0 k74_14
def k74_16 : SCode := .seq k74_1 k74_15
def k74_17 : SCode := .reg [⟨some 25, none, .mov (.tmp 0), [], false⟩, ⟨some 26, none, .len (.tmp 25), [], false⟩, ⟨some 27, none, .bin .gtr (.tmp 26) (.const (.int .i64 12)), [], false⟩, ⟨some 28, none, .mov (.tmp 27), [], false⟩, ⟨some 29, (some (28, false)), .mov (.tmp 1), [], false⟩, ⟨some 30, (some (28, false)), .len (.tmp 29), [], false⟩, ⟨some 31, (some (28, false)), .bin .gtr (.tmp 30) (.const (.int .i64 12)), [], false⟩, ⟨some 32, (some (28, false)), .mov (.tmp 31), [], false⟩, ⟨some 33, (some (32, true)), .mov (.tmp 1), [], false⟩, ⟨some 34, (some (32, true)), .len (.tmp 33), [], false⟩, ⟨some 35, (some (32, true)), .bin .leq (.tmp 34) (.const (.int .i64 60)), [], false⟩, ⟨some 36, (some (28, false)), .pick (.tmp 32) (.tmp 35) (.const (.bool false)), [], false⟩, ⟨some 37, none, .pick (.tmp 28) (.const (.bool true)) (.tmp 36), [], false⟩, ⟨some 38, none, .mov (.tmp 37), [], false⟩, ⟨some 39, (some (38, false)), .mov (.tmp 1), [], false⟩, ⟨some 40, (some (38, false)), .len (.tmp 39), [], false⟩, ⟨some 41, (some (38, false)), .bin .gtr (.tmp 40) (.const (.int .i64 65)), [], false⟩, ⟨some 42, none, .pick (.tmp 38) (.const (.bool true)) (.tmp 41), [], false⟩, ⟨some 43, none, .mov (.tmp 42), [], false⟩, ⟨some 44, (some (43, false)), .mov (.tmp 0), [], false⟩, ⟨some 45, (some (43, false)), .mov (.tmp 1), [], false⟩, ⟨some 46, (some (43, false)), .load true 2 (.tmp 5), [], false⟩, ⟨some 47, (some (43, false)), .call 20 [(.tmp 44), (.tmp 45), (.tmp 46)], [], false⟩, ⟨some 48, (some (43, false)), .bin .eql (.tmp 47) (.const (.int .i64 0)), [], false⟩, ⟨some 49, (some (43, false)), .mov (.tmp 48), [], false⟩, ⟨some 50, (some (49, true)), .fld 1 (.tmp 5), [], false⟩, ⟨some 51, (some (49, true)), .load false 1 (.tmp 50), [], false⟩, ⟨some 52, (some (49, true)), .fld 0 (.tmp 5), [], false⟩, ⟨some 53, (some (49, true)), .load false 1 (.tmp 52), [], false⟩, ⟨some 54, (some (49, true)), .bin .sub (.tmp 51) (.tmp 53), [], false⟩, ⟨some 55, (some (49, true)), .bin .gtr (.tmp 54) (.const (.int .i64 150)), [], false⟩, ⟨some 56, (some (43, false)), .pick (.tmp 49) (.tmp 55) (.const (.bool false)), [], false⟩, ⟨some 57, none, .pick (.tmp 43) (.const (.bool true)) (.tmp 56), [], false⟩, ⟨some 6, none, .mov (.tmp 57), [], false⟩] [6]
def k74_18 : SCode := .seq k74_17 .ret
def k74_19 : SCode := .seq k74_16 k74_18
def k74_20 : SCode := .seq k74_0 k74_19
@[simp] def rs_turretlaw08_large : List SRes := [.tmp 6]
theorem law_turretlaw08_large (cs : List CV) (r : CV) (hl : cs.length ≤ 58) (h : STri (cfF Try.prog [] 58) k74_20 (initT 0 cs) [] (retQ rs_turretlaw08_large r)) : SC Try.prog 12 cs r :=
  sc_of [] follows Try.func12 rfl Try.ntmps12 (by decide) (by kernel_rfl) (by kernel_rfl) hl h
def k75_0 : SCode := .reg [⟨some 0, none, .mov (.const (.bool false)), [], false⟩] []
def k75_1 : SCode := .reg [⟨some 21, none, .call 34 [(.const (.int .i64 0)), (.const (.int .i64 200))], [], false⟩, ⟨some 1, none, .alloc 25 [(.int .i64 0), (.int .i64 0)], [], false⟩, ⟨none, none, .store 2 (.tmp 1) (.tmp 21), [], false⟩] [1]
def k75_2 : SCode := .reg [⟨some 23, none, .call 42 [], [], false⟩, ⟨some 24, none, .call 43 [(.const (.int .i64 2))], [], false⟩, ⟨some 25, none, .idxS 3 (.tmp 24) (.const (.int .i64 2)), [], false⟩, ⟨some 26, none, .load true 3 (.tmp 25), [], false⟩, ⟨some 27, none, .load true 2 (.tmp 1), [], false⟩, ⟨some 28, none, .call 37 [(.tmp 23), (.tmp 26), (.tmp 27)], [], false⟩, ⟨some 22, none, .mov (.tmp 28), [], false⟩, ⟨some 29, none, .ext (.tmp 22) 0, [], false⟩, ⟨some 30, none, .ext (.tmp 22) 1, [], false⟩, ⟨some 2, none, .mov (.tmp 29), [], false⟩, ⟨some 3, none, .mov (.tmp 30), [], false⟩] [1, 2, 3]
def k75_3 : SCode := .reg [⟨some 32, none, .call 42 [], [], false⟩, ⟨some 33, none, .call 43 [(.const (.int .i64 2))], [], false⟩, ⟨some 34, none, .load true 2 (.tmp 1), [], false⟩, ⟨some 35, none, .call 16 [(.tmp 32), (.tmp 33), (.tmp 34)], [], false⟩, ⟨some 31, none, .mov (.tmp 35), [], false⟩, ⟨some 36, none, .ext (.tmp 31) 0, [], false⟩, ⟨some 37, none, .ext (.tmp 31) 1, [], false⟩, ⟨some 4, none, .mov (.tmp 36), [], false⟩, ⟨some 5, none, .mov (.tmp 37), [], false⟩] [1, 2, 3, 4, 5]
def k75_4 : SCode := .reg [⟨some 39, none, .call 42 [], [], false⟩, ⟨some 40, none, .call 43 [(.const (.int .i64 40))], [], false⟩, ⟨some 41, none, .load true 2 (.tmp 1), [], false⟩, ⟨some 42, none, .call 16 [(.tmp 39), (.tmp 40), (.tmp 41)], [], false⟩, ⟨some 38, none, .mov (.tmp 42), [], false⟩, ⟨some 43, none, .ext (.tmp 38) 0, [], false⟩, ⟨some 44, none, .ext (.tmp 38) 1, [], false⟩, ⟨some 6, none, .mov (.tmp 43), [], false⟩, ⟨some 7, none, .mov (.tmp 44), [], false⟩] [1, 2, 3, 4, 5, 7]
def k75_5 : SCode := .reg [⟨some 46, none, .call 42 [], [], false⟩, ⟨some 47, none, .call 43 [(.const (.int .i64 40))], [], false⟩, ⟨some 48, none, .load true 2 (.tmp 1), [], false⟩, ⟨some 49, none, .call 17 [(.tmp 46), (.tmp 47), (.tmp 48)], [], false⟩, ⟨some 45, none, .mov (.tmp 49), [], false⟩, ⟨some 50, none, .ext (.tmp 45) 0, [], false⟩, ⟨some 51, none, .ext (.tmp 45) 1, [], false⟩, ⟨some 8, none, .mov (.tmp 50), [], false⟩, ⟨some 9, none, .mov (.tmp 51), [], false⟩] [1, 2, 3, 4, 5, 7, 8, 9]
def k75_6 : SCode := .reg [⟨some 53, none, .call 42 [], [], false⟩, ⟨some 54, none, .call 43 [(.const (.int .i64 40))], [], false⟩, ⟨some 55, none, .load true 2 (.tmp 1), [], false⟩, ⟨some 56, none, .call 18 [(.tmp 53), (.tmp 54), (.tmp 55)], [], false⟩, ⟨some 52, none, .mov (.tmp 56), [], false⟩, ⟨some 57, none, .ext (.tmp 52) 0, [], false⟩, ⟨some 58, none, .ext (.tmp 52) 1, [], false⟩, ⟨some 59, none, .ext (.tmp 52) 2, [], false⟩, ⟨some 10, none, .mov (.tmp 57), [], false⟩, ⟨some 11, none, .mov (.tmp 58), [], false⟩, ⟨some 12, none, .mov (.tmp 59), [], false⟩] [1, 2, 3, 4, 5, 7, 8, 9, 10, 11, 12]
def k75_7 : SCode := .reg [⟨some 61, none, .call 42 [], [], false⟩, ⟨some 62, none, .call 43 [(.const (.int .i64 40))], [], false⟩, ⟨some 63, none, .load true 2 (.tmp 1), [], false⟩, ⟨some 64, none, .call 26 [(.tmp 61), (.tmp 62), (.tmp 63)], [], false⟩, ⟨some 60, none, .mov (.tmp 64), [], false⟩, ⟨some 65, none, .ext (.tmp 60) 0, [], false⟩, ⟨some 66, none, .ext (.tmp 60) 1, [], false⟩, ⟨some 13, none, .mov (.tmp 65), [], false⟩, ⟨some 14, none, .mov (.tmp 66), [], false⟩] [1, 2, 3, 4, 5, 7, 8, 9, 10, 11, 12, 13, 14]
def k75_8 : SCode := .reg [⟨some 68, none, .call 42 [], [], false⟩, ⟨some 69, none, .call 43 [(.const (.int .i64 40))], [], false⟩, ⟨some 70, none, .load true 2 (.tmp 1), [], false⟩, ⟨some 71, none, .call 27 [(.tmp 68), (.tmp 69), (.tmp 70)], [], false⟩, ⟨some 67, none, .mov (.tmp 71), [], false⟩, ⟨some 72, none, .ext (.tmp 67) 0, [], false⟩, ⟨some 73, none, .ext (.tmp 67) 1, [], false⟩, ⟨some 15, none, .mov (.tmp 72), [], false⟩, ⟨some 16, none, .mov (.tmp 73), [], false⟩] [1, 2, 3, 4, 5, 7, 8, 9, 10, 11, 12, 13, 14, 15, 16]
def k75_9 : SCode := .reg [⟨some 75, none, .call 42 [], [], false⟩, ⟨some 76, none, .call 43 [(.const (.int .i64 40))], [], false⟩, ⟨some 77, none, .load true 2 (.tmp 1), [], false⟩, ⟨some 78, none, .call 30 [(.tmp 75), (.tmp 76), (.tmp 77), (.const (.int .i64 2))], [], false⟩, ⟨some 74, none, .mov (.tmp 78), [], false⟩, ⟨some 79, none, .ext (.tmp 74) 0, [], false⟩, ⟨some 80, none, .ext (.tmp 74) 1, [], false⟩, ⟨some 17, none, .mov (.tmp 79), [], false⟩, ⟨some 18, none, .mov (.tmp 80), [], false⟩] [1, 2, 3, 4, 5, 7, 8, 9, 10, 11, 12, 13, 14, 15, 16, 17, 18]
def k75_10 : SCode := .reg [⟨some 82, none, .call 42 [], [], false⟩, ⟨some 83, none, .call 43 [(.const (.int .i64 40))], [], false⟩, ⟨some 84, none, .slcS 3 (.tmp 83) (some (.const (.int .i64 1))) none, [], false⟩, ⟨some 85, none, .load true 2 (.tmp 1), [], false⟩, ⟨some 86, none, .call 27 [(.tmp 82), (.tmp 84), (.tmp 85)], [], false⟩, ⟨some 81, none, .mov (.tmp 86), [], false⟩, ⟨some 87, none, .ext (.tmp 81) 0, [], false⟩, ⟨some 88, none, .ext (.tmp 81) 1, [], false⟩, ⟨some 19, none, .mov (.tmp 87), [], false⟩, ⟨some 20, none, .mov (.tmp 88), [], false⟩] [2, 3, 4, 5, 7, 8, 9, 10, 11, 12, 13, 14, 15, 16, 17, 18, 20]
def k75_11 : SCode := .reg [⟨some 89, none, .mov (.tmp 3), [], false⟩, ⟨some 90, none, .bin .neq (.tmp 89) (.const (.int .i64 0)), [], false⟩, ⟨some 91, none, .mov (.tmp 90), [], false⟩, ⟨some 92, (some (91, false)), .mov (.tmp 5), [], false⟩, ⟨some 93, (some (91, false)), .bin .neq (.tmp 92) (.const (.int .i64 0)), [], false⟩, ⟨some 94, none, .pick (.tmp 91) (.const (.bool true)) (.tmp 93), [], false⟩, ⟨some 95, none, .mov (.tmp 94), [], false⟩, ⟨some 96, (some (95, false)), .mov (.tmp 7), [], false⟩, ⟨some 97, (some (95, false)), .bin .neq (.tmp 96) (.const (.int .i64 7)), [], false⟩, ⟨some 98, none, .pick (.tmp 95) (.const (.bool true)) (.tmp 97), [], false⟩, ⟨some 99, none, .mov (.tmp 98), [], false⟩, ⟨some 100, (some (99, false)), .mov (.tmp 9), [], false⟩, ⟨some 101, (some (99, false)), .bin .neq (.tmp 100) (.const (.int .i64 0)), [], false⟩, ⟨some 102, none, .pick (.tmp 99) (.const (.bool true)) (.tmp 101), [], false⟩, ⟨some 103, none, .mov (.tmp 102), [], false⟩, ⟨some 104, (some (103, false)), .mov (.tmp 12), [], false⟩, ⟨some 105, (some (103, false)), .bin .neq (.tmp 104) (.const (.int .i64 0)), [], false⟩, ⟨some 106, none, .pick (.tmp 103) (.const (.bool true)) (.tmp 105), [], false⟩, ⟨some 107, none, .mov (.tmp 106), [], false⟩, ⟨some 108, (some (107, false)), .mov (.tmp 14), [], false⟩, ⟨some 109, (some (107, false)), .bin .neq (.tmp 108) (.const (.int .i64 0)), [], false⟩, ⟨some 110, none, .pick (.tmp 107) (.const (.bool true)) (.tmp 109), [], false⟩, ⟨some 111, none, .mov (.tmp 110), [], false⟩, ⟨some 112, (some (111, false)), .mov (.tmp 16), [], false⟩, ⟨some 113, (some (111, false)), .bin .neq (.tmp 112) (.const (.int .i64 0)), [], false⟩, ⟨some 114, none, .pick (.tmp 111) (.const (.bool true)) (.tmp 113), [], false⟩, ⟨some 115, none, .mov (.tmp 114), [], false⟩, ⟨some 116, (some (115, false)), .mov (.tmp 18), [], false⟩, ⟨some 117, (some (115, false)), .bin .neq (.tmp 116) (.const (.int .i64 0)), [], false⟩, ⟨some 118, none, .pick (.tmp 115) (.const (.bool true)) (.tmp 117), [], false⟩, ⟨some 119, none, .mov (.tmp 118), [], false⟩, ⟨some 120, (some (119, false)), .mov (.tmp 20), [], false⟩, ⟨some 121, (some (119, false)), .bin .neq (.tmp 120) (.const (.int .i64 6)), [], false⟩, ⟨some 122, none, .pick (.tmp 119) (.const (.bool true)) (.tmp 121), [], false⟩, ⟨some 123, none, .mov (.tmp 122), [], false⟩, ⟨some 124, (some (123, false)), .mov (.tmp 2), [], false⟩, ⟨some 125, (some (123, false)), .len (.tmp 124), [], false⟩, ⟨some 126, (some (123, false)), .bin .neq (.tmp 125) (.const (.int .i64 1)), [], false⟩, ⟨some 127, none, .pick (.tmp 123) (.const (.bool true)) (.tmp 126), [], false⟩, ⟨some 128, none, .mov (.tmp 127), [], false⟩, ⟨some 129, (some (128, false)), .mov (.tmp 4), [], false⟩, ⟨some 130, (some (128, false)), .len (.tmp 129), [], false⟩, ⟨some 131, (some (128, false)), .bin .neq (.tmp 130) (.const (.int .i64 1)), [], false⟩, ⟨some 132, none, .pick (.tmp 128) (.const (.bool true)) (.tmp 131), [], false⟩, ⟨some 133, none, .mov (.tmp 132), [], false⟩, ⟨some 134, (some (133, false)), .mov (.tmp 8), [], false⟩, ⟨some 135, (some (133, false)), .len (.tmp 134), [], false⟩, ⟨some 136, (some (133, false)), .bin .neq (.tmp 135) (.const (.int .i64 2)), [], false⟩, ⟨some 137, none, .pick (.tmp 133) (.const (.bool true)) (.tmp 136), [], false⟩, ⟨some 138, none, .mov (.tmp 137), [], false⟩, ⟨some 139, (some (138, false)), .mov (.tmp 11), [], false⟩, ⟨some 140, (some (138, false)), .len (.tmp 139), [], false⟩, ⟨some 141, (some (138, false)), .bin .neq (.tmp 140) (.const (.int .i64 1)), [], false⟩, ⟨some 142, none, .pick (.tmp 138) (.const (.bool true)) (.tmp 141), [], false⟩, ⟨some 143, none, .mov (.tmp 142), [], false⟩, ⟨some 144, (some (143, false)), .mov (.tmp 13), [], false⟩, ⟨some 145, (some (143, false)), .len (.tmp 144), [], false⟩, ⟨some 146, (some (143, false)), .bin .neq (.tmp 145) (.const (.int .i64 1)), [], false⟩, ⟨some 147, none, .pick (.tmp 143) (.const (.bool true)) (.tmp 146), [], false⟩, ⟨some 148, none, .mov (.tmp 147), [], false⟩, ⟨some 149, (some (148, false)), .mov (.tmp 13), [], false⟩, ⟨some 150, (some (148, false)), .idxS 1 (.tmp 149) (.const (.int .i64 0)), [], false⟩, ⟨some 151, (some (148, false)), .load false 1 (.tmp 150), [], false⟩, ⟨some 152, (some (148, false)), .len (.tmp 151), [], false⟩, ⟨some 153, (some (148, false)), .bin .neq (.tmp 152) (.const (.int .i64 1)), [], false⟩, ⟨some 154, none, .pick (.tmp 148) (.const (.bool true)) (.tmp 153), [], false⟩] [2, 4, 8, 10, 11, 13, 15, 17, 154]
def k75_12 : SCode := .reg [⟨some 0, none, .mov (.const (.bool false)), [], false⟩] [0]
def k75_13 : SCode := .seq k75_12 .ret
def k75_14 : SCode := .cond (.tmp 154) k75_13 .skip
def k75_15 : SCode := .seq k75_11 k75_14
def k75_16 : SCode := .reg [⟨some 155, none, .mov (.tmp 2), [], false⟩, ⟨some 156, none, .idxS 2 (.tmp 155) (.const (.int .i64 0)), [], false⟩, ⟨some 157, none, .load true 2 (.tmp 156), [], false⟩, ⟨some 158, none, .call 34 [(.const (.int .i64 99)), (.const (.int .i64 103))], [], false⟩, ⟨some 159, none, .eqC false [true, true] (.tmp 157) (.tmp 158), [], false⟩, ⟨some 160, none, .mov (.tmp 159), [], false⟩, ⟨some 161, (some (160, true)), .mov (.tmp 4), [], false⟩, ⟨some 162, (some (160, true)), .idxS 2 (.tmp 161) (.const (.int .i64 0)), [], false⟩, ⟨some 163, (some (160, true)), .load true 2 (.tmp 162), [], false⟩, ⟨some 164, (some (160, true)), .call 34 [(.const (.int .i64 100)), (.const (.int .i64 101))], [], false⟩, ⟨some 165, (some (160, true)), .eqC false [true, true] (.tmp 163) (.tmp 164), [], false⟩, ⟨some 166, none, .pick (.tmp 160) (.tmp 165) (.const (.bool false)), [], false⟩, ⟨some 167, none, .mov (.tmp 166), [], false⟩, ⟨some 168, (some (167, true)), .mov (.tmp 8), [], false⟩, ⟨some 169, (some (167, true)), .idxS 2 (.tmp 168) (.const (.int .i64 1)), [], false⟩, ⟨some 170, (some (167, true)), .load true 2 (.tmp 169), [], false⟩, ⟨some 171, (some (167, true)), .build [(.int .i64 0), (.int .i64 0)] [(0, 1, (.const (.int .i64 1))), (1, 1, (.const (.int .i64 2)))], [], false⟩, ⟨some 172, (some (167, true)), .eqC false [true, true] (.tmp 170) (.tmp 171), [], false⟩, ⟨some 173, none, .pick (.tmp 167) (.tmp 172) (.const (.bool false)), [], false⟩, ⟨some 174, none, .mov (.tmp 173), [], false⟩, ⟨some 175, (some (174, true)), .mov (.tmp 10), [], false⟩, ⟨some 176, (some (174, true)), .bin .eql (.tmp 175) (.const (.int .i64 2)), [], false⟩, ⟨some 177, none, .pick (.tmp 174) (.tmp 176) (.const (.bool false)), [], false⟩, ⟨some 178, none, .mov (.tmp 177), [], false⟩, ⟨some 179, (some (178, true)), .mov (.tmp 11), [], false⟩, ⟨some 180, (some (178, true)), .idxS 2 (.tmp 179) (.const (.int .i64 0)), [], false⟩, ⟨some 181, (some (178, true)), .load true 2 (.tmp 180), [], false⟩, ⟨some 182, (some (178, true)), .call 34 [(.const (.int .i64 100)), (.const (.int .i64 101))], [], false⟩, ⟨some 183, (some (178, true)), .eqC false [true, true] (.tmp 181) (.tmp 182), [], false⟩, ⟨some 184, none, .pick (.tmp 178) (.tmp 183) (.const (.bool false)), [], false⟩, ⟨some 185, none, .mov (.tmp 184), [], false⟩, ⟨some 186, (some (185, true)), .mov (.tmp 13), [], false⟩, ⟨some 187, (some (185, true)), .idxS 1 (.tmp 186) (.const (.int .i64 0)), [], false⟩, ⟨some 188, (some (185, true)), .load false 1 (.tmp 187), [], false⟩, ⟨some 189, (some (185, true)), .idxS 1 (.tmp 188) (.const (.int .i64 0)), [], false⟩, ⟨some 190, (some (185, true)), .load false 1 (.tmp 189), [], false⟩, ⟨some 191, (some (185, true)), .bin .eql (.tmp 190) (.const (.int .i64 2)), [], false⟩, ⟨some 192, none, .pick (.tmp 185) (.tmp 191) (.const (.bool false)), [], false⟩, ⟨some 193, none, .mov (.tmp 192), [], false⟩, ⟨some 194, (some (193, true)), .mov (.tmp 15), [], false⟩, ⟨some 195, (some (193, true)), .bin .eql (.tmp 194) (.const (.int .i64 2)), [], false⟩, ⟨some 196, none, .pick (.tmp 193) (.tmp 195) (.const (.bool false)), [], false⟩, ⟨some 197, none, .mov (.tmp 196), [], false⟩, ⟨some 198, (some (197, true)), .mov (.tmp 17), [], false⟩, ⟨some 199, (some (197, true)), .bin .eql (.tmp 198) (.const (.int .i64 35)), [], false⟩, ⟨some 200, none, .pick (.tmp 197) (.tmp 199) (.const (.bool false)), [], false⟩, ⟨some 0, none, .mov (.tmp 200), [], false⟩] [0]
def k75_17 : SCode := .seq k75_16 .ret
def k75_18 : SCode := .seq k75_15 k75_17
def k75_19 : SCode := .seq k75_10 k75_18
def k75_20 : SCode := .seq k75_9 k75_19
def k75_21 : SCode := .seq k75_8 k75_20
def k75_22 : SCode := .seq k75_7 k75_21
def k75_23 : SCode := .seq k75_6 k75_22
def k75_24 : SCode := .seq k75_5 k75_23
def k75_25 : SCode := .seq k75_4 k75_24
def k75_26 : SCode := .seq k75_3 k75_25
def k75_27 : SCode := .seq k75_2 k75_26
def k75_28 : SCode := .seq k75_1 k75_27
def k75_29 : SCode := .seq k75_0 k75_28
@[simp] def rs_turretlaw08_known : List SRes := [.tmp 0]
theorem law_turretlaw08_known (cs : List CV) (r : CV) (hl : cs.length ≤ 201) (h : STri (cfF Try.prog [] 201) k75_29 (initT 0 cs) [] (retQ rs_turretlaw08_known r)) : SC Try.prog 13 cs r :=
  sc_of [] follows Try.func13 rfl Try.ntmps13 (by decide) (by kernel_rfl) (by kernel_rfl) hl h
def k76_0 : SCode := .reg [⟨some 2, none, .mov (.const (.slice none 0 0)), [], false⟩] [0]
def k76_1 : SCode := .reg [⟨some 5, none, .buildSl 79 8 [(.int .i64 0), (.int .i64 0), (.int .i64 0), (.int .i64 0), (.int .i64 0), (.int .i64 0), (.int .i64 0), (.slice none 0 0)] 0 [], [], false⟩, ⟨some 6, none, .mov (.tmp 0), [], false⟩, ⟨some 7, none, .append 79 8 80 (.tmp 5) (.tmp 6), [], false⟩, ⟨some 3, none, .mov (.tmp 7), [], false⟩] [3]
def k76_2 : SCode := .reg [⟨some 4, none, .mov (.const (.int .i64 0)), [], false⟩] [3, 4]
def k76_3 : SCode := .reg [⟨some 8, none, .mov (.tmp 4), [], false⟩, ⟨some 9, none, .mov (.tmp 3), [], false⟩, ⟨some 10, none, .len (.tmp 9), [], false⟩, ⟨some 11, none, .bin .lss (.tmp 8) (.tmp 10), [], false⟩] [3, 4, 11]
def k76_4 : SCode := .cond (.tmp 11) .skip (.exit 0)
def k76_5 : SCode := .seq k76_3 k76_4
def k76_6 : SCode := .reg [⟨some 14, none, .mov (.tmp 3), [], false⟩, ⟨some 15, none, .mov (.tmp 4), [], false⟩, ⟨some 16, none, .buildSl 3 1 [(.int .i64 0)] 0 [], [], false⟩, ⟨some 17, none, .mov (.tmp 3), [], false⟩, ⟨some 18, none, .mov (.tmp 4), [], false⟩, ⟨some 19, none, .idxS 8 (.tmp 17) (.tmp 18), [], false⟩, ⟨some 20, none, .fld 7 (.tmp 19), [], false⟩, ⟨some 21, none, .load false 1 (.tmp 20), [], false⟩, ⟨some 22, none, .append 3 1 8 (.tmp 16) (.tmp 21), [], false⟩, ⟨some 23, none, .idxS 8 (.tmp 14) (.tmp 15), [], false⟩, ⟨some 24, none, .fld 7 (.tmp 23), [], false⟩, ⟨none, none, .store 1 (.tmp 24) (.tmp 22), [], false⟩] [3, 4]
def k76_7 : SCode := .block 1 k76_6
def k76_8 : SCode := .reg [⟨some 12, none, .mov (.tmp 4), [], false⟩, ⟨some 13, none, .bin .add (.tmp 12) (.const (.int .i64 1)), [], false⟩, ⟨some 4, none, .mov (.tmp 13), [], false⟩] [3, 4]
def k76_9 : SCode := .seq k76_7 k76_8
def k76_10 : SCode := .seq k76_5 k76_9
def k76_11 : SCode := .loop k76_10
def k76_12 : SCode := .block 0 k76_11
def k76_13 : SCode := .seq k76_2 k76_12
def k76_14 : SCode := .reg [⟨some 25, none, .mov (.tmp 3), [], false⟩, ⟨some 2, none, .mov (.tmp 25), [], false⟩] [2]
def k76_15 : SCode := .seq k76_14 .ret
def k76_16 : SCode := .seq k76_13 k76_15
def k76_17 : SCode := .seq k76_1 k76_16
def k76_18 : SCode := .seq k76_0 k76_17
@[simp] def rs_turretlaw08_sources : List SRes := [.tmp 2]
theorem law_turretlaw08_sources (cs : List CV) (r : CV) (hl : cs.length ≤ 26) (h : STri (cfF Try.prog [] 26) k76_18 (initT 0 cs) [] (retQ rs_turretlaw08_sources r)) : SC Try.prog 14 cs r :=
  sc_of [] follows Try.func14 rfl Try.ntmps14 (by decide) (by kernel_rfl) (by kernel_rfl) hl h
def k77_0 : SCode := .reg [⟨some 2, none, .mov (.const (.slice none 0 0)), [], false⟩] [0]
def k77_1 : SCode := .reg [⟨some 3, none, .buildSl 73 3 [(.int .i64 0), (.int .i64 0), (.int .i64 0)] 0 [], [], false⟩, ⟨some 4, none, .mov (.tmp 0), [], false⟩, ⟨some 5, none, .append 73 3 24 (.tmp 3) (.tmp 4), [], false⟩, ⟨some 2, none, .mov (.tmp 5), [], false⟩] [2]
def k77_2 : SCode := .seq k77_1 .ret
def k77_3 : SCode := .seq k77_0 k77_2
@[simp] def rs_turretlaw08_said : List SRes := [.tmp 2]
theorem law_turretlaw08_said (cs : List CV) (r : CV) (hl : cs.length ≤ 6) (h : STri (cfF Try.prog [] 6) k77_3 (initT 0 cs) [] (retQ rs_turretlaw08_said r)) : SC Try.prog 15 cs r :=
  sc_of [] follows Try.func15 rfl Try.ntmps15 (by decide) (by kernel_rfl) (by kernel_rfl) hl h
def k78_0 : SCode := .reg [⟨some 8, none, .mov (.const (.bool false)), [], false⟩] [0, 1, 2, 3]
def k78_1 : SCode := .reg [⟨some 12, none, .mov (.tmp 0), [], false⟩, ⟨some 13, none, .len (.tmp 12), [], false⟩, ⟨some 14, none, .mov (.tmp 1), [], false⟩, ⟨some 15, none, .len (.tmp 14), [], false⟩, ⟨some 16, none, .bin .neq (.tmp 13) (.tmp 15), [], false⟩, ⟨some 17, none, .mov (.tmp 16), [], false⟩, ⟨some 18, (some (17, false)), .mov (.tmp 2), [], false⟩, ⟨some 19, (some (17, false)), .len (.tmp 18), [], false⟩, ⟨some 20, (some (17, false)), .mov (.tmp 3), [], false⟩, ⟨some 21, (some (17, false)), .len (.tmp 20), [], false⟩, ⟨some 22, (some (17, false)), .bin .neq (.tmp 19) (.tmp 21), [], false⟩, ⟨some 23, none, .pick (.tmp 17) (.const (.bool true)) (.tmp 22), [], false⟩] [0, 1, 2, 3, 23]
def k78_2 : SCode := .reg [⟨some 8, none, .mov (.const (.bool false)), [], false⟩] [8]
def k78_3 : SCode := .seq k78_2 .ret
def k78_4 : SCode := .cond (.tmp 23) k78_3 .skip
def k78_5 : SCode := .seq k78_1 k78_4
def k78_6 : SCode := .reg [⟨some 9, none, .mov (.const (.int .i64 0)), [], false⟩] [0, 1, 2, 3, 9]
def k78_7 : SCode := .reg [⟨some 24, none, .mov (.tmp 9), [], false⟩, ⟨some 25, none, .mov (.tmp 0), [], false⟩, ⟨some 26, none, .len (.tmp 25), [], false⟩, ⟨some 27, none, .bin .lss (.tmp 24) (.tmp 26), [], false⟩] [0, 1, 2, 3, 9, 27]
def k78_8 : SCode := .cond (.tmp 27) .skip (.exit 0)
def k78_9 : SCode := .seq k78_7 k78_8
def k78_10 : SCode := .reg [⟨some 30, none, .mov (.tmp 0), [], false⟩, ⟨some 31, none, .mov (.tmp 9), [], false⟩, ⟨some 32, none, .idxS 8 (.tmp 30) (.tmp 31), [], false⟩, ⟨some 33, none, .fld 0 (.tmp 32), [], false⟩, ⟨some 34, none, .load false 1 (.tmp 33), [], false⟩, ⟨some 35, none, .mov (.tmp 1), [], false⟩, ⟨some 36, none, .mov (.tmp 9), [], false⟩, ⟨some 37, none, .idxS 8 (.tmp 35) (.tmp 36), [], false⟩, ⟨some 38, none, .fld 0 (.tmp 37), [], false⟩, ⟨some 39, none, .load false 1 (.tmp 38), [], false⟩, ⟨some 40, none, .bin .neq (.tmp 34) (.tmp 39), [], false⟩, ⟨some 41, none, .mov (.tmp 40), [], false⟩, ⟨some 42, (some (41, false)), .mov (.tmp 0), [], false⟩, ⟨some 43, (some (41, false)), .mov (.tmp 9), [], false⟩, ⟨some 44, (some (41, false)), .idxS 8 (.tmp 42) (.tmp 43), [], false⟩, ⟨some 45, (some (41, false)), .fld 1 (.tmp 44), [], false⟩, ⟨some 46, (some (41, false)), .load true 2 (.tmp 45), [], false⟩, ⟨some 47, (some (41, false)), .mov (.tmp 1), [], false⟩, ⟨some 48, (some (41, false)), .mov (.tmp 9), [], false⟩, ⟨some 49, (some (41, false)), .idxS 8 (.tmp 47) (.tmp 48), [], false⟩, ⟨some 50, (some (41, false)), .fld 1 (.tmp 49), [], false⟩, ⟨some 51, (some (41, false)), .load true 2 (.tmp 50), [], false⟩, ⟨some 52, (some (41, false)), .eqC true [true, true] (.tmp 46) (.tmp 51), [], false⟩, ⟨some 53, none, .pick (.tmp 41) (.const (.bool true)) (.tmp 52), [], false⟩, ⟨some 54, none, .mov (.tmp 53), [], false⟩, ⟨some 55, (some (54, false)), .mov (.tmp 0), [], false⟩, ⟨some 56, (some (54, false)), .mov (.tmp 9), [], false⟩, ⟨some 57, (some (54, false)), .idxS 8 (.tmp 55) (.tmp 56), [], false⟩, ⟨some 58, (some (54, false)), .fld 3 (.tmp 57), [], false⟩, ⟨some 59, (some (54, false)), .load false 1 (.tmp 58), [], false⟩, ⟨some 60, (some (54, false)), .mov (.tmp 1), [], false⟩, ⟨some 61, (some (54, false)), .mov (.tmp 9), [], false⟩, ⟨some 62, (some (54, false)), .idxS 8 (.tmp 60) (.tmp 61), [], false⟩, ⟨some 63, (some (54, false)), .fld 3 (.tmp 62), [], false⟩, ⟨some 64, (some (54, false)), .load false 1 (.tmp 63), [], false⟩, ⟨some 65, (some (54, false)), .bin .neq (.tmp 59) (.tmp 64), [], false⟩, ⟨some 66, none, .pick (.tmp 54) (.const (.bool true)) (.tmp 65), [], false⟩, ⟨some 67, none, .mov (.tmp 66), [], false⟩, ⟨some 68, (some (67, false)), .mov (.tmp 0), [], false⟩, ⟨some 69, (some (67, false)), .mov (.tmp 9), [], false⟩, ⟨some 70, (some (67, false)), .idxS 8 (.tmp 68) (.tmp 69), [], false⟩, ⟨some 71, (some (67, false)), .fld 4 (.tmp 70), [], false⟩, ⟨some 72, (some (67, false)), .load true 2 (.tmp 71), [], false⟩, ⟨some 73, (some (67, false)), .mov (.tmp 1), [], false⟩, ⟨some 74, (some (67, false)), .mov (.tmp 9), [], false⟩, ⟨some 75, (some (67, false)), .idxS 8 (.tmp 73) (.tmp 74), [], false⟩, ⟨some 76, (some (67, false)), .fld 4 (.tmp 75), [], false⟩, ⟨some 77, (some (67, false)), .load true 2 (.tmp 76), [], false⟩, ⟨some 78, (some (67, false)), .eqC true [true, true] (.tmp 72) (.tmp 77), [], false⟩, ⟨some 79, none, .pick (.tmp 67) (.const (.bool true)) (.tmp 78), [], false⟩, ⟨some 80, none, .mov (.tmp 79), [], false⟩, ⟨some 81, (some (80, false)), .mov (.tmp 0), [], false⟩, ⟨some 82, (some (80, false)), .mov (.tmp 9), [], false⟩, ⟨some 83, (some (80, false)), .idxS 8 (.tmp 81) (.tmp 82), [], false⟩, ⟨some 84, (some (80, false)), .fld 6 (.tmp 83), [], false⟩, ⟨some 85, (some (80, false)), .load false 1 (.tmp 84), [], false⟩, ⟨some 86, (some (80, false)), .mov (.tmp 1), [], false⟩, ⟨some 87, (some (80, false)), .mov (.tmp 9), [], false⟩, ⟨some 88, (some (80, false)), .idxS 8 (.tmp 86) (.tmp 87), [], false⟩, ⟨some 89, (some (80, false)), .fld 6 (.tmp 88), [], false⟩, ⟨some 90, (some (80, false)), .load false 1 (.tmp 89), [], false⟩, ⟨some 91, (some (80, false)), .bin .neq (.tmp 85) (.tmp 90), [], false⟩, ⟨some 92, none, .pick (.tmp 80) (.const (.bool true)) (.tmp 91), [], false⟩, ⟨some 93, none, .mov (.tmp 92), [], false⟩, ⟨some 94, (some (93, false)), .mov (.tmp 0), [], false⟩, ⟨some 95, (some (93, false)), .mov (.tmp 9), [], false⟩, ⟨some 96, (some (93, false)), .idxS 8 (.tmp 94) (.tmp 95), [], false⟩, ⟨some 97, (some (93, false)), .fld 7 (.tmp 96), [], false⟩, ⟨some 98, (some (93, false)), .load false 1 (.tmp 97), [], false⟩, ⟨some 99, (some (93, false)), .len (.tmp 98), [], false⟩, ⟨some 100, (some (93, false)), .mov (.tmp 1), [], false⟩, ⟨some 101, (some (93, false)), .mov (.tmp 9), [], false⟩, ⟨some 102, (some (93, false)), .idxS 8 (.tmp 100) (.tmp 101), [], false⟩, ⟨some 103, (some (93, false)), .fld 7 (.tmp 102), [], false⟩, ⟨some 104, (some (93, false)), .load false 1 (.tmp 103), [], false⟩, ⟨some 105, (some (93, false)), .len (.tmp 104), [], false⟩, ⟨some 106, (some (93, false)), .bin .neq (.tmp 99) (.tmp 105), [], false⟩, ⟨some 107, none, .pick (.tmp 93) (.const (.bool true)) (.tmp 106), [], false⟩] [0, 1, 2, 3, 9, 107]
def k78_11 : SCode := .reg [⟨some 8, none, .mov (.const (.bool false)), [], false⟩] [8]
def k78_12 : SCode := .seq k78_11 .ret
def k78_13 : SCode := .cond (.tmp 107) k78_12 .skip
def k78_14 : SCode := .seq k78_10 k78_13
def k78_15 : SCode := .reg [⟨some 10, none, .mov (.const (.int .i64 0)), [], false⟩] [0, 1, 2, 3, 9, 10]
def k78_16 : SCode := .reg [⟨some 108, none, .mov (.tmp 10), [], false⟩, ⟨some 109, none, .mov (.tmp 0), [], false⟩, ⟨some 110, none, .mov (.tmp 9), [], false⟩, ⟨some 111, none, .idxS 8 (.tmp 109) (.tmp 110), [], false⟩, ⟨some 112, none, .fld 7 (.tmp 111), [], false⟩, ⟨some 113, none, .load false 1 (.tmp 112), [], false⟩, ⟨some 114, none, .len (.tmp 113), [], false⟩, ⟨some 115, none, .bin .lss (.tmp 108) (.tmp 114), [], false⟩] [0, 1, 2, 3, 9, 10, 115]
def k78_17 : SCode := .cond (.tmp 115) .skip (.exit 2)
def k78_18 : SCode := .seq k78_16 k78_17
def k78_19 : SCode := .reg [⟨some 118, none, .mov (.tmp 0), [], false⟩, ⟨some 119, none, .mov (.tmp 9), [], false⟩, ⟨some 120, none, .idxS 8 (.tmp 118) (.tmp 119), [], false⟩, ⟨some 121, none, .fld 7 (.tmp 120), [], false⟩, ⟨some 122, none, .load false 1 (.tmp 121), [], false⟩, ⟨some 123, none, .mov (.tmp 10), [], false⟩, ⟨some 124, none, .idxS 1 (.tmp 122) (.tmp 123), [], false⟩, ⟨some 125, none, .load false 1 (.tmp 124), [], false⟩, ⟨some 126, none, .mov (.tmp 1), [], false⟩, ⟨some 127, none, .mov (.tmp 9), [], false⟩, ⟨some 128, none, .idxS 8 (.tmp 126) (.tmp 127), [], false⟩, ⟨some 129, none, .fld 7 (.tmp 128), [], false⟩, ⟨some 130, none, .load false 1 (.tmp 129), [], false⟩, ⟨some 131, none, .mov (.tmp 10), [], false⟩, ⟨some 132, none, .idxS 1 (.tmp 130) (.tmp 131), [], false⟩, ⟨some 133, none, .load false 1 (.tmp 132), [], false⟩, ⟨some 134, none, .bin .neq (.tmp 125) (.tmp 133), [], false⟩] [0, 1, 2, 3, 9, 10, 134]
def k78_20 : SCode := .reg [⟨some 8, none, .mov (.const (.bool false)), [], false⟩] [8]
def k78_21 : SCode := .seq k78_20 .ret
def k78_22 : SCode := .cond (.tmp 134) k78_21 .skip
def k78_23 : SCode := .seq k78_19 k78_22
def k78_24 : SCode := .block 3 k78_23
def k78_25 : SCode := .reg [⟨some 116, none, .mov (.tmp 10), [], false⟩, ⟨some 117, none, .bin .add (.tmp 116) (.const (.int .i64 1)), [], false⟩, ⟨some 10, none, .mov (.tmp 117), [], false⟩] [0, 1, 2, 3, 9, 10]
def k78_26 : SCode := .seq k78_24 k78_25
def k78_27 : SCode := .seq k78_18 k78_26
def k78_28 : SCode := .loop k78_27
def k78_29 : SCode := .block 2 k78_28
def k78_30 : SCode := .seq k78_15 k78_29
def k78_31 : SCode := .seq k78_14 k78_30
def k78_32 : SCode := .block 1 k78_31
def k78_33 : SCode := .reg [⟨some 28, none, .mov (.tmp 9), [], false⟩, ⟨some 29, none, .bin .add (.tmp 28) (.const (.int .i64 1)), [], false⟩, ⟨some 9, none, .mov (.tmp 29), [], false⟩] [0, 1, 2, 3, 9]
def k78_34 : SCode := .seq k78_32 k78_33
def k78_35 : SCode := .seq k78_9 k78_34
def k78_36 : SCode := .loop k78_35
def k78_37 : SCode := .block 0 k78_36
def k78_38 : SCode := .seq k78_6 k78_37
def k78_39 : SCode := .reg [⟨some 11, none, .mov (.const (.int .i64 0)), [], false⟩] [2, 3, 11]
def k78_40 : SCode := .reg [⟨some 135, none, .mov (.tmp 11), [], false⟩, ⟨some 136, none, .mov (.tmp 2), [], false⟩, ⟨some 137, none, .len (.tmp 136), [], false⟩, ⟨some 138, none, .bin .lss (.tmp 135) (.tmp 137), [], false⟩] [2, 3, 11, 138]
def k78_41 : SCode := .cond (.tmp 138) .skip (.exit 4)
def k78_42 : SCode := .seq k78_40 k78_41
def k78_43 : SCode := .reg [⟨some 141, none, .mov (.tmp 2), [], false⟩, ⟨some 142, none, .mov (.tmp 11), [], false⟩, ⟨some 143, none, .idxS 3 (.tmp 141) (.tmp 142), [], false⟩, ⟨some 144, none, .load true 3 (.tmp 143), [], false⟩, ⟨some 145, none, .mov (.tmp 3), [], false⟩, ⟨some 146, none, .mov (.tmp 11), [], false⟩, ⟨some 147, none, .idxS 3 (.tmp 145) (.tmp 146), [], false⟩, ⟨some 148, none, .load true 3 (.tmp 147), [], false⟩, ⟨some 149, none, .eqC true [true, true, true] (.tmp 144) (.tmp 148), [], false⟩] [2, 3, 11, 149]
def k78_44 : SCode := .reg [⟨some 8, none, .mov (.const (.bool false)), [], false⟩] [8]
def k78_45 : SCode := .seq k78_44 .ret
def k78_46 : SCode := .cond (.tmp 149) k78_45 .skip
def k78_47 : SCode := .seq k78_43 k78_46
def k78_48 : SCode := .block 5 k78_47
def k78_49 : SCode := .reg [⟨some 139, none, .mov (.tmp 11), [], false⟩, ⟨some 140, none, .bin .add (.tmp 139) (.const (.int .i64 1)), [], false⟩, ⟨some 11, none, .mov (.tmp 140), [], false⟩] [2, 3, 11]
def k78_50 : SCode := .seq k78_48 k78_49
def k78_51 : SCode := .seq k78_42 k78_50
def k78_52 : SCode := .loop k78_51
def k78_53 : SCode := .block 4 k78_52
def k78_54 : SCode := .seq k78_39 k78_53
def k78_55 : SCode := .reg [⟨some 8, none, .mov (.const (.bool true)), [], false⟩] [8]
def k78_56 : SCode := .seq k78_55 .ret
def k78_57 : SCode := .seq k78_54 k78_56
def k78_58 : SCode := .seq k78_38 k78_57
def k78_59 : SCode := .seq k78_5 k78_58
def k78_60 : SCode := .seq k78_0 k78_59
@[simp] def rs_turretlaw08_unchanged : List SRes := [.tmp 8]
theorem law_turretlaw08_unchanged (cs : List CV) (r : CV) (hl : cs.length ≤ 150) (h : STri (cfF Try.prog [] 150) k78_60 (initT 0 cs) [] (retQ rs_turretlaw08_unchanged r)) : SC Try.prog 19 cs r :=
  sc_of [] follows Try.func19 rfl Try.ntmps19 (by decide) (by kernel_rfl) (by kernel_rfl) hl h
def k79_0 : SCode := .reg [⟨some 4, none, .alloc 25 [(.int .i64 0), (.int .i64 0)], [], false⟩] [0, 1, 4]
def k79_1 : SCode := .reg [⟨some 5, none, .mov (.tmp 0), [], false⟩, ⟨some 6, none, .mov (.tmp 1), [], false⟩, ⟨some 7, none, .build [(.int .i64 0), (.int .i64 0)] [(0, 1, (.tmp 5)), (1, 1, (.tmp 6))], [], false⟩, ⟨none, none, .store 2 (.tmp 4) (.tmp 7), [], false⟩] [4]
def k79_2 : SCode := .seq k79_1 .ret
def k79_3 : SCode := .seq k79_0 k79_2
@[simp] def rs_turretlaw08_span : List SRes := [.cell 4 true 2]
theorem law_turretlaw08_span (cs : List CV) (r : CV) (hl : cs.length ≤ 8) (h : STri (cfF Try.prog [] 8) k79_3 (initT 0 cs) [] (retQ rs_turretlaw08_span r)) : SC Try.prog 34 cs r :=
  sc_of [] follows Try.func34 rfl Try.ntmps34 (by decide) (by kernel_rfl) (by kernel_rfl) hl h
def k80_0 : SCode := .reg [⟨some 0, none, .mov (.const (.slice none 0 0)), [], false⟩] []
def k80_1 : SCode := .reg [⟨some 1, none, .call 34 [(.const (.int .i64 0)), (.const (.int .i64 1))], [], false⟩, ⟨some 2, none, .build [(.int .i64 0), (.int .i64 0), (.int .i64 0), (.int .i64 0), (.int .i64 0), (.int .i64 0), (.int .i64 0), (.slice none 0 0)] [(0, 1, (.const (.int .i64 2))), (1, 2, (.tmp 1)), (3, 1, (.const (.int .i64 3600))), (6, 1, (.const (.int .i64 86400)))], [], false⟩, ⟨some 3, none, .call 34 [(.const (.int .i64 2)), (.const (.int .i64 5))], [], false⟩, ⟨some 4, none, .build [(.int .i64 0), (.int .i64 0), (.int .i64 0), (.int .i64 0), (.int .i64 0), (.int .i64 0), (.int .i64 0), (.slice none 0 0)] [(0, 1, (.const (.int .i64 4))), (1, 2, (.tmp 3))], [], false⟩, ⟨some 5, none, .call 34 [(.const (.int .i64 (-1))), (.const (.int .i64 1))], [], false⟩, ⟨some 6, none, .call 34 [(.const (.int .i64 0)), (.const (.int .i64 2000))], [], false⟩, ⟨some 7, none, .build [(.int .i64 0), (.int .i64 0), (.int .i64 0), (.int .i64 0), (.int .i64 0), (.int .i64 0), (.int .i64 0), (.slice none 0 0)] [(0, 1, (.const (.int .i64 1))), (1, 2, (.tmp 5)), (4, 2, (.tmp 6))], [], false⟩, ⟨some 8, none, .buildSl 79 8 [(.int .i64 0), (.int .i64 0), (.int .i64 0), (.int .i64 0), (.int .i64 0), (.int .i64 0), (.int .i64 0), (.slice none 0 0)] 3 [(0, (.tmp 2)), (1, (.tmp 4)), (2, (.tmp 7))], [], false⟩, ⟨some 0, none, .mov (.tmp 8), [], false⟩] [0]
def k80_2 : SCode := .seq k80_1 .ret
def k80_3 : SCode := .seq k80_0 k80_2
@[simp] def rs_turretlaw08_three : List SRes := [.tmp 0]
theorem law_turretlaw08_three (cs : List CV) (r : CV) (hl : cs.length ≤ 9) (h : STri (cfF Try.prog [] 9) k80_3 (initT 0 cs) [] (retQ rs_turretlaw08_three r)) : SC Try.prog 42 cs r :=
  sc_of [] follows Try.func42 rfl Try.ntmps42 (by decide) (by kernel_rfl) (by kernel_rfl) hl h
def k81_0 : SCode := .reg [⟨some 2, none, .mov (.const (.slice none 0 0)), [], false⟩] [0]
def k81_1 : SCode := .reg [⟨some 3, none, .build [(.int .i64 0), (.int .i64 0), (.int .i64 0)] [(0, 1, (.const (.int .i64 0))), (1, 1, (.const (.int .i64 3500)))], [], false⟩, ⟨some 4, none, .build [(.int .i64 0), (.int .i64 0), (.int .i64 0)] [(0, 1, (.const (.int .i64 1))), (1, 1, (.const (.int .i64 7000))), (2, 1, (.const (.int .i64 7098)))], [], false⟩, ⟨some 5, none, .mov (.tmp 0), [], false⟩, ⟨some 6, none, .build [(.int .i64 0), (.int .i64 0), (.int .i64 0)] [(0, 1, (.const (.int .i64 2))), (1, 1, (.const (.int .i64 86300))), (2, 1, (.tmp 5))], [], false⟩, ⟨some 7, none, .buildSl 73 3 [(.int .i64 0), (.int .i64 0), (.int .i64 0)] 3 [(0, (.tmp 3)), (1, (.tmp 4)), (2, (.tmp 6))], [], false⟩, ⟨some 2, none, .mov (.tmp 7), [], false⟩] [2]
def k81_2 : SCode := .seq k81_1 .ret
def k81_3 : SCode := .seq k81_0 k81_2
@[simp] def rs_turretlaw08_notes : List SRes := [.tmp 2]
theorem law_turretlaw08_notes (cs : List CV) (r : CV) (hl : cs.length ≤ 8) (h : STri (cfF Try.prog [] 8) k81_3 (initT 0 cs) [] (retQ rs_turretlaw08_notes r)) : SC Try.prog 43 cs r :=
  sc_of [] follows Try.func43 rfl Try.ntmps43 (by decide) (by kernel_rfl) (by kernel_rfl) hl h
end Go.Proofs.Ytakdmliblijgmaa
/- Wire's laws, I: the examples' sources and notes; what is too large. -/
namespace Go.Proofs.Ytakdmliblijgmaa
open Go.RowKit
theorem lSpan (lo hi : Int) : SC Try.prog 34 [I lo, I hi] (.agg [I lo, I hi]) := by
  refine law_turretlaw08_span _ _ (by simp) ?_
  (repeat' (first | ((first | with_reducible refine st_skip ?_ | with_reducible refine st_exit ?_); (try simp only [seqQ, blockQ, loopQ, forQ, whileQ, reduceIte, Nat.reduceEqDiff])) | (with_reducible refine st_ret ?_; ((try simp only [seqQ, blockQ, loopQ, forQ, whileQ]); first | (with_reducible refine retM_ret ?_) | refine retQ_ret ?_; simp)) | refine st_seq ?_ | refine st_block ?_ | ((with_reducible show (STri _ _ _ _ _) ∧ (STri _ _ _ _ _)); refine And.intro ?_ ?_) | ((first | refine st_reg ?_ | refine buildP_own ?_ | refine appP_own ?_) <;> (simp -dsimp; (repeat (simp -dsimp (disch := (first | omega | assumption | (refine Bool.eq_false_iff.1 ?_; assumption))) only [wrap_in, if_pos, if_neg]; (try simp -dsimp))))) | ((first | refine guardP_of (fun hc => ?_) (fun hc => ?_) | refine st_cond rfl (fun hc => ?_) (fun hc => ?_)) <;> (try simp only [lqA, lqB, lqC, lqD, lqE, lqF, lqG, lqH, lqI, lqJ, lqK, lqL, lqM, lqN, lqO] at hc) <;> (try (exfalso; first | omega | exact bool_tf hc (by assumption) | exact bool_ft hc (by assumption) | exact absurd (by assumption) hc)) <;> (first | with_reducible show STri _ _ _ _ _ _ | (simp -dsimp [hc]; (repeat (simp -dsimp (disch := (first | omega | assumption | (refine Bool.eq_false_iff.1 ?_; assumption))) only [wrap_in, if_pos, if_neg]; (try simp -dsimp [hc]))))))))
  exact .refl _
theorem SC.ans {P : Program} {f : FuncId} {cs : List CV} {r r' : CV} (h : SC P f cs r) (hr : ∀ (w : World) (N : Nat → Prop) (v : Value), RepC w N r v → RepC w N r' v) : SC P f cs r' := fun w NA vs hn hs hv =>
  (h w NA vs hn hs hv).mono fun _ _ ⟨v, h1, h2, h3⟩ => ⟨v, h1, hr _ _ _ h2, h3⟩
theorem rep_rows {w : World} {N : Nat → Prop} {k : Nat} {rows rows' : List (List CV)} {v : Value} (hl : rows'.length = rows.length)
    (hr : ∀ (j : Nat) row row', rows[j]? = some row → rows'[j]? = some row' → row'.length = row.length ∧ row'.all CV.one = true ∧ ∀ (i : Nat) x y, row[i]? = some x → row'[i]? = some y → ∀ v, RepC w N x v → RepC w N y v)
    (h : RepC w N (.sl k rows) v) : RepC w N (.sl k rows') v := by
  have back : ∀ (j : Nat) row', rows'[j]? = some row' → ∃ row, rows[j]? = some row := fun j row' hj => by
    have hlt := (List.getElem?_eq_some_iff.1 hj).1
    exact ⟨rows[j]'(by omega), List.getElem?_eq_getElem _⟩
  cases h with
  | nil k a c h1 =>
    have : rows' = [] := List.length_eq_zero_iff.1 hl
    subst this
    exact .nil k a c h1
  | sl k rows b off c u h1 h2 h3 h4 h5 h6 h7 =>
    rw [← hl]
    refine .sl k rows' b off c u (by omega) h2 h3 h4 (fun j row' hj => ?_) (fun j row' i y hj hy => ?_) (fun j row' i y hj hy => ?_)
    · obtain ⟨row, hj0⟩ := back j row' hj
      obtain ⟨e1, e2, _⟩ := hr j row row' hj0 hj
      exact ⟨e1.trans (h5 j row hj0).1, e2⟩
    · obtain ⟨row, hj0⟩ := back j row' hj
      obtain ⟨e1, _, _⟩ := hr j row row' hj0 hj
      have hi := (List.getElem?_eq_some_iff.1 hy).1
      exact h6 j row i _ hj0 (List.getElem?_eq_getElem (by omega))
    · obtain ⟨row, hj0⟩ := back j row' hj
      obtain ⟨e1, _, e3⟩ := hr j row row' hj0 hj
      have hi := (List.getElem?_eq_some_iff.1 hy).1
      have hx := List.getElem?_eq_getElem (l := row) (i := i) (by omega)
      exact e3 i _ y hx hy _ (h7 j row i _ hj0 hx)
theorem rep_nil {w : World} {N : Nat → Prop} {v : Value} (k : Nat) (h : RepC w N (.val (.slice none 0 0)) v) : RepC w N (.sl k []) v := (CLe.nil k).rep h
def threeW : List Wsrc := [⟨2, 0, 1, 3600, 0, 0, 86400, []⟩, ⟨4, 2, 5, 0, 0, 0, 0, []⟩, ⟨1, -1, 1, 0, 0, 2000, 0, []⟩]
def notesW (x : Int) : List Wnt := [⟨0, 3500, 0⟩, ⟨1, 7000, 7098⟩, ⟨2, 86300, x⟩]
def rowNil (s : Wsrc) : List CV := [I s.kind, I s.elo, I s.ehi, I s.at', I s.dlo, I s.dhi, I s.every, .val (.slice none 0 0)]
theorem rep_nils {w : World} {N : Nat → Prop} {l : List Wsrc} (hl : ∀ s ∈ l, s.table = []) {v : Value} (h : RepC w N (.sl 8 (l.map rowNil)) v) : RepC w N (slSr l) v := by
  unfold slSr
  refine rep_rows (by simp) (fun j row row' h1 h2 => ?_) h
  rw [List.getElem?_map, Option.map_eq_some_iff] at h1 h2
  obtain ⟨s, e1, rfl⟩ := h1
  obtain ⟨s', e2, rfl⟩ := h2
  rw [e1] at e2; cases e2
  have ht := hl s (List.mem_of_getElem? e1)
  refine ⟨rfl, by simp, fun i x y hx hy v hv => ?_⟩
  unfold rowNil at hx
  unfold rowSr at hy
  rw [ht] at hy
  rcases i with _ | _ | _ | _ | _ | _ | _ | _ | i
  · simp at hx hy; subst hx; subst hy; exact hv
  · simp at hx hy; subst hx; subst hy; exact hv
  · simp at hx hy; subst hx; subst hy; exact hv
  · simp at hx hy; subst hx; subst hy; exact hv
  · simp at hx hy; subst hx; subst hy; exact hv
  · simp at hx hy; subst hx; subst hy; exact hv
  · simp at hx hy; subst hx; subst hy; exact hv
  · simp at hx hy; subst hx; subst hy; exact rep_nil 1 hv
  · simp at hx
theorem lThree : SC Try.prog 42 [] (slSr threeW) := by
  refine SC.ans (r := .sl 8 (threeW.map rowNil)) ?_ (fun w N v h => rep_nils (by simp [threeW]) h)
  refine law_turretlaw08_three _ _ (by simp) ?_
  unfold threeW rowNil
  (repeat' (first | ((first | with_reducible refine st_skip ?_ | with_reducible refine st_exit ?_); (try simp only [seqQ, blockQ, loopQ, forQ, whileQ, reduceIte, Nat.reduceEqDiff])) | (with_reducible refine st_ret ?_; ((try simp only [seqQ, blockQ, loopQ, forQ, whileQ]); first | (with_reducible refine retM_ret ?_) | refine retQ_ret ?_; simp)) | refine st_seq ?_ | refine st_block ?_ | ((with_reducible show (STri _ _ _ _ _) ∧ (STri _ _ _ _ _)); refine And.intro ?_ ?_) | ((first | refine st_reg ?_ | refine buildP_own ?_ | refine appP_own ?_ | refine callP_b (lSpan 0 1) rfl ?_ | refine callP_b (lSpan 2 5) rfl ?_ | refine callP_b (lSpan (-1) 1) rfl ?_ | refine callP_b (lSpan 0 2000) rfl ?_) <;> (simp -dsimp; (repeat (simp -dsimp (disch := (first | omega | assumption | (refine Bool.eq_false_iff.1 ?_; assumption))) only [wrap_in, if_pos, if_neg]; (try simp -dsimp))))) | ((first | refine guardP_of (fun hc => ?_) (fun hc => ?_) | refine st_cond rfl (fun hc => ?_) (fun hc => ?_)) <;> (try simp only [lqA, lqB, lqC, lqD, lqE, lqF, lqG, lqH, lqI, lqJ, lqK, lqL, lqM, lqN, lqO] at hc) <;> (try (exfalso; first | omega | exact bool_tf hc (by assumption) | exact bool_ft hc (by assumption) | exact absurd (by assumption) hc)) <;> (first | with_reducible show STri _ _ _ _ _ _ | (simp -dsimp [hc]; (repeat (simp -dsimp (disch := (first | omega | assumption | (refine Bool.eq_false_iff.1 ?_; assumption))) only [wrap_in, if_pos, if_neg]; (try simp -dsimp [hc]))))))))
  exact .refl _
theorem lNotes (x : Int) : SC Try.prog 43 [I x] (slN (notesW x)) := by
  refine law_turretlaw08_notes _ _ (by simp) ?_
  unfold notesW
  (repeat' (first | ((first | with_reducible refine st_skip ?_ | with_reducible refine st_exit ?_); (try simp only [seqQ, blockQ, loopQ, forQ, whileQ, reduceIte, Nat.reduceEqDiff])) | (with_reducible refine st_ret ?_; ((try simp only [seqQ, blockQ, loopQ, forQ, whileQ]); first | (with_reducible refine retM_ret ?_) | refine retQ_ret ?_; simp)) | refine st_seq ?_ | refine st_block ?_ | ((with_reducible show (STri _ _ _ _ _) ∧ (STri _ _ _ _ _)); refine And.intro ?_ ?_) | ((first | refine st_reg ?_ | refine buildP_own ?_ | refine appP_own ?_) <;> (simp -dsimp; (repeat (simp -dsimp (disch := (first | omega | assumption | (refine Bool.eq_false_iff.1 ?_; assumption))) only [wrap_in, if_pos, if_neg]; (try simp -dsimp))))) | ((first | refine guardP_of (fun hc => ?_) (fun hc => ?_) | refine st_cond rfl (fun hc => ?_) (fun hc => ?_)) <;> (try simp only [lqA, lqB, lqC, lqD, lqE, lqF, lqG, lqH, lqI, lqJ, lqK, lqL, lqM, lqN, lqO] at hc) <;> (try (exfalso; first | omega | exact bool_tf hc (by assumption) | exact bool_ft hc (by assumption) | exact absurd (by assumption) hc)) <;> (first | with_reducible show STri _ _ _ _ _ _ | (simp -dsimp [hc]; (repeat (simp -dsimp (disch := (first | omega | assumption | (refine Bool.eq_false_iff.1 ?_; assumption))) only [wrap_in, if_pos, if_neg]; (try simp -dsimp [hc]))))))))
  exact .refl _
theorem lSaid (l : List Wnt) (hl : l.length ≤ 1000000) : SC Try.prog 15 [slN l] (slN l) := by
  refine law_turretlaw08_said _ _ (by simp) ?_
  have hA : (l.length : Int) ≤ 9223372036854775806 := by omega
  have hA2 : l.length ≤ 9223372036854775807 := by omega
  have hB : l.length * 24 ≤ 140737488355328 := by omega
  (repeat' (first | ((first | with_reducible refine st_skip ?_ | with_reducible refine st_exit ?_); (try simp only [seqQ, blockQ, loopQ, forQ, whileQ, reduceIte, Nat.reduceEqDiff])) | (with_reducible refine st_ret ?_; ((try simp only [seqQ, blockQ, loopQ, forQ, whileQ]); first | (with_reducible refine retM_ret ?_) | refine retQ_ret ?_; simp [hA, hA2, hB])) | refine st_seq ?_ | refine st_block ?_ | ((with_reducible show (STri _ _ _ _ _) ∧ (STri _ _ _ _ _)); refine And.intro ?_ ?_) | ((first | refine st_reg ?_ | refine buildP_own ?_ | refine appP_own ?_) <;> (simp -dsimp [hA, hA2, hB]; (repeat (simp -dsimp (disch := (first | omega | assumption | (refine Bool.eq_false_iff.1 ?_; assumption))) only [wrap_in, if_pos, if_neg]; (try simp -dsimp [hA, hA2, hB]))))) | ((first | refine guardP_of (fun hc => ?_) (fun hc => ?_) | refine st_cond rfl (fun hc => ?_) (fun hc => ?_)) <;> (try simp only [lqA, lqB, lqC, lqD, lqE, lqF, lqG, lqH, lqI, lqJ, lqK, lqL, lqM, lqN, lqO] at hc) <;> (try (exfalso; first | omega | exact bool_tf hc (by assumption) | exact bool_ft hc (by assumption) | exact absurd (by assumption) hc)) <;> (first | with_reducible show STri _ _ _ _ _ _ | (simp -dsimp [hA, hA2, hB, hc]; (repeat (simp -dsimp (disch := (first | omega | assumption | (refine Bool.eq_false_iff.1 ?_; assumption))) only [wrap_in, if_pos, if_neg]; (try simp -dsimp [hA, hA2, hB, hc]))))))))
  exact .refl _
def bigB (s : Wsrc) : Bool := decide (370 < s.table.length)
def largeB (w : List Wsrc) (l : List Wnt) (nlo nhi : Int) : Bool := (w.take 13).any bigB || decide (12 < w.length) || (decide (12 < l.length) && decide (l.length ≤ 60)) || decide (65 < l.length) || (decide (newErr w l nlo nhi = 0) && decide (150 < nhi - nlo))
theorem anyTake_succ {α : Type} {p : α → Bool} {l : List α} {k : Nat} (h : k < l.length) : (l.take (k + 1)).any p = ((l.take k).any p || p l[k]) := by
  rw [List.take_succ_eq_append_getElem h, List.any_append]
  simp
def NoBig (w : List Wsrc) (k : Nat) : Prop := (w.take k).any bigB = false
set_option maxRecDepth 100000 in
theorem lLarge (w : List Wsrc) (l : List Wnt) (nlo nhi : Int) (h0 : newErr w l nlo nhi = 0 → -7200 ≤ nlo ∧ nlo ≤ nhi ∧ nhi ≤ 7200) : SC Try.prog 12 [slSr w, slN l, .agg [I nlo, I nhi]] (B (largeB w l nlo nhi)) := by
  refine law_turretlaw08_large _ _ (by simp) ?_
  (repeat' (first | ((first | with_reducible refine st_skip ?_ | with_reducible refine st_exit ?_); (try simp only [seqQ, blockQ, loopQ, forQ, whileQ, reduceIte, Nat.reduceEqDiff])) | (with_reducible refine st_ret ?_; ((try simp only [seqQ, blockQ, loopQ, forQ, whileQ]); first | (with_reducible refine retM_ret ?_) | refine retQ_ret ?_; simp)) | refine st_seq ?_ | refine st_block ?_ | ((with_reducible show (STri _ _ _ _ _) ∧ (STri _ _ _ _ _)); refine And.intro ?_ ?_) | ((first | refine st_reg ?_ | refine buildP_own ?_ | refine appP_own ?_) <;> (simp -dsimp; (repeat (simp -dsimp (disch := (first | omega | assumption | (refine Bool.eq_false_iff.1 ?_; assumption))) only [wrap_in, if_pos, if_neg]; (try simp -dsimp))))) | ((first | refine guardP_of (fun hc => ?_) (fun hc => ?_) | refine st_cond rfl (fun hc => ?_) (fun hc => ?_)) <;> (try simp only [lqA, lqB, lqC, lqD, lqE, lqF, lqG, lqH, lqI, lqJ, lqK, lqL, lqM, lqN, lqO] at hc) <;> (try (exfalso; first | omega | exact bool_tf hc (by assumption) | exact bool_ft hc (by assumption) | exact absurd (by assumption) hc)) <;> (first | with_reducible show STri _ _ _ _ _ _ | (simp -dsimp [hc]; (repeat (simp -dsimp (disch := (first | omega | assumption | (refine Bool.eq_false_iff.1 ?_; assumption))) only [wrap_in, if_pos, if_neg]; (try simp -dsimp [hc]))))))))
  refine st_for [5] (min w.length 13) (fun k T H => NoBig w k ∧ T = [(0, .c (slSr w)), (1, .c (slN l)), (5, .ptr 5 0), (7, .c (I k))] ∧ H = [(5, .box 25 [.c (I nlo), .c (I nhi)])]) (by simp) ⟨by simp [NoBig], by simp, by simp⟩ ?_
  rintro k T H hk ⟨hno, rfl, rfl⟩
  unfold NoBig at hno
  by_cases hlt : k < min w.length 13
  · have hlw : k < w.length := by omega
    have hl13 : (k : Int) < 13 := by omega
    have hs := anyTake_succ (p := bigB) hlw
    rw [hno, Bool.false_or] at hs
    by_cases hb : bigB w[k] = true
    · have e : (w.take 13).any bigB = true := by
        rw [List.any_eq_true]
        exact ⟨w[k], List.mem_take_iff_getElem.2 ⟨k, by omega, rfl⟩, hb⟩
      have hr : largeB w l nlo nhi = true := by unfold largeB; rw [e]; simp
      rw [hr]
      unfold bigB at hb
      have hb2 : (370 : Int) < (w[k]).table.length := by simp at hb; omega
      (repeat' (first | ((first | with_reducible refine st_skip ?_ | with_reducible refine st_exit ?_); (try simp only [seqQ, blockQ, loopQ, forQ, whileQ, reduceIte, Nat.reduceEqDiff])) | (with_reducible refine st_ret ?_; ((try simp only [seqQ, blockQ, loopQ, forQ, whileQ]); first | (with_reducible refine retM_ret ?_) | refine retQ_ret ?_; simp [hlw, hl13, hb2])) | refine st_seq ?_ | refine st_block ?_ | ((with_reducible show (STri _ _ _ _ _) ∧ (STri _ _ _ _ _)); refine And.intro ?_ ?_) | ((first | refine st_reg ?_ | refine buildP_own ?_ | refine appP_own ?_) <;> (simp -dsimp [hlw, hl13, hb2]; (repeat (simp -dsimp (disch := (first | omega | assumption | (refine Bool.eq_false_iff.1 ?_; assumption))) only [wrap_in, if_pos, if_neg]; (try simp -dsimp [hlw, hl13, hb2]))))) | ((first | refine guardP_of (fun hc => ?_) (fun hc => ?_) | refine st_cond rfl (fun hc => ?_) (fun hc => ?_)) <;> (try simp only [lqA, lqB, lqC, lqD, lqE, lqF, lqG, lqH, lqI, lqJ, lqK, lqL, lqM, lqN, lqO] at hc) <;> (try (exfalso; first | omega | exact bool_tf hc (by assumption) | exact bool_ft hc (by assumption) | exact absurd (by assumption) hc)) <;> (first | with_reducible show STri _ _ _ _ _ _ | (simp -dsimp [hlw, hl13, hb2, hc]; (repeat (simp -dsimp (disch := (first | omega | assumption | (refine Bool.eq_false_iff.1 ?_; assumption))) only [wrap_in, if_pos, if_neg]; (try simp -dsimp [hlw, hl13, hb2, hc]))))))))
      exact .refl _
    · rw [Bool.not_eq_true] at hb
      have hb2 : ¬ (370 : Int) < (w[k]).table.length := by unfold bigB at hb; simp at hb; omega
      (repeat' (first | ((first | with_reducible refine st_skip ?_ | with_reducible refine st_exit ?_); (try simp only [seqQ, blockQ, loopQ, forQ, whileQ, reduceIte, Nat.reduceEqDiff])) | (with_reducible refine st_ret ?_; ((try simp only [seqQ, blockQ, loopQ, forQ, whileQ]); first | (with_reducible refine retM_ret ?_) | refine retQ_ret ?_; simp [hlw, hl13, hb2])) | refine st_seq ?_ | refine st_block ?_ | ((with_reducible show (STri _ _ _ _ _) ∧ (STri _ _ _ _ _)); refine And.intro ?_ ?_) | ((first | refine st_reg ?_ | refine buildP_own ?_ | refine appP_own ?_) <;> (simp -dsimp [hlw, hl13, hb2]; (repeat (simp -dsimp (disch := (first | omega | assumption | (refine Bool.eq_false_iff.1 ?_; assumption))) only [wrap_in, if_pos, if_neg]; (try simp -dsimp [hlw, hl13, hb2]))))) | ((first | refine guardP_of (fun hc => ?_) (fun hc => ?_) | refine st_cond rfl (fun hc => ?_) (fun hc => ?_)) <;> (try simp only [lqA, lqB, lqC, lqD, lqE, lqF, lqG, lqH, lqI, lqJ, lqK, lqL, lqM, lqN, lqO] at hc) <;> (try (exfalso; first | omega | exact bool_tf hc (by assumption) | exact bool_ft hc (by assumption) | exact absurd (by assumption) hc)) <;> (first | with_reducible show STri _ _ _ _ _ _ | (simp -dsimp [hlw, hl13, hb2, hc]; (repeat (simp -dsimp (disch := (first | omega | assumption | (refine Bool.eq_false_iff.1 ?_; assumption))) only [wrap_in, if_pos, if_neg]; (try simp -dsimp [hlw, hl13, hb2, hc]))))))))
      exact ⟨hlt, by simp, by unfold NoBig; rw [hs, hb], by simp, by simp⟩
  · have hkk : k = min w.length 13 := by omega
    have hbig : (w.take 13).any bigB = false := by
      rcases Nat.lt_or_ge w.length 13 with h | h
      · rw [List.take_of_length_le (by omega), ← List.take_length (l := w)]
        rw [hkk, Nat.min_eq_left (by omega)] at hno; exact hno
      · rw [hkk, Nat.min_eq_right h] at hno; exact hno
    have hr : largeB w l nlo nhi = (decide (12 < w.length) || (decide (12 < l.length) && decide (l.length ≤ 60)) || decide (65 < l.length) || (decide (newErr w l nlo nhi = 0) && decide (150 < nhi - nlo))) := by
      unfold largeB; rw [hbig, Bool.false_or]
    rw [hr]
    clear hr
    have hstop : ¬ ((k : Int) < w.length ∧ (k : Int) < 13) := by omega
    by_cases a1 : 12 < w.length
    · have a1' : (12 : Int) < w.length := by omega
      have hk13 : ¬ (k : Int) < 13 := by omega
      by_cases hkw : (k : Int) < w.length
      · (repeat' (first | ((first | with_reducible refine st_skip ?_ | with_reducible refine st_exit ?_); (try simp only [seqQ, blockQ, loopQ, forQ, whileQ, reduceIte, Nat.reduceEqDiff])) | (with_reducible refine st_ret ?_; ((try simp only [seqQ, blockQ, loopQ, forQ, whileQ]); first | (with_reducible refine retM_ret ?_) | refine retQ_ret ?_; simp [hkw, hk13, a1'])) | refine st_seq ?_ | refine st_block ?_ | ((with_reducible show (STri _ _ _ _ _) ∧ (STri _ _ _ _ _)); refine And.intro ?_ ?_) | ((first | refine st_reg ?_ | refine buildP_own ?_ | refine appP_own ?_) <;> (simp -dsimp [hkw, hk13, a1']; (repeat (simp -dsimp (disch := (first | omega | assumption | (refine Bool.eq_false_iff.1 ?_; assumption))) only [wrap_in, if_pos, if_neg]; (try simp -dsimp [hkw, hk13, a1']))))) | ((first | refine guardP_of (fun hc => ?_) (fun hc => ?_) | refine st_cond rfl (fun hc => ?_) (fun hc => ?_)) <;> (try simp only [lqA, lqB, lqC, lqD, lqE, lqF, lqG, lqH, lqI, lqJ, lqK, lqL, lqM, lqN, lqO] at hc) <;> (try (exfalso; first | omega | exact bool_tf hc (by assumption) | exact bool_ft hc (by assumption) | exact absurd (by assumption) hc)) <;> (first | with_reducible show STri _ _ _ _ _ _ | (simp -dsimp [hkw, hk13, a1', hc]; (repeat (simp -dsimp (disch := (first | omega | assumption | (refine Bool.eq_false_iff.1 ?_; assumption))) only [wrap_in, if_pos, if_neg]; (try simp -dsimp [hkw, hk13, a1', hc]))))))))
        refine CLe.bool ?_
        simp [a1]
      · (repeat' (first | ((first | with_reducible refine st_skip ?_ | with_reducible refine st_exit ?_); (try simp only [seqQ, blockQ, loopQ, forQ, whileQ, reduceIte, Nat.reduceEqDiff])) | (with_reducible refine st_ret ?_; ((try simp only [seqQ, blockQ, loopQ, forQ, whileQ]); first | (with_reducible refine retM_ret ?_) | refine retQ_ret ?_; simp [hkw, hk13, a1'])) | refine st_seq ?_ | refine st_block ?_ | ((with_reducible show (STri _ _ _ _ _) ∧ (STri _ _ _ _ _)); refine And.intro ?_ ?_) | ((first | refine st_reg ?_ | refine buildP_own ?_ | refine appP_own ?_) <;> (simp -dsimp [hkw, hk13, a1']; (repeat (simp -dsimp (disch := (first | omega | assumption | (refine Bool.eq_false_iff.1 ?_; assumption))) only [wrap_in, if_pos, if_neg]; (try simp -dsimp [hkw, hk13, a1']))))) | ((first | refine guardP_of (fun hc => ?_) (fun hc => ?_) | refine st_cond rfl (fun hc => ?_) (fun hc => ?_)) <;> (try simp only [lqA, lqB, lqC, lqD, lqE, lqF, lqG, lqH, lqI, lqJ, lqK, lqL, lqM, lqN, lqO] at hc) <;> (try (exfalso; first | omega | exact bool_tf hc (by assumption) | exact bool_ft hc (by assumption) | exact absurd (by assumption) hc)) <;> (first | with_reducible show STri _ _ _ _ _ _ | (simp -dsimp [hkw, hk13, a1', hc]; (repeat (simp -dsimp (disch := (first | omega | assumption | (refine Bool.eq_false_iff.1 ?_; assumption))) only [wrap_in, if_pos, if_neg]; (try simp -dsimp [hkw, hk13, a1', hc]))))))))
        refine CLe.bool ?_
        simp [a1]
    have hkw : ¬ (k : Int) < w.length := by omega
    have a1' : ¬ (12 : Int) < w.length := by omega
    have e1 : decide (12 < w.length) = false := by simpa using a1
    rw [e1, Bool.false_or]
    by_cases a2 : 12 < l.length ∧ l.length ≤ 60
    · have a2' : (12 : Int) < l.length := by omega
      have a3' : (l.length : Int) ≤ 60 := by omega
      (repeat' (first | ((first | with_reducible refine st_skip ?_ | with_reducible refine st_exit ?_); (try simp only [seqQ, blockQ, loopQ, forQ, whileQ, reduceIte, Nat.reduceEqDiff])) | (with_reducible refine st_ret ?_; ((try simp only [seqQ, blockQ, loopQ, forQ, whileQ]); first | (with_reducible refine retM_ret ?_) | refine retQ_ret ?_; simp [hkw, a1', a2', a3'])) | refine st_seq ?_ | refine st_block ?_ | ((with_reducible show (STri _ _ _ _ _) ∧ (STri _ _ _ _ _)); refine And.intro ?_ ?_) | ((first | refine st_reg ?_ | refine buildP_own ?_ | refine appP_own ?_) <;> (simp -dsimp [hkw, a1', a2', a3']; (repeat (simp -dsimp (disch := (first | omega | assumption | (refine Bool.eq_false_iff.1 ?_; assumption))) only [wrap_in, if_pos, if_neg]; (try simp -dsimp [hkw, a1', a2', a3']))))) | ((first | refine guardP_of (fun hc => ?_) (fun hc => ?_) | refine st_cond rfl (fun hc => ?_) (fun hc => ?_)) <;> (try simp only [lqA, lqB, lqC, lqD, lqE, lqF, lqG, lqH, lqI, lqJ, lqK, lqL, lqM, lqN, lqO] at hc) <;> (try (exfalso; first | omega | exact bool_tf hc (by assumption) | exact bool_ft hc (by assumption) | exact absurd (by assumption) hc)) <;> (first | with_reducible show STri _ _ _ _ _ _ | (simp -dsimp [hkw, a1', a2', a3', hc]; (repeat (simp -dsimp (disch := (first | omega | assumption | (refine Bool.eq_false_iff.1 ?_; assumption))) only [wrap_in, if_pos, if_neg]; (try simp -dsimp [hkw, a1', a2', a3', hc]))))))))
      refine CLe.bool ?_
      simp [a2.1, a2.2]
    have e2 : (decide (12 < l.length) && decide (l.length ≤ 60)) = false := by
      rw [Bool.and_eq_false_iff]; simp; omega
    rw [e2, Bool.false_or]
    by_cases a4 : 65 < l.length
    · have a2' : (12 : Int) < l.length := by omega
      have a3' : ¬ (l.length : Int) ≤ 60 := by omega
      have a4' : (65 : Int) < l.length := by omega
      (repeat' (first | ((first | with_reducible refine st_skip ?_ | with_reducible refine st_exit ?_); (try simp only [seqQ, blockQ, loopQ, forQ, whileQ, reduceIte, Nat.reduceEqDiff])) | (with_reducible refine st_ret ?_; ((try simp only [seqQ, blockQ, loopQ, forQ, whileQ]); first | (with_reducible refine retM_ret ?_) | refine retQ_ret ?_; simp [hkw, a1', a2', a3', a4'])) | refine st_seq ?_ | refine st_block ?_ | ((with_reducible show (STri _ _ _ _ _) ∧ (STri _ _ _ _ _)); refine And.intro ?_ ?_) | ((first | refine st_reg ?_ | refine buildP_own ?_ | refine appP_own ?_) <;> (simp -dsimp [hkw, a1', a2', a3', a4']; (repeat (simp -dsimp (disch := (first | omega | assumption | (refine Bool.eq_false_iff.1 ?_; assumption))) only [wrap_in, if_pos, if_neg]; (try simp -dsimp [hkw, a1', a2', a3', a4']))))) | ((first | refine guardP_of (fun hc => ?_) (fun hc => ?_) | refine st_cond rfl (fun hc => ?_) (fun hc => ?_)) <;> (try simp only [lqA, lqB, lqC, lqD, lqE, lqF, lqG, lqH, lqI, lqJ, lqK, lqL, lqM, lqN, lqO] at hc) <;> (try (exfalso; first | omega | exact bool_tf hc (by assumption) | exact bool_ft hc (by assumption) | exact absurd (by assumption) hc)) <;> (first | with_reducible show STri _ _ _ _ _ _ | (simp -dsimp [hkw, a1', a2', a3', a4', hc]; (repeat (simp -dsimp (disch := (first | omega | assumption | (refine Bool.eq_false_iff.1 ?_; assumption))) only [wrap_in, if_pos, if_neg]; (try simp -dsimp [hkw, a1', a2', a3', a4', hc]))))))))
      refine CLe.bool ?_
      simp [a4]
    have a4' : ¬ (65 : Int) < l.length := by omega
    have e4 : decide (65 < l.length) = false := by simpa using a4
    rw [e4, Bool.false_or]
    have hwl : WLen w := ⟨fun s hs => by
      rw [← List.take_of_length_le (l := w) (i := 13) (by omega)] at hs
      have := List.any_eq_false.1 hbig s hs
      unfold bigB at this; simp at this; omega⟩
    have rn := rNotes w hwl (by omega) l (by omega) nlo nhi
    by_cases a5 : newErr w l nlo nhi = 0
    · obtain ⟨b0, b1, b2⟩ := h0 a5
      rw [a5] at rn ⊢
      by_cases a2' : (12 : Int) < l.length
      · have a3' : ¬ (l.length : Int) ≤ 60 := by omega
        (repeat' (first | ((first | with_reducible refine st_skip ?_ | with_reducible refine st_exit ?_); (try simp only [seqQ, blockQ, loopQ, forQ, whileQ, reduceIte, Nat.reduceEqDiff])) | (with_reducible refine st_ret ?_; ((try simp only [seqQ, blockQ, loopQ, forQ, whileQ]); first | (with_reducible refine retM_ret ?_) | refine retQ_ret ?_; simp [hkw, a1', a2', a3', a4'])) | refine st_seq ?_ | refine st_block ?_ | ((with_reducible show (STri _ _ _ _ _) ∧ (STri _ _ _ _ _)); refine And.intro ?_ ?_) | ((first | refine st_reg ?_ | refine buildP_own ?_ | refine appP_own ?_ | refine callP_b (rn) rfl ?_) <;> (simp -dsimp [hkw, a1', a2', a3', a4']; (repeat (simp -dsimp (disch := (first | omega | assumption | (refine Bool.eq_false_iff.1 ?_; assumption))) only [wrap_in, if_pos, if_neg]; (try simp -dsimp [hkw, a1', a2', a3', a4']))))) | ((first | refine guardP_of (fun hc => ?_) (fun hc => ?_) | refine st_cond rfl (fun hc => ?_) (fun hc => ?_)) <;> (try simp only [lqA, lqB, lqC, lqD, lqE, lqF, lqG, lqH, lqI, lqJ, lqK, lqL, lqM, lqN, lqO] at hc) <;> (try (exfalso; first | omega | exact bool_tf hc (by assumption) | exact bool_ft hc (by assumption) | exact absurd (by assumption) hc)) <;> (first | with_reducible show STri _ _ _ _ _ _ | (simp -dsimp [hkw, a1', a2', a3', a4', hc]; (repeat (simp -dsimp (disch := (first | omega | assumption | (refine Bool.eq_false_iff.1 ?_; assumption))) only [wrap_in, if_pos, if_neg]; (try simp -dsimp [hkw, a1', a2', a3', a4', hc]))))))))
        refine CLe.bool ?_
        simp
      · (repeat' (first | ((first | with_reducible refine st_skip ?_ | with_reducible refine st_exit ?_); (try simp only [seqQ, blockQ, loopQ, forQ, whileQ, reduceIte, Nat.reduceEqDiff])) | (with_reducible refine st_ret ?_; ((try simp only [seqQ, blockQ, loopQ, forQ, whileQ]); first | (with_reducible refine retM_ret ?_) | refine retQ_ret ?_; simp [hkw, a1', a2', a4'])) | refine st_seq ?_ | refine st_block ?_ | ((with_reducible show (STri _ _ _ _ _) ∧ (STri _ _ _ _ _)); refine And.intro ?_ ?_) | ((first | refine st_reg ?_ | refine buildP_own ?_ | refine appP_own ?_ | refine callP_b (rn) rfl ?_) <;> (simp -dsimp [hkw, a1', a2', a4']; (repeat (simp -dsimp (disch := (first | omega | assumption | (refine Bool.eq_false_iff.1 ?_; assumption))) only [wrap_in, if_pos, if_neg]; (try simp -dsimp [hkw, a1', a2', a4']))))) | ((first | refine guardP_of (fun hc => ?_) (fun hc => ?_) | refine st_cond rfl (fun hc => ?_) (fun hc => ?_)) <;> (try simp only [lqA, lqB, lqC, lqD, lqE, lqF, lqG, lqH, lqI, lqJ, lqK, lqL, lqM, lqN, lqO] at hc) <;> (try (exfalso; first | omega | exact bool_tf hc (by assumption) | exact bool_ft hc (by assumption) | exact absurd (by assumption) hc)) <;> (first | with_reducible show STri _ _ _ _ _ _ | (simp -dsimp [hkw, a1', a2', a4', hc]; (repeat (simp -dsimp (disch := (first | omega | assumption | (refine Bool.eq_false_iff.1 ?_; assumption))) only [wrap_in, if_pos, if_neg]; (try simp -dsimp [hkw, a1', a2', a4', hc]))))))))
        refine CLe.bool ?_
        simp
    · have e5 : decide (newErr w l nlo nhi = 0) = false := by simpa using a5
      rw [e5, Bool.false_and]
      by_cases a2' : (12 : Int) < l.length
      · have a3' : ¬ (l.length : Int) ≤ 60 := by omega
        (repeat' (first | ((first | with_reducible refine st_skip ?_ | with_reducible refine st_exit ?_); (try simp only [seqQ, blockQ, loopQ, forQ, whileQ, reduceIte, Nat.reduceEqDiff])) | (with_reducible refine st_ret ?_; ((try simp only [seqQ, blockQ, loopQ, forQ, whileQ]); first | (with_reducible refine retM_ret ?_) | refine retQ_ret ?_; simp [hkw, a1', a2', a3', a4', a5])) | refine st_seq ?_ | refine st_block ?_ | ((with_reducible show (STri _ _ _ _ _) ∧ (STri _ _ _ _ _)); refine And.intro ?_ ?_) | ((first | refine st_reg ?_ | refine buildP_own ?_ | refine appP_own ?_ | refine callP_b (rn) rfl ?_) <;> (simp -dsimp [hkw, a1', a2', a3', a4', a5]; (repeat (simp -dsimp (disch := (first | omega | assumption | (refine Bool.eq_false_iff.1 ?_; assumption))) only [wrap_in, if_pos, if_neg]; (try simp -dsimp [hkw, a1', a2', a3', a4', a5]))))) | ((first | refine guardP_of (fun hc => ?_) (fun hc => ?_) | refine st_cond rfl (fun hc => ?_) (fun hc => ?_)) <;> (try simp only [lqA, lqB, lqC, lqD, lqE, lqF, lqG, lqH, lqI, lqJ, lqK, lqL, lqM, lqN, lqO] at hc) <;> (try (exfalso; first | omega | exact bool_tf hc (by assumption) | exact bool_ft hc (by assumption) | exact absurd (by assumption) hc)) <;> (first | with_reducible show STri _ _ _ _ _ _ | (simp -dsimp [hkw, a1', a2', a3', a4', a5, hc]; (repeat (simp -dsimp (disch := (first | omega | assumption | (refine Bool.eq_false_iff.1 ?_; assumption))) only [wrap_in, if_pos, if_neg]; (try simp -dsimp [hkw, a1', a2', a3', a4', a5, hc]))))))))
        refine CLe.bool ?_
        simp [a5]
      · (repeat' (first | ((first | with_reducible refine st_skip ?_ | with_reducible refine st_exit ?_); (try simp only [seqQ, blockQ, loopQ, forQ, whileQ, reduceIte, Nat.reduceEqDiff])) | (with_reducible refine st_ret ?_; ((try simp only [seqQ, blockQ, loopQ, forQ, whileQ]); first | (with_reducible refine retM_ret ?_) | refine retQ_ret ?_; simp [hkw, a1', a2', a4', a5])) | refine st_seq ?_ | refine st_block ?_ | ((with_reducible show (STri _ _ _ _ _) ∧ (STri _ _ _ _ _)); refine And.intro ?_ ?_) | ((first | refine st_reg ?_ | refine buildP_own ?_ | refine appP_own ?_ | refine callP_b (rn) rfl ?_) <;> (simp -dsimp [hkw, a1', a2', a4', a5]; (repeat (simp -dsimp (disch := (first | omega | assumption | (refine Bool.eq_false_iff.1 ?_; assumption))) only [wrap_in, if_pos, if_neg]; (try simp -dsimp [hkw, a1', a2', a4', a5]))))) | ((first | refine guardP_of (fun hc => ?_) (fun hc => ?_) | refine st_cond rfl (fun hc => ?_) (fun hc => ?_)) <;> (try simp only [lqA, lqB, lqC, lqD, lqE, lqF, lqG, lqH, lqI, lqJ, lqK, lqL, lqM, lqN, lqO] at hc) <;> (try (exfalso; first | omega | exact bool_tf hc (by assumption) | exact bool_ft hc (by assumption) | exact absurd (by assumption) hc)) <;> (first | with_reducible show STri _ _ _ _ _ _ | (simp -dsimp [hkw, a1', a2', a4', a5, hc]; (repeat (simp -dsimp (disch := (first | omega | assumption | (refine Bool.eq_false_iff.1 ?_; assumption))) only [wrap_in, if_pos, if_neg]; (try simp -dsimp [hkw, a1', a2', a4', a5, hc]))))))))
        refine CLe.bool ?_
        simp [a5]
end Go.Proofs.Ytakdmliblijgmaa
/- Wire's laws, II: copies of sources, and whether they are as before. -/
namespace Go.Proofs.Ytakdmliblijgmaa
open Go.RowKit
set_option maxRecDepth 100000 in
theorem lSources (w : List Wsrc) (hw : WLen w) (hl : w.length ≤ 1000000) : SC Try.prog 14 [slSr w] (slSr w) := by
  refine law_turretlaw08_sources _ _ (by simp) ?_
  have hA2 : w.length ≤ 9223372036854775807 := by omega
  have hB : w.length * 80 ≤ 140737488355328 := by omega
  (repeat' (first | ((first | with_reducible refine st_skip ?_ | with_reducible refine st_exit ?_); (try simp only [seqQ, blockQ, loopQ, forQ, whileQ, reduceIte, Nat.reduceEqDiff])) | (with_reducible refine st_ret ?_; ((try simp only [seqQ, blockQ, loopQ, forQ, whileQ]); first | (with_reducible refine retM_ret ?_) | refine retQ_ret ?_; simp [hA2, hB])) | refine st_seq ?_ | refine st_block ?_ | ((with_reducible show (STri _ _ _ _ _) ∧ (STri _ _ _ _ _)); refine And.intro ?_ ?_) | ((first | refine st_reg ?_ | refine buildP_own ?_ | refine appP_own ?_) <;> (simp -dsimp [hA2, hB]; (repeat (simp -dsimp (disch := (first | omega | assumption | (refine Bool.eq_false_iff.1 ?_; assumption))) only [wrap_in, if_pos, if_neg]; (try simp -dsimp [hA2, hB]))))) | ((first | refine guardP_of (fun hc => ?_) (fun hc => ?_) | refine st_cond rfl (fun hc => ?_) (fun hc => ?_)) <;> (try simp only [lqA, lqB, lqC, lqD, lqE, lqF, lqG, lqH, lqI, lqJ, lqK, lqL, lqM, lqN, lqO] at hc) <;> (try (exfalso; first | omega | exact bool_tf hc (by assumption) | exact bool_ft hc (by assumption) | exact absurd (by assumption) hc)) <;> (first | with_reducible show STri _ _ _ _ _ _ | (simp -dsimp [hA2, hB, hc]; (repeat (simp -dsimp (disch := (first | omega | assumption | (refine Bool.eq_false_iff.1 ?_; assumption))) only [wrap_in, if_pos, if_neg]; (try simp -dsimp [hA2, hB, hc]))))))))
  refine st_for [5] w.length (fun k T H => T = [(3, .own 5 w.length), (4, .c (I k))] ∧ H = [(5, .arr 79 8 (w.map rowSr))]) (by simp) ⟨by simp, by simp⟩ ?_
  rintro k T H hk ⟨rfl, rfl⟩
  by_cases hlt : k < w.length
  · have ht := hw.h _ (List.getElem_mem hlt)
    have hset : (w.map rowSr).set k [I (w[k]).kind, I (w[k]).elo, I (w[k]).ehi, I (w[k]).at', I (w[k]).dlo, I (w[k]).dhi, I (w[k]).every, .sl 1 ((w[k]).table.map rowI)] = w.map rowSr := by
      have e : [I (w[k]).kind, I (w[k]).elo, I (w[k]).ehi, I (w[k]).at', I (w[k]).dlo, I (w[k]).dhi, I (w[k]).every, .sl 1 ((w[k]).table.map rowI)] = (w.map rowSr)[k]'(by simpa using hlt) := by simp
      rw [e, List.set_getElem_self]
    have hC : (w[k]).table.length ≤ 9223372036854775807 := by omega
    have hD : (w[k]).table.length * 8 ≤ 140737488355328 := by omega
    (repeat' (first | ((first | with_reducible refine st_skip ?_ | with_reducible refine st_exit ?_); (try simp only [seqQ, blockQ, loopQ, forQ, whileQ, reduceIte, Nat.reduceEqDiff])) | (with_reducible refine st_ret ?_; ((try simp only [seqQ, blockQ, loopQ, forQ, whileQ]); first | (with_reducible refine retM_ret ?_) | refine retQ_ret ?_; simp [hlt, hset, hC, hD])) | refine st_seq ?_ | refine st_block ?_ | ((with_reducible show (STri _ _ _ _ _) ∧ (STri _ _ _ _ _)); refine And.intro ?_ ?_) | ((first | refine st_reg ?_ | refine buildP_own ?_ | refine appP_frz ?_) <;> (simp -dsimp [hlt, hset, hC, hD]; (repeat (simp -dsimp (disch := (first | omega | assumption | (refine Bool.eq_false_iff.1 ?_; assumption))) only [wrap_in, if_pos, if_neg]; (try simp -dsimp [hlt, hset, hC, hD]))))) | ((first | refine guardP_of (fun hc => ?_) (fun hc => ?_) | refine st_cond rfl (fun hc => ?_) (fun hc => ?_)) <;> (try simp only [lqA, lqB, lqC, lqD, lqE, lqF, lqG, lqH, lqI, lqJ, lqK, lqL, lqM, lqN, lqO] at hc) <;> (try (exfalso; first | omega | exact bool_tf hc (by assumption) | exact bool_ft hc (by assumption) | exact absurd (by assumption) hc)) <;> (first | with_reducible show STri _ _ _ _ _ _ | (simp -dsimp [hlt, hset, hC, hD, hc]; (repeat (simp -dsimp (disch := (first | omega | assumption | (refine Bool.eq_false_iff.1 ?_; assumption))) only [wrap_in, if_pos, if_neg]; (try simp -dsimp [hlt, hset, hC, hD, hc]))))))))
    exact ⟨hlt, by simp, by simp, by simp⟩
  · have hkk : k = w.length := by omega
    subst hkk
    (repeat' (first | ((first | with_reducible refine st_skip ?_ | with_reducible refine st_exit ?_); (try simp only [seqQ, blockQ, loopQ, forQ, whileQ, reduceIte, Nat.reduceEqDiff])) | (with_reducible refine st_ret ?_; ((try simp only [seqQ, blockQ, loopQ, forQ, whileQ]); first | (with_reducible refine retM_ret ?_) | refine retQ_ret ?_; simp [hlt])) | refine st_seq ?_ | refine st_block ?_ | ((with_reducible show (STri _ _ _ _ _) ∧ (STri _ _ _ _ _)); refine And.intro ?_ ?_) | ((first | refine st_reg ?_ | refine buildP_own ?_ | refine appP_own ?_) <;> (simp -dsimp [hlt]; (repeat (simp -dsimp (disch := (first | omega | assumption | (refine Bool.eq_false_iff.1 ?_; assumption))) only [wrap_in, if_pos, if_neg]; (try simp -dsimp [hlt]))))) | ((first | refine guardP_of (fun hc => ?_) (fun hc => ?_) | refine st_cond rfl (fun hc => ?_) (fun hc => ?_)) <;> (try simp only [lqA, lqB, lqC, lqD, lqE, lqF, lqG, lqH, lqI, lqJ, lqK, lqL, lqM, lqN, lqO] at hc) <;> (try (exfalso; first | omega | exact bool_tf hc (by assumption) | exact bool_ft hc (by assumption) | exact absurd (by assumption) hc)) <;> (first | with_reducible show STri _ _ _ _ _ _ | (simp -dsimp [hlt, hc]; (repeat (simp -dsimp (disch := (first | omega | assumption | (refine Bool.eq_false_iff.1 ?_; assumption))) only [wrap_in, if_pos, if_neg]; (try simp -dsimp [hlt, hc]))))))))
    exact .refl _
set_option maxRecDepth 100000 in
theorem lUnchanged (w : List Wsrc) (hw : WLen w) (hl : w.length ≤ 1000000) (l : List Wnt) (hll : l.length ≤ 1000000) : SC Try.prog 19 [slSr w, slSr w, slN l, slN l] (B true) := by
  refine law_turretlaw08_unchanged _ _ (by simp) ?_
  (repeat' (first | ((first | with_reducible refine st_skip ?_ | with_reducible refine st_exit ?_); (try simp only [seqQ, blockQ, loopQ, forQ, whileQ, reduceIte, Nat.reduceEqDiff])) | (with_reducible refine st_ret ?_; ((try simp only [seqQ, blockQ, loopQ, forQ, whileQ]); first | (with_reducible refine retM_ret ?_) | refine retQ_ret ?_; simp)) | refine st_seq ?_ | refine st_block ?_ | ((with_reducible show (STri _ _ _ _ _) ∧ (STri _ _ _ _ _)); refine And.intro ?_ ?_) | ((first | refine st_reg ?_ | refine buildP_own ?_ | refine appP_own ?_) <;> (simp -dsimp; (repeat (simp -dsimp (disch := (first | omega | assumption | (refine Bool.eq_false_iff.1 ?_; assumption))) only [wrap_in, if_pos, if_neg]; (try simp -dsimp))))) | ((first | refine guardP_of (fun hc => ?_) (fun hc => ?_) | refine st_cond rfl (fun hc => ?_) (fun hc => ?_)) <;> (try simp only [lqA, lqB, lqC, lqD, lqE, lqF, lqG, lqH, lqI, lqJ, lqK, lqL, lqM, lqN, lqO] at hc) <;> (try (exfalso; first | omega | exact bool_tf hc (by assumption) | exact bool_ft hc (by assumption) | exact absurd (by assumption) hc)) <;> (first | with_reducible show STri _ _ _ _ _ _ | (simp -dsimp [hc]; (repeat (simp -dsimp (disch := (first | omega | assumption | (refine Bool.eq_false_iff.1 ?_; assumption))) only [wrap_in, if_pos, if_neg]; (try simp -dsimp [hc]))))))))
  refine st_for [] w.length (fun k T H => T = [(0, .c (slSr w)), (1, .c (slSr w)), (2, .c (slN l)), (3, .c (slN l)), (9, .c (I k))] ∧ H = []) (by simp) ⟨by simp, by simp⟩ ?_
  rintro k T H hk ⟨rfl, rfl⟩
  by_cases hlt : k < w.length
  · obtain ⟨s, hs⟩ : ∃ s, w[k] = s := ⟨_, rfl⟩
    have hg : ∀ h : k < w.length, w[k]'h = s := fun _ => hs
    have ht := hw.h s (by rw [← hs]; exact List.getElem_mem hlt)
    (repeat' (first | ((first | with_reducible refine st_skip ?_ | with_reducible refine st_exit ?_); (try simp only [seqQ, blockQ, loopQ, forQ, whileQ, reduceIte, Nat.reduceEqDiff])) | (with_reducible refine st_ret ?_; ((try simp only [seqQ, blockQ, loopQ, forQ, whileQ]); first | (with_reducible refine retM_ret ?_) | refine retQ_ret ?_; simp [hlt, hg])) | refine st_seq ?_ | refine st_block ?_ | ((with_reducible show (STri _ _ _ _ _) ∧ (STri _ _ _ _ _)); refine And.intro ?_ ?_) | ((first | refine st_reg ?_ | refine buildP_own ?_ | refine appP_own ?_) <;> (simp -dsimp [hlt, hg]; (repeat (simp -dsimp (disch := (first | omega | assumption | (refine Bool.eq_false_iff.1 ?_; assumption))) only [wrap_in, if_pos, if_neg]; (try simp -dsimp [hlt, hg]))))) | ((first | refine guardP_of (fun hc => ?_) (fun hc => ?_) | refine st_cond rfl (fun hc => ?_) (fun hc => ?_)) <;> (try simp only [lqA, lqB, lqC, lqD, lqE, lqF, lqG, lqH, lqI, lqJ, lqK, lqL, lqM, lqN, lqO] at hc) <;> (try (exfalso; first | omega | exact bool_tf hc (by assumption) | exact bool_ft hc (by assumption) | exact absurd (by assumption) hc)) <;> (first | with_reducible show STri _ _ _ _ _ _ | (simp -dsimp [hlt, hg, hc]; (repeat (simp -dsimp (disch := (first | omega | assumption | (refine Bool.eq_false_iff.1 ?_; assumption))) only [wrap_in, if_pos, if_neg]; (try simp -dsimp [hlt, hg, hc]))))))))
    refine st_for [] s.table.length (fun n T H => T = [(0, .c (slSr w)), (1, .c (slSr w)), (2, .c (slN l)), (3, .c (slN l)), (9, .c (I k)), (10, .c (I n))] ∧ H = []) (by simp) ⟨by simp, by simp⟩ ?_
    rintro n T H hn ⟨rfl, rfl⟩
    by_cases hlt2 : n < s.table.length
    · (repeat' (first | ((first | with_reducible refine st_skip ?_ | with_reducible refine st_exit ?_); (try simp only [seqQ, blockQ, loopQ, forQ, whileQ, reduceIte, Nat.reduceEqDiff])) | (with_reducible refine st_ret ?_; ((try simp only [seqQ, blockQ, loopQ, forQ, whileQ]); first | (with_reducible refine retM_ret ?_) | refine retQ_ret ?_; simp [hlt, hg, hlt2])) | refine st_seq ?_ | refine st_block ?_ | ((with_reducible show (STri _ _ _ _ _) ∧ (STri _ _ _ _ _)); refine And.intro ?_ ?_) | ((first | refine st_reg ?_ | refine buildP_own ?_ | refine appP_own ?_) <;> (simp -dsimp [hlt, hg, hlt2]; (repeat (simp -dsimp (disch := (first | omega | assumption | (refine Bool.eq_false_iff.1 ?_; assumption))) only [wrap_in, if_pos, if_neg]; (try simp -dsimp [hlt, hg, hlt2]))))) | ((first | refine guardP_of (fun hc => ?_) (fun hc => ?_) | refine st_cond rfl (fun hc => ?_) (fun hc => ?_)) <;> (try simp only [lqA, lqB, lqC, lqD, lqE, lqF, lqG, lqH, lqI, lqJ, lqK, lqL, lqM, lqN, lqO] at hc) <;> (try (exfalso; first | omega | exact bool_tf hc (by assumption) | exact bool_ft hc (by assumption) | exact absurd (by assumption) hc)) <;> (first | with_reducible show STri _ _ _ _ _ _ | (simp -dsimp [hlt, hg, hlt2, hc]; (repeat (simp -dsimp (disch := (first | omega | assumption | (refine Bool.eq_false_iff.1 ?_; assumption))) only [wrap_in, if_pos, if_neg]; (try simp -dsimp [hlt, hg, hlt2, hc]))))))))
      exact ⟨hlt2, by simp, by simp, by simp⟩
    · have hnn : n = s.table.length := by omega
      subst hnn
      (repeat' (first | ((first | with_reducible refine st_skip ?_ | with_reducible refine st_exit ?_); (try simp only [seqQ, blockQ, loopQ, forQ, whileQ, reduceIte, Nat.reduceEqDiff])) | (with_reducible refine st_ret ?_; ((try simp only [seqQ, blockQ, loopQ, forQ, whileQ]); first | (with_reducible refine retM_ret ?_) | refine retQ_ret ?_; simp [hlt, hg, hlt2])) | refine st_seq ?_ | refine st_block ?_ | ((with_reducible show (STri _ _ _ _ _) ∧ (STri _ _ _ _ _)); refine And.intro ?_ ?_) | ((first | refine st_reg ?_ | refine buildP_own ?_ | refine appP_own ?_) <;> (simp -dsimp [hlt, hg, hlt2]; (repeat (simp -dsimp (disch := (first | omega | assumption | (refine Bool.eq_false_iff.1 ?_; assumption))) only [wrap_in, if_pos, if_neg]; (try simp -dsimp [hlt, hg, hlt2]))))) | ((first | refine guardP_of (fun hc => ?_) (fun hc => ?_) | refine st_cond rfl (fun hc => ?_) (fun hc => ?_)) <;> (try simp only [lqA, lqB, lqC, lqD, lqE, lqF, lqG, lqH, lqI, lqJ, lqK, lqL, lqM, lqN, lqO] at hc) <;> (try (exfalso; first | omega | exact bool_tf hc (by assumption) | exact bool_ft hc (by assumption) | exact absurd (by assumption) hc)) <;> (first | with_reducible show STri _ _ _ _ _ _ | (simp -dsimp [hlt, hg, hlt2, hc]; (repeat (simp -dsimp (disch := (first | omega | assumption | (refine Bool.eq_false_iff.1 ?_; assumption))) only [wrap_in, if_pos, if_neg]; (try simp -dsimp [hlt, hg, hlt2, hc]))))))))
      exact ⟨hlt, by simp, by simp, by simp⟩
  · have hkk : k = w.length := by omega
    subst hkk
    (repeat' (first | ((first | with_reducible refine st_skip ?_ | with_reducible refine st_exit ?_); (try simp only [seqQ, blockQ, loopQ, forQ, whileQ, reduceIte, Nat.reduceEqDiff])) | (with_reducible refine st_ret ?_; ((try simp only [seqQ, blockQ, loopQ, forQ, whileQ]); first | (with_reducible refine retM_ret ?_) | refine retQ_ret ?_; simp [hlt])) | refine st_seq ?_ | refine st_block ?_ | ((with_reducible show (STri _ _ _ _ _) ∧ (STri _ _ _ _ _)); refine And.intro ?_ ?_) | ((first | refine st_reg ?_ | refine buildP_own ?_ | refine appP_own ?_) <;> (simp -dsimp [hlt]; (repeat (simp -dsimp (disch := (first | omega | assumption | (refine Bool.eq_false_iff.1 ?_; assumption))) only [wrap_in, if_pos, if_neg]; (try simp -dsimp [hlt]))))) | ((first | refine guardP_of (fun hc => ?_) (fun hc => ?_) | refine st_cond rfl (fun hc => ?_) (fun hc => ?_)) <;> (try simp only [lqA, lqB, lqC, lqD, lqE, lqF, lqG, lqH, lqI, lqJ, lqK, lqL, lqM, lqN, lqO] at hc) <;> (try (exfalso; first | omega | exact bool_tf hc (by assumption) | exact bool_ft hc (by assumption) | exact absurd (by assumption) hc)) <;> (first | with_reducible show STri _ _ _ _ _ _ | (simp -dsimp [hlt, hc]; (repeat (simp -dsimp (disch := (first | omega | assumption | (refine Bool.eq_false_iff.1 ?_; assumption))) only [wrap_in, if_pos, if_neg]; (try simp -dsimp [hlt, hc]))))))))
    refine st_for [] l.length (fun k T H => T = [(2, .c (slN l)), (3, .c (slN l)), (11, .c (I k))] ∧ H = []) (by simp) ⟨by simp, by simp⟩ ?_
    rintro k T H hk ⟨rfl, rfl⟩
    by_cases hlt2 : k < l.length
    · (repeat' (first | ((first | with_reducible refine st_skip ?_ | with_reducible refine st_exit ?_); (try simp only [seqQ, blockQ, loopQ, forQ, whileQ, reduceIte, Nat.reduceEqDiff])) | (with_reducible refine st_ret ?_; ((try simp only [seqQ, blockQ, loopQ, forQ, whileQ]); first | (with_reducible refine retM_ret ?_) | refine retQ_ret ?_; simp [hlt2])) | refine st_seq ?_ | refine st_block ?_ | ((with_reducible show (STri _ _ _ _ _) ∧ (STri _ _ _ _ _)); refine And.intro ?_ ?_) | ((first | refine st_reg ?_ | refine buildP_own ?_ | refine appP_own ?_) <;> (simp -dsimp [hlt2]; (repeat (simp -dsimp (disch := (first | omega | assumption | (refine Bool.eq_false_iff.1 ?_; assumption))) only [wrap_in, if_pos, if_neg]; (try simp -dsimp [hlt2]))))) | ((first | refine guardP_of (fun hc => ?_) (fun hc => ?_) | refine st_cond rfl (fun hc => ?_) (fun hc => ?_)) <;> (try simp only [lqA, lqB, lqC, lqD, lqE, lqF, lqG, lqH, lqI, lqJ, lqK, lqL, lqM, lqN, lqO] at hc) <;> (try (exfalso; first | omega | exact bool_tf hc (by assumption) | exact bool_ft hc (by assumption) | exact absurd (by assumption) hc)) <;> (first | with_reducible show STri _ _ _ _ _ _ | (simp -dsimp [hlt2, hc]; (repeat (simp -dsimp (disch := (first | omega | assumption | (refine Bool.eq_false_iff.1 ?_; assumption))) only [wrap_in, if_pos, if_neg]; (try simp -dsimp [hlt2, hc]))))))))
      exact ⟨hlt2, by simp, by simp, by simp⟩
    · have hkk : k = l.length := by omega
      subst hkk
      (repeat' (first | ((first | with_reducible refine st_skip ?_ | with_reducible refine st_exit ?_); (try simp only [seqQ, blockQ, loopQ, forQ, whileQ, reduceIte, Nat.reduceEqDiff])) | (with_reducible refine st_ret ?_; ((try simp only [seqQ, blockQ, loopQ, forQ, whileQ]); first | (with_reducible refine retM_ret ?_) | refine retQ_ret ?_; simp [hlt2])) | refine st_seq ?_ | refine st_block ?_ | ((with_reducible show (STri _ _ _ _ _) ∧ (STri _ _ _ _ _)); refine And.intro ?_ ?_) | ((first | refine st_reg ?_ | refine buildP_own ?_ | refine appP_own ?_) <;> (simp -dsimp [hlt2]; (repeat (simp -dsimp (disch := (first | omega | assumption | (refine Bool.eq_false_iff.1 ?_; assumption))) only [wrap_in, if_pos, if_neg]; (try simp -dsimp [hlt2]))))) | ((first | refine guardP_of (fun hc => ?_) (fun hc => ?_) | refine st_cond rfl (fun hc => ?_) (fun hc => ?_)) <;> (try simp only [lqA, lqB, lqC, lqD, lqE, lqF, lqG, lqH, lqI, lqJ, lqK, lqL, lqM, lqN, lqO] at hc) <;> (try (exfalso; first | omega | exact bool_tf hc (by assumption) | exact bool_ft hc (by assumption) | exact absurd (by assumption) hc)) <;> (first | with_reducible show STri _ _ _ _ _ _ | (simp -dsimp [hlt2, hc]; (repeat (simp -dsimp (disch := (first | omega | assumption | (refine Bool.eq_false_iff.1 ?_; assumption))) only [wrap_in, if_pos, if_neg]; (try simp -dsimp [hlt2, hc]))))))))
      exact .refl _
theorem lUnchangedW (w : List Wsrc) (hw : WLen w) (hl : w.length ≤ 1000000) : SC Try.prog 19 [slSr w, slSr w, .val (.slice none 0 0), .val (.slice none 0 0)] (B true) := by
  refine sc_cle (lUnchanged w hw hl [] (by simp)) rfl (fun i x y hx hy => ?_)
  rcases i with _ | _ | _ | _ | i
  · simp at hx hy; subst hx; subst hy; exact .refl _
  · simp at hx hy; subst hx; subst hy; exact .refl _
  · simp at hx hy; subst hx; subst hy; exact .nil 3
  · simp at hx hy; subst hx; subst hy; exact .nil 3
  · simp at hx
end Go.Proofs.Ytakdmliblijgmaa
/- Wire's laws, III: what the document's examples come to. -/
namespace Go.Proofs.Ytakdmliblijgmaa
open Go.RowKit
def exB (l : List Wnt) : Wbk := ⟨threeW, threeW.map errOf, l, 0, 200⟩
theorem ex_two : newErr threeW (notesW 2) 0 200 = 0 := by decide +kernel
theorem ex_far : newErr threeW (notesW 40) 0 200 = 0 := by decide +kernel
theorem ex_one : newErr threeW [⟨2, 86300, 2⟩] 0 200 = 0 := by decide +kernel
theorem ex_tail : newErr threeW [⟨1, 7000, 7098⟩, ⟨2, 86300, 40⟩] 0 200 = 0 := by decide +kernel
theorem ex_bk {l : List Wnt} (h : newErr threeW l 0 200 = 0) : newBk threeW l 0 200 = exB l := (new_ok h).1
theorem ex_s1 : spansL (exB [⟨2, 86300, 2⟩]) (fun m => decide (m = 0)) = [(99, 103)] := by decide +kernel
theorem ex_s2 : spansL (exB (notesW 2)) (fun m => decide (m = 0)) = [(100, 101)] := by decide +kernel
theorem ex_s3 : spansL (exB (notesW 40)) (fun m => decide (m = 0)) = [] := by decide +kernel
theorem ex_p : pairsTo (exB (notesW 40)) 3 3 = [(0, 2), (1, 2)] := by decide +kernel
theorem ex_f : fewN (exB (notesW 40)) = 1 := by decide +kernel
theorem ex_m : spansL (exB (notesW 40)) (fun m => decide (popN m = 1)) = [(100, 101)] := by decide +kernel
theorem ex_l : (leastS (exB (notesW 40))).map numsL = [[2]] := by
  unfold leastS
  rw [ex_f]
  decide +kernel
theorem ex_ll : leastL (exB (notesW 40)) = [[2]] := by
  unfold leastL sortL
  rw [ex_l]
  simp
def exT : Wbk := exB [⟨1, 7000, 7098⟩, ⟨2, 86300, 40⟩]
theorem ex_ft : fewN exT = 1 := by decide +kernel
theorem ex_lt : ∃ x y, (leastS exT).map numsL = [[x], [y]] := by
  unfold leastS
  rw [ex_ft]
  exact ⟨2, 1, by decide +kernel⟩
theorem ex_ct : convE (leastL exT) = (0, 6) := by
  obtain ⟨x, y, h⟩ := ex_lt
  have hp : (leastL exT).Perm [[x], [y]] := by
    unfold leastL sortL
    rw [h]
    exact List.mergeSort_perm _ _
  have hl := hp.length_eq
  match hq : leastL exT with
  | [] => rw [hq] at hl; simp at hl
  | [_] => rw [hq] at hl; simp at hl
  | _ :: _ :: _ :: _ => rw [hq] at hl; simp at hl
  | [a, b] =>
    have ha : a ∈ [[x], [y]] := hp.mem_iff.1 (by rw [hq]; simp)
    rcases List.mem_cons.1 ha with rfl | ha
    · rfl
    · rw [List.mem_singleton.1 ha]; rfl
theorem ex_str : strN (exB (notesW 40)) 2 = 35 := by
  have hb : BkOK (exB (notesW 40)) := by rw [← ex_bk ex_far]; exact new_bk ex_far
  refine leastN_is (by omega) (fun i hi => ?_) (fun _ => by decide +kernel)
  have h34 : fitB (wideB (exB (notesW 40)) 2 (34 : Nat)) = false := by decide +kernel
  cases hf : fitB (wideB (exB (notesW 40)) 2 (i : Nat)) with
  | false => rfl
  | true =>
    have := fit_mono hb (j := 2) (by decide) (y := (i : Nat)) (y' := (34 : Nat)) (by omega) hf
    rw [h34] at this; cases this
end Go.Proofs.Ytakdmliblijgmaa
/- Wire's laws, IV: known. -/
namespace Go.Proofs.Ytakdmliblijgmaa
open Go.RowKit
theorem three_len : WLen threeW := ⟨fun s hs => by
  unfold threeW at hs
  rcases List.mem_cons.1 hs with rfl | hs
  · simp
  rcases List.mem_cons.1 hs with rfl | hs
  · simp
  rcases List.mem_cons.1 hs with rfl | hs
  · simp
  · cases hs⟩
theorem k_spans : SC Try.prog 37 [slSr threeW, .agg [I 2, I 86300, I 2], .agg [I 0, I 200]] (.tup [slE [(99, 103)], I 0]) := by
  have h := sSpans threeW three_len ⟨2, 86300, 2⟩ 0 200
  rw [ex_one, if_pos rfl, ex_bk ex_one, ex_s1] at h
  exact h
theorem k_fits : SC Try.prog 16 [slSr threeW, slN (notesW 2), .agg [I 0, I 200]] (.tup [slE [(100, 101)], I 0]) := by
  have h := sFits threeW three_len (notesW 2) (by decide) 0 200
  rw [if_pos ex_two, if_pos ex_two, ex_bk ex_two, ex_s2, if_neg (by simp)] at h
  exact h
theorem k_none : SC Try.prog 16 [slSr threeW, slN (notesW 40), .agg [I 0, I 200]] (.tup [slE [], I 7]) := by
  have h := sFits threeW three_len (notesW 40) (by decide) 0 200
  rw [if_pos ex_far, if_pos ex_far, ex_bk ex_far, ex_s3, if_pos rfl] at h
  exact h
theorem k_pairs : SC Try.prog 17 [slSr threeW, slN (notesW 40), .agg [I 0, I 200]] (.tup [slP [(0, 2), (1, 2)], I 0]) := by
  have h := sPairs threeW three_len (notesW 40) (by decide) 0 200
  rw [ex_far, if_pos rfl, ex_bk ex_far, show threeW.length = 3 from rfl, ex_p] at h
  exact h
theorem k_most : SC Try.prog 18 [slSr threeW, slN (notesW 40), .agg [I 0, I 200]] (.tup [I 2, slE [(100, 101)], I 0]) := by
  have h := sMost threeW three_len (notesW 40) (by decide) 0 200
  rw [ex_far, if_pos rfl, if_pos rfl, ex_bk ex_far, ex_f, ex_m] at h
  exact h
theorem k_wrong : SC Try.prog 26 [slSr threeW, slN (notesW 40), .agg [I 0, I 200]] (.tup [slL [[2]], I 0]) := by
  have h := sWrongs threeW three_len (notesW 40) (by decide) 0 200
  rw [ex_far, if_pos rfl, ex_bk ex_far, ex_ll] at h
  exact h
theorem k_convict : SC Try.prog 27 [slSr threeW, slN (notesW 40), .agg [I 0, I 200]] (.tup [I 2, I 0]) := by
  have h := sConvict threeW three_len (notesW 40) (by decide) 0 200
  rw [ex_far, if_pos rfl, if_pos rfl, ex_bk ex_far, ex_ll] at h
  exact h
theorem k_twice : SC Try.prog 27 [slSr threeW, slN [⟨1, 7000, 7098⟩, ⟨2, 86300, 40⟩], .agg [I 0, I 200]] (.tup [I 0, I 6]) := by
  have h := sConvict threeW three_len [⟨1, 7000, 7098⟩, ⟨2, 86300, 40⟩] (by decide) 0 200
  rw [ex_tail, if_pos rfl, if_pos rfl, ex_bk ex_tail, show exB [⟨1, 7000, 7098⟩, ⟨2, 86300, 40⟩] = exT from rfl, ex_ct] at h
  exact h
theorem k_str : SC Try.prog 30 [slSr threeW, slN (notesW 40), .agg [I 0, I 200], I 2] (.tup [I 35, I 0]) := by
  have h := sStretch threeW three_len (notesW 40) (by decide) 0 200 2
  rw [if_pos ex_far, if_pos ex_far, ex_bk ex_far, show (2 : Int).toNat = 2 from rfl, ex_str] at h
  have q1 : within1 0 ((threeW.length : Int) - 1) 2 = true := by decide
  have q2 : (35 : Nat) ≤ 10000 := by omega
  rw [if_pos q1, if_pos q1, if_pos q2, if_pos q2] at h
  exact h
set_option maxRecDepth 100000 in
set_option maxHeartbeats 2000000 in
theorem sKnown : SC Try.prog 13 [] (B true) := by
  refine law_turretlaw08_known _ _ (by simp) ?_
  have t1 := lThree
  have t2 := lNotes 2
  have t3 := lNotes 40
  have a1 := k_spans
  have a2 := k_fits
  have a3 := k_none
  have a4 := k_pairs
  have a5 := k_most
  have a6 := k_wrong
  have a7 := k_convict
  have a8 := k_twice
  have a9 := k_str
  unfold notesW at *
  generalize threeW = w3 at *
  (repeat' (first | ((first | with_reducible refine st_skip ?_ | with_reducible refine st_exit ?_); (try simp only [seqQ, blockQ, loopQ, forQ, whileQ, reduceIte, Nat.reduceEqDiff])) | (with_reducible refine st_ret ?_; ((try simp only [seqQ, blockQ, loopQ, forQ, whileQ]); first | (with_reducible refine retM_ret ?_) | refine retQ_ret ?_; simp [rowP])) | refine st_seq ?_ | refine st_block ?_ | ((with_reducible show (STri _ _ _ _ _) ∧ (STri _ _ _ _ _)); refine And.intro ?_ ?_) | ((first | refine st_reg ?_ | refine buildP_own ?_ | refine appP_own ?_ | refine callP_b (t1) rfl ?_ | refine callP_b (t2) rfl ?_ | refine callP_b (t3) rfl ?_ | refine callP_b (lSpan 0 200) rfl ?_ | refine callP_b (lSpan 99 103) rfl ?_ | refine callP_b (lSpan 100 101) rfl ?_ | refine callP_b (a1) rfl ?_ | refine callP_b (a2) rfl ?_ | refine callP_b (a3) rfl ?_ | refine callP_b (a4) rfl ?_ | refine callP_b (a5) rfl ?_ | refine callP_b (a6) rfl ?_ | refine callP_b (a7) rfl ?_ | refine callP_b (a8) rfl ?_ | refine callP_b (a9) rfl ?_) <;> (simp -dsimp [rowP]; (repeat (simp -dsimp (disch := (first | omega | assumption | (refine Bool.eq_false_iff.1 ?_; assumption))) only [wrap_in, if_pos, if_neg]; (try simp -dsimp [rowP]))))) | ((first | refine guardP_of (fun hc => ?_) (fun hc => ?_) | refine st_cond rfl (fun hc => ?_) (fun hc => ?_)) <;> (try simp only [lqA, lqB, lqC, lqD, lqE, lqF, lqG, lqH, lqI, lqJ, lqK, lqL, lqM, lqN, lqO] at hc) <;> (try (exfalso; first | omega | exact bool_tf hc (by assumption) | exact bool_ft hc (by assumption) | exact absurd (by assumption) hc)) <;> (first | with_reducible show STri _ _ _ _ _ _ | (simp -dsimp [rowP, hc]; (repeat (simp -dsimp (disch := (first | omega | assumption | (refine Bool.eq_false_iff.1 ?_; assumption))) only [wrap_in, if_pos, if_neg]; (try simp -dsimp [rowP, hc]))))))))
  all_goals exact .refl _
end Go.Proofs.Ytakdmliblijgmaa
/- Wire's laws, V: WireChecks. -/
namespace Go.Proofs.Ytakdmliblijgmaa
open Go.RowKit
theorem large_no {w : List Wsrc} {l : List Wnt} {nlo nhi : Int} (h : largeB w l nlo nhi = false) : WLen w ∧ w.length ≤ 12 ∧ l.length ≤ 65 := by
  unfold largeB at h
  simp only [Bool.or_eq_false_iff] at h
  obtain ⟨⟨⟨⟨h1, h2⟩, h3⟩, h4⟩, h5⟩ := h
  simp only [decide_eq_false_iff_not] at h2 h4
  refine ⟨⟨fun s hs => ?_⟩, by omega, by omega⟩
  rw [← List.take_of_length_le (l := w) (i := 13) (by omega)] at hs
  have := List.any_eq_false.1 h1 s hs
  unfold bigB at this; simp at this; omega
theorem new_span {w : List Wsrc} {l : List Wnt} {nlo nhi : Int} (h : newErr w l nlo nhi = 0) : -7200 ≤ nlo ∧ nlo ≤ nhi ∧ nhi ≤ 7200 := by
  obtain ⟨_, _, _, _, _, h5⟩ := new_ok h
  unfold spanW at h5; simp at h5; omega
theorem new_ref {w : List Wsrc} {l : List Wnt} {nlo nhi : Int} (h : newErr w l nlo nhi = 0) : RefOK (newBk w l nlo nhi) := by
  obtain ⟨e, h1, h2, h3, h4, h5⟩ := new_ok h
  have hb := new_bk h
  rw [e] at hb ⊢
  have hz : 1 ≤ w.length ∧ w.length ≤ 10 := by unfold sizeW within1 at h1; simp at h1; omega
  refine ⟨hb.len, hz.1, rfl, fun s hs => ?_, hb.nl, hb.no, hb.n0, hb.n1, hb.n2⟩
  have := hb.va s hs
  unfold validV baseV spanW at this
  simp at this
  exact ⟨this.1.1, this.2, by omega, by omega, by omega, by omega⟩
theorem chk_err (w : List Wsrc) : newErr w [] 0 0 = if (sizeW w && w.all validV) = true then 0 else 2 := by
  have hn : notesErr w [] = 0 := rfl
  have hs : spanW 0 0 7200 = true := by decide
  unfold newErr
  by_cases h1 : sizeW w = true
  · by_cases h2 : w.all validV = true
    · rw [h1, h2, hn, hs]; simp
    · rw [Bool.not_eq_true] at h2
      rw [h1, h2]; simp
  · rw [Bool.not_eq_true] at h1
    rw [h1]; simp
theorem spans_congr {b : Wbk} {p q : Nat → Bool} (h : ∀ x ∈ allL b, p x.2 = q x.2) : spansL b p = spansL b q := by
  unfold spansL
  generalize ([] : List (Int × Int)) = acc
  generalize allL b = l at *
  induction l generalizing acc with
  | nil => rfl
  | cons x l ih =>
    rw [List.foldl_cons, List.foldl_cons]
    have e : spanStep p acc x = spanStep q acc x := by
      unfold spanStep
      rw [h x (by simp)]
    rw [e]
    exact ih _ fun y hy => h y (by simp [hy])
theorem pop_zero2 : popN 0 = 0 := by decide
theorem spans_zero {b : Wbk} (hb : BkOK b) : spansL b (fun m => decide (popN m = 0)) = spansL b fun m => decide (m = 0) := by
  refine spans_congr fun x hx => ?_
  have hlt := set_lt hb (mem_setsL.2 ⟨x, hx, rfl⟩)
  rw [Bool.eq_iff_iff, decide_eq_true_eq, decide_eq_true_eq]
  exact ⟨pop_zero x.2 hlt, fun e => by rw [e]; exact pop_zero2⟩
theorem spansL_len {b : Wbk} (hb : BkOK b) (p : Nat → Bool) : (spansL b p).length ≤ 20000 := by
  have h1 := spansTo_len b p (allL b).length (by omega)
  have h2 : spansTo b p (allL b).length = spansL b p := by unfold spansTo spansL; rw [List.take_length]
  rw [h2] at h1
  have h3 := allL_len b
  have n0 := hb.n0
  have n2 := hb.n2
  unfold bookN at h3
  omega
theorem new_nz {w : List Wsrc} {l : List Wnt} {nlo nhi : Int} (h : newErr w l nlo nhi = 0) : (newBk w l nlo nhi).srcs = w ∧ (newBk w l nlo nhi).errs = w.map errOf ∧ (newBk w l nlo nhi).notes = l ∧ (newBk w l nlo nhi).nlo = nlo ∧ (newBk w l nlo nhi).nhi = nhi := by
  rw [(new_ok h).1]; exact ⟨rfl, rfl, rfl, rfl, rfl⟩
set_option maxRecDepth 100000 in
theorem lChecks (w : List Wsrc) (n : Wnt) (nlo nhi : Int) : SC Try.prog 11 [slSr w, cN n, .agg [I nlo, I nhi]] (B true) := by
  refine law_turretlaw08_WireChecks _ _ (by simp) ?_
  have ll := lLarge w [n] nlo nhi new_span
  have kn := sKnown
  by_cases hlg : largeB w [n] nlo nhi = true
  case pos =>
    rw [hlg] at ll
    (repeat' (first | ((first | with_reducible refine st_skip ?_ | with_reducible refine st_exit ?_); (try simp only [seqQ, blockQ, loopQ, forQ, whileQ, reduceIte, Nat.reduceEqDiff])) | (with_reducible refine st_ret ?_; ((try simp only [seqQ, blockQ, loopQ, forQ, whileQ]); first | (with_reducible refine retM_ret ?_) | refine retQ_ret ?_; simp)) | refine st_seq ?_ | refine st_block ?_ | ((with_reducible show (STri _ _ _ _ _) ∧ (STri _ _ _ _ _)); refine And.intro ?_ ?_) | ((first | refine st_reg ?_ | refine buildP_own ?_ | refine appP_own ?_ | refine callP_b (ll) rfl ?_ | refine callP_b (kn) rfl ?_) <;> (simp -dsimp; (repeat (simp -dsimp (disch := (first | omega | assumption | (refine Bool.eq_false_iff.1 ?_; assumption))) only [wrap_in, if_pos, if_neg]; (try simp -dsimp))))) | ((first | refine guardP_of (fun hc => ?_) (fun hc => ?_) | refine st_cond rfl (fun hc => ?_) (fun hc => ?_)) <;> (try simp only [lqA, lqB, lqC, lqD, lqE, lqF, lqG, lqH, lqI, lqJ, lqK, lqL, lqM, lqN, lqO] at hc) <;> (try (exfalso; first | omega | exact bool_tf hc (by assumption) | exact bool_ft hc (by assumption) | exact absurd (by assumption) hc)) <;> (first | with_reducible show STri _ _ _ _ _ _ | (simp -dsimp [hc]; (repeat (simp -dsimp (disch := (first | omega | assumption | (refine Bool.eq_false_iff.1 ?_; assumption))) only [wrap_in, if_pos, if_neg]; (try simp -dsimp [hc]))))))))
    all_goals exact .refl _
  rw [Bool.not_eq_true] at hlg
  obtain ⟨hw, hwl, _⟩ := large_no hlg
  rw [hlg] at ll
  have c1 := lSources w hw (by omega)
  have c2 := sCheck w hw
  have c3 := sSpans w hw n nlo nhi
  have c4 := lUnchangedW w hw (by omega)
  have c5 := rSources w hw (by omega)
  have c6 := rNotes w hw (by omega) [n] (by simp) nlo nhi
  rw [chk_err] at c2
  have hce : ∀ q : Bool, q = (sizeW w && w.all validV) → (if (sizeW w && w.all validV) = true then (0 : Int) else 2) = if q = true then 0 else 2 := fun q e => by rw [e]
  by_cases her : newErr w [n] nlo nhi = 0
  · have hb := new_bk her
    have hr := new_ref her
    obtain ⟨e1, e2, e3, e4, e5⟩ := new_nz her
    have c7 := rAll _ hr
    have c8 := rSpans _ hb 0
    rw [spans_zero hb] at c8
    have hsl := spansL_len hb fun m => decide (m = 0)
    rw [e1, e3, e4, e5] at c7
    rw [e4, e5] at c8
    obtain ⟨h1, h2⟩ := (new_ok her).2
    rw [if_pos (by simp [h1, h2.1])] at c2
    rw [if_pos her, her] at c3
    rw [her] at c6
    have hst : (sizeW w && w.all validV) = true := by simp [h1, h2.1]
    rw [hst] at c5
    generalize spansL (newBk w [n] nlo nhi) (fun m => decide (m = 0)) = r at *
    have c9 := rSame r (by omega)
    generalize allB (newBk w [n] nlo nhi) = al at *
    clear hce
    (repeat' (first | ((first | with_reducible refine st_skip ?_ | with_reducible refine st_exit ?_); (try simp only [seqQ, blockQ, loopQ, forQ, whileQ, reduceIte, Nat.reduceEqDiff])) | (with_reducible refine st_ret ?_; ((try simp only [seqQ, blockQ, loopQ, forQ, whileQ]); first | (with_reducible refine retM_ret ?_) | refine retQ_ret ?_; simp)) | refine st_seq ?_ | refine st_block ?_ | ((with_reducible show (STri _ _ _ _ _) ∧ (STri _ _ _ _ _)); refine And.intro ?_ ?_) | ((first | refine st_reg ?_ | refine buildP_frz ?_ | refine appP_own ?_ | refine callP_b (ll) rfl ?_ | refine callP_b (kn) rfl ?_ | refine callP_b (c1) rfl ?_ | refine callP_b (c2) rfl ?_ | refine callP_b (c3) rfl ?_ | refine callP_b (c4) rfl ?_ | refine callP_b (c5) rfl ?_ | refine callP_b (c6) rfl ?_ | refine callP_b (c7) rfl ?_ | refine callP_b (c8) rfl ?_ | refine callP_b (c9) rfl ?_) <;> (simp -dsimp; (repeat (simp -dsimp (disch := (first | omega | assumption | (refine Bool.eq_false_iff.1 ?_; assumption))) only [wrap_in, if_pos, if_neg]; (try simp -dsimp))))) | ((first | refine guardP_of (fun hc => ?_) (fun hc => ?_) | refine st_cond rfl (fun hc => ?_) (fun hc => ?_)) <;> (try simp only [lqA, lqB, lqC, lqD, lqE, lqF, lqG, lqH, lqI, lqJ, lqK, lqL, lqM, lqN, lqO] at hc) <;> (try (exfalso; first | omega | exact bool_tf hc (by assumption) | exact bool_ft hc (by assumption) | exact absurd (by assumption) hc)) <;> (first | with_reducible show STri _ _ _ _ _ _ | (simp -dsimp [hc]; (repeat (simp -dsimp (disch := (first | omega | assumption | (refine Bool.eq_false_iff.1 ?_; assumption))) only [wrap_in, if_pos, if_neg]; (try simp -dsimp [hc]))))))))
    all_goals exact .refl _
  · rw [if_neg her] at c3
    generalize newErr w [n] nlo nhi = er at *
    by_cases hst : (sizeW w && w.all validV) = true
    · rw [if_pos hst] at c2
      rw [hst] at c5
      clear hce
      (repeat' (first | ((first | with_reducible refine st_skip ?_ | with_reducible refine st_exit ?_); (try simp only [seqQ, blockQ, loopQ, forQ, whileQ, reduceIte, Nat.reduceEqDiff])) | (with_reducible refine st_ret ?_; ((try simp only [seqQ, blockQ, loopQ, forQ, whileQ]); first | (with_reducible refine retM_ret ?_) | refine retQ_ret ?_; simp [her])) | refine st_seq ?_ | refine st_block ?_ | ((with_reducible show (STri _ _ _ _ _) ∧ (STri _ _ _ _ _)); refine And.intro ?_ ?_) | ((first | refine st_reg ?_ | refine buildP_own ?_ | refine appP_own ?_ | refine callP_b (ll) rfl ?_ | refine callP_b (kn) rfl ?_ | refine callP_b (c1) rfl ?_ | refine callP_b (c2) rfl ?_ | refine callP_b (c3) rfl ?_ | refine callP_b (c4) rfl ?_ | refine callP_b (c5) rfl ?_ | refine callP_b (c6) rfl ?_) <;> (simp -dsimp [her]; (repeat (simp -dsimp (disch := (first | omega | assumption | (refine Bool.eq_false_iff.1 ?_; assumption))) only [wrap_in, if_pos, if_neg]; (try simp -dsimp [her]))))) | ((first | refine guardP_of (fun hc => ?_) (fun hc => ?_) | refine st_cond rfl (fun hc => ?_) (fun hc => ?_)) <;> (try simp only [lqA, lqB, lqC, lqD, lqE, lqF, lqG, lqH, lqI, lqJ, lqK, lqL, lqM, lqN, lqO] at hc) <;> (try (exfalso; first | omega | exact bool_tf hc (by assumption) | exact bool_ft hc (by assumption) | exact absurd (by assumption) hc)) <;> (first | with_reducible show STri _ _ _ _ _ _ | (simp -dsimp [her, hc]; (repeat (simp -dsimp (disch := (first | omega | assumption | (refine Bool.eq_false_iff.1 ?_; assumption))) only [wrap_in, if_pos, if_neg]; (try simp -dsimp [her, hc]))))))))
      all_goals exact .refl _
    · rw [if_neg hst] at c2
      rw [Bool.not_eq_true] at hst
      rw [hst] at c5
      clear hce
      (repeat' (first | ((first | with_reducible refine st_skip ?_ | with_reducible refine st_exit ?_); (try simp only [seqQ, blockQ, loopQ, forQ, whileQ, reduceIte, Nat.reduceEqDiff])) | (with_reducible refine st_ret ?_; ((try simp only [seqQ, blockQ, loopQ, forQ, whileQ]); first | (with_reducible refine retM_ret ?_) | refine retQ_ret ?_; simp [her])) | refine st_seq ?_ | refine st_block ?_ | ((with_reducible show (STri _ _ _ _ _) ∧ (STri _ _ _ _ _)); refine And.intro ?_ ?_) | ((first | refine st_reg ?_ | refine buildP_own ?_ | refine appP_own ?_ | refine callP_b (ll) rfl ?_ | refine callP_b (kn) rfl ?_ | refine callP_b (c1) rfl ?_ | refine callP_b (c2) rfl ?_ | refine callP_b (c3) rfl ?_ | refine callP_b (c4) rfl ?_ | refine callP_b (c5) rfl ?_ | refine callP_b (c6) rfl ?_) <;> (simp -dsimp [her]; (repeat (simp -dsimp (disch := (first | omega | assumption | (refine Bool.eq_false_iff.1 ?_; assumption))) only [wrap_in, if_pos, if_neg]; (try simp -dsimp [her]))))) | ((first | refine guardP_of (fun hc => ?_) (fun hc => ?_) | refine st_cond rfl (fun hc => ?_) (fun hc => ?_)) <;> (try simp only [lqA, lqB, lqC, lqD, lqE, lqF, lqG, lqH, lqI, lqJ, lqK, lqL, lqM, lqN, lqO] at hc) <;> (try (exfalso; first | omega | exact bool_tf hc (by assumption) | exact bool_ft hc (by assumption) | exact absurd (by assumption) hc)) <;> (first | with_reducible show STri _ _ _ _ _ _ | (simp -dsimp [her, hc]; (repeat (simp -dsimp (disch := (first | omega | assumption | (refine Bool.eq_false_iff.1 ?_; assumption))) only [wrap_in, if_pos, if_neg]; (try simp -dsimp [her, hc]))))))))
      all_goals exact .refl _
end Go.Proofs.Ytakdmliblijgmaa
/- From a contract by value to a given statement: arguments of plain types are opened, and read again behind the call. -/
namespace Go.Proofs.Ytakdmliblijgmaa
open Go.RowKit Go.ChangeShapes Go.WideShapes
section
variable {P : Program}
def tyF (P : Program) (r : TypeId → List CV → Prop) : List Field → List CV → Prop
  | [], cs => cs = []
  | f :: fs, cs => ∃ c1 c2, cs = c1 ++ c2 ∧ r f.type c1 ∧ tyF P r fs c2
def tyA (r : List CV → Prop) : Nat → List CV → Prop
  | 0, cs => cs = []
  | n + 1, cs => ∃ c1 c2, cs = c1 ++ c2 ∧ r c1 ∧ tyA r n c2
def tyC (P : Program) : Nat → TypeId → List CV → Prop
  | 0, _, _ => False
  | d + 1, t, cs => match P.underlying t with
    | some .bool => ∃ b, cs = [.val (.bool b)]
    | some (.int k) => ∃ n, cs = [.val (.int k n)] ∧ (Lit.int k n).wf = true
    | some (.slice e) => ∃ rows, cs = [.sl (P.cellsOf e) rows] ∧ rows.length ≤ maxLen ∧ ∀ row ∈ rows, tyC P d e row
    | some (.struct fs) => tyF P (tyC P d) fs.toList cs
    | some (.array n e) => tyA (tyC P d e) n cs
    | _ => False
theorem tyC_int {d : Nat} {t : TypeId} {k : IntKind} {cs : List CV} (hu : P.underlying t = some (.int k)) (h : tyC P d t cs) : ∃ n, cs = [.val (.int k n)] ∧ (Lit.int k n).wf = true := by
  cases d with
  | zero => exact h.elim
  | succ d => unfold tyC at h; rw [hu] at h; exact h
theorem tyC_slice {d : Nat} {t e : TypeId} {cs : List CV} (hu : P.underlying t = some (.slice e)) (h : tyC P d t cs) : ∃ d' rows, cs = [.sl (P.cellsOf e) rows] ∧ rows.length ≤ maxLen ∧ ∀ row ∈ rows, tyC P d' e row := by
  cases d with
  | zero => exact h.elim
  | succ d => unfold tyC at h; rw [hu] at h; exact ⟨d, h⟩
theorem tyC_struct {d : Nat} {t : TypeId} {fs : Array Field} {cs : List CV} (hu : P.underlying t = some (.struct fs)) (h : tyC P d t cs) : ∃ d', tyF P (tyC P d') fs.toList cs := by
  cases d with
  | zero => exact h.elim
  | succ d => unfold tyC at h; rw [hu] at h; exact ⟨d, h⟩
theorem rows_map {α : Type} {f : α → List CV} : ∀ {rows : List (List CV)}, (∀ row ∈ rows, ∃ x, row = f x) → ∃ xs : List α, rows = xs.map f
  | [], _ => ⟨[], rfl⟩
  | r :: rs, h => by
    obtain ⟨x, rfl⟩ := h r (by simp)
    obtain ⟨xs, rfl⟩ := rows_map (rows := rs) (fun r hr => h r (by simp [hr]))
    exact ⟨x :: xs, rfl⟩
theorem agg_cells {v : Value} (h : v.cells.size ≠ 1) : v = .agg v.cells := by
  cases v <;> first | rfl | (exact absurd rfl h)
def tileB (P : Program) : List Field → Nat → Nat → Bool
  | [], acc, n => acc == n
  | f :: fs, acc, n => f.offset == acc && tileB P fs (acc + P.cellsOf f.type) n
def plainB (P : Program) : Nat → TypeId → Bool
  | 0, _ => false
  | d + 1, t => match P.underlying t with
    | some .bool => P.cellsOf t == 1
    | some (.int _) => P.cellsOf t == 1
    | some (.slice e) => P.cellsOf t == 1 && decide (0 < P.cellsOf e) && plainB P d e
    | some (.struct fs) => tileB P fs.toList 0 (P.cellsOf t) && fs.toList.all fun f => plainB P d f.type
    | some (.array n e) => P.cellsOf t == n * P.cellsOf e && plainB P d e
    | _ => false
theorem tile_le : ∀ {fs : List Field} {acc n : Nat}, tileB P fs acc n = true → acc ≤ n
  | [], _, _, h => by simp [tileB] at h; omega
  | f :: fs, acc, n, h => by
    simp only [tileB, Bool.and_eq_true] at h
    have := tile_le h.2
    omega
theorem tyF_len {fs : List Field} {r : TypeId → List CV → Prop} (hr : ∀ (f : Field) c, f ∈ fs → r f.type c → c.length = P.cellsOf f.type ∧ c.all CV.one = true) : ∀ {fs' : List Field}, (∀ f ∈ fs', f ∈ fs) → ∀ {acc n : Nat} {cs : List CV}, tileB P fs' acc n = true → tyF P r fs' cs → acc + cs.length = n ∧ cs.all CV.one = true
  | [], _, acc, n, cs, ht, h => by simp [tileB] at ht; simp [tyF] at h; subst h; simp [ht]
  | f :: fs', hm, acc, n, cs, ht, h => by
    simp only [tileB, Bool.and_eq_true] at ht
    obtain ⟨c1, c2, rfl, h1, h2⟩ := h
    obtain ⟨l1, o1⟩ := hr f c1 (hm f (by simp)) h1
    obtain ⟨l2, o2⟩ := tyF_len hr (fun g hg => hm g (by simp [hg])) ht.2 h2
    rw [List.length_append, List.all_append, o1, o2]
    exact ⟨by omega, rfl⟩
theorem tyA_len {r : List CV → Prop} {k : Nat} (hr : ∀ c, r c → c.length = k ∧ c.all CV.one = true) : ∀ {n : Nat} {cs : List CV}, tyA r n cs → cs.length = n * k ∧ cs.all CV.one = true
  | 0, cs, h => by simp [tyA] at h; subst h; simp
  | n + 1, cs, h => by
    obtain ⟨c1, c2, rfl, h1, h2⟩ := h
    obtain ⟨l1, o1⟩ := hr c1 h1
    obtain ⟨l2, o2⟩ := tyA_len hr h2
    rw [List.length_append, List.all_append, o1, o2, l1, l2, Nat.succ_mul]
    exact ⟨by omega, rfl⟩
theorem tyC_len : ∀ {d : Nat} {t : TypeId} {cs : List CV}, plainB P d t = true → tyC P d t cs → cs.length = P.cellsOf t ∧ cs.all CV.one = true
  | 0, _, _, hp, _ => by simp [plainB] at hp
  | d + 1, t, cs, hp, h => by
    unfold plainB at hp
    unfold tyC at h
    split at hp <;> rename_i hu
    · rw [hu] at h; obtain ⟨b, rfl⟩ := h; simp at hp; simp [hp, CV.one]
    · rw [hu] at h; obtain ⟨n, rfl, _⟩ := h; simp at hp; simp [hp, CV.one]
    · rw [hu] at h; obtain ⟨rows, rfl, _⟩ := h; simp at hp; simp [hp.1.1, CV.one]
    · rw [hu] at h
      simp only [Bool.and_eq_true, List.all_eq_true] at hp
      obtain ⟨l, o⟩ := tyF_len (P := P) (fun f c hf hc => tyC_len (hp.2 f hf) hc) (fun f hf => hf) hp.1 h
      exact ⟨by omega, o⟩
    · rw [hu] at h
      simp only [Bool.and_eq_true, beq_iff_eq] at hp
      obtain ⟨l, o⟩ := tyA_len (fun c hc => tyC_len hp.2 hc) h
      exact ⟨by rw [l, hp.1], o⟩
    · simp at hp
def RCs (w : World) (cs : List CV) (vs : List Value) : Prop := cs.length = vs.length ∧ ∀ (i : Nat) x v, cs[i]? = some x → vs[i]? = some v → RepC w (fun _ => False) x v
theorem RCs.append {w : World} {a b : List CV} {c d : List Value} (h : RCs w a c) (k : RCs w b d) : RCs w (a ++ b) (c ++ d) := by
  refine ⟨by rw [List.length_append, List.length_append, h.1, k.1], fun i x v hx hv => ?_⟩
  rw [List.getElem?_append] at hx hv
  rw [← h.1] at hv
  split at hx
  · rename_i hi; rw [if_pos hi] at hv; exact h.2 i x v hx hv
  · rename_i hi; rw [if_neg hi] at hv; exact k.2 _ x v hx hv
theorem RCs.one {w : World} {x : CV} {v : Value} (h : RepC w (fun _ => False) x v) : RCs w [x] [v] := ⟨rfl, fun i y u hx hv => by
  cases i with
  | zero => cases hx; cases hv; exact h
  | succ i => simp at hx⟩
section
variable {H : Type} {enc : TypeId × Value → H} {w : World} {spare : Nat → Bool} {held : Bool}
theorem cell_at {w : World} {a : Addr} {k len i j : Nat} {vr : List Value} (ha : a.spot = none) (h : w.cells? 0 (a.add (i * k)) k = some vr) (hj : j < k) : w.cell? ⟨a.block, a.off + i * k + j, none⟩ = vr[j]? := by
  obtain ⟨_, _, h3⟩ := World.cells?_some h
  rw [← h3 j hj]
  have e : ∀ m : Nat, a.add m = ⟨a.block, a.off + m, none⟩ := fun m => by
    unfold Addr.add
    split
    · rename_i h0; subst h0; cases a; simp at ha; simp [ha]
    · rfl
  rw [e]
  unfold Addr.add
  split
  · rename_i h0; subst h0; rfl
  · rfl
theorem open_tyC : ∀ {d n : Nat} {t : TypeId} {vs : List Value} {x : DataW H × List MemPlace}, plainB P d t = true → DataW.trod enc P w 0 spare held n t vs = some x → ∃ cs, tyC P d t cs ∧ RCs w cs vs
  | 0, _, _, _, _, hp, _ => by simp [plainB] at hp
  | d + 1, n, t, vs, x, hp, h => by
    unfold plainB at hp
    split at hp <;> rename_i hu
    · obtain ⟨b, rfl, _⟩ := DataW.trod_bool hu h
      exact ⟨[.val (.bool b)], by unfold tyC; rw [hu]; exact ⟨b, rfl⟩, .one (.val _)⟩
    · rename_i k
      obtain ⟨m, rfl, _, hw⟩ := DataW.trod_int hu h
      exact ⟨[.val (.int k m)], by unfold tyC; rw [hu]; exact ⟨m, rfl, hw⟩, .one (.val _)⟩
    · rename_i e
      simp only [Bool.and_eq_true, beq_iff_eq, decide_eq_true_eq] at hp
      obtain ⟨⟨_, hk⟩, hpe⟩ := hp
      rcases DataW.trod_slice hu h with ⟨rfl, _⟩ | ⟨a, len, cap, elems, rest, m, _, rfl, _, _, hl, hm, hlen, hel, _⟩
      · exact ⟨[.sl (P.cellsOf e) []], by unfold tyC; rw [hu]; exact ⟨[], rfl, Nat.zero_le _, by simp⟩, .one (.nil _ none 0 (Nat.zero_le _))⟩
      · have hrow : ∀ i, i < len → ∃ vr cr, w.cells? 0 (a.add (i * P.cellsOf e)) (P.cellsOf e) = some vr ∧ tyC P d e cr ∧ RCs w cr vr := fun i hi => by
          have h1 := hel i hi
          rw [List.getElem?_eq_getElem (by omega)] at h1
          obtain ⟨vr, h2, h3⟩ := Option.bind_eq_some_iff.1 h1
          obtain ⟨cr, h4, h5⟩ := open_tyC hpe h3
          exact ⟨vr, cr, h2, h4, h5⟩
        by_cases h0 : len = 0
        · subst h0
          exact ⟨[.sl (P.cellsOf e) []], by unfold tyC; rw [hu]; exact ⟨[], rfl, Nat.zero_le _, by simp⟩, .one (.nil _ (some a) cap hm)⟩
        have hch : ∃ (V : Nat → List Value) (C : Nat → List CV), ∀ i, i < len → w.cells? 0 (a.add (i * P.cellsOf e)) (P.cellsOf e) = some (V i) ∧ tyC P d e (C i) ∧ RCs w (C i) (V i) := by
          refine ⟨fun i => if h : i < len then Classical.choose (hrow i h) else [], fun i => if h : i < len then Classical.choose (Classical.choose_spec (hrow i h)) else [], fun i hi => ?_⟩
          simp only [dif_pos hi]
          exact Classical.choose_spec (Classical.choose_spec (hrow i hi))
        obtain ⟨V, C, hVC⟩ := hch
        have hfirst := hVC 0 (by omega)
        have hsp : a.spot = none := by
          obtain ⟨_, l1, h3⟩ := World.cells?_some hfirst.1
          have h4 := h3 0 hk
          rw [List.getElem?_eq_getElem (by omega)] at h4
          simp only [Nat.zero_mul, Addr.add, if_true] at h4
          unfold World.cell? at h4
          split at h4
          · split at h4
            · cases h4
            · rename_i hs; simpa using hs
          · cases h4
        have hblk : a.block < w.heap.size := by
          have := World.cells?_block hfirst.1 hk
          simpa [Addr.add] using this
        have hlenC : ∀ i, i < len → (C i).length = P.cellsOf e ∧ (C i).all CV.one = true := fun i hi => tyC_len hpe (hVC i hi).2.1
        have hget : ∀ (j : Nat) row, ((List.range len).map C)[j]? = some row → j < len ∧ row = C j := fun j row hj => by
          rw [List.getElem?_map] at hj
          obtain ⟨i, hi, rfl⟩ := Option.map_eq_some_iff.1 hj
          obtain ⟨h1, h2⟩ := List.getElem?_eq_some_iff.1 hi
          simp at h1 h2; subst h2; exact ⟨h1, rfl⟩
        have hsl := RepC.sl (w := w) (N := fun _ => False) (P.cellsOf e) ((List.range len).map C) a.block a.off cap (fun j i => ((V j)[i]?).getD undef) (by simpa using hl) hm hblk (fun h => h) (fun j row hj => by obtain ⟨h1, rfl⟩ := hget j row hj; exact hlenC j h1) (fun j row i y hj hy => by
            obtain ⟨h1, rfl⟩ := hget j row hj
            obtain ⟨q1, q2, q3⟩ := hVC j h1
            have hik : i < P.cellsOf e := by rw [← (hlenC j h1).1]; exact (List.getElem?_eq_some_iff.1 hy).1
            rw [cell_at (len := len) hsp q1 hik]
            have : i < (V j).length := by rw [← q3.1, (hlenC j h1).1]; exact hik
            rw [List.getElem?_eq_getElem this]; rfl) (fun j row i y hj hy => by
            obtain ⟨h1, rfl⟩ := hget j row hj
            obtain ⟨q1, q2, q3⟩ := hVC j h1
            have hik : i < P.cellsOf e := by rw [← (hlenC j h1).1]; exact (List.getElem?_eq_some_iff.1 hy).1
            have : i < (V j).length := by rw [← q3.1, (hlenC j h1).1]; exact hik
            refine q3.2 i y _ hy ?_
            rw [List.getElem?_eq_getElem this]; rfl)
        have ea : a = ⟨a.block, a.off, none⟩ := by cases a; simp at hsp; simp [hsp]
        rw [List.length_map, List.length_range, ← ea] at hsl
        have hrows : ∀ row ∈ (List.range len).map C, tyC P d e row := fun row hr => by
          obtain ⟨i, hi, rfl⟩ := List.mem_map.1 hr
          exact (hVC i (by simpa using hi)).2.1
        exact ⟨[.sl (P.cellsOf e) ((List.range len).map C)], by unfold tyC; rw [hu]; exact ⟨_, rfl, by simp; omega, hrows⟩, .one hsl⟩
    · rename_i fs
      simp only [Bool.and_eq_true, List.all_eq_true] at hp
      obtain ⟨xs, m, _, _, hlen, _, hf⟩ := DataW.trod_struct hu h
      have key : ∀ (fs' : List Field) (acc : Nat), (∀ f ∈ fs', plainB P d f.type = true ∧ ∃ y, DataW.trod enc P w 0 spare held m f.type ((vs.drop f.offset).take (P.cellsOf f.type)) = some y) → tileB P fs' acc (P.cellsOf t) = true → acc ≤ P.cellsOf t → ∃ cs, tyF P (tyC P d) fs' cs ∧ RCs w cs (vs.drop acc) := by
        intro fs'
        induction fs' with
        | nil =>
          intro acc _ ht _
          simp [tileB] at ht
          exact ⟨[], by simp [tyF], by constructor <;> simp [← hlen, ht] <;> omega⟩
        | cons f fs' ih =>
          intro acc hall ht hacc
          simp only [tileB, Bool.and_eq_true, beq_iff_eq] at ht
          obtain ⟨hpf, y, hy⟩ := hall f (by simp)
          obtain ⟨c1, t1, r1⟩ := open_tyC hpf hy
          have hlt := tile_le ht.2
          obtain ⟨c2, t2, r2⟩ := ih (acc + P.cellsOf f.type) (fun g hg => hall g (by simp [hg])) ht.2 hlt
          refine ⟨c1 ++ c2, ⟨c1, c2, rfl, t1, t2⟩, ?_⟩
          rw [ht.1] at r1
          have e : vs.drop acc = (vs.drop acc).take (P.cellsOf f.type) ++ vs.drop (acc + P.cellsOf f.type) := by rw [← List.drop_drop, List.take_append_drop]
          rw [e]; exact r1.append r2
      obtain ⟨cs, h1, h2⟩ := key fs.toList 0 (fun f hf' => by
        refine ⟨hp.2 f hf', ?_⟩
        obtain ⟨i, hi, he⟩ := List.getElem_of_mem hf'
        have := hf i f (by simp at hi; simp at he; simp [← he, hi])
        have hxl : i < xs.length := by simp at hi; omega
        rw [List.getElem?_eq_getElem hxl] at this
        exact ⟨_, this⟩) hp.1 (Nat.zero_le _)
      exact ⟨cs, by unfold tyC; rw [hu]; exact h1, by simpa using h2⟩
    · rename_i k e
      simp only [Bool.and_eq_true, beq_iff_eq] at hp
      obtain ⟨xs, m, _, _, hlen, hxs, hf⟩ := DataW.trod_array hu h
      have key : ∀ (r i : Nat), i + r = k → ∃ cs, tyA (tyC P d e) r cs ∧ RCs w cs (vs.drop (i * P.cellsOf e)) := by
        intro r
        induction r with
        | zero =>
          intro i hi
          have : vs.length ≤ i * P.cellsOf e := by rw [hlen, hp.1]; have : i = k := by omega
                                                   subst this; exact Nat.le_refl _
          exact ⟨[], by simp [tyA], by rw [List.drop_of_length_le this]; constructor <;> simp⟩
        | succ r ih =>
          intro i hi
          have h1 := hf i (by omega)
          rw [List.getElem?_eq_getElem (by omega)] at h1
          obtain ⟨c1, t1, r1⟩ := open_tyC hp.2 h1
          obtain ⟨c2, t2, r2⟩ := ih (i + 1) (by omega)
          refine ⟨c1 ++ c2, ⟨c1, c2, rfl, t1, t2⟩, ?_⟩
          have e' : vs.drop (i * P.cellsOf e) = (vs.drop (i * P.cellsOf e)).take (P.cellsOf e) ++ vs.drop ((i + 1) * P.cellsOf e) := by rw [Nat.succ_mul, ← List.drop_drop, List.take_append_drop]
          rw [e']; exact r1.append r2
      obtain ⟨cs, h1, h2⟩ := key k 0 (by omega)
      exact ⟨cs, by unfold tyC; rw [hu]; exact h1, by simpa using h2⟩
    · simp at hp
theorem trodAll_carry {w w' : World} {base : Nat} {spare : Nat → Bool} {held : Bool} : ∀ {ts : List TypeId} {vs : List Value} {ds : List (DataW H)} {ps : List MemPlace}, DataW.TrodAll enc P w base spare held ts vs ds ps → (∀ p ∈ ps, w.sameAt w' p) → DataW.TrodAll enc P w' base spare held ts vs ds ps
  | [], [], [], _, h, _ => h
  | _ :: _, _ :: _, _ :: _, _, ⟨p, q, ⟨n, h1⟩, h2, e⟩, hs =>
    ⟨p, q, ⟨n, DataW.trod_carry n _ _ _ h1 (fun x hx => hs x (by rw [e]; exact List.mem_append_left _ hx))⟩, trodAll_carry h2 (fun x hx => hs x (by rw [e]; exact List.mem_append_right _ hx)), e⟩
theorem post_ext {T : TypeId → Prop} (K : Kids P T) (hz : ∀ t e, T t → P.underlying t = some (.slice e) → 0 < P.cellsOf e) {f : Func} {s : ChangeSpec} {apart fresh handsOn again : Bool} {W W' : World} {args : Array Value} {v : Value} {ds gs : List (DataW H)} {before : List MemPlace}
    (hT : ∀ t ∈ f.params.toList, T t) (hsv : s.vars = []) (hW : DataW.Whole enc P f.params.toList s.vars apart W args.toList ds gs before)
    (hres : ∀ (b : Nat) (sp : Nat → Bool) (hd : Bool), DataW.TrodAll enc P W' b sp hd f.resultTypes.toList (v.resultList f.resultTypes.size) (s.fn H (ds ++ gs)).results [])
    (hargs : (s.fn H (ds ++ gs)).args = ds) (hvars : (s.fn H (ds ++ gs)).vars = []) (hx : Ext W W')
    (hok : ∀ (j : Nat) (t : TypeId) (r : Value), f.resultTypes[j]? = some t → (v.resultList f.resultTypes.size)[j]? = some r → Value.okWide P W' .any 0 t r) :
    s.post enc P f apart fresh handsOn again W args v W' := by
  have hlt := hW.lt
  have hold : ∀ p ∈ before, (fun b => decide (b < W.heap.size)) p.block = true := fun p hp => by simpa using hlt p hp
  have hW0 := hW
  obtain ⟨p, q, hA, hV, e, hfz, hn⟩ := hW
  rw [hsv] at hV
  obtain ⟨hg, hq⟩ := trodVars_none hV
  subst hq
  rw [List.append_nil] at e
  subst e
  have ha : ∀ sp : Nat → Bool, (∀ p ∈ before, sp p.block = true) → DataW.TrodAll enc P W' 0 sp true f.params.toList args.toList (s.fn H (ds ++ gs)).args before := fun sp hsp => by
    rw [hargs]
    exact trodAll_carry (DataW.TrodAll.respare K hz hT hA hsp) (fun p hp => hx.same (hlt p hp))
  have hv : ∀ sp : Nat → Bool, DataW.TrodVars enc P W' sp s.vars (s.fn H (ds ++ gs)).vars [] := fun sp => by rw [hvars, hsv]; exact rfl
  refine ⟨ds, gs, before, [], before, [], hW0, hres _ _ _, ha _ hold, hv _, World.keptBut_mono (fun p hp => ⟨hp, Or.inr (Or.inl hp)⟩) (hx.frame (· ∈ before)), fun _ => ?_⟩
  refine ⟨hok, _, _, ([] ++ before) ++ [], ⟨[] ++ before, [], trodAll_append (ha _ (fun _ _ => rfl)) (hres _ _ _), hv _, rfl, ?_, ?_⟩, ?_⟩
  · intro b off hp
    simp at hp
    rw [Below.frozen hx (p := ⟨b, off, none⟩) (hlt _ hp)]
    exact hfz b off hp
  · intro h
    simpa using hn h
  · intro p hp _
    simpa using hp
end
end
end Go.Proofs.Ytakdmliblijgmaa
/- Arguments opened: slices and integers. -/
namespace Go.Proofs.Ytakdmliblijgmaa
open Go.RowKit Go.ChangeShapes Go.WideShapes Go.ChangeAt
section
variable {H : Type} {enc : TypeId × Value → H} {P : Program} {w : World} {base b0 : Nat} {spare : Nat → Bool} {held : Bool} {v : Value} {x : DataW H} {ps : List MemPlace} {t : TypeId} {r : Reach}
theorem open_slice {e : TypeId} {d : Nat} (ht : P.underlying t = some (.slice e)) (hp : plainB P d t = true) (hval : Value.okWide P w r b0 t v) (h : DataW.Trod enc P w 0 spare held t v x ps) :
    ∃ d' rows, RepC w (fun _ => False) (.sl (P.cellsOf e) rows) v ∧ rows.length ≤ maxLen ∧ ∀ row ∈ rows, tyC P d' e row := by
  obtain ⟨a, len, cap, rfl⟩ := okWide_slice ht hval
  obtain ⟨n, h⟩ := h
  obtain ⟨cs, h1, h2⟩ := open_tyC hp h
  obtain ⟨d', rows, rfl, h3, h4⟩ := tyC_slice ht h1
  exact ⟨d', rows, h2.2 0 _ _ rfl rfl, h3, h4⟩
end
end Go.Proofs.Ytakdmliblijgmaa
/- Wire's types opened. -/
namespace Go.Proofs.Ytakdmliblijgmaa
open Go.RowKit Go.ChangeShapes Go.WideShapes Go.ChangeAt
theorem Try.own : ownKnob Try.prog.godebug = none := by kernel_rfl
theorem Try.kids : Kids Try.prog (· < Try.prog.types.size) := kids_rows (by kernel_rfl) (by kernel_rfl)
theorem Try.full : ∀ t e, t < Try.prog.types.size → Try.prog.underlying t = some (.slice e) → 0 < Try.prog.cellsOf e := slices_full_of Try.prog (by kernel_rfl)
theorem Try.cellsI : Try.prog.cellsOf 3 = 1 := by kernel_rfl
theorem Try.cellsSr : Try.prog.cellsOf 79 = 8 := by kernel_rfl
theorem Try.cellsNt : Try.prog.cellsOf 73 = 3 := by kernel_rfl
theorem Try.plainSs : plainB Try.prog 8 22 = true := by kernel_rfl
theorem Try.plainNs : plainB Try.prog 8 23 = true := by kernel_rfl
theorem Try.plainNt : plainB Try.prog 8 73 = true := by kernel_rfl
theorem Try.plainS : plainB Try.prog 8 25 = true := by kernel_rfl
theorem val_inv {w : World} {N : Nat → Prop} {u v : Value} (h : RepC w N (.val u) v) : v = u := by cases h; rfl
theorem ty_I {d : Nat} {cs : List CV} (h : tyC Try.prog d 3 cs) : ∃ n, cs = [I n] := by
  obtain ⟨n, h, _⟩ := tyC_int Try.underlying3 h; exact ⟨n, h⟩
theorem ty_kind {d : Nat} {cs : List CV} (h : tyC Try.prog d 77 cs) : ∃ n, cs = [I n] := by
  obtain ⟨n, h, _⟩ := tyC_int Try.underlying77 h; exact ⟨n, h⟩
theorem ty_span {d : Nat} {cs : List CV} (h : tyC Try.prog d 25 cs) : ∃ a b, cs = [I a, I b] := by
  obtain ⟨d', c1, c2, rfl, h1, c3, c4, rfl, h2, h3⟩ := tyC_struct Try.underlying25 h
  obtain ⟨a, rfl⟩ := ty_I h1
  obtain ⟨b, rfl⟩ := ty_I h2
  have h3 : c4 = [] := h3
  subst h3
  exact ⟨a, b, rfl⟩
theorem ty_ints {d : Nat} {cs : List CV} (h : tyC Try.prog d 55 cs) : ∃ xs : List Int, cs = [.sl 1 (xs.map rowI)] := by
  obtain ⟨d', rows, h, hl, h2⟩ := tyC_slice Try.underlying55 h
  rw [Try.cellsI] at h
  obtain ⟨xs, rfl⟩ := rows_map (f := rowI) (fun row hr => ty_I (h2 row hr))
  exact ⟨xs, h⟩
theorem ty_src {d : Nat} {cs : List CV} (h : tyC Try.prog d 79 cs) : ∃ s, cs = rowSr s := by
  obtain ⟨d', c1, r1, rfl, h1, c2, r2, rfl, h2, c3, r3, rfl, h3, c4, r4, rfl, h4, c5, r5, rfl, h5, c6, r6, rfl, h6, h7⟩ := tyC_struct Try.underlying79 h
  obtain ⟨k, rfl⟩ := ty_kind h1
  obtain ⟨a, b, rfl⟩ := ty_span h2
  obtain ⟨c, rfl⟩ := ty_I h3
  obtain ⟨e, f, rfl⟩ := ty_span h4
  obtain ⟨g, rfl⟩ := ty_I h5
  obtain ⟨l, rfl⟩ := ty_ints h6
  have h7 : r6 = [] := h7
  subst h7
  exact ⟨⟨k, a, b, c, e, f, g, l⟩, rfl⟩
theorem ty_note {d : Nat} {cs : List CV} (h : tyC Try.prog d 73 cs) : ∃ n, cs = rowN n := by
  obtain ⟨d', c1, r1, rfl, h1, c2, r2, rfl, h2, c3, r3, rfl, h3, h4⟩ := tyC_struct Try.underlying73 h
  obtain ⟨a, rfl⟩ := ty_I h1
  obtain ⟨b, rfl⟩ := ty_I h2
  obtain ⟨c, rfl⟩ := ty_I h3
  have h4 : r3 = [] := h4
  subst h4
  exact ⟨⟨a, b, c⟩, rfl⟩
section
variable {H : Type} {enc : TypeId × Value → H} {w : World} {b0 : Nat} {spare : Nat → Bool} {held : Bool} {v : Value} {x : DataW H} {ps : List MemPlace} {r : Reach}
set_option maxRecDepth 100000 in
theorem open_srcs (hval : Value.okWide Try.prog w r b0 22 v) (h : DataW.Trod enc Try.prog w 0 spare held 22 v x ps) : ∃ l : List Wsrc, RepC w (fun _ => False) (slSr l) v := by
  obtain ⟨d', rows, h1, _, h2⟩ := open_slice Try.underlying22 Try.plainSs hval h
  rw [Try.cellsSr] at h1
  obtain ⟨xs, rfl⟩ := rows_map (f := rowSr) (fun row hr => ty_src (h2 row hr))
  exact ⟨xs, h1⟩
set_option maxRecDepth 100000 in
theorem open_notes (hval : Value.okWide Try.prog w r b0 23 v) (h : DataW.Trod enc Try.prog w 0 spare held 23 v x ps) : ∃ l : List Wnt, RepC w (fun _ => False) (slN l) v := by
  obtain ⟨d', rows, h1, _, h2⟩ := open_slice Try.underlying23 Try.plainNs hval h
  rw [Try.cellsNt] at h1
  obtain ⟨xs, rfl⟩ := rows_map (f := rowN) (fun row hr => ty_note (h2 row hr))
  exact ⟨xs, h1⟩
end
set_option maxRecDepth 100000 in
theorem open_note {H : Type} {enc : TypeId × Value → H} {w : World} {spare : Nat → Bool} {held : Bool} {v : Value} {x : DataW H} {ps : List MemPlace} (h : DataW.Trod enc Try.prog w 0 spare held 73 v x ps) : ∃ n : Wnt, RepC w (fun _ => False) (cN n) v := by
  obtain ⟨n, h⟩ := h
  obtain ⟨cs, h1, h2⟩ := open_tyC Try.plainNt h
  obtain ⟨c, rfl⟩ := ty_note h1
  have hs : v.cells.size = 3 := by have := h2.1; simp at this; omega
  have hv := agg_cells (v := v) (by omega)
  refine ⟨c, ?_⟩
  rw [hv]
  exact .agg _ _ (by simpa using hs) (fun i x u hx hu => h2.2 i x u hx (by simpa using hu))
set_option maxRecDepth 100000 in
theorem open_span {H : Type} {enc : TypeId × Value → H} {w : World} {spare : Nat → Bool} {held : Bool} {v : Value} {x : DataW H} {ps : List MemPlace} (h : DataW.Trod enc Try.prog w 0 spare held 25 v x ps) : ∃ a b : Int, RepC w (fun _ => False) (.agg [I a, I b]) v := by
  obtain ⟨n, h⟩ := h
  obtain ⟨cs, h1, h2⟩ := open_tyC Try.plainS h
  obtain ⟨a, b, rfl⟩ := ty_span h1
  have hs : v.cells.size = 2 := by have := h2.1; simp at this; omega
  have hv := agg_cells (v := v) (by omega)
  refine ⟨a, b, ?_⟩
  rw [hv]
  exact .agg _ _ (by simpa using hs) (fun i x u hx hu => h2.2 i x u hx (by simpa using hu))
end Go.Proofs.Ytakdmliblijgmaa
/- Wire's laws, VI: WireFits. -/
namespace Go.Proofs.Ytakdmliblijgmaa
open Go.RowKit
theorem few_le {b : Wbk} : fewN b ≤ b.srcs.length := (minU_le _ _).1
set_option maxRecDepth 100000 in
set_option maxHeartbeats 1000000 in
theorem lFits (w : List Wsrc) (l : List Wnt) (nlo nhi : Int) : SC Try.prog 3 [slSr w, slN l, .agg [I nlo, I nhi]] (B true) := by
  refine law_turretlaw08_WireFits _ _ (by simp) ?_
  have ll := lLarge w l nlo nhi new_span
  have kn := sKnown
  by_cases hlg : largeB w l nlo nhi = true
  case pos =>
    rw [hlg] at ll
    (repeat' (first | ((first | with_reducible refine st_skip ?_ | with_reducible refine st_exit ?_); (try simp only [seqQ, blockQ, loopQ, forQ, whileQ, reduceIte, Nat.reduceEqDiff])) | (with_reducible refine st_ret ?_; ((try simp only [seqQ, blockQ, loopQ, forQ, whileQ]); first | (with_reducible refine retM_ret ?_) | refine retQ_ret ?_; simp)) | refine st_seq ?_ | refine st_block ?_ | ((with_reducible show (STri _ _ _ _ _) ∧ (STri _ _ _ _ _)); refine And.intro ?_ ?_) | ((first | refine st_reg ?_ | refine buildP_own ?_ | refine appP_own ?_ | refine callP_b (ll) rfl ?_ | refine callP_b (kn) rfl ?_) <;> (simp -dsimp; (repeat (simp -dsimp (disch := (first | omega | assumption | (refine Bool.eq_false_iff.1 ?_; assumption))) only [wrap_in, if_pos, if_neg]; (try simp -dsimp))))) | ((first | refine guardP_of (fun hc => ?_) (fun hc => ?_) | refine st_cond rfl (fun hc => ?_) (fun hc => ?_)) <;> (try simp only [lqA, lqB, lqC, lqD, lqE, lqF, lqG, lqH, lqI, lqJ, lqK, lqL, lqM, lqN, lqO] at hc) <;> (try (exfalso; first | omega | exact bool_tf hc (by assumption) | exact bool_ft hc (by assumption) | exact absurd (by assumption) hc)) <;> (first | with_reducible show STri _ _ _ _ _ _ | (simp -dsimp [hc]; (repeat (simp -dsimp (disch := (first | omega | assumption | (refine Bool.eq_false_iff.1 ?_; assumption))) only [wrap_in, if_pos, if_neg]; (try simp -dsimp [hc]))))))))
    all_goals exact .refl _
  rw [Bool.not_eq_true] at hlg
  obtain ⟨hw, hwl, hll⟩ := large_no hlg
  rw [hlg] at ll
  have c0 := lSaid l (by omega)
  have c1 := lSources w hw (by omega)
  have c2 := sFits w hw l (by omega) nlo nhi
  have c3 := sPairs w hw l (by omega) nlo nhi
  have c4 := lUnchanged w hw (by omega) l (by omega)
  have c5 := sMost w hw l (by omega) nlo nhi
  have c6 := rNotes w hw (by omega) l (by omega) nlo nhi
  by_cases her : newErr w l nlo nhi = 0
  · have hb := new_bk her
    have hr := new_ref her
    obtain ⟨e1, e2, e3, e4, e5⟩ := new_nz her
    have c7 := rAll _ hr
    have c8 := rSpans _ hb 0
    have c9 := rSpans _ hb (fewN (newBk w l nlo nhi))
    have c10 := rFewest _ hb
    have c11 := rPairs _ hb
    rw [spans_zero hb] at c8
    have hrr : fewN (newBk w l nlo nhi) = 0 → spansL (newBk w l nlo nhi) (fun m => decide (popN m = fewN (newBk w l nlo nhi))) = spansL (newBk w l nlo nhi) (fun m => decide (m = 0)) := fun h => by rw [h]; exact spans_zero hb
    have hsl := spansL_len hb fun m => decide (m = 0)
    have hsl2 := spansL_len hb fun m => decide (popN m = fewN (newBk w l nlo nhi))
    have hpl := pairsTo_len (newBk w l nlo nhi) w.length w.length
    have hff := few_fit hb hr.one
    have hfl := few_le (b := newBk w l nlo nhi)
    rw [e1] at hfl
    unfold fitB at hff
    rw [e1, e3, e4, e5] at c7
    rw [e4, e5] at c8 c9
    rw [e1] at c11
    rw [if_pos her, if_pos her] at c2
    rw [her, if_pos rfl] at c3
    rw [her, if_pos rfl, if_pos rfl] at c5
    rw [her] at c6
    generalize spansL (newBk w l nlo nhi) (fun m => decide (m = 0)) = r at *
    generalize spansL (newBk w l nlo nhi) (fun m => decide (popN m = fewN (newBk w l nlo nhi))) = r2 at *
    generalize pairsTo (newBk w l nlo nhi) w.length w.length = ps at *
    generalize fewN (newBk w l nlo nhi) = f at *
    have c12 := rSame r (by omega)
    have c13 := rSame r2 (by omega)
    generalize allB (newBk w l nlo nhi) = al at *
    have hps : ps.length ≤ 1000 := Nat.le_trans hpl (Nat.le_trans (Nat.mul_le_mul hwl hwl) (by omega))
    clear hpl
    have fin : STri (cfF Try.prog [] 174) k71_47 [(11, .c (slP ps)), (19, .c (slP ps)), (157, .c (B false))] [(5, .box 25 [.c (I nlo), .c (I nhi)])] (retQ rs_turretlaw08_WireFits (B true)) := by
      (repeat' (first | ((first | with_reducible refine st_skip ?_ | with_reducible refine st_exit ?_); (try simp only [seqQ, blockQ, loopQ, forQ, whileQ, reduceIte, Nat.reduceEqDiff])) | (with_reducible refine st_ret ?_; ((try simp only [seqQ, blockQ, loopQ, forQ, whileQ]); first | (with_reducible refine retM_ret ?_) | refine retQ_ret ?_; simp)) | refine st_seq ?_ | refine st_block ?_ | ((with_reducible show (STri _ _ _ _ _) ∧ (STri _ _ _ _ _)); refine And.intro ?_ ?_) | ((first | refine st_reg ?_ | refine buildP_own ?_ | refine appP_own ?_) <;> (simp -dsimp; (repeat (simp -dsimp (disch := (first | omega | assumption | (refine Bool.eq_false_iff.1 ?_; assumption))) only [wrap_in, if_pos, if_neg]; (try simp -dsimp))))) | ((first | refine guardP_of (fun hc => ?_) (fun hc => ?_) | refine st_cond rfl (fun hc => ?_) (fun hc => ?_)) <;> (try simp only [lqA, lqB, lqC, lqD, lqE, lqF, lqG, lqH, lqI, lqJ, lqK, lqL, lqM, lqN, lqO] at hc) <;> (try (exfalso; first | omega | exact bool_tf hc (by assumption) | exact bool_ft hc (by assumption) | exact absurd (by assumption) hc)) <;> (first | with_reducible show STri _ _ _ _ _ _ | (simp -dsimp [hc]; (repeat (simp -dsimp (disch := (first | omega | assumption | (refine Bool.eq_false_iff.1 ?_; assumption))) only [wrap_in, if_pos, if_neg]; (try simp -dsimp [hc]))))))))
      refine st_for [] ps.length (fun k T H => T = [(11, .c (slP ps)), (19, .c (slP ps)), (20, .c (I k))] ∧ H = []) (by simp) ⟨by simp, by simp⟩ ?_
      rintro k T H hk ⟨rfl, rfl⟩
      by_cases hlt : k < ps.length
      · have hg : ∀ h : k < (ps.map rowP).length, (ps.map rowP)[k]'h = [I ((ps[k]).1 : Nat), I ((ps[k]).2 : Nat)] := fun h => by simp [rowP]
        (repeat' (first | ((first | with_reducible refine st_skip ?_ | with_reducible refine st_exit ?_); (try simp only [seqQ, blockQ, loopQ, forQ, whileQ, reduceIte, Nat.reduceEqDiff])) | (with_reducible refine st_ret ?_; ((try simp only [seqQ, blockQ, loopQ, forQ, whileQ]); first | (with_reducible refine retM_ret ?_) | refine retQ_ret ?_; simp [hlt, hg])) | refine st_seq ?_ | refine st_block ?_ | ((with_reducible show (STri _ _ _ _ _) ∧ (STri _ _ _ _ _)); refine And.intro ?_ ?_) | ((first | refine st_reg ?_ | refine buildP_own ?_ | refine appP_own ?_) <;> (simp -dsimp [hlt, hg]; (repeat (simp -dsimp (disch := (first | omega | assumption | (refine Bool.eq_false_iff.1 ?_; assumption))) only [wrap_in, if_pos, if_neg]; (try simp -dsimp [hlt, hg]))))) | ((first | refine guardP_of (fun hc => ?_) (fun hc => ?_) | refine st_cond rfl (fun hc => ?_) (fun hc => ?_)) <;> (try simp only [lqA, lqB, lqC, lqD, lqE, lqF, lqG, lqH, lqI, lqJ, lqK, lqL, lqM, lqN, lqO] at hc) <;> (try (exfalso; first | omega | exact bool_tf hc (by assumption) | exact bool_ft hc (by assumption) | exact absurd (by assumption) hc)) <;> (first | with_reducible show STri _ _ _ _ _ _ | (simp -dsimp [hlt, hg, hc]; (repeat (simp -dsimp (disch := (first | omega | assumption | (refine Bool.eq_false_iff.1 ?_; assumption))) only [wrap_in, if_pos, if_neg]; (try simp -dsimp [hlt, hg, hc]))))))))
        exact ⟨hlt, by simp, by simp, by simp⟩
      · have hkk : k = ps.length := by omega
        subst hkk
        (repeat' (first | ((first | with_reducible refine st_skip ?_ | with_reducible refine st_exit ?_); (try simp only [seqQ, blockQ, loopQ, forQ, whileQ, reduceIte, Nat.reduceEqDiff])) | (with_reducible refine st_ret ?_; ((try simp only [seqQ, blockQ, loopQ, forQ, whileQ]); first | (with_reducible refine retM_ret ?_) | refine retQ_ret ?_; simp [hlt])) | refine st_seq ?_ | refine st_block ?_ | ((with_reducible show (STri _ _ _ _ _) ∧ (STri _ _ _ _ _)); refine And.intro ?_ ?_) | ((first | refine st_reg ?_ | refine buildP_own ?_ | refine appP_own ?_ | refine callP_b (kn) rfl ?_) <;> (simp -dsimp [hlt]; (repeat (simp -dsimp (disch := (first | omega | assumption | (refine Bool.eq_false_iff.1 ?_; assumption))) only [wrap_in, if_pos, if_neg]; (try simp -dsimp [hlt]))))) | ((first | refine guardP_of (fun hc => ?_) (fun hc => ?_) | refine st_cond rfl (fun hc => ?_) (fun hc => ?_)) <;> (try simp only [lqA, lqB, lqC, lqD, lqE, lqF, lqG, lqH, lqI, lqJ, lqK, lqL, lqM, lqN, lqO] at hc) <;> (try (exfalso; first | omega | exact bool_tf hc (by assumption) | exact bool_ft hc (by assumption) | exact absurd (by assumption) hc)) <;> (first | with_reducible show STri _ _ _ _ _ _ | (simp -dsimp [hlt, hc]; (repeat (simp -dsimp (disch := (first | omega | assumption | (refine Bool.eq_false_iff.1 ?_; assumption))) only [wrap_in, if_pos, if_neg]; (try simp -dsimp [hlt, hc]))))))))
        exact .refl _
    by_cases hrn : r = []
    · rw [if_pos hrn] at c2
      have hf0 : ¬ f = 0 := fun h => by subst hrn; simp [h] at hff
      have hf1 : ¬ (f : Int) = 0 := by omega
      subst hrn
      (repeat' (first | ((with_reducible show STri _ k71_47 _ _ _); exact fin) | ((first | with_reducible refine st_skip ?_ | with_reducible refine st_exit ?_); (try simp only [seqQ, blockQ, loopQ, forQ, whileQ, reduceIte, Nat.reduceEqDiff])) | (with_reducible refine st_ret ?_; ((try simp only [seqQ, blockQ, loopQ, forQ, whileQ]); first | (with_reducible refine retM_ret ?_) | refine retQ_ret ?_; simp [hf1])) | refine st_seq ?_ | refine st_block ?_ | ((with_reducible show (STri _ _ _ _ _) ∧ (STri _ _ _ _ _)); refine And.intro ?_ ?_) | ((first | refine st_reg ?_ | refine buildP_own ?_ | refine appP_own ?_ | refine callP_b (ll) rfl ?_ | refine callP_b (kn) rfl ?_ | refine callP_b (c0) rfl ?_ | refine callP_b (c1) rfl ?_ | refine callP_b (c2) rfl ?_ | refine callP_b (c3) rfl ?_ | refine callP_b (c4) rfl ?_ | refine callP_b (c5) rfl ?_ | refine callP_b (c6) rfl ?_ | refine callP_b (c7) rfl ?_ | refine callP_b (c8) rfl ?_ | refine callP_b (c9) rfl ?_ | refine callP_b (c10) rfl ?_ | refine callP_b (c11) rfl ?_ | refine callP_b (c12) rfl ?_ | refine callP_b (c13) rfl ?_) <;> (simp -dsimp [hf1]; (repeat (simp -dsimp (disch := (first | omega | assumption | (refine Bool.eq_false_iff.1 ?_; assumption))) only [wrap_in, if_pos, if_neg]; (try simp -dsimp [hf1]))))) | ((first | refine guardP_of (fun hc => ?_) (fun hc => ?_) | refine st_cond rfl (fun hc => ?_) (fun hc => ?_)) <;> (try simp only [lqA, lqB, lqC, lqD, lqE, lqF, lqG, lqH, lqI, lqJ, lqK, lqL, lqM, lqN, lqO] at hc) <;> (try (exfalso; first | omega | exact bool_tf hc (by assumption) | exact bool_ft hc (by assumption) | exact absurd (by assumption) hc)) <;> (first | with_reducible show STri _ _ _ _ _ _ | (simp -dsimp [hf1, hc]; (repeat (simp -dsimp (disch := (first | omega | assumption | (refine Bool.eq_false_iff.1 ?_; assumption))) only [wrap_in, if_pos, if_neg]; (try simp -dsimp [hf1, hc]))))))))
      all_goals exact .refl _
    · rw [if_neg hrn] at c2
      have hf0 : f = 0 := by
        have : decide (f = 0) = true := by
          rw [hff]
          cases r with
          | nil => exact absurd rfl hrn
          | cons => rfl
        simpa using this
      have hq := hrr hf0
      subst hq
      subst hf0
      (repeat' (first | ((with_reducible show STri _ k71_47 _ _ _); exact fin) | ((first | with_reducible refine st_skip ?_ | with_reducible refine st_exit ?_); (try simp only [seqQ, blockQ, loopQ, forQ, whileQ, reduceIte, Nat.reduceEqDiff])) | (with_reducible refine st_ret ?_; ((try simp only [seqQ, blockQ, loopQ, forQ, whileQ]); first | (with_reducible refine retM_ret ?_) | refine retQ_ret ?_; simp)) | refine st_seq ?_ | refine st_block ?_ | ((with_reducible show (STri _ _ _ _ _) ∧ (STri _ _ _ _ _)); refine And.intro ?_ ?_) | ((first | refine st_reg ?_ | refine buildP_own ?_ | refine appP_own ?_ | refine callP_b (ll) rfl ?_ | refine callP_b (kn) rfl ?_ | refine callP_b (c0) rfl ?_ | refine callP_b (c1) rfl ?_ | refine callP_b (c2) rfl ?_ | refine callP_b (c3) rfl ?_ | refine callP_b (c4) rfl ?_ | refine callP_b (c5) rfl ?_ | refine callP_b (c6) rfl ?_ | refine callP_b (c7) rfl ?_ | refine callP_b (c8) rfl ?_ | refine callP_b (c9) rfl ?_ | refine callP_b (c10) rfl ?_ | refine callP_b (c11) rfl ?_ | refine callP_b (c12) rfl ?_ | refine callP_b (c13) rfl ?_) <;> (simp -dsimp; (repeat (simp -dsimp (disch := (first | omega | assumption | (refine Bool.eq_false_iff.1 ?_; assumption))) only [wrap_in, if_pos, if_neg]; (try simp -dsimp))))) | ((first | refine guardP_of (fun hc => ?_) (fun hc => ?_) | refine st_cond rfl (fun hc => ?_) (fun hc => ?_)) <;> (try simp only [lqA, lqB, lqC, lqD, lqE, lqF, lqG, lqH, lqI, lqJ, lqK, lqL, lqM, lqN, lqO] at hc) <;> (try (exfalso; first | omega | exact bool_tf hc (by assumption) | exact bool_ft hc (by assumption) | exact absurd (by assumption) hc)) <;> (first | with_reducible show STri _ _ _ _ _ _ | (simp -dsimp [hc]; (repeat (simp -dsimp (disch := (first | omega | assumption | (refine Bool.eq_false_iff.1 ?_; assumption))) only [wrap_in, if_pos, if_neg]; (try simp -dsimp [hc]))))))))
      all_goals exact .refl _
  · rw [if_neg her, if_neg her] at c2
    rw [if_neg her] at c3
    rw [if_neg her, if_neg her] at c5
    generalize newErr w l nlo nhi = er at *
    (repeat' (first | ((first | with_reducible refine st_skip ?_ | with_reducible refine st_exit ?_); (try simp only [seqQ, blockQ, loopQ, forQ, whileQ, reduceIte, Nat.reduceEqDiff])) | (with_reducible refine st_ret ?_; ((try simp only [seqQ, blockQ, loopQ, forQ, whileQ]); first | (with_reducible refine retM_ret ?_) | refine retQ_ret ?_; simp [her])) | refine st_seq ?_ | refine st_block ?_ | ((with_reducible show (STri _ _ _ _ _) ∧ (STri _ _ _ _ _)); refine And.intro ?_ ?_) | ((first | refine st_reg ?_ | refine buildP_own ?_ | refine appP_own ?_ | refine callP_b (ll) rfl ?_ | refine callP_b (kn) rfl ?_ | refine callP_b (c0) rfl ?_ | refine callP_b (c1) rfl ?_ | refine callP_b (c2) rfl ?_ | refine callP_b (c3) rfl ?_ | refine callP_b (c4) rfl ?_ | refine callP_b (c5) rfl ?_ | refine callP_b (c6) rfl ?_) <;> (simp -dsimp [her]; (repeat (simp -dsimp (disch := (first | omega | assumption | (refine Bool.eq_false_iff.1 ?_; assumption))) only [wrap_in, if_pos, if_neg]; (try simp -dsimp [her]))))) | ((first | refine guardP_of (fun hc => ?_) (fun hc => ?_) | refine st_cond rfl (fun hc => ?_) (fun hc => ?_)) <;> (try simp only [lqA, lqB, lqC, lqD, lqE, lqF, lqG, lqH, lqI, lqJ, lqK, lqL, lqM, lqN, lqO] at hc) <;> (try (exfalso; first | omega | exact bool_tf hc (by assumption) | exact bool_ft hc (by assumption) | exact absurd (by assumption) hc)) <;> (first | with_reducible show STri _ _ _ _ _ _ | (simp -dsimp [her, hc]; (repeat (simp -dsimp (disch := (first | omega | assumption | (refine Bool.eq_false_iff.1 ?_; assumption))) only [wrap_in, if_pos, if_neg]; (try simp -dsimp [her, hc]))))))))
    all_goals exact .refl _
end Go.Proofs.Ytakdmliblijgmaa
/- Wire's laws, VII: WireStretches. -/
namespace Go.Proofs.Ytakdmliblijgmaa
open Go.RowKit
theorem leastN_spec (p : Nat → Bool) (n : Nat) : leastN p n ≤ n ∧ (∀ i, i < leastN p n → p i = false) ∧ (leastN p n < n → p (leastN p n) = true) := by
  unfold leastN
  cases h : (List.range n).find? p with
  | none =>
    rw [List.find?_eq_none] at h
    refine ⟨Nat.le_refl _, fun i hi => ?_, fun hlt => absurd hlt (Nat.lt_irrefl _)⟩
    have := h i (List.mem_range.2 hi)
    simpa using this
  | some m =>
    rw [List.find?_range_eq_some] at h
    obtain ⟨h1, h2, h3⟩ := h
    simp only [Option.getD_some]
    refine ⟨?_, fun i hi => ?_, fun _ => h1⟩
    · have := List.mem_range.1 h2
      omega
    · have := h3 i hi
      simpa using this
set_option maxRecDepth 100000 in
set_option maxHeartbeats 1000000 in
theorem lStretches (w : List Wsrc) (l : List Wnt) (nlo nhi src : Int) : SC Try.prog 5 [slSr w, slN l, .agg [I nlo, I nhi, I src]] (B true) := by
  refine law_turretlaw08_WireStretches _ _ (by simp) ?_
  have ll := lLarge w l nlo nhi new_span
  have kn := sKnown
  by_cases hlg : largeB w l nlo nhi = true
  case pos =>
    rw [hlg] at ll
    (repeat' (first | ((first | with_reducible refine st_skip ?_ | with_reducible refine st_exit ?_); (try simp only [seqQ, blockQ, loopQ, forQ, whileQ, reduceIte, Nat.reduceEqDiff])) | (with_reducible refine st_ret ?_; ((try simp only [seqQ, blockQ, loopQ, forQ, whileQ]); first | (with_reducible refine retM_ret ?_) | refine retQ_ret ?_; simp)) | refine st_seq ?_ | refine st_block ?_ | ((with_reducible show (STri _ _ _ _ _) ∧ (STri _ _ _ _ _)); refine And.intro ?_ ?_) | ((first | refine st_reg ?_ | refine buildP_own ?_ | refine appP_own ?_ | refine callP_b (ll) rfl ?_ | refine callP_b (kn) rfl ?_) <;> (simp -dsimp; (repeat (simp -dsimp (disch := (first | omega | assumption | (refine Bool.eq_false_iff.1 ?_; assumption))) only [wrap_in, if_pos, if_neg]; (try simp -dsimp))))) | ((first | refine guardP_of (fun hc => ?_) (fun hc => ?_) | refine st_cond rfl (fun hc => ?_) (fun hc => ?_)) <;> (try simp only [lqA, lqB, lqC, lqD, lqE, lqF, lqG, lqH, lqI, lqJ, lqK, lqL, lqM, lqN, lqO] at hc) <;> (try (exfalso; first | omega | exact bool_tf hc (by assumption) | exact bool_ft hc (by assumption) | exact absurd (by assumption) hc)) <;> (first | with_reducible show STri _ _ _ _ _ _ | (simp -dsimp [hc]; (repeat (simp -dsimp (disch := (first | omega | assumption | (refine Bool.eq_false_iff.1 ?_; assumption))) only [wrap_in, if_pos, if_neg]; (try simp -dsimp [hc]))))))))
    all_goals exact .refl _
  rw [Bool.not_eq_true] at hlg
  obtain ⟨hw, hwl, hll⟩ := large_no hlg
  rw [hlg] at ll
  have c0 := lSaid l (by omega)
  have c1 := lSources w hw (by omega)
  have c2 := sStretch w hw l (by omega) nlo nhi src
  have c4 := lUnchangedW w hw (by omega)
  have c6 := rNotes w hw (by omega) l (by omega) nlo nhi
  have c7 := rIn src 0 (w.length - 1)
  by_cases her : newErr w l nlo nhi = 0
  case neg =>
    rw [if_neg her, if_neg her] at c2
    generalize newErr w l nlo nhi = er at *
    (repeat' (first | ((first | with_reducible refine st_skip ?_ | with_reducible refine st_exit ?_); (try simp only [seqQ, blockQ, loopQ, forQ, whileQ, reduceIte, Nat.reduceEqDiff])) | (with_reducible refine st_ret ?_; ((try simp only [seqQ, blockQ, loopQ, forQ, whileQ]); first | (with_reducible refine retM_ret ?_) | refine retQ_ret ?_; simp [her])) | refine st_seq ?_ | refine st_block ?_ | ((with_reducible show (STri _ _ _ _ _) ∧ (STri _ _ _ _ _)); refine And.intro ?_ ?_) | ((first | refine st_reg ?_ | refine buildP_own ?_ | refine appP_own ?_ | refine callP_b (ll) rfl ?_ | refine callP_b (kn) rfl ?_ | refine callP_b (c0) rfl ?_ | refine callP_b (c1) rfl ?_ | refine callP_b (c2) rfl ?_ | refine callP_b (c4) rfl ?_ | refine callP_b (c6) rfl ?_) <;> (simp -dsimp [her]; (repeat (simp -dsimp (disch := (first | omega | assumption | (refine Bool.eq_false_iff.1 ?_; assumption))) only [wrap_in, if_pos, if_neg]; (try simp -dsimp [her]))))) | ((first | refine guardP_of (fun hc => ?_) (fun hc => ?_) | refine st_cond rfl (fun hc => ?_) (fun hc => ?_)) <;> (try simp only [lqA, lqB, lqC, lqD, lqE, lqF, lqG, lqH, lqI, lqJ, lqK, lqL, lqM, lqN, lqO] at hc) <;> (try (exfalso; first | omega | exact bool_tf hc (by assumption) | exact bool_ft hc (by assumption) | exact absurd (by assumption) hc)) <;> (first | with_reducible show STri _ _ _ _ _ _ | (simp -dsimp [her, hc]; (repeat (simp -dsimp (disch := (first | omega | assumption | (refine Bool.eq_false_iff.1 ?_; assumption))) only [wrap_in, if_pos, if_neg]; (try simp -dsimp [her, hc]))))))))
    all_goals exact .refl _
  rw [if_pos her, if_pos her] at c2
  rw [her] at c6
  by_cases hq : within1 0 (w.length - 1) src = true
  case neg =>
    rw [if_neg hq, if_neg hq] at c2
    rw [Bool.not_eq_true] at hq
    rw [hq] at c7
    (repeat' (first | ((first | with_reducible refine st_skip ?_ | with_reducible refine st_exit ?_); (try simp only [seqQ, blockQ, loopQ, forQ, whileQ, reduceIte, Nat.reduceEqDiff])) | (with_reducible refine st_ret ?_; ((try simp only [seqQ, blockQ, loopQ, forQ, whileQ]); first | (with_reducible refine retM_ret ?_) | refine retQ_ret ?_; simp)) | refine st_seq ?_ | refine st_block ?_ | ((with_reducible show (STri _ _ _ _ _) ∧ (STri _ _ _ _ _)); refine And.intro ?_ ?_) | ((first | refine st_reg ?_ | refine buildP_own ?_ | refine appP_own ?_ | refine callP_b (ll) rfl ?_ | refine callP_b (kn) rfl ?_ | refine callP_b (c0) rfl ?_ | refine callP_b (c1) rfl ?_ | refine callP_b (c2) rfl ?_ | refine callP_b (c4) rfl ?_ | refine callP_b (c6) rfl ?_ | refine callP_b (c7) rfl ?_) <;> (simp -dsimp; (repeat (simp -dsimp (disch := (first | omega | assumption | (refine Bool.eq_false_iff.1 ?_; assumption))) only [wrap_in, if_pos, if_neg]; (try simp -dsimp))))) | ((first | refine guardP_of (fun hc => ?_) (fun hc => ?_) | refine st_cond rfl (fun hc => ?_) (fun hc => ?_)) <;> (try simp only [lqA, lqB, lqC, lqD, lqE, lqF, lqG, lqH, lqI, lqJ, lqK, lqL, lqM, lqN, lqO] at hc) <;> (try (exfalso; first | omega | exact bool_tf hc (by assumption) | exact bool_ft hc (by assumption) | exact absurd (by assumption) hc)) <;> (first | with_reducible show STri _ _ _ _ _ _ | (simp -dsimp [hc]; (repeat (simp -dsimp (disch := (first | omega | assumption | (refine Bool.eq_false_iff.1 ?_; assumption))) only [wrap_in, if_pos, if_neg]; (try simp -dsimp [hc]))))))))
    all_goals exact .refl _
  rw [if_pos hq, if_pos hq] at c2
  rw [hq] at c7
  obtain ⟨j, hjs⟩ : ∃ j : Nat, src = j := ⟨src.toNat, by unfold within1 at hq; simp at hq; omega⟩
  subst hjs
  rw [Int.toNat_natCast] at c2
  have hb := new_bk her
  have hr := new_ref her
  obtain ⟨e1, e2, e3, e4, e5⟩ := new_nz her
  have hj : j < (newBk w l nlo nhi).srcs.length := by
    rw [e1]
    unfold within1 at hq; simp at hq; omega
  have hwd := rWide _ hb hr.el hr.one j hj
  rw [e1, e3, e4, e5] at hwd
  obtain ⟨m1, m2, m3⟩ := leastN_spec (fun y => fitB (wideB (newBk w l nlo nhi) j (y : Nat))) 10001
  change strN (newBk w l nlo nhi) j ≤ 10001 at m1
  change ∀ i, i < strN (newBk w l nlo nhi) j → fitB (wideB (newBk w l nlo nhi) j (i : Nat)) = false at m2
  change strN (newBk w l nlo nhi) j < 10001 → fitB (wideB (newBk w l nlo nhi) j ((strN (newBk w l nlo nhi) j : Nat) : Int)) = true at m3
  generalize hm : strN (newBk w l nlo nhi) j = m at *
  by_cases h5 : m ≤ 10000
  · rw [if_pos h5, if_pos h5] at c2
    have d1 := hwd (m : Nat) (by omega) (by omega)
    rw [m3 (by omega)] at d1
    have d3 := rIn (m : Nat) 0 10000
    have d4 : within1 0 10000 (m : Nat) = true := by unfold within1; simp; omega
    rw [d4] at d3
    by_cases h0 : m = 0
    · subst h0
      (repeat' (first | ((first | with_reducible refine st_skip ?_ | with_reducible refine st_exit ?_); (try simp only [seqQ, blockQ, loopQ, forQ, whileQ, reduceIte, Nat.reduceEqDiff])) | (with_reducible refine st_ret ?_; ((try simp only [seqQ, blockQ, loopQ, forQ, whileQ]); first | (with_reducible refine retM_ret ?_) | refine retQ_ret ?_; simp)) | refine st_seq ?_ | refine st_block ?_ | ((with_reducible show (STri _ _ _ _ _) ∧ (STri _ _ _ _ _)); refine And.intro ?_ ?_) | ((first | refine st_reg ?_ | refine buildP_own ?_ | refine appP_own ?_ | refine callP_b (ll) rfl ?_ | refine callP_b (kn) rfl ?_ | refine callP_b (c0) rfl ?_ | refine callP_b (c1) rfl ?_ | refine callP_b (c2) rfl ?_ | refine callP_b (c4) rfl ?_ | refine callP_b (c6) rfl ?_ | refine callP_b (c7) rfl ?_ | refine callP_b (d1) rfl ?_ | refine callP_b (d3) rfl ?_) <;> (simp -dsimp; (repeat (simp -dsimp (disch := (first | omega | assumption | (refine Bool.eq_false_iff.1 ?_; assumption))) only [wrap_in, if_pos, if_neg]; (try simp -dsimp))))) | ((first | refine guardP_of (fun hc => ?_) (fun hc => ?_) | refine st_cond rfl (fun hc => ?_) (fun hc => ?_)) <;> (try simp only [lqA, lqB, lqC, lqD, lqE, lqF, lqG, lqH, lqI, lqJ, lqK, lqL, lqM, lqN, lqO] at hc) <;> (try (exfalso; first | omega | exact bool_tf hc (by assumption) | exact bool_ft hc (by assumption) | exact absurd (by assumption) hc)) <;> (first | with_reducible show STri _ _ _ _ _ _ | (simp -dsimp [hc]; (repeat (simp -dsimp (disch := (first | omega | assumption | (refine Bool.eq_false_iff.1 ?_; assumption))) only [wrap_in, if_pos, if_neg]; (try simp -dsimp [hc]))))))))
      all_goals exact .refl _
    · have d2 := hwd ((m : Nat) - 1) (by omega) (by omega)
      have m4 := m2 (m - 1) (by omega)
      have e : (((m - 1 : Nat) : Nat) : Int) = (m : Nat) - 1 := by omega
      rw [e] at m4
      rw [m4] at d2
      have h0' : ¬ (m : Int) = 0 := by omega
      (repeat' (first | ((first | with_reducible refine st_skip ?_ | with_reducible refine st_exit ?_); (try simp only [seqQ, blockQ, loopQ, forQ, whileQ, reduceIte, Nat.reduceEqDiff])) | (with_reducible refine st_ret ?_; ((try simp only [seqQ, blockQ, loopQ, forQ, whileQ]); first | (with_reducible refine retM_ret ?_) | refine retQ_ret ?_; simp [h0'])) | refine st_seq ?_ | refine st_block ?_ | ((with_reducible show (STri _ _ _ _ _) ∧ (STri _ _ _ _ _)); refine And.intro ?_ ?_) | ((first | refine st_reg ?_ | refine buildP_own ?_ | refine appP_own ?_ | refine callP_b (ll) rfl ?_ | refine callP_b (kn) rfl ?_ | refine callP_b (c0) rfl ?_ | refine callP_b (c1) rfl ?_ | refine callP_b (c2) rfl ?_ | refine callP_b (c4) rfl ?_ | refine callP_b (c6) rfl ?_ | refine callP_b (c7) rfl ?_ | refine callP_b (d1) rfl ?_ | refine callP_b (d2) rfl ?_ | refine callP_b (d3) rfl ?_) <;> (simp -dsimp [h0']; (repeat (simp -dsimp (disch := (first | omega | assumption | (refine Bool.eq_false_iff.1 ?_; assumption))) only [wrap_in, if_pos, if_neg]; (try simp -dsimp [h0']))))) | ((first | refine guardP_of (fun hc => ?_) (fun hc => ?_) | refine st_cond rfl (fun hc => ?_) (fun hc => ?_)) <;> (try simp only [lqA, lqB, lqC, lqD, lqE, lqF, lqG, lqH, lqI, lqJ, lqK, lqL, lqM, lqN, lqO] at hc) <;> (try (exfalso; first | omega | exact bool_tf hc (by assumption) | exact bool_ft hc (by assumption) | exact absurd (by assumption) hc)) <;> (first | with_reducible show STri _ _ _ _ _ _ | (simp -dsimp [h0', hc]; (repeat (simp -dsimp (disch := (first | omega | assumption | (refine Bool.eq_false_iff.1 ?_; assumption))) only [wrap_in, if_pos, if_neg]; (try simp -dsimp [h0', hc]))))))))
      all_goals exact .refl _
  · rw [if_neg h5, if_neg h5] at c2
    have d1 := hwd 10000 (by omega) (by omega)
    have m4 : fitB (wideB (newBk w l nlo nhi) j 10000) = false := m2 10000 (by omega)
    rw [m4] at d1
    (repeat' (first | ((first | with_reducible refine st_skip ?_ | with_reducible refine st_exit ?_); (try simp only [seqQ, blockQ, loopQ, forQ, whileQ, reduceIte, Nat.reduceEqDiff])) | (with_reducible refine st_ret ?_; ((try simp only [seqQ, blockQ, loopQ, forQ, whileQ]); first | (with_reducible refine retM_ret ?_) | refine retQ_ret ?_; simp)) | refine st_seq ?_ | refine st_block ?_ | ((with_reducible show (STri _ _ _ _ _) ∧ (STri _ _ _ _ _)); refine And.intro ?_ ?_) | ((first | refine st_reg ?_ | refine buildP_own ?_ | refine appP_own ?_ | refine callP_b (ll) rfl ?_ | refine callP_b (kn) rfl ?_ | refine callP_b (c0) rfl ?_ | refine callP_b (c1) rfl ?_ | refine callP_b (c2) rfl ?_ | refine callP_b (c4) rfl ?_ | refine callP_b (c6) rfl ?_ | refine callP_b (c7) rfl ?_ | refine callP_b (d1) rfl ?_) <;> (simp -dsimp; (repeat (simp -dsimp (disch := (first | omega | assumption | (refine Bool.eq_false_iff.1 ?_; assumption))) only [wrap_in, if_pos, if_neg]; (try simp -dsimp))))) | ((first | refine guardP_of (fun hc => ?_) (fun hc => ?_) | refine st_cond rfl (fun hc => ?_) (fun hc => ?_)) <;> (try simp only [lqA, lqB, lqC, lqD, lqE, lqF, lqG, lqH, lqI, lqJ, lqK, lqL, lqM, lqN, lqO] at hc) <;> (try (exfalso; first | omega | exact bool_tf hc (by assumption) | exact bool_ft hc (by assumption) | exact absurd (by assumption) hc)) <;> (first | with_reducible show STri _ _ _ _ _ _ | (simp -dsimp [hc]; (repeat (simp -dsimp (disch := (first | omega | assumption | (refine Bool.eq_false_iff.1 ?_; assumption))) only [wrap_in, if_pos, if_neg]; (try simp -dsimp [hc]))))))))
    all_goals exact .refl _
end Go.Proofs.Ytakdmliblijgmaa
