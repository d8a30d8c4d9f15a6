/- It is proved that the statement named by the theorem at the end of this text holds, for every input, with no condition beyond the given ones. -/
import Derived.Test.YtnfggkopledpcaaGreatTm1
import Derived.Test.YtnfggkopledpcaaGreatK5
set_option linter.unusedSimpArgs false
set_option linter.unusedVariables false
/- The shadow code of functions, as the kit's translation has them. -/
namespace Go.Proofs.YtnfggkopledpcaaGreat
open Go.RowKit
def c_turretlaw04_DialTimes_0 : SCode := .reg [⟨(some 3), none, .box 26 (.tmp 0), [], false⟩,
  ⟨(some 5), none, .box 29 (.tmp 2), [], false⟩,
  ⟨(some 6), none, .mov (.const (.bool false)), [], false⟩] [1, 3, 5]
def c_turretlaw04_DialTimes_1 : SCode := .reg [⟨(some 18), none, .load true 4 (.tmp 3), [], false⟩,
  ⟨(some 19), none, .call 4 [(.tmp 18)], [], false⟩,
  ⟨(some 20), none, .mov (.tmp 19), [], false⟩,
  ⟨(some 21), (some (20, false)), .mov (.tmp 1), [], false⟩,
  ⟨(some 22), (some (20, false)), .len (.tmp 21), [], false⟩,
  ⟨(some 23), (some (20, false)), .bin .gtr (.tmp 22) (.const (.int .i64 25)), [], false⟩,
  ⟨(some 24), none, .pick (.tmp 20) (.const (.bool true)) (.tmp 23), [], false⟩] [1, 3, 5, 24]
def c_turretlaw04_DialTimes_2 : SCode := .reg [⟨(some 25), none, .call 5 [], [], false⟩,
  ⟨(some 6), none, .mov (.tmp 25), [], false⟩] [6]
def c_turretlaw04_DialTimes_3 : SCode := .seq c_turretlaw04_DialTimes_2 .ret
def c_turretlaw04_DialTimes_4 : SCode := .cond (.tmp 24) c_turretlaw04_DialTimes_3 .skip
def c_turretlaw04_DialTimes_5 : SCode := .seq c_turretlaw04_DialTimes_1 c_turretlaw04_DialTimes_4
def c_turretlaw04_DialTimes_6 : SCode := .reg [⟨(some 26), none, .load true 4 (.tmp 3), [], false⟩,
  ⟨(some 27), none, .mov (.tmp 1), [], false⟩,
  ⟨(some 28), none, .fld 0 (.tmp 5), [], false⟩,
  ⟨(some 29), none, .load true 2 (.tmp 28), [], false⟩,
  ⟨(some 30), none, .fld 2 (.tmp 5), [], false⟩,
  ⟨(some 31), none, .load true 2 (.tmp 30), [], false⟩,
  ⟨(some 32), none, .call 6 [(.tmp 26), (.tmp 27), (.tmp 29), (.tmp 31)], [], false⟩,
  ⟨(some 7), none, .mov (.tmp 32), [], false⟩] [1, 3, 5, 7]
def c_turretlaw04_DialTimes_7 : SCode := .reg [⟨(some 33), none, .mov (.tmp 7), [], false⟩,
  ⟨(some 34), none, .bin .eql (.tmp 33) (.const (.int .i64 0)), [], false⟩,
  ⟨(some 35), none, .mov (.tmp 34), [], false⟩,
  ⟨(some 36), (some (35, true)), .mov (.tmp 1), [], false⟩,
  ⟨(some 37), (some (35, true)), .len (.tmp 36), [], false⟩,
  ⟨(some 38), (some (35, true)), .bin .gtr (.tmp 37) (.const (.int .i64 5)), [], false⟩,
  ⟨(some 39), (some (35, true)), .mov (.tmp 38), [], false⟩,
  ⟨(some 40), (some (39, false)), .fld 0 (.tmp 5), [], false⟩,
  ⟨(some 41), (some (39, false)), .fld 1 (.tmp 40), [], false⟩,
  ⟨(some 42), (some (39, false)), .load false 1 (.tmp 41), [], false⟩,
  ⟨(some 43), (some (39, false)), .fld 0 (.tmp 5), [], false⟩,
  ⟨(some 44), (some (39, false)), .fld 0 (.tmp 43), [], false⟩,
  ⟨(some 45), (some (39, false)), .load false 1 (.tmp 44), [], false⟩,
  ⟨(some 46), (some (39, false)), .bin .sub (.tmp 42) (.tmp 45), [], false⟩,
  ⟨(some 47), (some (39, false)), .bin .gtr (.tmp 46) (.const (.int .i64 150)), [], false⟩,
  ⟨(some 48), (some (35, true)), .pick (.tmp 39) (.const (.bool true)) (.tmp 47), [], false⟩,
  ⟨(some 49), (some (35, true)), .mov (.tmp 48), [], false⟩,
  ⟨(some 50), (some (49, false)), .fld 1 (.tmp 3), [], false⟩,
  ⟨(some 51), (some (49, false)), .fld 1 (.tmp 50), [], false⟩,
  ⟨(some 52), (some (49, false)), .load false 1 (.tmp 51), [], false⟩,
  ⟨(some 53), (some (49, false)), .fld 1 (.tmp 3), [], false⟩,
  ⟨(some 54), (some (49, false)), .fld 0 (.tmp 53), [], false⟩,
  ⟨(some 55), (some (49, false)), .load false 1 (.tmp 54), [], false⟩,
  ⟨(some 56), (some (49, false)), .bin .sub (.tmp 52) (.tmp 55), [], false⟩,
  ⟨(some 57), (some (49, false)), .bin .gtr (.tmp 56) (.const (.int .i64 60)), [], false⟩,
  ⟨(some 58), (some (35, true)), .pick (.tmp 49) (.const (.bool true)) (.tmp 57), [], false⟩,
  ⟨(some 59), none, .pick (.tmp 35) (.tmp 58) (.const (.bool false)), [], false⟩] [1, 3, 5, 7, 59]
def c_turretlaw04_DialTimes_8 : SCode := .reg [⟨(some 60), none, .call 5 [], [], false⟩,
  ⟨(some 6), none, .mov (.tmp 60), [], false⟩] [6]
def c_turretlaw04_DialTimes_9 : SCode := .seq c_turretlaw04_DialTimes_8 .ret
def c_turretlaw04_DialTimes_10 : SCode := .cond (.tmp 59) c_turretlaw04_DialTimes_9 .skip
def c_turretlaw04_DialTimes_11 : SCode := .seq c_turretlaw04_DialTimes_7 c_turretlaw04_DialTimes_10
def c_turretlaw04_DialTimes_12 : SCode := .reg [⟨(some 61), none, .load true 4 (.tmp 3), [], false⟩,
  ⟨(some 62), none, .call 7 [(.tmp 61)], [], false⟩,
  ⟨(some 63), none, .mov (.tmp 1), [], false⟩,
  ⟨(some 64), none, .call 8 [(.tmp 63)], [], false⟩,
  ⟨(some 8), none, .alloc 26 [(.int .i64 0), (.int .i64 0), (.int .i64 0), (.slice none 0 0)], [], false⟩,
  ⟨none, none, .store 4 (.tmp 8) (.tmp 62), [], false⟩,
  ⟨(some 9), none, .mov (.tmp 64), [], false⟩] [1, 3, 5, 7, 8, 9]
def c_turretlaw04_DialTimes_13 : SCode := .reg [⟨(some 66), none, .load true 4 (.tmp 8), [], false⟩,
  ⟨(some 67), none, .mov (.tmp 9), [], false⟩,
  ⟨(some 68), none, .fld 0 (.tmp 5), [], false⟩,
  ⟨(some 69), none, .load true 2 (.tmp 68), [], false⟩,
  ⟨(some 70), none, .fld 2 (.tmp 5), [], false⟩,
  ⟨(some 71), none, .load true 2 (.tmp 70), [], false⟩,
  ⟨(some 72), none, .call 9 [(.tmp 66), (.tmp 67), (.tmp 69), (.tmp 71)], [], false⟩,
  ⟨(some 65), none, .mov (.tmp 72), [], false⟩,
  ⟨(some 73), none, .ext (.tmp 65) 0, [], false⟩,
  ⟨(some 74), none, .ext (.tmp 65) 1, [], false⟩,
  ⟨(some 10), none, .mov (.tmp 73), [], false⟩,
  ⟨(some 11), none, .mov (.tmp 74), [], false⟩] [1, 3, 5, 7, 8, 9, 10, 11]
def c_turretlaw04_DialTimes_14 : SCode := .reg [⟨(some 76), none, .load true 4 (.tmp 8), [], false⟩,
  ⟨(some 77), none, .mov (.tmp 9), [], false⟩,
  ⟨(some 78), none, .fld 0 (.tmp 5), [], false⟩,
  ⟨(some 79), none, .load true 2 (.tmp 78), [], false⟩,
  ⟨(some 80), none, .fld 2 (.tmp 5), [], false⟩,
  ⟨(some 81), none, .load true 2 (.tmp 80), [], false⟩,
  ⟨(some 82), none, .call 10 [(.tmp 76), (.tmp 77), (.tmp 79), (.tmp 81)], [], false⟩,
  ⟨(some 75), none, .mov (.tmp 82), [], false⟩,
  ⟨(some 83), none, .ext (.tmp 75) 0, [], false⟩,
  ⟨(some 84), none, .ext (.tmp 75) 1, [], false⟩,
  ⟨(some 12), none, .mov (.tmp 83), [], false⟩,
  ⟨(some 13), none, .mov (.tmp 84), [], false⟩] [1, 3, 5, 7, 8, 9, 10, 11, 12, 13]
def c_turretlaw04_DialTimes_15 : SCode := .reg [⟨(some 85), none, .load true 4 (.tmp 8), [], false⟩,
  ⟨(some 86), none, .load true 4 (.tmp 3), [], false⟩,
  ⟨(some 87), none, .call 11 [(.tmp 85), (.tmp 86)], [], false⟩,
  ⟨(some 88), none, .un .not (.tmp 87), [], false⟩,
  ⟨(some 89), none, .mov (.tmp 88), [], false⟩,
  ⟨(some 90), (some (89, false)), .mov (.tmp 9), [], false⟩,
  ⟨(some 91), (some (89, false)), .len (.tmp 90), [], false⟩,
  ⟨(some 92), (some (89, false)), .mov (.tmp 1), [], false⟩,
  ⟨(some 93), (some (89, false)), .len (.tmp 92), [], false⟩,
  ⟨(some 94), (some (89, false)), .bin .neq (.tmp 91) (.tmp 93), [], false⟩,
  ⟨(some 95), none, .pick (.tmp 89) (.const (.bool true)) (.tmp 94), [], false⟩] [1, 3, 5, 7, 9, 10, 11, 12, 13, 95]
def c_turretlaw04_DialTimes_16 : SCode := .reg [⟨(some 6), none, .mov (.const (.bool false)), [], false⟩] [6]
def c_turretlaw04_DialTimes_17 : SCode := .seq c_turretlaw04_DialTimes_16 .ret
def c_turretlaw04_DialTimes_18 : SCode := .cond (.tmp 95) c_turretlaw04_DialTimes_17 .skip
def c_turretlaw04_DialTimes_19 : SCode := .seq c_turretlaw04_DialTimes_15 c_turretlaw04_DialTimes_18
def c_turretlaw04_DialTimes_20 : SCode := .reg [⟨(some 14), none, .mov (.const (.int .i64 0)), [], false⟩] [1, 3, 5, 7, 9, 10, 11, 12, 13, 14]
def c_turretlaw04_DialTimes_21 : SCode := .reg [⟨(some 96), none, .mov (.tmp 14), [], false⟩,
  ⟨(some 97), none, .mov (.tmp 1), [], false⟩,
  ⟨(some 98), none, .len (.tmp 97), [], false⟩,
  ⟨(some 99), none, .bin .lss (.tmp 96) (.tmp 98), [], false⟩] [1, 3, 5, 7, 9, 10, 11, 12, 13, 14, 99]
def c_turretlaw04_DialTimes_22 : SCode := .cond (.tmp 99) .skip (.exit 0)
def c_turretlaw04_DialTimes_23 : SCode := .seq c_turretlaw04_DialTimes_21 c_turretlaw04_DialTimes_22
def c_turretlaw04_DialTimes_24 : SCode := .reg [⟨(some 102), none, .mov (.tmp 9), [], false⟩,
  ⟨(some 103), none, .mov (.tmp 14), [], false⟩,
  ⟨(some 104), none, .idxS 2 (.tmp 102) (.tmp 103), [], false⟩,
  ⟨(some 105), none, .load true 2 (.tmp 104), [], false⟩,
  ⟨(some 106), none, .mov (.tmp 1), [], false⟩,
  ⟨(some 107), none, .mov (.tmp 14), [], false⟩,
  ⟨(some 108), none, .idxS 2 (.tmp 106) (.tmp 107), [], false⟩,
  ⟨(some 109), none, .load true 2 (.tmp 108), [], false⟩,
  ⟨(some 110), none, .eqC true [true, true] (.tmp 105) (.tmp 109), [], false⟩] [1, 3, 5, 7, 9, 10, 11, 12, 13, 14, 110]
def c_turretlaw04_DialTimes_25 : SCode := .reg [⟨(some 6), none, .mov (.const (.bool false)), [], false⟩] [6]
def c_turretlaw04_DialTimes_26 : SCode := .seq c_turretlaw04_DialTimes_25 .ret
def c_turretlaw04_DialTimes_27 : SCode := .cond (.tmp 110) c_turretlaw04_DialTimes_26 .skip
def c_turretlaw04_DialTimes_28 : SCode := .seq c_turretlaw04_DialTimes_24 c_turretlaw04_DialTimes_27
def c_turretlaw04_DialTimes_29 : SCode := .block 1 c_turretlaw04_DialTimes_28
def c_turretlaw04_DialTimes_30 : SCode := .reg [⟨(some 100), none, .mov (.tmp 14), [], false⟩,
  ⟨(some 101), none, .bin .add (.tmp 100) (.const (.int .i64 1)), [], false⟩,
  ⟨(some 14), none, .mov (.tmp 101), [], false⟩] [1, 3, 5, 7, 9, 10, 11, 12, 13, 14]
def c_turretlaw04_DialTimes_31 : SCode := .seq c_turretlaw04_DialTimes_29 c_turretlaw04_DialTimes_30
def c_turretlaw04_DialTimes_32 : SCode := .seq c_turretlaw04_DialTimes_23 c_turretlaw04_DialTimes_31
def c_turretlaw04_DialTimes_33 : SCode := .loop c_turretlaw04_DialTimes_32
def c_turretlaw04_DialTimes_34 : SCode := .block 0 c_turretlaw04_DialTimes_33
def c_turretlaw04_DialTimes_35 : SCode := .seq c_turretlaw04_DialTimes_20 c_turretlaw04_DialTimes_34
def c_turretlaw04_DialTimes_36 : SCode := .reg [⟨(some 111), none, .mov (.tmp 7), [], false⟩,
  ⟨(some 112), none, .bin .neq (.tmp 111) (.const (.int .i64 0)), [], false⟩] [1, 3, 5, 7, 10, 11, 12, 13, 112]
def c_turretlaw04_DialTimes_37 : SCode := .reg [⟨(some 113), none, .mov (.tmp 11), [], false⟩,
  ⟨(some 114), none, .mov (.tmp 7), [], false⟩,
  ⟨(some 115), none, .bin .eql (.tmp 113) (.tmp 114), [], false⟩,
  ⟨(some 116), none, .mov (.tmp 115), [], false⟩,
  ⟨(some 117), (some (116, true)), .mov (.tmp 13), [], false⟩,
  ⟨(some 118), (some (116, true)), .mov (.tmp 7), [], false⟩,
  ⟨(some 119), (some (116, true)), .bin .eql (.tmp 117) (.tmp 118), [], false⟩,
  ⟨(some 120), none, .pick (.tmp 116) (.tmp 119) (.const (.bool false)), [], false⟩,
  ⟨(some 121), none, .mov (.tmp 120), [], false⟩,
  ⟨(some 122), (some (121, true)), .mov (.tmp 10), [], false⟩,
  ⟨(some 123), (some (121, true)), .len (.tmp 122), [], false⟩,
  ⟨(some 124), (some (121, true)), .mov (.tmp 12), [], false⟩,
  ⟨(some 125), (some (121, true)), .len (.tmp 124), [], false⟩,
  ⟨(some 126), (some (121, true)), .bin .add (.tmp 123) (.tmp 125), [], false⟩,
  ⟨(some 127), (some (121, true)), .bin .eql (.tmp 126) (.const (.int .i64 0)), [], false⟩,
  ⟨(some 128), none, .pick (.tmp 121) (.tmp 127) (.const (.bool false)), [], false⟩,
  ⟨(some 129), none, .mov (.tmp 128), [], false⟩,
  ⟨(some 130), (some (129, true)), .call 5 [], [], false⟩,
  ⟨(some 131), none, .pick (.tmp 129) (.tmp 130) (.const (.bool false)), [], false⟩,
  ⟨(some 6), none, .mov (.tmp 131), [], false⟩] [6]
def c_turretlaw04_DialTimes_38 : SCode := .seq c_turretlaw04_DialTimes_37 .ret
def c_turretlaw04_DialTimes_39 : SCode := .cond (.tmp 112) c_turretlaw04_DialTimes_38 .skip
def c_turretlaw04_DialTimes_40 : SCode := .seq c_turretlaw04_DialTimes_36 c_turretlaw04_DialTimes_39
def c_turretlaw04_DialTimes_41 : SCode := .reg [⟨(some 132), none, .load true 4 (.tmp 3), [], false⟩,
  ⟨(some 133), none, .mov (.tmp 1), [], false⟩,
  ⟨(some 134), none, .fld 0 (.tmp 5), [], false⟩,
  ⟨(some 135), none, .load true 2 (.tmp 134), [], false⟩,
  ⟨(some 136), none, .fld 2 (.tmp 5), [], false⟩,
  ⟨(some 137), none, .load true 2 (.tmp 136), [], false⟩,
  ⟨(some 138), none, .call 13 [(.tmp 132), (.tmp 133), (.tmp 135), (.tmp 137)], [], false⟩,
  ⟨(some 139), none, .fld 0 (.tmp 5), [], false⟩,
  ⟨(some 140), none, .fld 0 (.tmp 139), [], false⟩,
  ⟨(some 141), none, .load false 1 (.tmp 140), [], false⟩,
  ⟨(some 142), none, .call 12 [(.tmp 138), (.tmp 141)], [], false⟩,
  ⟨(some 143), none, .load true 4 (.tmp 3), [], false⟩,
  ⟨(some 144), none, .mov (.tmp 1), [], false⟩,
  ⟨(some 145), none, .fld 0 (.tmp 5), [], false⟩,
  ⟨(some 146), none, .load true 2 (.tmp 145), [], false⟩,
  ⟨(some 147), none, .fld 2 (.tmp 5), [], false⟩,
  ⟨(some 148), none, .load true 2 (.tmp 147), [], false⟩,
  ⟨(some 149), none, .call 14 [(.tmp 143), (.tmp 144), (.tmp 146), (.tmp 148)], [], false⟩,
  ⟨(some 15), none, .mov (.tmp 142), [], false⟩,
  ⟨(some 16), none, .mov (.tmp 149), [], false⟩] [10, 11, 12, 13, 15, 16]
def c_turretlaw04_DialTimes_42 : SCode := .reg [⟨(some 150), none, .mov (.tmp 13), [], false⟩,
  ⟨(some 151), none, .bin .neq (.tmp 150) (.const (.int .i64 0)), [], false⟩,
  ⟨(some 152), none, .mov (.tmp 151), [], false⟩,
  ⟨(some 153), (some (152, false)), .mov (.tmp 12), [], false⟩,
  ⟨(some 154), (some (152, false)), .len (.tmp 153), [], false⟩,
  ⟨(some 155), (some (152, false)), .mov (.tmp 16), [], false⟩,
  ⟨(some 156), (some (152, false)), .len (.tmp 155), [], false⟩,
  ⟨(some 157), (some (152, false)), .bin .neq (.tmp 154) (.tmp 156), [], false⟩,
  ⟨(some 158), none, .pick (.tmp 152) (.const (.bool true)) (.tmp 157), [], false⟩,
  ⟨(some 159), none, .mov (.tmp 158), [], false⟩,
  ⟨(some 160), (some (159, false)), .mov (.tmp 15), [], false⟩,
  ⟨(some 161), (some (159, false)), .len (.tmp 160), [], false⟩,
  ⟨(some 162), (some (159, false)), .bin .eql (.tmp 161) (.const (.int .i64 0)), [], false⟩,
  ⟨(some 163), (some (159, false)), .mov (.tmp 11), [], false⟩,
  ⟨(some 164), (some (159, false)), .bin .eql (.tmp 163) (.const (.int .i64 7)), [], false⟩,
  ⟨(some 165), (some (159, false)), .binB true (.tmp 162) (.tmp 164), [], false⟩,
  ⟨(some 166), none, .pick (.tmp 159) (.const (.bool true)) (.tmp 165), [], false⟩,
  ⟨(some 167), none, .mov (.tmp 166), [], false⟩,
  ⟨(some 168), (some (167, false)), .mov (.tmp 11), [], false⟩,
  ⟨(some 169), (some (167, false)), .bin .neq (.tmp 168) (.const (.int .i64 0)), [], false⟩,
  ⟨(some 170), (some (167, false)), .mov (.tmp 169), [], false⟩,
  ⟨(some 171), (some (170, true)), .mov (.tmp 11), [], false⟩,
  ⟨(some 172), (some (170, true)), .bin .neq (.tmp 171) (.const (.int .i64 7)), [], false⟩,
  ⟨(some 173), (some (167, false)), .pick (.tmp 170) (.tmp 172) (.const (.bool false)), [], false⟩,
  ⟨(some 174), none, .pick (.tmp 167) (.const (.bool true)) (.tmp 173), [], false⟩,
  ⟨(some 175), none, .mov (.tmp 174), [], false⟩,
  ⟨(some 176), (some (175, false)), .mov (.tmp 10), [], false⟩,
  ⟨(some 177), (some (175, false)), .mov (.tmp 15), [], false⟩,
  ⟨(some 178), (some (175, false)), .call 15 [(.tmp 176), (.tmp 177)], [], false⟩,
  ⟨(some 179), (some (175, false)), .un .not (.tmp 178), [], false⟩,
  ⟨(some 180), none, .pick (.tmp 175) (.const (.bool true)) (.tmp 179), [], false⟩] [12, 16, 180]
def c_turretlaw04_DialTimes_43 : SCode := .reg [⟨(some 6), none, .mov (.const (.bool false)), [], false⟩] [6]
def c_turretlaw04_DialTimes_44 : SCode := .seq c_turretlaw04_DialTimes_43 .ret
def c_turretlaw04_DialTimes_45 : SCode := .cond (.tmp 180) c_turretlaw04_DialTimes_44 .skip
def c_turretlaw04_DialTimes_46 : SCode := .seq c_turretlaw04_DialTimes_42 c_turretlaw04_DialTimes_45
def c_turretlaw04_DialTimes_47 : SCode := .reg [⟨(some 17), none, .mov (.const (.int .i64 0)), [], false⟩] [12, 16, 17]
def c_turretlaw04_DialTimes_48 : SCode := .reg [⟨(some 181), none, .mov (.tmp 17), [], false⟩,
  ⟨(some 182), none, .mov (.tmp 12), [], false⟩,
  ⟨(some 183), none, .len (.tmp 182), [], false⟩,
  ⟨(some 184), none, .bin .lss (.tmp 181) (.tmp 183), [], false⟩] [12, 16, 17, 184]
def c_turretlaw04_DialTimes_49 : SCode := .cond (.tmp 184) .skip (.exit 2)
def c_turretlaw04_DialTimes_50 : SCode := .seq c_turretlaw04_DialTimes_48 c_turretlaw04_DialTimes_49
def c_turretlaw04_DialTimes_51 : SCode := .reg [⟨(some 187), none, .mov (.tmp 12), [], false⟩,
  ⟨(some 188), none, .mov (.tmp 17), [], false⟩,
  ⟨(some 189), none, .idxS 2 (.tmp 187) (.tmp 188), [], false⟩,
  ⟨(some 190), none, .load true 2 (.tmp 189), [], false⟩,
  ⟨(some 191), none, .mov (.tmp 16), [], false⟩,
  ⟨(some 192), none, .mov (.tmp 17), [], false⟩,
  ⟨(some 193), none, .idxS 2 (.tmp 191) (.tmp 192), [], false⟩,
  ⟨(some 194), none, .load true 2 (.tmp 193), [], false⟩,
  ⟨(some 195), none, .eqC true [true, true] (.tmp 190) (.tmp 194), [], false⟩] [12, 16, 17, 195]
def c_turretlaw04_DialTimes_52 : SCode := .reg [⟨(some 6), none, .mov (.const (.bool false)), [], false⟩] [6]
def c_turretlaw04_DialTimes_53 : SCode := .seq c_turretlaw04_DialTimes_52 .ret
def c_turretlaw04_DialTimes_54 : SCode := .cond (.tmp 195) c_turretlaw04_DialTimes_53 .skip
def c_turretlaw04_DialTimes_55 : SCode := .seq c_turretlaw04_DialTimes_51 c_turretlaw04_DialTimes_54
def c_turretlaw04_DialTimes_56 : SCode := .block 3 c_turretlaw04_DialTimes_55
def c_turretlaw04_DialTimes_57 : SCode := .reg [⟨(some 185), none, .mov (.tmp 17), [], false⟩,
  ⟨(some 186), none, .bin .add (.tmp 185) (.const (.int .i64 1)), [], false⟩,
  ⟨(some 17), none, .mov (.tmp 186), [], false⟩] [12, 16, 17]
def c_turretlaw04_DialTimes_58 : SCode := .seq c_turretlaw04_DialTimes_56 c_turretlaw04_DialTimes_57
def c_turretlaw04_DialTimes_59 : SCode := .seq c_turretlaw04_DialTimes_50 c_turretlaw04_DialTimes_58
def c_turretlaw04_DialTimes_60 : SCode := .loop c_turretlaw04_DialTimes_59
def c_turretlaw04_DialTimes_61 : SCode := .block 2 c_turretlaw04_DialTimes_60
def c_turretlaw04_DialTimes_62 : SCode := .seq c_turretlaw04_DialTimes_47 c_turretlaw04_DialTimes_61
def c_turretlaw04_DialTimes_63 : SCode := .reg [⟨(some 196), none, .call 5 [], [], false⟩,
  ⟨(some 6), none, .mov (.tmp 196), [], false⟩] [6]
def c_turretlaw04_DialTimes_64 : SCode := .seq c_turretlaw04_DialTimes_63 .ret
def c_turretlaw04_DialTimes_65 : SCode := .seq c_turretlaw04_DialTimes_62 c_turretlaw04_DialTimes_64
def c_turretlaw04_DialTimes_66 : SCode := .seq c_turretlaw04_DialTimes_46 c_turretlaw04_DialTimes_65
def c_turretlaw04_DialTimes_67 : SCode := .seq c_turretlaw04_DialTimes_41 c_turretlaw04_DialTimes_66
def c_turretlaw04_DialTimes_68 : SCode := .seq c_turretlaw04_DialTimes_40 c_turretlaw04_DialTimes_67
def c_turretlaw04_DialTimes_69 : SCode := .seq c_turretlaw04_DialTimes_35 c_turretlaw04_DialTimes_68
def c_turretlaw04_DialTimes_70 : SCode := .seq c_turretlaw04_DialTimes_19 c_turretlaw04_DialTimes_69
def c_turretlaw04_DialTimes_71 : SCode := .seq c_turretlaw04_DialTimes_14 c_turretlaw04_DialTimes_70
def c_turretlaw04_DialTimes_72 : SCode := .seq c_turretlaw04_DialTimes_13 c_turretlaw04_DialTimes_71
def c_turretlaw04_DialTimes_73 : SCode := .seq c_turretlaw04_DialTimes_12 c_turretlaw04_DialTimes_72
def c_turretlaw04_DialTimes_74 : SCode := .seq c_turretlaw04_DialTimes_11 c_turretlaw04_DialTimes_73
def c_turretlaw04_DialTimes_75 : SCode := .seq c_turretlaw04_DialTimes_6 c_turretlaw04_DialTimes_74
def c_turretlaw04_DialTimes_76 : SCode := .seq c_turretlaw04_DialTimes_5 c_turretlaw04_DialTimes_75
def c_turretlaw04_DialTimes_77 : SCode := .seq c_turretlaw04_DialTimes_0 c_turretlaw04_DialTimes_76
@[simp] def rs_turretlaw04_DialTimes : List SRes := [.tmp 6]
theorem law_turretlaw04_DialTimes (cs : List CV) (r : CV) (hl : cs.length ≤ 197) (h : STri (cfF Tryz.prog [] 197) c_turretlaw04_DialTimes_77 (initT 0 cs) [] (retQ rs_turretlaw04_DialTimes r)) : SC Tryz.prog 3 cs r :=
  sc_of [] follows Tryz.func3 rfl Tryz.ntmps3 (by decide) (by kernel_rfl) (by kernel_rfl) hl h
def c_turretlaw04_large_0 : SCode := .reg [⟨(some 1), none, .box 26 (.tmp 0), [], false⟩,
  ⟨(some 2), none, .mov (.const (.bool false)), [], false⟩] [1]
def c_turretlaw04_large_1 : SCode := .reg [⟨(some 3), none, .mov (.const (.int .i64 0)), [], false⟩] [1, 3]
def c_turretlaw04_large_2 : SCode := .reg [⟨(some 4), none, .mov (.tmp 3), [], false⟩,
  ⟨(some 5), none, .fld 3 (.tmp 1), [], false⟩,
  ⟨(some 6), none, .load false 1 (.tmp 5), [], false⟩,
  ⟨(some 7), none, .len (.tmp 6), [], false⟩,
  ⟨(some 8), none, .bin .lss (.tmp 4) (.tmp 7), [], false⟩] [1, 3, 8]
def c_turretlaw04_large_3 : SCode := .cond (.tmp 8) .skip (.exit 0)
def c_turretlaw04_large_4 : SCode := .seq c_turretlaw04_large_2 c_turretlaw04_large_3
def c_turretlaw04_large_5 : SCode := .reg [⟨(some 11), none, .fld 3 (.tmp 1), [], false⟩,
  ⟨(some 12), none, .load false 1 (.tmp 11), [], false⟩,
  ⟨(some 13), none, .mov (.tmp 3), [], false⟩,
  ⟨(some 14), none, .idxS 5 (.tmp 12) (.tmp 13), [], false⟩,
  ⟨(some 15), none, .fld 2 (.tmp 14), [], false⟩,
  ⟨(some 16), none, .load false 1 (.tmp 15), [], false⟩,
  ⟨(some 17), none, .len (.tmp 16), [], false⟩,
  ⟨(some 18), none, .bin .gtr (.tmp 17) (.const (.int .i64 10)), [], false⟩] [1, 3, 18]
def c_turretlaw04_large_6 : SCode := .reg [⟨(some 2), none, .mov (.const (.bool true)), [], false⟩] [2]
def c_turretlaw04_large_7 : SCode := .seq c_turretlaw04_large_6 .ret
def c_turretlaw04_large_8 : SCode := .cond (.tmp 18) c_turretlaw04_large_7 .skip
def c_turretlaw04_large_9 : SCode := .seq c_turretlaw04_large_5 c_turretlaw04_large_8
def c_turretlaw04_large_10 : SCode := .block 1 c_turretlaw04_large_9
def c_turretlaw04_large_11 : SCode := .reg [⟨(some 9), none, .mov (.tmp 3), [], false⟩,
  ⟨(some 10), none, .bin .add (.tmp 9) (.const (.int .i64 1)), [], false⟩,
  ⟨(some 3), none, .mov (.tmp 10), [], false⟩] [1, 3]
def c_turretlaw04_large_12 : SCode := .seq c_turretlaw04_large_10 c_turretlaw04_large_11
def c_turretlaw04_large_13 : SCode := .seq c_turretlaw04_large_4 c_turretlaw04_large_12
def c_turretlaw04_large_14 : SCode := .loop c_turretlaw04_large_13
def c_turretlaw04_large_15 : SCode := .block 0 c_turretlaw04_large_14
def c_turretlaw04_large_16 : SCode := .seq c_turretlaw04_large_1 c_turretlaw04_large_15
def c_turretlaw04_large_17 : SCode := .reg [⟨(some 19), none, .fld 3 (.tmp 1), [], false⟩,
  ⟨(some 20), none, .load false 1 (.tmp 19), [], false⟩,
  ⟨(some 21), none, .len (.tmp 20), [], false⟩,
  ⟨(some 22), none, .bin .gtr (.tmp 21) (.const (.int .i64 12)), [], false⟩,
  ⟨(some 2), none, .mov (.tmp 22), [], false⟩] [2]
def c_turretlaw04_large_18 : SCode := .seq c_turretlaw04_large_17 .ret
def c_turretlaw04_large_19 : SCode := .seq c_turretlaw04_large_16 c_turretlaw04_large_18
def c_turretlaw04_large_20 : SCode := .seq c_turretlaw04_large_0 c_turretlaw04_large_19
@[simp] def rs_turretlaw04_large : List SRes := [.tmp 2]
theorem law_turretlaw04_large (cs : List CV) (r : CV) (hl : cs.length ≤ 23) (h : STri (cfF Tryz.prog [] 23) c_turretlaw04_large_20 (initT 0 cs) [] (retQ rs_turretlaw04_large r)) : SC Tryz.prog 4 cs r :=
  sc_of [] follows Tryz.func4 rfl Tryz.ntmps4 (by decide) (by kernel_rfl) (by kernel_rfl) hl h
def c_turretlaw04_works_0 : SCode := .reg [⟨(some 1), none, .box 26 (.tmp 0), [], false⟩,
  ⟨(some 2), none, .alloc 26 [(.int .i64 0), (.int .i64 0), (.int .i64 0), (.slice none 0 0)], [], false⟩] [1, 2]
def c_turretlaw04_works_1 : SCode := .reg [⟨(some 5), none, .load true 4 (.tmp 1), [], false⟩,
  ⟨(some 3), none, .alloc 26 [(.int .i64 0), (.int .i64 0), (.int .i64 0), (.slice none 0 0)], [], false⟩,
  ⟨none, none, .store 4 (.tmp 3) (.tmp 5), [], false⟩] [1, 2, 3]
def c_turretlaw04_works_2 : SCode := .reg [⟨(some 6), none, .fld 3 (.tmp 3), [], false⟩,
  ⟨none, none, .store 1 (.tmp 6) (.const (.slice none 0 0)), [], false⟩] [1, 2, 3]
def c_turretlaw04_works_3 : SCode := .reg [⟨(some 4), none, .mov (.const (.int .i64 0)), [], false⟩] [1, 2, 3, 4]
def c_turretlaw04_works_4 : SCode := .reg [⟨(some 7), none, .mov (.tmp 4), [], false⟩,
  ⟨(some 8), none, .fld 3 (.tmp 1), [], false⟩,
  ⟨(some 9), none, .load false 1 (.tmp 8), [], false⟩,
  ⟨(some 10), none, .len (.tmp 9), [], false⟩,
  ⟨(some 11), none, .bin .lss (.tmp 7) (.tmp 10), [], false⟩] [1, 2, 3, 4, 11]
def c_turretlaw04_works_5 : SCode := .cond (.tmp 11) .skip (.exit 0)
def c_turretlaw04_works_6 : SCode := .seq c_turretlaw04_works_4 c_turretlaw04_works_5
def c_turretlaw04_works_7 : SCode := .reg [⟨(some 14), none, .fld 3 (.tmp 3), [], true⟩,
  ⟨(some 15), none, .load false 1 (.tmp 14), [], true⟩,
  ⟨(some 16), none, .fld 3 (.tmp 1), [], false⟩,
  ⟨(some 17), none, .load false 1 (.tmp 16), [], false⟩,
  ⟨(some 18), none, .mov (.tmp 4), [], false⟩,
  ⟨(some 19), none, .idxS 5 (.tmp 17) (.tmp 18), [], false⟩,
  ⟨(some 20), none, .load true 5 (.tmp 19), [], false⟩,
  ⟨(some 21), none, .call 27 [(.tmp 20)], [], false⟩,
  ⟨(some 22), none, .buildSl 54 5 [(.int .i64 0), (.int .i64 0), (.slice none 0 0), (.int .i64 0), (.int .i64 0)] 1 [(0, (.tmp 21))], [0, 1], false⟩,
  ⟨(some 23), none, .append 54 5 56 (.tmp 15) (.tmp 22), [], false⟩,
  ⟨(some 24), none, .fld 3 (.tmp 3), [], false⟩,
  ⟨none, none, .store 1 (.tmp 24) (.tmp 23), [], false⟩] [1, 2, 3, 4]
def c_turretlaw04_works_8 : SCode := .block 1 c_turretlaw04_works_7
def c_turretlaw04_works_9 : SCode := .reg [⟨(some 12), none, .mov (.tmp 4), [], false⟩,
  ⟨(some 13), none, .bin .add (.tmp 12) (.const (.int .i64 1)), [], false⟩,
  ⟨(some 4), none, .mov (.tmp 13), [], false⟩] [1, 2, 3, 4]
def c_turretlaw04_works_10 : SCode := .seq c_turretlaw04_works_8 c_turretlaw04_works_9
def c_turretlaw04_works_11 : SCode := .seq c_turretlaw04_works_6 c_turretlaw04_works_10
def c_turretlaw04_works_12 : SCode := .loop c_turretlaw04_works_11
def c_turretlaw04_works_13 : SCode := .block 0 c_turretlaw04_works_12
def c_turretlaw04_works_14 : SCode := .seq c_turretlaw04_works_3 c_turretlaw04_works_13
def c_turretlaw04_works_15 : SCode := .reg [⟨(some 25), none, .load true 4 (.tmp 3), [], false⟩,
  ⟨none, none, .store 4 (.tmp 2) (.tmp 25), [], false⟩] [2]
def c_turretlaw04_works_16 : SCode := .seq c_turretlaw04_works_15 .ret
def c_turretlaw04_works_17 : SCode := .seq c_turretlaw04_works_14 c_turretlaw04_works_16
def c_turretlaw04_works_18 : SCode := .seq c_turretlaw04_works_2 c_turretlaw04_works_17
def c_turretlaw04_works_19 : SCode := .seq c_turretlaw04_works_1 c_turretlaw04_works_18
def c_turretlaw04_works_20 : SCode := .seq c_turretlaw04_works_0 c_turretlaw04_works_19
@[simp] def rs_turretlaw04_works : List SRes := [.cell 2 true 4]
theorem law_turretlaw04_works (cs : List CV) (r : CV) (hl : cs.length ≤ 26) (h : STri (cfF Tryz.prog [] 26) c_turretlaw04_works_20 (initT 0 cs) [] (retQ rs_turretlaw04_works r)) : SC Tryz.prog 7 cs r :=
  sc_of [] follows Tryz.func7 rfl Tryz.ntmps7 (by decide) (by kernel_rfl) (by kernel_rfl) hl h
def c_turretlaw04_readings_0 : SCode := .reg [⟨(some 2), none, .mov (.const (.slice none 0 0)), [], false⟩] [0]
def c_turretlaw04_readings_1 : SCode := .reg [⟨(some 3), none, .buildSl 44 2 [(.int .i64 0), (.int .i64 0)] 0 [], [], false⟩,
  ⟨(some 4), none, .mov (.tmp 0), [], false⟩,
  ⟨(some 5), none, .append 44 2 16 (.tmp 3) (.tmp 4), [], false⟩,
  ⟨(some 2), none, .mov (.tmp 5), [], false⟩] [2]
def c_turretlaw04_readings_2 : SCode := .seq c_turretlaw04_readings_1 .ret
def c_turretlaw04_readings_3 : SCode := .seq c_turretlaw04_readings_0 c_turretlaw04_readings_2
@[simp] def rs_turretlaw04_readings : List SRes := [.tmp 2]
theorem law_turretlaw04_readings (cs : List CV) (r : CV) (hl : cs.length ≤ 6) (h : STri (cfF Tryz.prog [] 6) c_turretlaw04_readings_3 (initT 0 cs) [] (retQ rs_turretlaw04_readings r)) : SC Tryz.prog 8 cs r :=
  sc_of [] follows Tryz.func8 rfl Tryz.ntmps8 (by decide) (by kernel_rfl) (by kernel_rfl) hl h
def c_turretlaw04_unchanged_0 : SCode := .reg [⟨(some 2), none, .box 26 (.tmp 0), [], false⟩,
  ⟨(some 3), none, .box 26 (.tmp 1), [], false⟩,
  ⟨(some 4), none, .mov (.const (.bool false)), [], false⟩] [2, 3]
def c_turretlaw04_unchanged_1 : SCode := .reg [⟨(some 9), none, .fld 0 (.tmp 2), [], false⟩,
  ⟨(some 10), none, .load false 1 (.tmp 9), [], false⟩,
  ⟨(some 11), none, .fld 0 (.tmp 3), [], false⟩,
  ⟨(some 12), none, .load false 1 (.tmp 11), [], false⟩,
  ⟨(some 13), none, .bin .neq (.tmp 10) (.tmp 12), [], false⟩,
  ⟨(some 14), none, .mov (.tmp 13), [], false⟩,
  ⟨(some 15), (some (14, false)), .fld 1 (.tmp 2), [], false⟩,
  ⟨(some 16), (some (14, false)), .load true 2 (.tmp 15), [], false⟩,
  ⟨(some 17), (some (14, false)), .fld 1 (.tmp 3), [], false⟩,
  ⟨(some 18), (some (14, false)), .load true 2 (.tmp 17), [], false⟩,
  ⟨(some 19), (some (14, false)), .eqC true [true, true] (.tmp 16) (.tmp 18), [], false⟩,
  ⟨(some 20), none, .pick (.tmp 14) (.const (.bool true)) (.tmp 19), [], false⟩,
  ⟨(some 21), none, .mov (.tmp 20), [], false⟩,
  ⟨(some 22), (some (21, false)), .fld 3 (.tmp 2), [], false⟩,
  ⟨(some 23), (some (21, false)), .load false 1 (.tmp 22), [], false⟩,
  ⟨(some 24), (some (21, false)), .len (.tmp 23), [], false⟩,
  ⟨(some 25), (some (21, false)), .fld 3 (.tmp 3), [], false⟩,
  ⟨(some 26), (some (21, false)), .load false 1 (.tmp 25), [], false⟩,
  ⟨(some 27), (some (21, false)), .len (.tmp 26), [], false⟩,
  ⟨(some 28), (some (21, false)), .bin .neq (.tmp 24) (.tmp 27), [], false⟩,
  ⟨(some 29), none, .pick (.tmp 21) (.const (.bool true)) (.tmp 28), [], false⟩] [2, 3, 29]
def c_turretlaw04_unchanged_2 : SCode := .reg [⟨(some 4), none, .mov (.const (.bool false)), [], false⟩] [4]
def c_turretlaw04_unchanged_3 : SCode := .seq c_turretlaw04_unchanged_2 .ret
def c_turretlaw04_unchanged_4 : SCode := .cond (.tmp 29) c_turretlaw04_unchanged_3 .skip
def c_turretlaw04_unchanged_5 : SCode := .seq c_turretlaw04_unchanged_1 c_turretlaw04_unchanged_4
def c_turretlaw04_unchanged_6 : SCode := .reg [⟨(some 5), none, .mov (.const (.int .i64 0)), [], false⟩] [2, 3, 5]
def c_turretlaw04_unchanged_7 : SCode := .reg [⟨(some 30), none, .mov (.tmp 5), [], false⟩,
  ⟨(some 31), none, .fld 3 (.tmp 2), [], false⟩,
  ⟨(some 32), none, .load false 1 (.tmp 31), [], false⟩,
  ⟨(some 33), none, .len (.tmp 32), [], false⟩,
  ⟨(some 34), none, .bin .lss (.tmp 30) (.tmp 33), [], false⟩] [2, 3, 5, 34]
def c_turretlaw04_unchanged_8 : SCode := .cond (.tmp 34) .skip (.exit 0)
def c_turretlaw04_unchanged_9 : SCode := .seq c_turretlaw04_unchanged_7 c_turretlaw04_unchanged_8
def c_turretlaw04_unchanged_10 : SCode := .reg [⟨(some 37), none, .fld 3 (.tmp 2), [], true⟩,
  ⟨(some 38), none, .load false 1 (.tmp 37), [], true⟩,
  ⟨(some 39), none, .mov (.tmp 5), [], false⟩,
  ⟨(some 40), none, .idxS 5 (.tmp 38) (.tmp 39), [], true⟩,
  ⟨(some 41), none, .load true 5 (.tmp 40), [], true⟩,
  ⟨(some 42), none, .fld 3 (.tmp 3), [], true⟩,
  ⟨(some 43), none, .load false 1 (.tmp 42), [], true⟩,
  ⟨(some 44), none, .mov (.tmp 5), [], false⟩,
  ⟨(some 45), none, .idxS 5 (.tmp 43) (.tmp 44), [], true⟩,
  ⟨(some 46), none, .load true 5 (.tmp 45), [], true⟩,
  ⟨(some 6), none, .alloc 54 [(.int .i64 0), (.int .i64 0), (.slice none 0 0), (.int .i64 0), (.int .i64 0)], [0, 1, 3, 4, 5, 6, 8, 9], false⟩,
  ⟨(some 7), none, .alloc 54 [(.int .i64 0), (.int .i64 0), (.slice none 0 0), (.int .i64 0), (.int .i64 0)], [0, 1, 3, 4, 5, 6, 8, 9], false⟩,
  ⟨none, none, .store 5 (.tmp 6) (.tmp 41), [5, 6, 8, 9], false⟩,
  ⟨none, none, .store 5 (.tmp 7) (.tmp 46), [], false⟩] [2, 3, 5, 6, 7]
def c_turretlaw04_unchanged_11 : SCode := .reg [⟨(some 47), none, .fld 0 (.tmp 6), [], false⟩,
  ⟨(some 48), none, .load true 2 (.tmp 47), [], false⟩,
  ⟨(some 49), none, .fld 0 (.tmp 7), [], false⟩,
  ⟨(some 50), none, .load true 2 (.tmp 49), [], false⟩,
  ⟨(some 51), none, .eqC true [true, true] (.tmp 48) (.tmp 50), [], false⟩,
  ⟨(some 52), none, .mov (.tmp 51), [], false⟩,
  ⟨(some 53), (some (52, false)), .fld 3 (.tmp 6), [], false⟩,
  ⟨(some 54), (some (52, false)), .load false 1 (.tmp 53), [], false⟩,
  ⟨(some 55), (some (52, false)), .fld 3 (.tmp 7), [], false⟩,
  ⟨(some 56), (some (52, false)), .load false 1 (.tmp 55), [], false⟩,
  ⟨(some 57), (some (52, false)), .bin .neq (.tmp 54) (.tmp 56), [], false⟩,
  ⟨(some 58), none, .pick (.tmp 52) (.const (.bool true)) (.tmp 57), [], false⟩,
  ⟨(some 59), none, .mov (.tmp 58), [], false⟩,
  ⟨(some 60), (some (59, false)), .fld 4 (.tmp 6), [], false⟩,
  ⟨(some 61), (some (59, false)), .load false 1 (.tmp 60), [], false⟩,
  ⟨(some 62), (some (59, false)), .fld 4 (.tmp 7), [], false⟩,
  ⟨(some 63), (some (59, false)), .load false 1 (.tmp 62), [], false⟩,
  ⟨(some 64), (some (59, false)), .bin .neq (.tmp 61) (.tmp 63), [], false⟩,
  ⟨(some 65), none, .pick (.tmp 59) (.const (.bool true)) (.tmp 64), [], false⟩,
  ⟨(some 66), none, .mov (.tmp 65), [], false⟩,
  ⟨(some 67), (some (66, false)), .fld 2 (.tmp 6), [], false⟩,
  ⟨(some 68), (some (66, false)), .load false 1 (.tmp 67), [], false⟩,
  ⟨(some 69), (some (66, false)), .len (.tmp 68), [], false⟩,
  ⟨(some 70), (some (66, false)), .fld 2 (.tmp 7), [], false⟩,
  ⟨(some 71), (some (66, false)), .load false 1 (.tmp 70), [], false⟩,
  ⟨(some 72), (some (66, false)), .len (.tmp 71), [], false⟩,
  ⟨(some 73), (some (66, false)), .bin .neq (.tmp 69) (.tmp 72), [], false⟩,
  ⟨(some 74), none, .pick (.tmp 66) (.const (.bool true)) (.tmp 73), [], false⟩] [2, 3, 5, 6, 7, 74]
def c_turretlaw04_unchanged_12 : SCode := .reg [⟨(some 4), none, .mov (.const (.bool false)), [], false⟩] [4]
def c_turretlaw04_unchanged_13 : SCode := .seq c_turretlaw04_unchanged_12 .ret
def c_turretlaw04_unchanged_14 : SCode := .cond (.tmp 74) c_turretlaw04_unchanged_13 .skip
def c_turretlaw04_unchanged_15 : SCode := .seq c_turretlaw04_unchanged_11 c_turretlaw04_unchanged_14
def c_turretlaw04_unchanged_16 : SCode := .reg [⟨(some 8), none, .mov (.const (.int .i64 0)), [], false⟩] [2, 3, 5, 6, 7, 8]
def c_turretlaw04_unchanged_17 : SCode := .reg [⟨(some 75), none, .mov (.tmp 8), [], false⟩,
  ⟨(some 76), none, .fld 2 (.tmp 6), [], false⟩,
  ⟨(some 77), none, .load false 1 (.tmp 76), [], false⟩,
  ⟨(some 78), none, .len (.tmp 77), [], false⟩,
  ⟨(some 79), none, .bin .lss (.tmp 75) (.tmp 78), [], false⟩] [2, 3, 5, 6, 7, 8, 79]
def c_turretlaw04_unchanged_18 : SCode := .cond (.tmp 79) .skip (.exit 2)
def c_turretlaw04_unchanged_19 : SCode := .seq c_turretlaw04_unchanged_17 c_turretlaw04_unchanged_18
def c_turretlaw04_unchanged_20 : SCode := .reg [⟨(some 82), none, .fld 2 (.tmp 6), [], false⟩,
  ⟨(some 83), none, .load false 1 (.tmp 82), [], false⟩,
  ⟨(some 84), none, .mov (.tmp 8), [], false⟩,
  ⟨(some 85), none, .idxS 3 (.tmp 83) (.tmp 84), [], false⟩,
  ⟨(some 86), none, .load true 3 (.tmp 85), [], false⟩,
  ⟨(some 87), none, .fld 2 (.tmp 7), [], false⟩,
  ⟨(some 88), none, .load false 1 (.tmp 87), [], false⟩,
  ⟨(some 89), none, .mov (.tmp 8), [], false⟩,
  ⟨(some 90), none, .idxS 3 (.tmp 88) (.tmp 89), [], false⟩,
  ⟨(some 91), none, .load true 3 (.tmp 90), [], false⟩,
  ⟨(some 92), none, .eqC true [true, true, true] (.tmp 86) (.tmp 91), [], false⟩] [2, 3, 5, 6, 7, 8, 92]
def c_turretlaw04_unchanged_21 : SCode := .reg [⟨(some 4), none, .mov (.const (.bool false)), [], false⟩] [4]
def c_turretlaw04_unchanged_22 : SCode := .seq c_turretlaw04_unchanged_21 .ret
def c_turretlaw04_unchanged_23 : SCode := .cond (.tmp 92) c_turretlaw04_unchanged_22 .skip
def c_turretlaw04_unchanged_24 : SCode := .seq c_turretlaw04_unchanged_20 c_turretlaw04_unchanged_23
def c_turretlaw04_unchanged_25 : SCode := .block 3 c_turretlaw04_unchanged_24
def c_turretlaw04_unchanged_26 : SCode := .reg [⟨(some 80), none, .mov (.tmp 8), [], false⟩,
  ⟨(some 81), none, .bin .add (.tmp 80) (.const (.int .i64 1)), [], false⟩,
  ⟨(some 8), none, .mov (.tmp 81), [], false⟩] [2, 3, 5, 6, 7, 8]
def c_turretlaw04_unchanged_27 : SCode := .seq c_turretlaw04_unchanged_25 c_turretlaw04_unchanged_26
def c_turretlaw04_unchanged_28 : SCode := .seq c_turretlaw04_unchanged_19 c_turretlaw04_unchanged_27
def c_turretlaw04_unchanged_29 : SCode := .loop c_turretlaw04_unchanged_28
def c_turretlaw04_unchanged_30 : SCode := .block 2 c_turretlaw04_unchanged_29
def c_turretlaw04_unchanged_31 : SCode := .seq c_turretlaw04_unchanged_16 c_turretlaw04_unchanged_30
def c_turretlaw04_unchanged_32 : SCode := .seq c_turretlaw04_unchanged_15 c_turretlaw04_unchanged_31
def c_turretlaw04_unchanged_33 : SCode := .seq c_turretlaw04_unchanged_10 c_turretlaw04_unchanged_32
def c_turretlaw04_unchanged_34 : SCode := .block 1 c_turretlaw04_unchanged_33
def c_turretlaw04_unchanged_35 : SCode := .reg [⟨(some 35), none, .mov (.tmp 5), [], false⟩,
  ⟨(some 36), none, .bin .add (.tmp 35) (.const (.int .i64 1)), [], false⟩,
  ⟨(some 5), none, .mov (.tmp 36), [], false⟩] [2, 3, 5]
def c_turretlaw04_unchanged_36 : SCode := .seq c_turretlaw04_unchanged_34 c_turretlaw04_unchanged_35
def c_turretlaw04_unchanged_37 : SCode := .seq c_turretlaw04_unchanged_9 c_turretlaw04_unchanged_36
def c_turretlaw04_unchanged_38 : SCode := .loop c_turretlaw04_unchanged_37
def c_turretlaw04_unchanged_39 : SCode := .block 0 c_turretlaw04_unchanged_38
def c_turretlaw04_unchanged_40 : SCode := .seq c_turretlaw04_unchanged_6 c_turretlaw04_unchanged_39
def c_turretlaw04_unchanged_41 : SCode := .reg [⟨(some 4), none, .mov (.const (.bool true)), [], false⟩] [4]
def c_turretlaw04_unchanged_42 : SCode := .seq c_turretlaw04_unchanged_41 .ret
def c_turretlaw04_unchanged_43 : SCode := .seq c_turretlaw04_unchanged_40 c_turretlaw04_unchanged_42
def c_turretlaw04_unchanged_44 : SCode := .seq c_turretlaw04_unchanged_5 c_turretlaw04_unchanged_43
def c_turretlaw04_unchanged_45 : SCode := .seq c_turretlaw04_unchanged_0 c_turretlaw04_unchanged_44
@[simp] def rs_turretlaw04_unchanged : List SRes := [.tmp 4]
theorem law_turretlaw04_unchanged (cs : List CV) (r : CV) (hl : cs.length ≤ 93) (h : STri (cfF Tryz.prog [] 93) c_turretlaw04_unchanged_45 (initT 0 cs) [] (retQ rs_turretlaw04_unchanged r)) : SC Tryz.prog 11 cs r :=
  sc_of [] follows Tryz.func11 rfl Tryz.ntmps11 (by decide) (by kernel_rfl) (by kernel_rfl) hl h
def c_turretlaw04_face_0 : SCode := .reg [⟨(some 1), none, .box 54 (.tmp 0), [], false⟩,
  ⟨(some 2), none, .alloc 54 [(.int .i64 0), (.int .i64 0), (.slice none 0 0), (.int .i64 0), (.int .i64 0)], [], false⟩] [1, 2]
def c_turretlaw04_face_1 : SCode := .reg [⟨(some 3), none, .buildSl 59 3 [(.int .i64 0), (.int .i64 0), (.int .i64 0)] 0 [], [], false⟩,
  ⟨(some 4), none, .fld 2 (.tmp 1), [], false⟩,
  ⟨(some 5), none, .load false 1 (.tmp 4), [], false⟩,
  ⟨(some 6), none, .append 59 3 24 (.tmp 3) (.tmp 5), [], false⟩,
  ⟨(some 7), none, .fld 2 (.tmp 1), [], false⟩,
  ⟨none, none, .store 1 (.tmp 7) (.tmp 6), [], false⟩] [1, 2]
def c_turretlaw04_face_2 : SCode := .reg [⟨(some 8), none, .load true 5 (.tmp 1), [], false⟩,
  ⟨none, none, .store 5 (.tmp 2) (.tmp 8), [], false⟩] [2]
def c_turretlaw04_face_3 : SCode := .seq c_turretlaw04_face_2 .ret
def c_turretlaw04_face_4 : SCode := .seq c_turretlaw04_face_1 c_turretlaw04_face_3
def c_turretlaw04_face_5 : SCode := .seq c_turretlaw04_face_0 c_turretlaw04_face_4
@[simp] def rs_turretlaw04_face : List SRes := [.cell 2 true 5]
theorem law_turretlaw04_face (cs : List CV) (r : CV) (hl : cs.length ≤ 9) (h : STri (cfF Tryz.prog [] 9) c_turretlaw04_face_5 (initT 0 cs) [] (retQ rs_turretlaw04_face r)) : SC Tryz.prog 27 cs r :=
  sc_of [] follows Tryz.func27 rfl Tryz.ntmps27 (by decide) (by kernel_rfl) (by kernel_rfl) hl h
end Go.Proofs.YtnfggkopledpcaaGreat
/- Dial's laws: copies, and what they are compared with. -/
namespace Go.Proofs.YtnfggkopledpcaaGreat
open Go.RowKit
def largeB (w : Dw) : Bool := w.faces.any (fun f => decide (f.links.length > 10)) || decide (w.faces.length > 12)
def SmTo (fs : List Fc) (k : Nat) : Prop := ∀ f ∈ fs.take k, f.links.length ≤ 10
theorem sm_succ {fs : List Fc} {k : Nat} (hlt : k < fs.length) (h : SmTo fs k) (hc : fs[k].links.length ≤ 10) : SmTo fs (k + 1) := fun x hx => by
  rw [List.take_succ_eq_append_getElem hlt, List.mem_append] at hx
  rcases hx with hx | hx
  · exact h x hx
  · simp at hx; subst hx; exact hc
theorem sm_all {fs : List Fc} (h : SmTo fs fs.length) : fs.any (fun f => decide (f.links.length > 10)) = false := by
  rw [List.any_eq_false]
  intro f hf
  have := h f (by rw [List.take_length]; exact hf)
  simp; omega
theorem dw_len {w : Dw} (h : ¬ largeB w = true) : DwLen w := by
  unfold largeB at h
  simp only [Bool.or_eq_true, List.any_eq_true, decide_eq_true_eq, not_or, not_exists, not_and] at h
  exact ⟨by omega, fun f hf => by have := h.1 f hf; omega⟩
theorem lLarge (w : Dw) (hw : DwMax w) : SC Tryz.prog 4 [cDw w] (B (largeB w)) := by
  refine law_turretlaw04_large _ _ (by simp) ?_
  have hn := hw.n
  (repeat' (first | ((first | with_reducible refine st_skip ?_ | with_reducible refine st_exit ?_); (try simp only [seqQ, blockQ, loopQ, forQ, whileQ, reduceIte, Nat.reduceEqDiff])) | (with_reducible refine st_ret ?_; ((try simp only [seqQ, blockQ, loopQ, forQ, whileQ]); first | (with_reducible refine retM_ret ?_) | refine retQ_ret ?_; simp)) | refine st_seq ?_ | refine st_block ?_ | ((first | refine st_reg ?_ | refine buildP_own ?_) <;> (simp -dsimp; (repeat (simp -dsimp (disch := (first | omega | assumption | (refine Bool.eq_false_iff.1 ?_; assumption))) only [wrap_in, if_pos, if_neg]; (try simp -dsimp))))) | ((first | refine guardP_of (fun hc => ?_) (fun hc => ?_) | refine st_cond rfl (fun hc => ?_) (fun hc => ?_)) <;> (try simp only [decide_eq_true_eq, decide_eq_false_iff_not, Bool.true_eq_false, Bool.false_eq_true, bne_iff_ne, ne_eq, bne_eq_false_iff_eq, beq_iff_eq, beq_eq_false_iff_ne, Bool.not_eq_true, Bool.not_eq_false, Bool.not_eq_eq_eq_not, Bool.not_true, Bool.not_false, Decidable.not_not] at hc) <;> (try (exfalso; first | omega | exact bool_tf hc (by assumption) | exact bool_ft hc (by assumption) | exact absurd (by assumption) hc)) <;> (first | with_reducible show STri _ _ _ _ _ _ | (simp -dsimp [hc]; (repeat (simp -dsimp (disch := (first | omega | assumption | (refine Bool.eq_false_iff.1 ?_; assumption))) only [wrap_in, if_pos, if_neg]; (try simp -dsimp [hc]))))))))
  refine st_for [1] w.faces.length (fun k T H => SmTo w.faces k ∧ T = [(1, .ptr 1 0), (3, .c (I k))] ∧ H = [(1, .box 26 [.c (I w.jump), .c (I w.elo), .c (I w.ehi), .c (slF w.faces)])]) (by simp) ⟨fun f hf => by simp at hf, by simp, by simp⟩ ?_
  rintro k T H hk ⟨ht, rfl, rfl⟩
  by_cases hlt : k < w.faces.length
  · have hl := hw.l _ (List.getElem_mem hlt)
    (repeat' (first | ((first | with_reducible refine st_skip ?_ | with_reducible refine st_exit ?_); (try simp only [seqQ, blockQ, loopQ, forQ, whileQ, reduceIte, Nat.reduceEqDiff])) | (with_reducible refine st_ret ?_; ((try simp only [seqQ, blockQ, loopQ, forQ, whileQ]); first | (with_reducible refine retM_ret ?_) | refine retQ_ret ?_; simp [hlt])) | refine st_seq ?_ | refine st_block ?_ | ((first | refine st_reg ?_ | refine buildP_own ?_) <;> (simp -dsimp [hlt]; (repeat (simp -dsimp (disch := (first | omega | assumption | (refine Bool.eq_false_iff.1 ?_; assumption))) only [wrap_in, if_pos, if_neg]; (try simp -dsimp [hlt]))))) | ((first | refine guardP_of (fun hc => ?_) (fun hc => ?_) | refine st_cond rfl (fun hc => ?_) (fun hc => ?_)) <;> (try simp only [decide_eq_true_eq, decide_eq_false_iff_not, Bool.true_eq_false, Bool.false_eq_true, bne_iff_ne, ne_eq, bne_eq_false_iff_eq, beq_iff_eq, beq_eq_false_iff_ne, Bool.not_eq_true, Bool.not_eq_false, Bool.not_eq_eq_eq_not, Bool.not_true, Bool.not_false, Decidable.not_not] at hc) <;> (try (exfalso; first | omega | exact bool_tf hc (by assumption) | exact bool_ft hc (by assumption) | exact absurd (by assumption) hc)) <;> (first | with_reducible show STri _ _ _ _ _ _ | (simp -dsimp [hlt, hc]; (repeat (simp -dsimp (disch := (first | omega | assumption | (refine Bool.eq_false_iff.1 ?_; assumption))) only [wrap_in, if_pos, if_neg]; (try simp -dsimp [hlt, hc]))))))))
    · refine CLe.bool ?_
      have : w.faces.any (fun f => decide (f.links.length > 10)) = true := List.any_eq_true.2 ⟨_, List.getElem_mem hlt, by simp; omega⟩
      simp [largeB, this]
    · exact ⟨hlt, by simp, sm_succ hlt ht (by omega), by simp, by simp⟩
  · have hke : k = w.faces.length := by omega
    subst hke
    (repeat' (first | ((first | with_reducible refine st_skip ?_ | with_reducible refine st_exit ?_); (try simp only [seqQ, blockQ, loopQ, forQ, whileQ, reduceIte, Nat.reduceEqDiff])) | (with_reducible refine st_ret ?_; ((try simp only [seqQ, blockQ, loopQ, forQ, whileQ]); first | (with_reducible refine retM_ret ?_) | refine retQ_ret ?_; simp)) | refine st_seq ?_ | refine st_block ?_ | ((first | refine st_reg ?_ | refine buildP_own ?_) <;> (simp -dsimp; (repeat (simp -dsimp (disch := (first | omega | assumption | (refine Bool.eq_false_iff.1 ?_; assumption))) only [wrap_in, if_pos, if_neg]; (try simp -dsimp))))) | ((first | refine guardP_of (fun hc => ?_) (fun hc => ?_) | refine st_cond rfl (fun hc => ?_) (fun hc => ?_)) <;> (try simp only [decide_eq_true_eq, decide_eq_false_iff_not, Bool.true_eq_false, Bool.false_eq_true, bne_iff_ne, ne_eq, bne_eq_false_iff_eq, beq_iff_eq, beq_eq_false_iff_ne, Bool.not_eq_true, Bool.not_eq_false, Bool.not_eq_eq_eq_not, Bool.not_true, Bool.not_false, Decidable.not_not] at hc) <;> (try (exfalso; first | omega | exact bool_tf hc (by assumption) | exact bool_ft hc (by assumption) | exact absurd (by assumption) hc)) <;> (first | with_reducible show STri _ _ _ _ _ _ | (simp -dsimp [hc]; (repeat (simp -dsimp (disch := (first | omega | assumption | (refine Bool.eq_false_iff.1 ?_; assumption))) only [wrap_in, if_pos, if_neg]; (try simp -dsimp [hc]))))))))
    all_goals (refine CLe.bool ?_; rw [largeB, sm_all ht, Bool.false_or, decide_eq_decide]; omega)
theorem lFace (f : Fc) (hl : f.links.length ≤ 1000000) : SC Tryz.prog 27 [cF f] (cF f) := by
  refine law_turretlaw04_face _ _ (by simp) ?_
  have hA : f.links.length ≤ 9223372036854775807 := by omega
  have hB : f.links.length * 24 ≤ 140737488355328 := by omega
  (repeat' (first | ((first | with_reducible refine st_skip ?_ | with_reducible refine st_exit ?_); (try simp only [seqQ, blockQ, loopQ, forQ, whileQ, reduceIte, Nat.reduceEqDiff])) | (with_reducible refine st_ret ?_; ((try simp only [seqQ, blockQ, loopQ, forQ, whileQ]); first | (with_reducible refine retM_ret ?_) | refine retQ_ret ?_; simp [hA, hB])) | refine st_seq ?_ | refine st_block ?_ | ((first | refine st_reg ?_ | refine buildP_own ?_) <;> (simp -dsimp [hA, hB]; (repeat (simp -dsimp (disch := (first | omega | assumption | (refine Bool.eq_false_iff.1 ?_; assumption))) only [wrap_in, if_pos, if_neg]; (try simp -dsimp [hA, hB]))))) | ((first | refine guardP_of (fun hc => ?_) (fun hc => ?_) | refine st_cond rfl (fun hc => ?_) (fun hc => ?_)) <;> (try simp only [decide_eq_true_eq, decide_eq_false_iff_not, Bool.true_eq_false, Bool.false_eq_true, bne_iff_ne, ne_eq, bne_eq_false_iff_eq, beq_iff_eq, beq_eq_false_iff_ne, Bool.not_eq_true, Bool.not_eq_false, Bool.not_eq_eq_eq_not, Bool.not_true, Bool.not_false, Decidable.not_not] at hc) <;> (try (exfalso; first | omega | exact bool_tf hc (by assumption) | exact bool_ft hc (by assumption) | exact absurd (by assumption) hc)) <;> (first | with_reducible show STri _ _ _ _ _ _ | (simp -dsimp [hA, hB, hc]; (repeat (simp -dsimp (disch := (first | omega | assumption | (refine Bool.eq_false_iff.1 ?_; assumption))) only [wrap_in, if_pos, if_neg]; (try simp -dsimp [hA, hB, hc]))))))))
  all_goals exact .refl _
theorem lReadings (l : List (Int × Int)) (hl : l.length ≤ 1000000) : SC Tryz.prog 8 [slS l] (slS l) := by
  refine law_turretlaw04_readings _ _ (by simp) ?_
  have hA : l.length ≤ 9223372036854775807 := by omega
  have hB : l.length * 16 ≤ 140737488355328 := by omega
  (repeat' (first | ((first | with_reducible refine st_skip ?_ | with_reducible refine st_exit ?_); (try simp only [seqQ, blockQ, loopQ, forQ, whileQ, reduceIte, Nat.reduceEqDiff])) | (with_reducible refine st_ret ?_; ((try simp only [seqQ, blockQ, loopQ, forQ, whileQ]); first | (with_reducible refine retM_ret ?_) | refine retQ_ret ?_; simp [hA, hB])) | refine st_seq ?_ | refine st_block ?_ | ((first | refine st_reg ?_ | refine buildP_own ?_) <;> (simp -dsimp [hA, hB]; (repeat (simp -dsimp (disch := (first | omega | assumption | (refine Bool.eq_false_iff.1 ?_; assumption))) only [wrap_in, if_pos, if_neg]; (try simp -dsimp [hA, hB]))))) | ((first | refine guardP_of (fun hc => ?_) (fun hc => ?_) | refine st_cond rfl (fun hc => ?_) (fun hc => ?_)) <;> (try simp only [decide_eq_true_eq, decide_eq_false_iff_not, Bool.true_eq_false, Bool.false_eq_true, bne_iff_ne, ne_eq, bne_eq_false_iff_eq, beq_iff_eq, beq_eq_false_iff_ne, Bool.not_eq_true, Bool.not_eq_false, Bool.not_eq_eq_eq_not, Bool.not_true, Bool.not_false, Decidable.not_not] at hc) <;> (try (exfalso; first | omega | exact bool_tf hc (by assumption) | exact bool_ft hc (by assumption) | exact absurd (by assumption) hc)) <;> (first | with_reducible show STri _ _ _ _ _ _ | (simp -dsimp [hA, hB, hc]; (repeat (simp -dsimp (disch := (first | omega | assumption | (refine Bool.eq_false_iff.1 ?_; assumption))) only [wrap_in, if_pos, if_neg]; (try simp -dsimp [hA, hB, hc]))))))))
  all_goals exact .refl _
def rowsF (fs : List Fc) (k : Nat) : List (List CV) := (fs.take k).map rowF
theorem rowsF_len {fs : List Fc} {k : Nat} (h : k ≤ fs.length) : (rowsF fs k).length = k := by simp [rowsF]; omega
theorem rowsF_succ {fs : List Fc} {k : Nat} (h : k < fs.length) : rowsF fs (k + 1) = rowsF fs k ++ [rowF fs[k]] := by
  unfold rowsF; rw [List.take_succ_eq_append_getElem h, List.map_append]; rfl
theorem lWorks (w : Dw) (hw : DwLen w) : SC Tryz.prog 7 [cDw w] (cDw w) := by
  refine law_turretlaw04_works _ _ (by simp) ?_
  have hn := hw.n
  (repeat' (first | ((first | with_reducible refine st_skip ?_ | with_reducible refine st_exit ?_); (try simp only [seqQ, blockQ, loopQ, forQ, whileQ, reduceIte, Nat.reduceEqDiff])) | (with_reducible refine st_ret ?_; ((try simp only [seqQ, blockQ, loopQ, forQ, whileQ]); first | (with_reducible refine retM_ret ?_) | refine retQ_ret ?_; simp)) | refine st_seq ?_ | refine st_block ?_ | ((first | refine st_reg ?_ | refine buildP_own ?_) <;> (simp -dsimp; (repeat (simp -dsimp (disch := (first | omega | assumption | (refine Bool.eq_false_iff.1 ?_; assumption))) only [wrap_in, if_pos, if_neg]; (try simp -dsimp))))) | ((first | refine guardP_of (fun hc => ?_) (fun hc => ?_) | refine st_cond rfl (fun hc => ?_) (fun hc => ?_)) <;> (try simp only [decide_eq_true_eq, decide_eq_false_iff_not, Bool.true_eq_false, Bool.false_eq_true, bne_iff_ne, ne_eq, bne_eq_false_iff_eq, beq_iff_eq, beq_eq_false_iff_ne, Bool.not_eq_true, Bool.not_eq_false, Bool.not_eq_eq_eq_not, Bool.not_true, Bool.not_false, Decidable.not_not] at hc) <;> (try (exfalso; first | omega | exact bool_tf hc (by assumption) | exact bool_ft hc (by assumption) | exact absurd (by assumption) hc)) <;> (first | with_reducible show STri _ _ _ _ _ _ | (simp -dsimp [hc]; (repeat (simp -dsimp (disch := (first | omega | assumption | (refine Bool.eq_false_iff.1 ?_; assumption))) only [wrap_in, if_pos, if_neg]; (try simp -dsimp [hc]))))))))
  refine st_nilB 3 3 200 54 5 rfl (by simp) rfl (by simp [newOK]) ?_
  refine st_for [1, 2, 3, 200] w.faces.length (fun k T H => T = [(1, .ptr 1 0), (2, .ptr 2 0), (3, .ptr 3 0), (4, .c (I k))] ∧ H = [(1, .box 26 [.c (I w.jump), .c (I w.elo), .c (I w.ehi), .c (slF w.faces)]), (2, .box 26 [.c (I 0), .c (I 0), .c (I 0), .c (.val (.slice none 0 0))]),
    (3, .box 26 [.c (I w.jump), .c (I w.elo), .c (I w.ehi), .own 200 k]), (200, .arr 54 5 (rowsF w.faces k))]) (by simp) ⟨by simp, by simp [rowsF]⟩ ?_
  rintro k T H hk ⟨rfl, rfl⟩
  have hlen := rowsF_len hk
  by_cases hlt : k < w.faces.length
  · have hf := lFace w.faces[k] (hw.l _ (List.getElem_mem hlt))
    have hs := rowsF_succ hlt
    have hA : k + 1 ≤ 9223372036854775807 := by omega
    have hB : (k + 1) * 56 ≤ 140737488355328 := by omega
    (repeat' (first | ((first | with_reducible refine st_skip ?_ | with_reducible refine st_exit ?_); (try simp only [seqQ, blockQ, loopQ, forQ, whileQ, reduceIte, Nat.reduceEqDiff])) | (with_reducible refine st_ret ?_; ((try simp only [seqQ, blockQ, loopQ, forQ, whileQ]); first | (with_reducible refine retM_ret ?_) | refine retQ_ret ?_; simp [hlt, hlen, hA, hB])) | refine st_seq ?_ | refine st_block ?_ | ((first | refine st_reg ?_ | refine buildP_own ?_ | refine callP_b (hf) rfl ?_) <;> (simp -dsimp [hlt, hlen, hA, hB]; (repeat (simp -dsimp (disch := (first | omega | assumption | (refine Bool.eq_false_iff.1 ?_; assumption))) only [wrap_in, if_pos, if_neg]; (try simp -dsimp [hlt, hlen, hA, hB]))))) | ((first | refine guardP_of (fun hc => ?_) (fun hc => ?_) | refine st_cond rfl (fun hc => ?_) (fun hc => ?_)) <;> (try simp only [decide_eq_true_eq, decide_eq_false_iff_not, Bool.true_eq_false, Bool.false_eq_true, bne_iff_ne, ne_eq, bne_eq_false_iff_eq, beq_iff_eq, beq_eq_false_iff_ne, Bool.not_eq_true, Bool.not_eq_false, Bool.not_eq_eq_eq_not, Bool.not_true, Bool.not_false, Decidable.not_not] at hc) <;> (try (exfalso; first | omega | exact bool_tf hc (by assumption) | exact bool_ft hc (by assumption) | exact absurd (by assumption) hc)) <;> (first | with_reducible show STri _ _ _ _ _ _ | (simp -dsimp [hlt, hlen, hA, hB, hc]; (repeat (simp -dsimp (disch := (first | omega | assumption | (refine Bool.eq_false_iff.1 ?_; assumption))) only [wrap_in, if_pos, if_neg]; (try simp -dsimp [hlt, hlen, hA, hB, hc]))))))))
    all_goals exact ⟨hlt, by simp, by simp, by simp [hs]⟩
  · have hke : k = w.faces.length := by omega
    subst hke
    have hall : rowsF w.faces w.faces.length = w.faces.map rowF := by simp [rowsF]
    (repeat' (first | ((first | with_reducible refine st_skip ?_ | with_reducible refine st_exit ?_); (try simp only [seqQ, blockQ, loopQ, forQ, whileQ, reduceIte, Nat.reduceEqDiff])) | (with_reducible refine st_ret ?_; ((try simp only [seqQ, blockQ, loopQ, forQ, whileQ]); first | (with_reducible refine retM_ret ?_) | refine retQ_ret ?_; simp [hlen])) | refine st_seq ?_ | refine st_block ?_ | ((first | refine st_reg ?_ | refine buildP_own ?_) <;> (simp -dsimp [hlen]; (repeat (simp -dsimp (disch := (first | omega | assumption | (refine Bool.eq_false_iff.1 ?_; assumption))) only [wrap_in, if_pos, if_neg]; (try simp -dsimp [hlen]))))) | ((first | refine guardP_of (fun hc => ?_) (fun hc => ?_) | refine st_cond rfl (fun hc => ?_) (fun hc => ?_)) <;> (try simp only [decide_eq_true_eq, decide_eq_false_iff_not, Bool.true_eq_false, Bool.false_eq_true, bne_iff_ne, ne_eq, bne_eq_false_iff_eq, beq_iff_eq, beq_eq_false_iff_ne, Bool.not_eq_true, Bool.not_eq_false, Bool.not_eq_eq_eq_not, Bool.not_true, Bool.not_false, Decidable.not_not] at hc) <;> (try (exfalso; first | omega | exact bool_tf hc (by assumption) | exact bool_ft hc (by assumption) | exact absurd (by assumption) hc)) <;> (first | with_reducible show STri _ _ _ _ _ _ | (simp -dsimp [hlen, hc]; (repeat (simp -dsimp (disch := (first | omega | assumption | (refine Bool.eq_false_iff.1 ?_; assumption))) only [wrap_in, if_pos, if_neg]; (try simp -dsimp [hlen, hc]))))))))
    rw [hall]
    exact .refl _
def bxW (w : Dw) : Blk := .box 26 [.c (I w.jump), .c (I w.elo), .c (I w.ehi), .c (slF w.faces)]
def bxF (f : Fc) : Blk := .box 54 [.c (I f.lo), .c (I f.hi), .c (slL f.links), .c (I f.weight), .c (I f.friction)]
attribute [simp] bxW bxF
theorem lUnchanged (w : Dw) (hw : DwLen w) : SC Tryz.prog 11 [cDw w, cDw w] (B true) := by
  refine law_turretlaw04_unchanged _ _ (by simp) ?_
  have hn := hw.n
  (repeat' (first | ((first | with_reducible refine st_skip ?_ | with_reducible refine st_exit ?_); (try simp only [seqQ, blockQ, loopQ, forQ, whileQ, reduceIte, Nat.reduceEqDiff])) | (with_reducible refine st_ret ?_; ((try simp only [seqQ, blockQ, loopQ, forQ, whileQ]); first | (with_reducible refine retM_ret ?_) | refine retQ_ret ?_; simp)) | refine st_seq ?_ | refine st_block ?_ | ((first | refine st_reg ?_ | refine buildP_own ?_) <;> (simp -dsimp; (repeat (simp -dsimp (disch := (first | omega | assumption | (refine Bool.eq_false_iff.1 ?_; assumption))) only [wrap_in, if_pos, if_neg]; (try simp -dsimp))))) | ((first | refine guardP_of (fun hc => ?_) (fun hc => ?_) | refine st_cond rfl (fun hc => ?_) (fun hc => ?_)) <;> (try simp only [decide_eq_true_eq, decide_eq_false_iff_not, Bool.true_eq_false, Bool.false_eq_true, bne_iff_ne, ne_eq, bne_eq_false_iff_eq, beq_iff_eq, beq_eq_false_iff_ne, Bool.not_eq_true, Bool.not_eq_false, Bool.not_eq_eq_eq_not, Bool.not_true, Bool.not_false, Decidable.not_not] at hc) <;> (try (exfalso; first | omega | exact bool_tf hc (by assumption) | exact bool_ft hc (by assumption) | exact absurd (by assumption) hc)) <;> (first | with_reducible show STri _ _ _ _ _ _ | (simp -dsimp [hc]; (repeat (simp -dsimp (disch := (first | omega | assumption | (refine Bool.eq_false_iff.1 ?_; assumption))) only [wrap_in, if_pos, if_neg]; (try simp -dsimp [hc]))))))))
  refine st_for [2, 3] w.faces.length (fun k T H => T = [(2, .ptr 2 0), (3, .ptr 3 0), (5, .c (I k))] ∧ H = [(2, bxW w), (3, bxW w)]) (by simp) ⟨by simp, by simp⟩ ?_
  rintro k T H hk ⟨rfl, rfl⟩
  by_cases hlt : k < w.faces.length
  · have hl := hw.l _ (List.getElem_mem hlt)
    (repeat' (first | ((first | with_reducible refine st_skip ?_ | with_reducible refine st_exit ?_); (try simp only [seqQ, blockQ, loopQ, forQ, whileQ, reduceIte, Nat.reduceEqDiff])) | (with_reducible refine st_ret ?_; ((try simp only [seqQ, blockQ, loopQ, forQ, whileQ]); first | (with_reducible refine retM_ret ?_) | refine retQ_ret ?_; simp [hlt])) | refine st_seq ?_ | refine st_block ?_ | ((first | refine st_reg ?_ | refine buildP_own ?_) <;> (simp -dsimp [hlt]; (repeat (simp -dsimp (disch := (first | omega | assumption | (refine Bool.eq_false_iff.1 ?_; assumption))) only [wrap_in, if_pos, if_neg]; (try simp -dsimp [hlt]))))) | ((first | refine guardP_of (fun hc => ?_) (fun hc => ?_) | refine st_cond rfl (fun hc => ?_) (fun hc => ?_)) <;> (try simp only [decide_eq_true_eq, decide_eq_false_iff_not, Bool.true_eq_false, Bool.false_eq_true, bne_iff_ne, ne_eq, bne_eq_false_iff_eq, beq_iff_eq, beq_eq_false_iff_ne, Bool.not_eq_true, Bool.not_eq_false, Bool.not_eq_eq_eq_not, Bool.not_true, Bool.not_false, Decidable.not_not] at hc) <;> (try (exfalso; first | omega | exact bool_tf hc (by assumption) | exact bool_ft hc (by assumption) | exact absurd (by assumption) hc)) <;> (first | with_reducible show STri _ _ _ _ _ _ | (simp -dsimp [hlt, hc]; (repeat (simp -dsimp (disch := (first | omega | assumption | (refine Bool.eq_false_iff.1 ?_; assumption))) only [wrap_in, if_pos, if_neg]; (try simp -dsimp [hlt, hc]))))))))
    refine st_for [2, 3, 6, 7] w.faces[k].links.length (fun j T H => T = [(2, .ptr 2 0), (3, .ptr 3 0), (5, .c (I k)), (6, .ptr 6 0), (7, .ptr 7 0), (8, .c (I j))] ∧ H = [(2, bxW w), (3, bxW w), (6, bxF w.faces[k]), (7, bxF w.faces[k])]) (by simp) ⟨by simp, by simp⟩ ?_
    rintro j T H hj ⟨rfl, rfl⟩
    by_cases hlt2 : j < w.faces[k].links.length
    · (repeat' (first | ((first | with_reducible refine st_skip ?_ | with_reducible refine st_exit ?_); (try simp only [seqQ, blockQ, loopQ, forQ, whileQ, reduceIte, Nat.reduceEqDiff])) | (with_reducible refine st_ret ?_; ((try simp only [seqQ, blockQ, loopQ, forQ, whileQ]); first | (with_reducible refine retM_ret ?_) | refine retQ_ret ?_; simp [hlt, hlt2])) | refine st_seq ?_ | refine st_block ?_ | ((first | refine st_reg ?_ | refine buildP_own ?_) <;> (simp -dsimp [hlt, hlt2]; (repeat (simp -dsimp (disch := (first | omega | assumption | (refine Bool.eq_false_iff.1 ?_; assumption))) only [wrap_in, if_pos, if_neg]; (try simp -dsimp [hlt, hlt2]))))) | ((first | refine guardP_of (fun hc => ?_) (fun hc => ?_) | refine st_cond rfl (fun hc => ?_) (fun hc => ?_)) <;> (try simp only [decide_eq_true_eq, decide_eq_false_iff_not, Bool.true_eq_false, Bool.false_eq_true, bne_iff_ne, ne_eq, bne_eq_false_iff_eq, beq_iff_eq, beq_eq_false_iff_ne, Bool.not_eq_true, Bool.not_eq_false, Bool.not_eq_eq_eq_not, Bool.not_true, Bool.not_false, Decidable.not_not] at hc) <;> (try (exfalso; first | omega | exact bool_tf hc (by assumption) | exact bool_ft hc (by assumption) | exact absurd (by assumption) hc)) <;> (first | with_reducible show STri _ _ _ _ _ _ | (simp -dsimp [hlt, hlt2, hc]; (repeat (simp -dsimp (disch := (first | omega | assumption | (refine Bool.eq_false_iff.1 ?_; assumption))) only [wrap_in, if_pos, if_neg]; (try simp -dsimp [hlt, hlt2, hc]))))))))
      all_goals exact ⟨hlt2, by simp, by simp, by simp⟩
    · (repeat' (first | ((first | with_reducible refine st_skip ?_ | with_reducible refine st_exit ?_); (try simp only [seqQ, blockQ, loopQ, forQ, whileQ, reduceIte, Nat.reduceEqDiff])) | (with_reducible refine st_ret ?_; ((try simp only [seqQ, blockQ, loopQ, forQ, whileQ]); first | (with_reducible refine retM_ret ?_) | refine retQ_ret ?_; simp [hlt2])) | refine st_seq ?_ | refine st_block ?_ | ((first | refine st_reg ?_ | refine buildP_own ?_) <;> (simp -dsimp [hlt2]; (repeat (simp -dsimp (disch := (first | omega | assumption | (refine Bool.eq_false_iff.1 ?_; assumption))) only [wrap_in, if_pos, if_neg]; (try simp -dsimp [hlt2]))))) | ((first | refine guardP_of (fun hc => ?_) (fun hc => ?_) | refine st_cond rfl (fun hc => ?_) (fun hc => ?_)) <;> (try simp only [decide_eq_true_eq, decide_eq_false_iff_not, Bool.true_eq_false, Bool.false_eq_true, bne_iff_ne, ne_eq, bne_eq_false_iff_eq, beq_iff_eq, beq_eq_false_iff_ne, Bool.not_eq_true, Bool.not_eq_false, Bool.not_eq_eq_eq_not, Bool.not_true, Bool.not_false, Decidable.not_not] at hc) <;> (try (exfalso; first | omega | exact bool_tf hc (by assumption) | exact bool_ft hc (by assumption) | exact absurd (by assumption) hc)) <;> (first | with_reducible show STri _ _ _ _ _ _ | (simp -dsimp [hlt2, hc]; (repeat (simp -dsimp (disch := (first | omega | assumption | (refine Bool.eq_false_iff.1 ?_; assumption))) only [wrap_in, if_pos, if_neg]; (try simp -dsimp [hlt2, hc]))))))))
      all_goals exact ⟨hlt, by simp, by simp, by simp⟩
  · (repeat' (first | ((first | with_reducible refine st_skip ?_ | with_reducible refine st_exit ?_); (try simp only [seqQ, blockQ, loopQ, forQ, whileQ, reduceIte, Nat.reduceEqDiff])) | (with_reducible refine st_ret ?_; ((try simp only [seqQ, blockQ, loopQ, forQ, whileQ]); first | (with_reducible refine retM_ret ?_) | refine retQ_ret ?_; simp [hlt])) | refine st_seq ?_ | refine st_block ?_ | ((first | refine st_reg ?_ | refine buildP_own ?_) <;> (simp -dsimp [hlt]; (repeat (simp -dsimp (disch := (first | omega | assumption | (refine Bool.eq_false_iff.1 ?_; assumption))) only [wrap_in, if_pos, if_neg]; (try simp -dsimp [hlt]))))) | ((first | refine guardP_of (fun hc => ?_) (fun hc => ?_) | refine st_cond rfl (fun hc => ?_) (fun hc => ?_)) <;> (try simp only [decide_eq_true_eq, decide_eq_false_iff_not, Bool.true_eq_false, Bool.false_eq_true, bne_iff_ne, ne_eq, bne_eq_false_iff_eq, beq_iff_eq, beq_eq_false_iff_ne, Bool.not_eq_true, Bool.not_eq_false, Bool.not_eq_eq_eq_not, Bool.not_true, Bool.not_false, Decidable.not_not] at hc) <;> (try (exfalso; first | omega | exact bool_tf hc (by assumption) | exact bool_ft hc (by assumption) | exact absurd (by assumption) hc)) <;> (first | with_reducible show STri _ _ _ _ _ _ | (simp -dsimp [hlt, hc]; (repeat (simp -dsimp (disch := (first | omega | assumption | (refine Bool.eq_false_iff.1 ?_; assumption))) only [wrap_in, if_pos, if_neg]; (try simp -dsimp [hlt, hc]))))))))
    all_goals exact .refl _
end Go.Proofs.YtnfggkopledpcaaGreat
/- DialTimes: the law. -/
namespace Go.Proofs.YtnfggkopledpcaaGreat
open Go.RowKit
set_option maxHeartbeats 8000000 in
set_option maxRecDepth 100000 in
theorem lTimes (n : Nt) (hw : DwMax n.w) (hl : n.l.length ≤ 9223372036854775807) : SC Tryz.prog 3 [cDw n.w, slS n.l, .agg [I n.nlo, I n.nhi, I n.wlo, I n.whi]] (B true) := by
  refine law_turretlaw04_DialTimes _ _ (by simp) ?_
  have a1 := lLarge n.w hw
  have a2 := sKnown
  by_cases hlg : largeB n.w = true
  · rw [hlg] at a1
    (repeat' (first | ((first | with_reducible refine st_skip ?_ | with_reducible refine st_exit ?_); (try simp only [seqQ, blockQ, loopQ, forQ, whileQ, reduceIte, Nat.reduceEqDiff])) | (with_reducible refine st_ret ?_; ((try simp only [seqQ, blockQ, loopQ, forQ, whileQ]); first | (with_reducible refine retM_ret ?_) | refine retQ_ret ?_; simp)) | refine st_seq ?_ | refine st_block ?_ | ((first | refine st_reg ?_ | refine buildP_own ?_ | refine callP_b (a1) rfl ?_ | refine callP_b (a2) rfl ?_) <;> (simp -dsimp; (repeat (simp -dsimp (disch := (first | omega | assumption | (refine Bool.eq_false_iff.1 ?_; assumption))) only [wrap_in, if_pos, if_neg]; (try simp -dsimp))))) | ((first | refine guardP_of (fun hc => ?_) (fun hc => ?_) | refine st_cond rfl (fun hc => ?_) (fun hc => ?_)) <;> (try simp only [decide_eq_true_eq, decide_eq_false_iff_not, Bool.true_eq_false, Bool.false_eq_true, bne_iff_ne, ne_eq, bne_eq_false_iff_eq, beq_iff_eq, beq_eq_false_iff_ne, Bool.not_eq_true, Bool.not_eq_false, Bool.not_eq_eq_eq_not, Bool.not_true, Bool.not_false, Decidable.not_not] at hc) <;> (try (exfalso; first | omega | exact bool_tf hc (by assumption) | exact bool_ft hc (by assumption) | exact absurd (by assumption) hc)) <;> (first | with_reducible show STri _ _ _ _ _ _ | (simp -dsimp [hc]; (repeat (simp -dsimp (disch := (first | omega | assumption | (refine Bool.eq_false_iff.1 ?_; assumption))) only [wrap_in, if_pos, if_neg]; (try simp -dsimp [hc]))))))))
    all_goals exact .refl _
  have hdl := dw_len hlg
  rw [show largeB n.w = false by simpa using hlg] at a1
  by_cases h25 : n.l.length > 25
  · have h25' : (25 : Int) < n.l.length := by omega
    have h25'' : 25 < n.l.length := h25
    (repeat' (first | ((first | with_reducible refine st_skip ?_ | with_reducible refine st_exit ?_); (try simp only [seqQ, blockQ, loopQ, forQ, whileQ, reduceIte, Nat.reduceEqDiff])) | (with_reducible refine st_ret ?_; ((try simp only [seqQ, blockQ, loopQ, forQ, whileQ]); first | (with_reducible refine retM_ret ?_) | refine retQ_ret ?_; simp [h25', h25''])) | refine st_seq ?_ | refine st_block ?_ | ((first | refine st_reg ?_ | refine buildP_own ?_ | refine callP_b (a1) rfl ?_ | refine callP_b (a2) rfl ?_) <;> (simp -dsimp [h25', h25'']; (repeat (simp -dsimp (disch := (first | omega | assumption | (refine Bool.eq_false_iff.1 ?_; assumption))) only [wrap_in, if_pos, if_neg]; (try simp -dsimp [h25', h25'']))))) | ((first | refine guardP_of (fun hc => ?_) (fun hc => ?_) | refine st_cond rfl (fun hc => ?_) (fun hc => ?_)) <;> (try simp only [decide_eq_true_eq, decide_eq_false_iff_not, Bool.true_eq_false, Bool.false_eq_true, bne_iff_ne, ne_eq, bne_eq_false_iff_eq, beq_iff_eq, beq_eq_false_iff_ne, Bool.not_eq_true, Bool.not_eq_false, Bool.not_eq_eq_eq_not, Bool.not_true, Bool.not_false, Decidable.not_not] at hc) <;> (try (exfalso; first | omega | exact bool_tf hc (by assumption) | exact bool_ft hc (by assumption) | exact absurd (by assumption) hc)) <;> (first | with_reducible show STri _ _ _ _ _ _ | (simp -dsimp [h25', h25'', hc]; (repeat (simp -dsimp (disch := (first | omega | assumption | (refine Bool.eq_false_iff.1 ?_; assumption))) only [wrap_in, if_pos, if_neg]; (try simp -dsimp [h25', h25'', hc]))))))))
    all_goals exact .refl _
  have h25' : ¬ (25 : Int) < n.l.length := by omega
  have h25'' : ¬ 25 < n.l.length := h25
  have hl6 : n.l.length ≤ 1000000 := by omega
  have a3 := rNotes' n hdl hl6
  have a4 := lWorks n.w hdl
  have a5 := lReadings n.l hl6
  have a6 := lUnchanged n.w hdl
  have a7 := sTimes n hdl hl6
  unfold rTimes at a7
  by_cases he : ntErr n = 0
  · have ok := nt_ok he
    have n1 := ok.n1
    have n2 := ok.n2
    have n3 := ok.n3
    have n4 := ok.n4
    have hsm := dw_sm ok.w
    have j3 := hsm.c
    have j4 := hsm.f
    have j5 := hsm.g
    rw [he] at a3
    by_cases h5 : n.l.length > 5
    · have h5' : (5 : Int) < n.l.length := by omega
      have h5'' : 5 < n.l.length := h5
      (repeat' (first | ((first | with_reducible refine st_skip ?_ | with_reducible refine st_exit ?_); (try simp only [seqQ, blockQ, loopQ, forQ, whileQ, reduceIte, Nat.reduceEqDiff])) | (with_reducible refine st_ret ?_; ((try simp only [seqQ, blockQ, loopQ, forQ, whileQ]); first | (with_reducible refine retM_ret ?_) | refine retQ_ret ?_; simp [h25', h25'', h5', h5''])) | refine st_seq ?_ | refine st_block ?_ | ((first | refine st_reg ?_ | refine buildP_own ?_ | refine callP_b (a1) rfl ?_ | refine callP_b (a2) rfl ?_ | refine callP_b (a3) rfl ?_) <;> (simp -dsimp [h25', h25'', h5', h5'']; (repeat (simp -dsimp (disch := (first | omega | assumption | (refine Bool.eq_false_iff.1 ?_; assumption))) only [wrap_in, if_pos, if_neg]; (try simp -dsimp [h25', h25'', h5', h5'']))))) | ((first | refine guardP_of (fun hc => ?_) (fun hc => ?_) | refine st_cond rfl (fun hc => ?_) (fun hc => ?_)) <;> (try simp only [decide_eq_true_eq, decide_eq_false_iff_not, Bool.true_eq_false, Bool.false_eq_true, bne_iff_ne, ne_eq, bne_eq_false_iff_eq, beq_iff_eq, beq_eq_false_iff_ne, Bool.not_eq_true, Bool.not_eq_false, Bool.not_eq_eq_eq_not, Bool.not_true, Bool.not_false, Decidable.not_not] at hc) <;> (try (exfalso; first | omega | exact bool_tf hc (by assumption) | exact bool_ft hc (by assumption) | exact absurd (by assumption) hc)) <;> (first | with_reducible show STri _ _ _ _ _ _ | (simp -dsimp [h25', h25'', h5', h5'', hc]; (repeat (simp -dsimp (disch := (first | omega | assumption | (refine Bool.eq_false_iff.1 ?_; assumption))) only [wrap_in, if_pos, if_neg]; (try simp -dsimp [h25', h25'', h5', h5'', hc]))))))))
      all_goals exact .refl _
    have h5' : ¬ (5 : Int) < n.l.length := by omega
    have h5'' : ¬ 5 < n.l.length := h5
    by_cases h150 : n.nhi - n.nlo > 150
    · have h150' : 150 < n.nhi - n.nlo := h150
      (repeat' (first | ((first | with_reducible refine st_skip ?_ | with_reducible refine st_exit ?_); (try simp only [seqQ, blockQ, loopQ, forQ, whileQ, reduceIte, Nat.reduceEqDiff])) | (with_reducible refine st_ret ?_; ((try simp only [seqQ, blockQ, loopQ, forQ, whileQ]); first | (with_reducible refine retM_ret ?_) | refine retQ_ret ?_; simp [h25', h25'', h5', h5'', h150'])) | refine st_seq ?_ | refine st_block ?_ | ((first | refine st_reg ?_ | refine buildP_own ?_ | refine callP_b (a1) rfl ?_ | refine callP_b (a2) rfl ?_ | refine callP_b (a3) rfl ?_) <;> (simp -dsimp [h25', h25'', h5', h5'', h150']; (repeat (simp -dsimp (disch := (first | omega | assumption | (refine Bool.eq_false_iff.1 ?_; assumption))) only [wrap_in, if_pos, if_neg]; (try simp -dsimp [h25', h25'', h5', h5'', h150']))))) | ((first | refine guardP_of (fun hc => ?_) (fun hc => ?_) | refine st_cond rfl (fun hc => ?_) (fun hc => ?_)) <;> (try simp only [decide_eq_true_eq, decide_eq_false_iff_not, Bool.true_eq_false, Bool.false_eq_true, bne_iff_ne, ne_eq, bne_eq_false_iff_eq, beq_iff_eq, beq_eq_false_iff_ne, Bool.not_eq_true, Bool.not_eq_false, Bool.not_eq_eq_eq_not, Bool.not_true, Bool.not_false, Decidable.not_not] at hc) <;> (try (exfalso; first | omega | exact bool_tf hc (by assumption) | exact bool_ft hc (by assumption) | exact absurd (by assumption) hc)) <;> (first | with_reducible show STri _ _ _ _ _ _ | (simp -dsimp [h25', h25'', h5', h5'', h150', hc]; (repeat (simp -dsimp (disch := (first | omega | assumption | (refine Bool.eq_false_iff.1 ?_; assumption))) only [wrap_in, if_pos, if_neg]; (try simp -dsimp [h25', h25'', h5', h5'', h150', hc]))))))))
      all_goals exact .refl _
    have h150' : ¬ 150 < n.nhi - n.nlo := h150
    by_cases h60 : n.w.ehi - n.w.elo > 60
    · have h60' : 60 < n.w.ehi - n.w.elo := h60
      (repeat' (first | ((first | with_reducible refine st_skip ?_ | with_reducible refine st_exit ?_); (try simp only [seqQ, blockQ, loopQ, forQ, whileQ, reduceIte, Nat.reduceEqDiff])) | (with_reducible refine st_ret ?_; ((try simp only [seqQ, blockQ, loopQ, forQ, whileQ]); first | (with_reducible refine retM_ret ?_) | refine retQ_ret ?_; simp [h25', h25'', h5', h5'', h150', h60'])) | refine st_seq ?_ | refine st_block ?_ | ((first | refine st_reg ?_ | refine buildP_own ?_ | refine callP_b (a1) rfl ?_ | refine callP_b (a2) rfl ?_ | refine callP_b (a3) rfl ?_) <;> (simp -dsimp [h25', h25'', h5', h5'', h150', h60']; (repeat (simp -dsimp (disch := (first | omega | assumption | (refine Bool.eq_false_iff.1 ?_; assumption))) only [wrap_in, if_pos, if_neg]; (try simp -dsimp [h25', h25'', h5', h5'', h150', h60']))))) | ((first | refine guardP_of (fun hc => ?_) (fun hc => ?_) | refine st_cond rfl (fun hc => ?_) (fun hc => ?_)) <;> (try simp only [decide_eq_true_eq, decide_eq_false_iff_not, Bool.true_eq_false, Bool.false_eq_true, bne_iff_ne, ne_eq, bne_eq_false_iff_eq, beq_iff_eq, beq_eq_false_iff_ne, Bool.not_eq_true, Bool.not_eq_false, Bool.not_eq_eq_eq_not, Bool.not_true, Bool.not_false, Decidable.not_not] at hc) <;> (try (exfalso; first | omega | exact bool_tf hc (by assumption) | exact bool_ft hc (by assumption) | exact absurd (by assumption) hc)) <;> (first | with_reducible show STri _ _ _ _ _ _ | (simp -dsimp [h25', h25'', h5', h5'', h150', h60', hc]; (repeat (simp -dsimp (disch := (first | omega | assumption | (refine Bool.eq_false_iff.1 ?_; assumption))) only [wrap_in, if_pos, if_neg]; (try simp -dsimp [h25', h25'', h5', h5'', h150', h60', hc]))))))))
      all_goals exact .refl _
    have h60' : ¬ 60 < n.w.ehi - n.w.elo := h60
    rw [if_pos he] at a7
    have a8 := sPairs n hdl hl6 (prRaw_le (by omega))
    unfold rPairs at a8
    rw [if_pos he, ← pairs_eq] at a8
    have b1 := rTimes' ok
    have hN : tmN n ≤ 7201 := by unfold tmN; omega
    have b2 := rSpans (tmN n) (tmB n) n.nlo (by omega) (by omega) (by omega)
    rw [times_eq ok] at b2
    have b3 := rPairs' ok
    obtain ⟨_, _, _, tl4⟩ := timL_fine ok
    have b4 := rSame (timL n) (by omega)
    have hnil := tim_nil ok
    obtain ⟨er, her, a7'⟩ : ∃ er : Int, (er = 0 ∧ timL n ≠ [] ∨ er = 7 ∧ timL n = []) ∧ SC Tryz.prog 9 [cDw n.w, slS n.l, cS n.nlo n.nhi, cS n.wlo n.whi] (.tup [slS (timL n), I er]) := by
      by_cases hr : timRaw n = []
      · rw [if_pos hr] at a7
        exact ⟨7, .inr ⟨rfl, hnil.1 hr⟩, by rw [hnil.1 hr]; exact a7⟩
      · rw [if_neg hr] at a7
        exact ⟨0, .inl ⟨rfl, fun h => hr (hnil.2 h)⟩, a7⟩
    have hpl : (rpO n n.l.length).length ≤ 5 * 5 := Nat.le_trans (rpO_len n n.l.length) (Nat.mul_le_mul (by omega) (by omega))
    generalize timL n = tl at *
    generalize rpO n n.l.length = rp at *
    have tail : STri (cfF Tryz.prog [] 197) c_turretlaw04_DialTimes_69 [(1, .c (slS n.l)), (3, .ptr 3 0), (5, .ptr 5 0), (7, .c (I 0)), (9, .c (slS n.l)), (10, .c (slS tl)), (11, .c (I er)), (12, .c (slS rp)), (13, .c (I 0))]
        [(3, bxD n.w), (5, .box 29 [.c (I n.nlo), .c (I n.nhi), .c (I n.wlo), .c (I n.whi)]), (8, bxD n.w)] (retQ rs_turretlaw04_DialTimes (B true)) := by
      (repeat' (first | ((first | with_reducible refine st_skip ?_ | with_reducible refine st_exit ?_); (try simp only [seqQ, blockQ, loopQ, forQ, whileQ, reduceIte, Nat.reduceEqDiff])) | (with_reducible refine st_ret ?_; ((try simp only [seqQ, blockQ, loopQ, forQ, whileQ]); first | (with_reducible refine retM_ret ?_) | refine retQ_ret ?_; simp)) | refine st_seq ?_ | refine st_block ?_ | ((first | refine st_reg ?_ | refine buildP_own ?_) <;> (simp -dsimp; (repeat (simp -dsimp (disch := (first | omega | assumption | (refine Bool.eq_false_iff.1 ?_; assumption))) only [wrap_in, if_pos, if_neg]; (try simp -dsimp))))) | ((first | refine guardP_of (fun hc => ?_) (fun hc => ?_) | refine st_cond rfl (fun hc => ?_) (fun hc => ?_)) <;> (try simp only [decide_eq_true_eq, decide_eq_false_iff_not, Bool.true_eq_false, Bool.false_eq_true, bne_iff_ne, ne_eq, bne_eq_false_iff_eq, beq_iff_eq, beq_eq_false_iff_ne, Bool.not_eq_true, Bool.not_eq_false, Bool.not_eq_eq_eq_not, Bool.not_true, Bool.not_false, Decidable.not_not] at hc) <;> (try (exfalso; first | omega | exact bool_tf hc (by assumption) | exact bool_ft hc (by assumption) | exact absurd (by assumption) hc)) <;> (first | with_reducible show STri _ _ _ _ _ _ | (simp -dsimp [hc]; (repeat (simp -dsimp (disch := (first | omega | assumption | (refine Bool.eq_false_iff.1 ?_; assumption))) only [wrap_in, if_pos, if_neg]; (try simp -dsimp [hc]))))))))
      refine st_for [3, 5, 8] n.l.length (fun k T H => T = [(1, .c (slS n.l)), (3, .ptr 3 0), (5, .ptr 5 0), (7, .c (I 0)), (9, .c (slS n.l)), (10, .c (slS tl)), (11, .c (I er)), (12, .c (slS rp)), (13, .c (I 0)), (14, .c (I k))] ∧
        H = [(3, bxD n.w), (5, .box 29 [.c (I n.nlo), .c (I n.nhi), .c (I n.wlo), .c (I n.whi)]), (8, bxD n.w)]) (by simp) ⟨by simp, by simp⟩ ?_
      rintro k T H hk ⟨rfl, rfl⟩
      by_cases hlt : k < n.l.length
      · have hgr : ∀ h : k < (n.l.map rowS).length, (n.l.map rowS)[k]'h = rowS n.l[k] := fun h => by simp
        generalize n.l[k] = y at *
        (repeat' (first | ((first | with_reducible refine st_skip ?_ | with_reducible refine st_exit ?_); (try simp only [seqQ, blockQ, loopQ, forQ, whileQ, reduceIte, Nat.reduceEqDiff])) | (with_reducible refine st_ret ?_; ((try simp only [seqQ, blockQ, loopQ, forQ, whileQ]); first | (with_reducible refine retM_ret ?_) | refine retQ_ret ?_; simp [hlt, hgr])) | refine st_seq ?_ | refine st_block ?_ | ((first | refine st_reg ?_ | refine buildP_own ?_) <;> (simp -dsimp [hlt, hgr]; (repeat (simp -dsimp (disch := (first | omega | assumption | (refine Bool.eq_false_iff.1 ?_; assumption))) only [wrap_in, if_pos, if_neg]; (try simp -dsimp [hlt, hgr]))))) | ((first | refine guardP_of (fun hc => ?_) (fun hc => ?_) | refine st_cond rfl (fun hc => ?_) (fun hc => ?_)) <;> (try simp only [decide_eq_true_eq, decide_eq_false_iff_not, Bool.true_eq_false, Bool.false_eq_true, bne_iff_ne, ne_eq, bne_eq_false_iff_eq, beq_iff_eq, beq_eq_false_iff_ne, Bool.not_eq_true, Bool.not_eq_false, Bool.not_eq_eq_eq_not, Bool.not_true, Bool.not_false, Decidable.not_not] at hc) <;> (try (exfalso; first | omega | exact bool_tf hc (by assumption) | exact bool_ft hc (by assumption) | exact absurd (by assumption) hc)) <;> (first | with_reducible show STri _ _ _ _ _ _ | (simp -dsimp [hlt, hgr, hc]; (repeat (simp -dsimp (disch := (first | omega | assumption | (refine Bool.eq_false_iff.1 ?_; assumption))) only [wrap_in, if_pos, if_neg]; (try simp -dsimp [hlt, hgr, hc]))))))))
        all_goals exact ⟨hlt, by simp, by simp, by simp⟩
      · have fin : ∀ (j : Nat) (hj : j < rp.length) (h : j < (rp.map rowS).length), (rp.map rowS)[j]'h = rowS rp[j] := fun j hj h => by simp
        rcases her with ⟨rfl, hne⟩ | ⟨rfl, hne⟩
        · have hne2 : ¬ tl.length = 0 := fun h => hne (List.length_eq_zero_iff.1 h)
          have hne3 : ¬ (tl.length : Int) = 0 := by omega
          (repeat' (first | ((first | with_reducible refine st_skip ?_ | with_reducible refine st_exit ?_); (try simp only [seqQ, blockQ, loopQ, forQ, whileQ, reduceIte, Nat.reduceEqDiff])) | (with_reducible refine st_ret ?_; ((try simp only [seqQ, blockQ, loopQ, forQ, whileQ]); first | (with_reducible refine retM_ret ?_) | refine retQ_ret ?_; simp [hlt, hne, hne2, hne3])) | refine st_seq ?_ | refine st_block ?_ | ((first | refine st_reg ?_ | refine buildP_own ?_ | refine callP_b (b1) rfl ?_ | refine callP_b (b2) rfl ?_ | refine callP_b (b3) rfl ?_ | refine callP_b (b4) rfl ?_) <;> (simp -dsimp [hlt, hne, hne2, hne3]; (repeat (simp -dsimp (disch := (first | omega | assumption | (refine Bool.eq_false_iff.1 ?_; assumption))) only [wrap_in, if_pos, if_neg]; (try simp -dsimp [hlt, hne, hne2, hne3]))))) | ((first | refine guardP_of (fun hc => ?_) (fun hc => ?_) | refine st_cond rfl (fun hc => ?_) (fun hc => ?_)) <;> (try simp only [decide_eq_true_eq, decide_eq_false_iff_not, Bool.true_eq_false, Bool.false_eq_true, bne_iff_ne, ne_eq, bne_eq_false_iff_eq, beq_iff_eq, beq_eq_false_iff_ne, Bool.not_eq_true, Bool.not_eq_false, Bool.not_eq_eq_eq_not, Bool.not_true, Bool.not_false, Decidable.not_not] at hc) <;> (try (exfalso; first | omega | exact bool_tf hc (by assumption) | exact bool_ft hc (by assumption) | exact absurd (by assumption) hc)) <;> (first | with_reducible show STri _ _ _ _ _ _ | (simp -dsimp [hlt, hne, hne2, hne3, hc]; (repeat (simp -dsimp (disch := (first | omega | assumption | (refine Bool.eq_false_iff.1 ?_; assumption))) only [wrap_in, if_pos, if_neg]; (try simp -dsimp [hlt, hne, hne2, hne3, hc]))))))))
          refine st_for [] rp.length (fun j T H => T = [(12, .c (slS rp)), (16, .c (slS rp)), (17, .c (I j))] ∧ H = []) (by simp) ⟨by simp, by simp⟩ ?_
          rintro j T H hj ⟨rfl, rfl⟩
          by_cases hjt : j < rp.length
          · have hgr := fin j hjt
            generalize rp[j] = y at *
            (repeat' (first | ((first | with_reducible refine st_skip ?_ | with_reducible refine st_exit ?_); (try simp only [seqQ, blockQ, loopQ, forQ, whileQ, reduceIte, Nat.reduceEqDiff])) | (with_reducible refine st_ret ?_; ((try simp only [seqQ, blockQ, loopQ, forQ, whileQ]); first | (with_reducible refine retM_ret ?_) | refine retQ_ret ?_; simp [hjt, hgr])) | refine st_seq ?_ | refine st_block ?_ | ((first | refine st_reg ?_ | refine buildP_own ?_) <;> (simp -dsimp [hjt, hgr]; (repeat (simp -dsimp (disch := (first | omega | assumption | (refine Bool.eq_false_iff.1 ?_; assumption))) only [wrap_in, if_pos, if_neg]; (try simp -dsimp [hjt, hgr]))))) | ((first | refine guardP_of (fun hc => ?_) (fun hc => ?_) | refine st_cond rfl (fun hc => ?_) (fun hc => ?_)) <;> (try simp only [decide_eq_true_eq, decide_eq_false_iff_not, Bool.true_eq_false, Bool.false_eq_true, bne_iff_ne, ne_eq, bne_eq_false_iff_eq, beq_iff_eq, beq_eq_false_iff_ne, Bool.not_eq_true, Bool.not_eq_false, Bool.not_eq_eq_eq_not, Bool.not_true, Bool.not_false, Decidable.not_not] at hc) <;> (try (exfalso; first | omega | exact bool_tf hc (by assumption) | exact bool_ft hc (by assumption) | exact absurd (by assumption) hc)) <;> (first | with_reducible show STri _ _ _ _ _ _ | (simp -dsimp [hjt, hgr, hc]; (repeat (simp -dsimp (disch := (first | omega | assumption | (refine Bool.eq_false_iff.1 ?_; assumption))) only [wrap_in, if_pos, if_neg]; (try simp -dsimp [hjt, hgr, hc]))))))))
            all_goals exact ⟨hjt, by simp, by simp, by simp⟩
          · (repeat' (first | ((first | with_reducible refine st_skip ?_ | with_reducible refine st_exit ?_); (try simp only [seqQ, blockQ, loopQ, forQ, whileQ, reduceIte, Nat.reduceEqDiff])) | (with_reducible refine st_ret ?_; ((try simp only [seqQ, blockQ, loopQ, forQ, whileQ]); first | (with_reducible refine retM_ret ?_) | refine retQ_ret ?_; simp [hjt])) | refine st_seq ?_ | refine st_block ?_ | ((first | refine st_reg ?_ | refine buildP_own ?_ | refine callP_b (a2) rfl ?_) <;> (simp -dsimp [hjt]; (repeat (simp -dsimp (disch := (first | omega | assumption | (refine Bool.eq_false_iff.1 ?_; assumption))) only [wrap_in, if_pos, if_neg]; (try simp -dsimp [hjt]))))) | ((first | refine guardP_of (fun hc => ?_) (fun hc => ?_) | refine st_cond rfl (fun hc => ?_) (fun hc => ?_)) <;> (try simp only [decide_eq_true_eq, decide_eq_false_iff_not, Bool.true_eq_false, Bool.false_eq_true, bne_iff_ne, ne_eq, bne_eq_false_iff_eq, beq_iff_eq, beq_eq_false_iff_ne, Bool.not_eq_true, Bool.not_eq_false, Bool.not_eq_eq_eq_not, Bool.not_true, Bool.not_false, Decidable.not_not] at hc) <;> (try (exfalso; first | omega | exact bool_tf hc (by assumption) | exact bool_ft hc (by assumption) | exact absurd (by assumption) hc)) <;> (first | with_reducible show STri _ _ _ _ _ _ | (simp -dsimp [hjt, hc]; (repeat (simp -dsimp (disch := (first | omega | assumption | (refine Bool.eq_false_iff.1 ?_; assumption))) only [wrap_in, if_pos, if_neg]; (try simp -dsimp [hjt, hc]))))))))
            all_goals exact .refl _
        · subst hne
          (repeat' (first | ((first | with_reducible refine st_skip ?_ | with_reducible refine st_exit ?_); (try simp only [seqQ, blockQ, loopQ, forQ, whileQ, reduceIte, Nat.reduceEqDiff])) | (with_reducible refine st_ret ?_; ((try simp only [seqQ, blockQ, loopQ, forQ, whileQ]); first | (with_reducible refine retM_ret ?_) | refine retQ_ret ?_; simp [hlt])) | refine st_seq ?_ | refine st_block ?_ | ((first | refine st_reg ?_ | refine buildP_own ?_ | refine callP_b (b1) rfl ?_ | refine callP_b (b2) rfl ?_ | refine callP_b (b3) rfl ?_ | refine callP_b (b4) rfl ?_) <;> (simp -dsimp [hlt]; (repeat (simp -dsimp (disch := (first | omega | assumption | (refine Bool.eq_false_iff.1 ?_; assumption))) only [wrap_in, if_pos, if_neg]; (try simp -dsimp [hlt]))))) | ((first | refine guardP_of (fun hc => ?_) (fun hc => ?_) | refine st_cond rfl (fun hc => ?_) (fun hc => ?_)) <;> (try simp only [decide_eq_true_eq, decide_eq_false_iff_not, Bool.true_eq_false, Bool.false_eq_true, bne_iff_ne, ne_eq, bne_eq_false_iff_eq, beq_iff_eq, beq_eq_false_iff_ne, Bool.not_eq_true, Bool.not_eq_false, Bool.not_eq_eq_eq_not, Bool.not_true, Bool.not_false, Decidable.not_not] at hc) <;> (try (exfalso; first | omega | exact bool_tf hc (by assumption) | exact bool_ft hc (by assumption) | exact absurd (by assumption) hc)) <;> (first | with_reducible show STri _ _ _ _ _ _ | (simp -dsimp [hlt, hc]; (repeat (simp -dsimp (disch := (first | omega | assumption | (refine Bool.eq_false_iff.1 ?_; assumption))) only [wrap_in, if_pos, if_neg]; (try simp -dsimp [hlt, hc]))))))))
          refine st_for [] rp.length (fun j T H => T = [(12, .c (slS rp)), (16, .c (slS rp)), (17, .c (I j))] ∧ H = []) (by simp) ⟨by simp, by simp⟩ ?_
          rintro j T H hj ⟨rfl, rfl⟩
          by_cases hjt : j < rp.length
          · have hgr := fin j hjt
            generalize rp[j] = y at *
            (repeat' (first | ((first | with_reducible refine st_skip ?_ | with_reducible refine st_exit ?_); (try simp only [seqQ, blockQ, loopQ, forQ, whileQ, reduceIte, Nat.reduceEqDiff])) | (with_reducible refine st_ret ?_; ((try simp only [seqQ, blockQ, loopQ, forQ, whileQ]); first | (with_reducible refine retM_ret ?_) | refine retQ_ret ?_; simp [hjt, hgr])) | refine st_seq ?_ | refine st_block ?_ | ((first | refine st_reg ?_ | refine buildP_own ?_) <;> (simp -dsimp [hjt, hgr]; (repeat (simp -dsimp (disch := (first | omega | assumption | (refine Bool.eq_false_iff.1 ?_; assumption))) only [wrap_in, if_pos, if_neg]; (try simp -dsimp [hjt, hgr]))))) | ((first | refine guardP_of (fun hc => ?_) (fun hc => ?_) | refine st_cond rfl (fun hc => ?_) (fun hc => ?_)) <;> (try simp only [decide_eq_true_eq, decide_eq_false_iff_not, Bool.true_eq_false, Bool.false_eq_true, bne_iff_ne, ne_eq, bne_eq_false_iff_eq, beq_iff_eq, beq_eq_false_iff_ne, Bool.not_eq_true, Bool.not_eq_false, Bool.not_eq_eq_eq_not, Bool.not_true, Bool.not_false, Decidable.not_not] at hc) <;> (try (exfalso; first | omega | exact bool_tf hc (by assumption) | exact bool_ft hc (by assumption) | exact absurd (by assumption) hc)) <;> (first | with_reducible show STri _ _ _ _ _ _ | (simp -dsimp [hjt, hgr, hc]; (repeat (simp -dsimp (disch := (first | omega | assumption | (refine Bool.eq_false_iff.1 ?_; assumption))) only [wrap_in, if_pos, if_neg]; (try simp -dsimp [hjt, hgr, hc]))))))))
            all_goals exact ⟨hjt, by simp, by simp, by simp⟩
          · (repeat' (first | ((first | with_reducible refine st_skip ?_ | with_reducible refine st_exit ?_); (try simp only [seqQ, blockQ, loopQ, forQ, whileQ, reduceIte, Nat.reduceEqDiff])) | (with_reducible refine st_ret ?_; ((try simp only [seqQ, blockQ, loopQ, forQ, whileQ]); first | (with_reducible refine retM_ret ?_) | refine retQ_ret ?_; simp [hjt])) | refine st_seq ?_ | refine st_block ?_ | ((first | refine st_reg ?_ | refine buildP_own ?_ | refine callP_b (a2) rfl ?_) <;> (simp -dsimp [hjt]; (repeat (simp -dsimp (disch := (first | omega | assumption | (refine Bool.eq_false_iff.1 ?_; assumption))) only [wrap_in, if_pos, if_neg]; (try simp -dsimp [hjt]))))) | ((first | refine guardP_of (fun hc => ?_) (fun hc => ?_) | refine st_cond rfl (fun hc => ?_) (fun hc => ?_)) <;> (try simp only [decide_eq_true_eq, decide_eq_false_iff_not, Bool.true_eq_false, Bool.false_eq_true, bne_iff_ne, ne_eq, bne_eq_false_iff_eq, beq_iff_eq, beq_eq_false_iff_ne, Bool.not_eq_true, Bool.not_eq_false, Bool.not_eq_eq_eq_not, Bool.not_true, Bool.not_false, Decidable.not_not] at hc) <;> (try (exfalso; first | omega | exact bool_tf hc (by assumption) | exact bool_ft hc (by assumption) | exact absurd (by assumption) hc)) <;> (first | with_reducible show STri _ _ _ _ _ _ | (simp -dsimp [hjt, hc]; (repeat (simp -dsimp (disch := (first | omega | assumption | (refine Bool.eq_false_iff.1 ?_; assumption))) only [wrap_in, if_pos, if_neg]; (try simp -dsimp [hjt, hc]))))))))
            all_goals exact .refl _
    (repeat' (first | ((with_reducible show STri _ c_turretlaw04_DialTimes_69 _ _ _); refine st_less [(1, .c (slS n.l)), (3, .ptr 3 0), (5, .ptr 5 0), (7, .c (I 0)), (9, .c (slS n.l)), (10, .c (slS tl)), (11, .c (I er)), (12, .c (slS rp)), (13, .c (I 0))] [(3, bxD n.w), (5, .box 29 [.c (I n.nlo), .c (I n.nhi), .c (I n.wlo), .c (I n.whi)]), (8, bxD n.w)] (by simp [dropOK]) ?_; exact tail) | ((first | with_reducible refine st_skip ?_ | with_reducible refine st_exit ?_); (try simp only [seqQ, blockQ, loopQ, forQ, whileQ, reduceIte, Nat.reduceEqDiff])) | (with_reducible refine st_ret ?_; ((try simp only [seqQ, blockQ, loopQ, forQ, whileQ]); first | (with_reducible refine retM_ret ?_) | refine retQ_ret ?_; simp [h25', h25'', h5', h5'', h150', h60'])) | refine st_seq ?_ | refine st_block ?_ | ((first | refine st_reg ?_ | refine buildP_own ?_ | refine callP_b (a1) rfl ?_ | refine callP_b (a2) rfl ?_ | refine callP_b (a3) rfl ?_ | refine callP_b (a4) rfl ?_ | refine callP_b (a5) rfl ?_ | refine callP_b (a6) rfl ?_ | refine callP_b (a7') rfl ?_ | refine callP_b (a8) rfl ?_) <;> (simp -dsimp [h25', h25'', h5', h5'', h150', h60']; (repeat (simp -dsimp (disch := (first | omega | assumption | (refine Bool.eq_false_iff.1 ?_; assumption))) only [wrap_in, if_pos, if_neg]; (try simp -dsimp [h25', h25'', h5', h5'', h150', h60']))))) | ((first | refine guardP_of (fun hc => ?_) (fun hc => ?_) | refine st_cond rfl (fun hc => ?_) (fun hc => ?_)) <;> (try simp only [decide_eq_true_eq, decide_eq_false_iff_not, Bool.true_eq_false, Bool.false_eq_true, bne_iff_ne, ne_eq, bne_eq_false_iff_eq, beq_iff_eq, beq_eq_false_iff_ne, Bool.not_eq_true, Bool.not_eq_false, Bool.not_eq_eq_eq_not, Bool.not_true, Bool.not_false, Decidable.not_not] at hc) <;> (try (exfalso; first | omega | exact bool_tf hc (by assumption) | exact bool_ft hc (by assumption) | exact absurd (by assumption) hc)) <;> (first | with_reducible show STri _ _ _ _ _ _ | (simp -dsimp [h25', h25'', h5', h5'', h150', h60', hc]; (repeat (simp -dsimp (disch := (first | omega | assumption | (refine Bool.eq_false_iff.1 ?_; assumption))) only [wrap_in, if_pos, if_neg]; (try simp -dsimp [h25', h25'', h5', h5'', h150', h60', hc]))))))))
  · rw [if_neg he] at a7
    have a8 := sPairsNo n hdl hl6 he
    generalize ntErr n = er at *
    (repeat' (first | ((first | with_reducible refine st_skip ?_ | with_reducible refine st_exit ?_); (try simp only [seqQ, blockQ, loopQ, forQ, whileQ, reduceIte, Nat.reduceEqDiff])) | (with_reducible refine st_ret ?_; ((try simp only [seqQ, blockQ, loopQ, forQ, whileQ]); first | (with_reducible refine retM_ret ?_) | refine retQ_ret ?_; simp [h25', h25'', he])) | refine st_seq ?_ | refine st_block ?_ | ((first | refine st_reg ?_ | refine buildP_own ?_ | refine callP_b (a1) rfl ?_ | refine callP_b (a2) rfl ?_ | refine callP_b (a3) rfl ?_ | refine callP_b (a4) rfl ?_ | refine callP_b (a5) rfl ?_ | refine callP_b (a6) rfl ?_ | refine callP_b (a7) rfl ?_ | refine callP_b (a8) rfl ?_) <;> (simp -dsimp [h25', h25'', he]; (repeat (simp -dsimp (disch := (first | omega | assumption | (refine Bool.eq_false_iff.1 ?_; assumption))) only [wrap_in, if_pos, if_neg]; (try simp -dsimp [h25', h25'', he]))))) | ((first | refine guardP_of (fun hc => ?_) (fun hc => ?_) | refine st_cond rfl (fun hc => ?_) (fun hc => ?_)) <;> (try simp only [decide_eq_true_eq, decide_eq_false_iff_not, Bool.true_eq_false, Bool.false_eq_true, bne_iff_ne, ne_eq, bne_eq_false_iff_eq, beq_iff_eq, beq_eq_false_iff_ne, Bool.not_eq_true, Bool.not_eq_false, Bool.not_eq_eq_eq_not, Bool.not_true, Bool.not_false, Decidable.not_not] at hc) <;> (try (exfalso; first | omega | exact bool_tf hc (by assumption) | exact bool_ft hc (by assumption) | exact absurd (by assumption) hc)) <;> (first | with_reducible show STri _ _ _ _ _ _ | (simp -dsimp [h25', h25'', he, hc]; (repeat (simp -dsimp (disch := (first | omega | assumption | (refine Bool.eq_false_iff.1 ?_; assumption))) only [wrap_in, if_pos, if_neg]; (try simp -dsimp [h25', h25'', he, hc]))))))))
    refine st_for [3, 5, 8] n.l.length (fun k T H => T = [(1, .c (slS n.l)), (3, .ptr 3 0), (5, .ptr 5 0), (7, .c (I er)), (9, .c (slS n.l)), (10, .c (slS [])), (11, .c (I er)), (12, .c (slS [])), (13, .c (I er)), (14, .c (I k))] ∧
      H = [(3, bxD n.w), (5, .box 29 [.c (I n.nlo), .c (I n.nhi), .c (I n.wlo), .c (I n.whi)]), (8, bxD n.w)]) (by simp) ⟨by simp, by simp⟩ ?_
    rintro k T H hk ⟨rfl, rfl⟩
    by_cases hlt : k < n.l.length
    · have hgr : ∀ h : k < (n.l.map rowS).length, (n.l.map rowS)[k]'h = rowS n.l[k] := fun h => by simp
      generalize n.l[k] = y at *
      (repeat' (first | ((first | with_reducible refine st_skip ?_ | with_reducible refine st_exit ?_); (try simp only [seqQ, blockQ, loopQ, forQ, whileQ, reduceIte, Nat.reduceEqDiff])) | (with_reducible refine st_ret ?_; ((try simp only [seqQ, blockQ, loopQ, forQ, whileQ]); first | (with_reducible refine retM_ret ?_) | refine retQ_ret ?_; simp [hlt, hgr])) | refine st_seq ?_ | refine st_block ?_ | ((first | refine st_reg ?_ | refine buildP_own ?_) <;> (simp -dsimp [hlt, hgr]; (repeat (simp -dsimp (disch := (first | omega | assumption | (refine Bool.eq_false_iff.1 ?_; assumption))) only [wrap_in, if_pos, if_neg]; (try simp -dsimp [hlt, hgr]))))) | ((first | refine guardP_of (fun hc => ?_) (fun hc => ?_) | refine st_cond rfl (fun hc => ?_) (fun hc => ?_)) <;> (try simp only [decide_eq_true_eq, decide_eq_false_iff_not, Bool.true_eq_false, Bool.false_eq_true, bne_iff_ne, ne_eq, bne_eq_false_iff_eq, beq_iff_eq, beq_eq_false_iff_ne, Bool.not_eq_true, Bool.not_eq_false, Bool.not_eq_eq_eq_not, Bool.not_true, Bool.not_false, Decidable.not_not] at hc) <;> (try (exfalso; first | omega | exact bool_tf hc (by assumption) | exact bool_ft hc (by assumption) | exact absurd (by assumption) hc)) <;> (first | with_reducible show STri _ _ _ _ _ _ | (simp -dsimp [hlt, hgr, hc]; (repeat (simp -dsimp (disch := (first | omega | assumption | (refine Bool.eq_false_iff.1 ?_; assumption))) only [wrap_in, if_pos, if_neg]; (try simp -dsimp [hlt, hgr, hc]))))))))
      all_goals exact ⟨hlt, by simp, by simp, by simp⟩
    · (repeat' (first | ((first | with_reducible refine st_skip ?_ | with_reducible refine st_exit ?_); (try simp only [seqQ, blockQ, loopQ, forQ, whileQ, reduceIte, Nat.reduceEqDiff])) | (with_reducible refine st_ret ?_; ((try simp only [seqQ, blockQ, loopQ, forQ, whileQ]); first | (with_reducible refine retM_ret ?_) | refine retQ_ret ?_; simp [hlt, he])) | refine st_seq ?_ | refine st_block ?_ | ((first | refine st_reg ?_ | refine buildP_own ?_ | refine callP_b (a2) rfl ?_) <;> (simp -dsimp [hlt, he]; (repeat (simp -dsimp (disch := (first | omega | assumption | (refine Bool.eq_false_iff.1 ?_; assumption))) only [wrap_in, if_pos, if_neg]; (try simp -dsimp [hlt, he]))))) | ((first | refine guardP_of (fun hc => ?_) (fun hc => ?_) | refine st_cond rfl (fun hc => ?_) (fun hc => ?_)) <;> (try simp only [decide_eq_true_eq, decide_eq_false_iff_not, Bool.true_eq_false, Bool.false_eq_true, bne_iff_ne, ne_eq, bne_eq_false_iff_eq, beq_iff_eq, beq_eq_false_iff_ne, Bool.not_eq_true, Bool.not_eq_false, Bool.not_eq_eq_eq_not, Bool.not_true, Bool.not_false, Decidable.not_not] at hc) <;> (try (exfalso; first | omega | exact bool_tf hc (by assumption) | exact bool_ft hc (by assumption) | exact absurd (by assumption) hc)) <;> (first | with_reducible show STri _ _ _ _ _ _ | (simp -dsimp [hlt, he, hc]; (repeat (simp -dsimp (disch := (first | omega | assumption | (refine Bool.eq_false_iff.1 ?_; assumption))) only [wrap_in, if_pos, if_neg]; (try simp -dsimp [hlt, he, hc]))))))))
      all_goals exact .refl _
end Go.Proofs.YtnfggkopledpcaaGreat
/- Arguments opened: slices and integers. -/
namespace Go.Proofs.YtnfggkopledpcaaGreat
open Go.RowKit Go.ChangeShapes Go.WideShapes Go.ChangeAt
section
variable {H : Type} {enc : TypeId × Value → H} {P : Program} {w : World} {base b0 : Nat} {spare : Nat → Bool} {held : Bool} {v : Value} {x : DataW H} {ps : List MemPlace} {t : TypeId} {r : Reach}
theorem open_slice {e : TypeId} {d : Nat} (ht : P.underlying t = some (.slice e)) (hp : plainB P d t = true) (hval : Value.okWide P w r b0 t v) (h : DataW.Trod enc P w 0 spare held t v x ps) :
    ∃ d' rows, RepC w (fun _ => False) (.sl (P.cellsOf e) rows) v ∧ rows.length ≤ maxLen ∧ ∀ row ∈ rows, tyC P d' e row := by
  obtain ⟨a, len, cap, rfl⟩ := okWide_slice ht hval
  obtain ⟨n, h⟩ := h
  obtain ⟨cs, h1, h2⟩ := open_tyC hp h
  obtain ⟨d', rows, rfl, h3, h4⟩ := tyC_slice ht h1
  exact ⟨d', rows, h2.2 0 _ _ rfl rfl, h3, h4⟩
end
end Go.Proofs.YtnfggkopledpcaaGreat
/- The last step: DialTimes. -/
namespace Go.Proofs.YtnfggkopledpcaaGreat
open Go.RowKit Go.ChangeShapes Go.WideShapes Go.ChangeAt
theorem Tryz.cellsR : Tryz.prog.cellsOf 44 = 2 := by kernel_rfl
theorem Tryz.plainR : plainB Tryz.prog 8 27 = true := by kernel_rfl
theorem Tryz.plainN : plainB Tryz.prog 8 29 = true := by kernel_rfl
theorem ty_reading {d : Nat} {cs : List CV} (h : tyC Tryz.prog d 44 cs) : ∃ x : Int × Int, cs = rowS x := by
  obtain ⟨d', c1, r1, rfl, h1, c2, r2, rfl, h2, h3⟩ := tyC_struct Tryz.underlying44 h
  obtain ⟨a, rfl⟩ := ty_I h1
  obtain ⟨b, rfl⟩ := ty_I h2
  have h3 : r2 = [] := h3
  subst h3
  exact ⟨(a, b), rfl⟩
theorem ty_readings {d : Nat} {cs : List CV} (h : tyC Tryz.prog d 27 cs) : ∃ xs, cs = [slS xs] ∧ xs.length ≤ 9223372036854775807 := by
  obtain ⟨d', rows, h, hl, h2⟩ := tyC_slice Tryz.underlying27 h
  rw [Tryz.cellsR] at h
  obtain ⟨xs, rfl⟩ := rows_map (f := rowS) (fun row hr => ty_reading (h2 row hr))
  exact ⟨xs, h, by simpa [maxLen] using hl⟩
theorem ty_near {d : Nat} {cs : List CV} (h : tyC Tryz.prog d 29 cs) : ∃ a b c e, cs = [I a, I b, I c, I e] := by
  obtain ⟨d', c1, r1, rfl, h1, c2, r2, rfl, h2, h3⟩ := tyC_struct Tryz.underlying29 h
  obtain ⟨a, b, rfl⟩ := ty_span h1
  obtain ⟨c, e, rfl⟩ := ty_span h2
  have h3 : r2 = [] := h3
  subst h3
  exact ⟨a, b, c, e, rfl⟩
set_option maxRecDepth 100000 in
theorem open_readings {H : Type} {enc : TypeId × Value → H} {w : World} {spare : Nat → Bool} {held : Bool} {v : Value} {x : DataW H} {ps : List MemPlace} {r : Reach} {b0 : Nat} (hval : Value.okWide Tryz.prog w r b0 27 v) (h : DataW.Trod enc Tryz.prog w 0 spare held 27 v x ps) :
    ∃ l : List (Int × Int), RepC w (fun _ => False) (slS l) v ∧ l.length ≤ 9223372036854775807 := by
  obtain ⟨d', rows, h1, h2, h3⟩ := open_slice Tryz.underlying27 Tryz.plainR hval h
  rw [Tryz.cellsR] at h1
  obtain ⟨xs, rfl⟩ := rows_map (f := rowS) (fun row hr => ty_reading (h3 row hr))
  exact ⟨xs, h1, by simpa [maxLen] using h2⟩
set_option maxRecDepth 100000 in
theorem open_near {H : Type} {enc : TypeId × Value → H} {w : World} {spare : Nat → Bool} {held : Bool} {v : Value} {x : DataW H} {ps : List MemPlace} (h : DataW.Trod enc Tryz.prog w 0 spare held 29 v x ps) : ∃ a b c e : Int, RepC w (fun _ => False) (.agg [I a, I b, I c, I e]) v := by
  obtain ⟨n, h⟩ := h
  obtain ⟨cs, h1, h2⟩ := open_tyC Tryz.plainN h
  obtain ⟨a, b, c, e, rfl⟩ := ty_near h1
  have hs : v.cells.size = 4 := by have := h2.1; simp at this; omega
  have hv := agg_cells (v := v) (by omega)
  refine ⟨a, b, c, e, ?_⟩
  rw [hv]
  exact .agg _ _ (by simpa using hs) (fun i x u hx hu => h2.2 i x u hx (by simpa using hu))
set_option maxRecDepth 100000 in
theorem times_lifted (os : Os) (started : os.Started) (H : Type) (enc : TypeId × Value → H) :
    ReturnsInHanded {} Tryz.checked os 3 .any (Rows.dialTimesSpec.pre6 enc Tryz.prog Tryz.f3 Rows.dialTimesRow.domain false) (Rows.dialTimesSpec.post enc Tryz.prog Tryz.f3 false true false false) := by
  refine returnsInHanded_of_change (C := Tryz.checked) Tryz.own started (by kernel_rfl) Tryz.func3
    (ChangeSpec.witness6 (enc := enc) (C := Tryz.checked) false ⟨#[], #[.agg #[.int .i64 0, .int .i64 0, .int .i64 0, .slice none 0 0], .slice none 0 0, .agg #[.int .i64 0, .int .i64 0, .int .i64 0, .int .i64 0]], []⟩ 8 (by kernel_rfl) (by kernel_rfl) (by kernel_rfl) (by kernel_rfl)) ?_
  intro W base args ds gs before hval0 hW hcnd _
  have hW' := hW
  obtain ⟨p, q, hA0, hV, rfl, hfz, hnd⟩ := hW
  have hA : DataW.TrodAll enc Tryz.prog W 0 (fun _ => true) true Tryz.f3.params.toList args.toList ds p := hA0
  rw [Tryz.params3] at hA
  obtain ⟨v0, v1, v2, d0, d1, d2, q0, q1, q2, rfl, rfl, rfl, h0, h1, h2⟩ := trodAll_three hA
  obtain ⟨rfl, rfl⟩ := trodVars_none hV
  obtain ⟨c, hc, hcm⟩ := open_works h0
  obtain ⟨l, hl, hlm⟩ := open_readings (hval0 1 _ v1 rfl rfl) h1
  obtain ⟨a1, a2, a3, a4, hn⟩ := open_near h2
  clear hA0 hval0
  refine (lTimes ⟨c, l, a1, a2, a3, a4⟩ hcm hlm W (fun _ => False) #[v0, v1, v2] (fun b hb => hb.elim) rfl (fun i x v hx' hv => ?_)).mono fun e W' ⟨v, he, hr, hx⟩ => ?_
  · match i with
    | 0 => cases hx'; cases hv; exact hc
    | 1 => cases hx'; cases hv; exact hl
    | 2 => cases hx'; cases hv; exact hn
    | i + 3 => simp at hx'
  subst he
  have hv := val_inv hr
  subst hv
  exact ⟨_, rfl, post_ext Tryz.kids Tryz.full (by rw [Tryz.params3]; decide +kernel) rfl hW' (fun _ _ _ => trodAll_mk1 (shut_bool Tryz.underlying4 _)) rfl rfl hx (ok_one (by kernel_rfl) rfl (okWide_bool_mk Tryz.underlying4 _))⟩
theorem dialTimes_holds : Rows.DialTimesSaid :=
  OpenClaim.holds_of_wide 3 Tryz.f3 rfl rfl rfl rfl rfl rfl rfl ⟨rfl, rfl, rfl, rfl, rfl⟩ rfl rfl rfl rfl rfl (by kernel_rfl) Tryz.func3 (by kernel_rfl)
    (of_decide_eq_true (by kernel_rfl)) (by unfold Func.isWrapper; first | (rw [if_pos (by decide +kernel)]; kernel_rfl) | (rw [if_neg (by decide +kernel)]; exact ⟨rfl, rfl⟩))
    (fun os started H enc _ => times_lifted os started H enc)
#print axioms dialTimes_holds
end Go.Proofs.YtnfggkopledpcaaGreat
