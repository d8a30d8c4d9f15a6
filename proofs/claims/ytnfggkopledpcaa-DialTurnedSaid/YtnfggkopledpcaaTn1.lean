/- Part 6 of a proof: CodeR, CodeL, CodeP, Tri9, Dv0, Ei0, Ef, Sw, Tw, Tx, Ty, Ez0, Fa, Fb, Fd. -/
import Derived.Test.YtnfggkopledpcaaJ3
import Derived.Test.YtnfggkopledpcaaJ4
import Derived.Test.YtnfggkopledpcaaJ5
set_option linter.unusedSimpArgs false
set_option linter.unusedVariables false
/- The shadow code of functions, as the kit's translation has them. -/
namespace Go.Proofs.Ytnfggkopledpcaa
open Go.RowKit



end Go.Proofs.Ytnfggkopledpcaa
/- The shadow code of functions, as the kit's translation has them. -/
namespace Go.Proofs.Ytnfggkopledpcaa
open Go.RowKit

-- turret/turretlaw04.DialTurned (8)
def c_turretlaw04_DialTurned_0 : SCode := .reg [⟨(some 3), none, .box 57 (.tmp 0), [], false⟩,
  ⟨(some 5), none, .box 89 (.tmp 2), [], false⟩,
  ⟨(some 6), none, .mov (.const (.bool false)), [], false⟩] [1, 3, 5]
def c_turretlaw04_DialTurned_1 : SCode := .reg [⟨(some 28), none, .load true 9 (.tmp 3), [], true⟩,
  ⟨(some 29), none, .call 24 [(.tmp 28)], [], true⟩,
  ⟨(some 30), none, .load true 9 (.tmp 3), [], true⟩,
  ⟨(some 31), none, .call 25 [(.tmp 30)], [], true⟩,
  ⟨(some 32), none, .bin .add (.tmp 31) (.const (.int .i64 4000)), [], false⟩,
  ⟨(some 33), none, .load true 9 (.tmp 3), [], true⟩,
  ⟨(some 34), none, .call 26 [(.tmp 33)], [], true⟩,
  ⟨(some 7), none, .alloc 26 [(.int .i64 0), (.int .i64 0), (.int .i64 0), (.slice none 0 0)], [0, 1, 2, 3, 5, 6], false⟩,
  ⟨(some 9), none, .alloc 23 [(.int .i64 0), (.int .i64 0)], [0, 1, 2, 3, 5, 6], false⟩,
  ⟨none, none, .store 4 (.tmp 7) (.tmp 29), [], false⟩,
  ⟨(some 8), none, .mov (.tmp 32), [], false⟩,
  ⟨none, none, .store 2 (.tmp 9) (.tmp 34), [], false⟩] [1, 5, 7, 8, 9]
def c_turretlaw04_DialTurned_2 : SCode := .reg [⟨(some 35), none, .mov (.tmp 1), [], false⟩,
  ⟨(some 36), none, .conv .i64 (.tmp 35), [], false⟩,
  ⟨(some 37), none, .bin .rem (.tmp 36) (.const (.int .i64 50)), [], false⟩,
  ⟨(some 38), none, .bin .mul (.const (.int .i64 43200)) (.tmp 37), [], false⟩,
  ⟨(some 10), none, .mov (.tmp 38), [], false⟩] [5, 7, 8, 9, 10]
def c_turretlaw04_DialTurned_3 : SCode := .reg [⟨(some 11), none, .mov (.const (.int .i64 0)), [], false⟩] [5, 7, 8, 9, 10, 11]
def c_turretlaw04_DialTurned_4 : SCode := .reg [⟨(some 39), none, .mov (.tmp 11), [], false⟩,
  ⟨(some 40), none, .fld 3 (.tmp 7), [], false⟩,
  ⟨(some 41), none, .load false 1 (.tmp 40), [], false⟩,
  ⟨(some 42), none, .len (.tmp 41), [], false⟩,
  ⟨(some 43), none, .bin .lss (.tmp 39) (.tmp 42), [], false⟩] [5, 7, 8, 9, 10, 11, 43]
def c_turretlaw04_DialTurned_5 : SCode := .cond (.tmp 43) .skip (.exit 0)
def c_turretlaw04_DialTurned_6 : SCode := .seq c_turretlaw04_DialTurned_4 c_turretlaw04_DialTurned_5
def c_turretlaw04_DialTurned_7 : SCode := .reg [⟨(some 47), none, .load true 4 (.tmp 7), [], true⟩,
  ⟨(some 48), none, .call 13 [(.tmp 47)], [], true⟩,
  ⟨(some 49), none, .mov (.tmp 11), [], false⟩,
  ⟨(some 50), none, .mov (.tmp 8), [], false⟩,
  ⟨(some 51), none, .load true 2 (.tmp 9), [], true⟩,
  ⟨(some 52), none, .call 14 [(.tmp 48), (.tmp 49), (.tmp 50), (.tmp 51)], [], true⟩,
  ⟨(some 46), none, .mov (.tmp 52), [], false⟩,
  ⟨(some 53), none, .ext (.tmp 46) 0, [], false⟩,
  ⟨(some 54), none, .ext (.tmp 46) 1, [], false⟩,
  ⟨(some 12), none, .alloc 23 [(.int .i64 0), (.int .i64 0)], [0, 1, 4, 5], false⟩,
  ⟨none, none, .store 2 (.tmp 12) (.tmp 53), [], false⟩,
  ⟨(some 13), none, .mov (.tmp 54), [], false⟩] [5, 7, 8, 9, 10, 11, 12, 13]
def c_turretlaw04_DialTurned_8 : SCode := .reg [⟨(some 56), none, .load true 4 (.tmp 7), [], true⟩,
  ⟨(some 57), none, .call 13 [(.tmp 56)], [], true⟩,
  ⟨(some 58), none, .mov (.tmp 11), [], false⟩,
  ⟨(some 59), none, .mov (.tmp 8), [], false⟩,
  ⟨(some 60), none, .mov (.tmp 10), [], false⟩,
  ⟨(some 61), none, .bin .add (.tmp 59) (.tmp 60), [], false⟩,
  ⟨(some 62), none, .load true 2 (.tmp 9), [], true⟩,
  ⟨(some 63), none, .call 14 [(.tmp 57), (.tmp 58), (.tmp 61), (.tmp 62)], [], true⟩,
  ⟨(some 55), none, .mov (.tmp 63), [], false⟩,
  ⟨(some 64), none, .ext (.tmp 55) 0, [], false⟩,
  ⟨(some 65), none, .ext (.tmp 55) 1, [], false⟩,
  ⟨(some 14), none, .alloc 23 [(.int .i64 0), (.int .i64 0)], [0, 1, 6, 7], false⟩,
  ⟨none, none, .store 2 (.tmp 14) (.tmp 64), [], false⟩,
  ⟨(some 15), none, .mov (.tmp 65), [], false⟩] [5, 7, 8, 9, 10, 11, 12, 13, 14, 15]
def c_turretlaw04_DialTurned_9 : SCode := .reg [⟨(some 67), none, .load true 4 (.tmp 7), [], false⟩,
  ⟨(some 68), none, .call 13 [(.tmp 67)], [], false⟩,
  ⟨(some 69), none, .mov (.tmp 11), [], false⟩,
  ⟨(some 70), none, .mov (.tmp 8), [], false⟩,
  ⟨(some 71), none, .load true 2 (.tmp 9), [], false⟩,
  ⟨(some 72), none, .call 20 [(.tmp 68), (.tmp 69), (.tmp 70), (.tmp 71)], [], false⟩,
  ⟨(some 66), none, .mov (.tmp 72), [], false⟩,
  ⟨(some 73), none, .ext (.tmp 66) 0, [], false⟩,
  ⟨(some 74), none, .ext (.tmp 66) 1, [], false⟩,
  ⟨(some 16), none, .mov (.tmp 73), [], false⟩,
  ⟨(some 17), none, .mov (.tmp 74), [], false⟩] [5, 7, 8, 9, 10, 11, 12, 13, 14, 15, 16, 17]
def c_turretlaw04_DialTurned_10 : SCode := .reg [⟨(some 76), none, .load true 4 (.tmp 7), [], false⟩,
  ⟨(some 77), none, .call 13 [(.tmp 76)], [], false⟩,
  ⟨(some 78), none, .mov (.tmp 11), [], false⟩,
  ⟨(some 79), none, .mov (.tmp 8), [], false⟩,
  ⟨(some 80), none, .mov (.tmp 10), [], false⟩,
  ⟨(some 81), none, .bin .add (.tmp 79) (.tmp 80), [], false⟩,
  ⟨(some 82), none, .load true 2 (.tmp 9), [], false⟩,
  ⟨(some 83), none, .call 20 [(.tmp 77), (.tmp 78), (.tmp 81), (.tmp 82)], [], false⟩,
  ⟨(some 75), none, .mov (.tmp 83), [], false⟩,
  ⟨(some 84), none, .ext (.tmp 75) 0, [], false⟩,
  ⟨(some 85), none, .ext (.tmp 75) 1, [], false⟩,
  ⟨(some 18), none, .mov (.tmp 84), [], false⟩,
  ⟨(some 19), none, .mov (.tmp 85), [], false⟩] [5, 7, 8, 9, 10, 11, 12, 13, 14, 15, 16, 17, 18, 19]
def c_turretlaw04_DialTurned_11 : SCode := .reg [⟨(some 86), none, .mov (.tmp 13), [], false⟩,
  ⟨(some 87), none, .bin .neq (.tmp 86) (.const (.int .i64 0)), [], false⟩,
  ⟨(some 88), none, .mov (.tmp 87), [], false⟩,
  ⟨(some 89), (some (88, false)), .mov (.tmp 15), [], false⟩,
  ⟨(some 90), (some (88, false)), .bin .neq (.tmp 89) (.const (.int .i64 0)), [], false⟩,
  ⟨(some 91), none, .pick (.tmp 88) (.const (.bool true)) (.tmp 90), [], false⟩,
  ⟨(some 92), none, .mov (.tmp 91), [], false⟩,
  ⟨(some 93), (some (92, false)), .mov (.tmp 17), [], false⟩,
  ⟨(some 94), (some (92, false)), .bin .neq (.tmp 93) (.const (.int .i64 0)), [], false⟩,
  ⟨(some 95), none, .pick (.tmp 92) (.const (.bool true)) (.tmp 94), [], false⟩,
  ⟨(some 96), none, .mov (.tmp 95), [], false⟩,
  ⟨(some 97), (some (96, false)), .mov (.tmp 19), [], false⟩,
  ⟨(some 98), (some (96, false)), .bin .neq (.tmp 97) (.const (.int .i64 0)), [], false⟩,
  ⟨(some 99), none, .pick (.tmp 96) (.const (.bool true)) (.tmp 98), [], false⟩,
  ⟨(some 100), none, .mov (.tmp 99), [], false⟩,
  ⟨(some 101), (some (100, false)), .load true 2 (.tmp 12), [], false⟩,
  ⟨(some 102), (some (100, false)), .load true 2 (.tmp 14), [], false⟩,
  ⟨(some 103), (some (100, false)), .eqC true [true, true] (.tmp 101) (.tmp 102), [], false⟩,
  ⟨(some 104), none, .pick (.tmp 100) (.const (.bool true)) (.tmp 103), [], false⟩,
  ⟨(some 105), none, .mov (.tmp 104), [], false⟩,
  ⟨(some 106), (some (105, false)), .mov (.tmp 16), [], false⟩,
  ⟨(some 107), (some (105, false)), .len (.tmp 106), [], false⟩,
  ⟨(some 108), (some (105, false)), .mov (.tmp 18), [], false⟩,
  ⟨(some 109), (some (105, false)), .len (.tmp 108), [], false⟩,
  ⟨(some 110), (some (105, false)), .bin .neq (.tmp 107) (.tmp 109), [], false⟩,
  ⟨(some 111), none, .pick (.tmp 105) (.const (.bool true)) (.tmp 110), [], false⟩] [5, 7, 8, 9, 10, 11, 16, 18, 111]
def c_turretlaw04_DialTurned_12 : SCode := .reg [⟨(some 6), none, .mov (.const (.bool false)), [], false⟩] [6]
def c_turretlaw04_DialTurned_13 : SCode := .seq c_turretlaw04_DialTurned_12 .ret
def c_turretlaw04_DialTurned_14 : SCode := .cond (.tmp 111) c_turretlaw04_DialTurned_13 .skip
def c_turretlaw04_DialTurned_15 : SCode := .seq c_turretlaw04_DialTurned_11 c_turretlaw04_DialTurned_14
def c_turretlaw04_DialTurned_16 : SCode := .reg [⟨(some 20), none, .mov (.const (.int .i64 0)), [], false⟩] [5, 7, 8, 9, 10, 11, 16, 18, 20]
def c_turretlaw04_DialTurned_17 : SCode := .reg [⟨(some 112), none, .mov (.tmp 20), [], false⟩,
  ⟨(some 113), none, .mov (.tmp 16), [], false⟩,
  ⟨(some 114), none, .len (.tmp 113), [], false⟩,
  ⟨(some 115), none, .bin .lss (.tmp 112) (.tmp 114), [], false⟩] [5, 7, 8, 9, 10, 11, 16, 18, 20, 115]
def c_turretlaw04_DialTurned_18 : SCode := .cond (.tmp 115) .skip (.exit 2)
def c_turretlaw04_DialTurned_19 : SCode := .seq c_turretlaw04_DialTurned_17 c_turretlaw04_DialTurned_18
def c_turretlaw04_DialTurned_20 : SCode := .reg [⟨(some 118), none, .mov (.tmp 16), [], false⟩,
  ⟨(some 119), none, .mov (.tmp 20), [], false⟩,
  ⟨(some 120), none, .idxS 2 (.tmp 118) (.tmp 119), [], false⟩,
  ⟨(some 121), none, .load true 2 (.tmp 120), [], false⟩,
  ⟨(some 122), none, .mov (.tmp 18), [], false⟩,
  ⟨(some 123), none, .mov (.tmp 20), [], false⟩,
  ⟨(some 124), none, .idxS 2 (.tmp 122) (.tmp 123), [], false⟩,
  ⟨(some 125), none, .load true 2 (.tmp 124), [], false⟩,
  ⟨(some 126), none, .eqC true [true, true] (.tmp 121) (.tmp 125), [], false⟩] [5, 7, 8, 9, 10, 11, 16, 18, 20, 126]
def c_turretlaw04_DialTurned_21 : SCode := .reg [⟨(some 6), none, .mov (.const (.bool false)), [], false⟩] [6]
def c_turretlaw04_DialTurned_22 : SCode := .seq c_turretlaw04_DialTurned_21 .ret
def c_turretlaw04_DialTurned_23 : SCode := .cond (.tmp 126) c_turretlaw04_DialTurned_22 .skip
def c_turretlaw04_DialTurned_24 : SCode := .seq c_turretlaw04_DialTurned_20 c_turretlaw04_DialTurned_23
def c_turretlaw04_DialTurned_25 : SCode := .block 3 c_turretlaw04_DialTurned_24
def c_turretlaw04_DialTurned_26 : SCode := .reg [⟨(some 116), none, .mov (.tmp 20), [], false⟩,
  ⟨(some 117), none, .bin .add (.tmp 116) (.const (.int .i64 1)), [], false⟩,
  ⟨(some 20), none, .mov (.tmp 117), [], false⟩] [5, 7, 8, 9, 10, 11, 16, 18, 20]
def c_turretlaw04_DialTurned_27 : SCode := .seq c_turretlaw04_DialTurned_25 c_turretlaw04_DialTurned_26
def c_turretlaw04_DialTurned_28 : SCode := .seq c_turretlaw04_DialTurned_19 c_turretlaw04_DialTurned_27
def c_turretlaw04_DialTurned_29 : SCode := .loop c_turretlaw04_DialTurned_28
def c_turretlaw04_DialTurned_30 : SCode := .block 2 c_turretlaw04_DialTurned_29
def c_turretlaw04_DialTurned_31 : SCode := .seq c_turretlaw04_DialTurned_16 c_turretlaw04_DialTurned_30
def c_turretlaw04_DialTurned_32 : SCode := .seq c_turretlaw04_DialTurned_15 c_turretlaw04_DialTurned_31
def c_turretlaw04_DialTurned_33 : SCode := .seq c_turretlaw04_DialTurned_10 c_turretlaw04_DialTurned_32
def c_turretlaw04_DialTurned_34 : SCode := .seq c_turretlaw04_DialTurned_9 c_turretlaw04_DialTurned_33
def c_turretlaw04_DialTurned_35 : SCode := .seq c_turretlaw04_DialTurned_8 c_turretlaw04_DialTurned_34
def c_turretlaw04_DialTurned_36 : SCode := .seq c_turretlaw04_DialTurned_7 c_turretlaw04_DialTurned_35
def c_turretlaw04_DialTurned_37 : SCode := .block 1 c_turretlaw04_DialTurned_36
def c_turretlaw04_DialTurned_38 : SCode := .reg [⟨(some 44), none, .mov (.tmp 11), [], false⟩,
  ⟨(some 45), none, .bin .add (.tmp 44) (.const (.int .i64 1)), [], false⟩,
  ⟨(some 11), none, .mov (.tmp 45), [], false⟩] [5, 7, 8, 9, 10, 11]
def c_turretlaw04_DialTurned_39 : SCode := .seq c_turretlaw04_DialTurned_37 c_turretlaw04_DialTurned_38
def c_turretlaw04_DialTurned_40 : SCode := .seq c_turretlaw04_DialTurned_6 c_turretlaw04_DialTurned_39
def c_turretlaw04_DialTurned_41 : SCode := .loop c_turretlaw04_DialTurned_40
def c_turretlaw04_DialTurned_42 : SCode := .block 0 c_turretlaw04_DialTurned_41
def c_turretlaw04_DialTurned_43 : SCode := .seq c_turretlaw04_DialTurned_3 c_turretlaw04_DialTurned_42
def c_turretlaw04_DialTurned_44 : SCode := .reg [⟨(some 127), none, .buildSl 70 2 [(.int .i64 0), (.int .i64 0)] 0 [], [], false⟩,
  ⟨(some 21), none, .mov (.tmp 127), [], false⟩] [5, 7, 8, 9, 10, 21]
def c_turretlaw04_DialTurned_45 : SCode := .reg [⟨(some 22), none, .mov (.const (.int .i64 0)), [], false⟩] [5, 7, 8, 9, 10, 21, 22]
def c_turretlaw04_DialTurned_46 : SCode := .reg [⟨(some 128), none, .mov (.tmp 22), [], false⟩,
  ⟨(some 129), none, .bin .lss (.tmp 128) (.const (.int .i64 2)), [], false⟩] [5, 7, 8, 9, 10, 21, 22, 129]
def c_turretlaw04_DialTurned_47 : SCode := .cond (.tmp 129) .skip (.exit 4)
def c_turretlaw04_DialTurned_48 : SCode := .seq c_turretlaw04_DialTurned_46 c_turretlaw04_DialTurned_47
def c_turretlaw04_DialTurned_49 : SCode := .reg [⟨(some 132), none, .mov (.tmp 21), [], false⟩,
  ⟨(some 133), none, .mov (.tmp 22), [], false⟩,
  ⟨(some 134), none, .fld 3 (.tmp 7), [], false⟩,
  ⟨(some 135), none, .load false 1 (.tmp 134), [], false⟩,
  ⟨(some 136), none, .len (.tmp 135), [], false⟩,
  ⟨(some 137), none, .bin .rem (.tmp 133) (.tmp 136), [], false⟩,
  ⟨(some 138), none, .mov (.tmp 8), [], false⟩,
  ⟨(some 139), none, .mov (.tmp 22), [], false⟩,
  ⟨(some 140), none, .idxA 2 1 (.tmp 5) (.tmp 139), [], false⟩,
  ⟨(some 141), none, .load false 1 (.tmp 140), [], false⟩,
  ⟨(some 142), none, .conv .i64 (.tmp 141), [], false⟩,
  ⟨(some 143), none, .bin .rem (.tmp 142) (.const (.int .i64 160)), [], false⟩,
  ⟨(some 144), none, .bin .add (.tmp 138) (.tmp 143), [], false⟩,
  ⟨(some 145), none, .bin .sub (.tmp 144) (.const (.int .i64 80)), [], false⟩,
  ⟨(some 146), none, .call 28 [(.tmp 145), (.const (.int .i64 43200))], [], false⟩,
  ⟨(some 147), none, .build [(.int .i64 0), (.int .i64 0)] [(0, 1, (.tmp 137)), (1, 1, (.tmp 146))], [], false⟩,
  ⟨(some 148), none, .buildSl 70 2 [(.int .i64 0), (.int .i64 0)] 1 [(0, (.tmp 147))], [], false⟩,
  ⟨(some 149), none, .append 70 2 16 (.tmp 132) (.tmp 148), [], false⟩,
  ⟨(some 21), none, .mov (.tmp 149), [], false⟩] [5, 7, 8, 9, 10, 21, 22]
def c_turretlaw04_DialTurned_50 : SCode := .block 5 c_turretlaw04_DialTurned_49
def c_turretlaw04_DialTurned_51 : SCode := .reg [⟨(some 130), none, .mov (.tmp 22), [], false⟩,
  ⟨(some 131), none, .bin .add (.tmp 130) (.const (.int .i64 1)), [], false⟩,
  ⟨(some 22), none, .mov (.tmp 131), [], false⟩] [5, 7, 8, 9, 10, 21, 22]
def c_turretlaw04_DialTurned_52 : SCode := .seq c_turretlaw04_DialTurned_50 c_turretlaw04_DialTurned_51
def c_turretlaw04_DialTurned_53 : SCode := .seq c_turretlaw04_DialTurned_48 c_turretlaw04_DialTurned_52
def c_turretlaw04_DialTurned_54 : SCode := .loop c_turretlaw04_DialTurned_53
def c_turretlaw04_DialTurned_55 : SCode := .block 4 c_turretlaw04_DialTurned_54
def c_turretlaw04_DialTurned_56 : SCode := .seq c_turretlaw04_DialTurned_45 c_turretlaw04_DialTurned_55
def c_turretlaw04_DialTurned_57 : SCode := .reg [⟨(some 151), none, .load true 4 (.tmp 7), [], false⟩,
  ⟨(some 152), none, .call 13 [(.tmp 151)], [], false⟩,
  ⟨(some 153), none, .mov (.tmp 21), [], false⟩,
  ⟨(some 154), none, .call 32 [(.tmp 153)], [], false⟩,
  ⟨(some 155), none, .mov (.tmp 8), [], false⟩,
  ⟨(some 156), none, .bin .sub (.tmp 155) (.const (.int .i64 60)), [], false⟩,
  ⟨(some 157), none, .mov (.tmp 8), [], false⟩,
  ⟨(some 158), none, .bin .add (.tmp 157) (.const (.int .i64 60)), [], false⟩,
  ⟨(some 159), none, .call 30 [(.tmp 156), (.tmp 158)], [], false⟩,
  ⟨(some 160), none, .load true 2 (.tmp 9), [], false⟩,
  ⟨(some 161), none, .call 31 [(.tmp 152), (.tmp 154), (.tmp 159), (.tmp 160)], [], false⟩,
  ⟨(some 150), none, .mov (.tmp 161), [], false⟩,
  ⟨(some 162), none, .ext (.tmp 150) 0, [], false⟩,
  ⟨(some 163), none, .ext (.tmp 150) 1, [], false⟩,
  ⟨(some 23), none, .mov (.tmp 162), [], false⟩,
  ⟨(some 24), none, .mov (.tmp 163), [], false⟩] [7, 8, 9, 10, 21, 23, 24]
def c_turretlaw04_DialTurned_58 : SCode := .reg [⟨(some 165), none, .load true 4 (.tmp 7), [], false⟩,
  ⟨(some 166), none, .call 13 [(.tmp 165)], [], false⟩,
  ⟨(some 167), none, .mov (.tmp 21), [], false⟩,
  ⟨(some 168), none, .call 32 [(.tmp 167)], [], false⟩,
  ⟨(some 169), none, .mov (.tmp 8), [], false⟩,
  ⟨(some 170), none, .mov (.tmp 10), [], false⟩,
  ⟨(some 171), none, .bin .add (.tmp 169) (.tmp 170), [], false⟩,
  ⟨(some 172), none, .bin .sub (.tmp 171) (.const (.int .i64 60)), [], false⟩,
  ⟨(some 173), none, .mov (.tmp 8), [], false⟩,
  ⟨(some 174), none, .mov (.tmp 10), [], false⟩,
  ⟨(some 175), none, .bin .add (.tmp 173) (.tmp 174), [], false⟩,
  ⟨(some 176), none, .bin .add (.tmp 175) (.const (.int .i64 60)), [], false⟩,
  ⟨(some 177), none, .call 30 [(.tmp 172), (.tmp 176)], [], false⟩,
  ⟨(some 178), none, .load true 2 (.tmp 9), [], false⟩,
  ⟨(some 179), none, .call 31 [(.tmp 166), (.tmp 168), (.tmp 177), (.tmp 178)], [], false⟩,
  ⟨(some 164), none, .mov (.tmp 179), [], false⟩,
  ⟨(some 180), none, .ext (.tmp 164) 0, [], false⟩,
  ⟨(some 181), none, .ext (.tmp 164) 1, [], false⟩,
  ⟨(some 25), none, .mov (.tmp 180), [], false⟩,
  ⟨(some 26), none, .mov (.tmp 181), [], false⟩] [10, 23, 24, 25, 26]
def c_turretlaw04_DialTurned_59 : SCode := .reg [⟨(some 182), none, .mov (.tmp 24), [], false⟩,
  ⟨(some 183), none, .mov (.tmp 26), [], false⟩,
  ⟨(some 184), none, .bin .neq (.tmp 182) (.tmp 183), [], false⟩,
  ⟨(some 185), none, .mov (.tmp 184), [], false⟩,
  ⟨(some 186), (some (185, false)), .mov (.tmp 24), [], false⟩,
  ⟨(some 187), (some (185, false)), .bin .neq (.tmp 186) (.const (.int .i64 0)), [], false⟩,
  ⟨(some 188), (some (185, false)), .mov (.tmp 187), [], false⟩,
  ⟨(some 189), (some (188, true)), .mov (.tmp 24), [], false⟩,
  ⟨(some 190), (some (188, true)), .bin .neq (.tmp 189) (.const (.int .i64 7)), [], false⟩,
  ⟨(some 191), (some (185, false)), .pick (.tmp 188) (.tmp 190) (.const (.bool false)), [], false⟩,
  ⟨(some 192), none, .pick (.tmp 185) (.const (.bool true)) (.tmp 191), [], false⟩,
  ⟨(some 193), none, .mov (.tmp 192), [], false⟩,
  ⟨(some 194), (some (193, false)), .mov (.tmp 23), [], false⟩,
  ⟨(some 195), (some (193, false)), .len (.tmp 194), [], false⟩,
  ⟨(some 196), (some (193, false)), .mov (.tmp 25), [], false⟩,
  ⟨(some 197), (some (193, false)), .len (.tmp 196), [], false⟩,
  ⟨(some 198), (some (193, false)), .bin .neq (.tmp 195) (.tmp 197), [], false⟩,
  ⟨(some 199), none, .pick (.tmp 193) (.const (.bool true)) (.tmp 198), [], false⟩] [10, 23, 25, 199]
def c_turretlaw04_DialTurned_60 : SCode := .reg [⟨(some 6), none, .mov (.const (.bool false)), [], false⟩] [6]
def c_turretlaw04_DialTurned_61 : SCode := .seq c_turretlaw04_DialTurned_60 .ret
def c_turretlaw04_DialTurned_62 : SCode := .cond (.tmp 199) c_turretlaw04_DialTurned_61 .skip
def c_turretlaw04_DialTurned_63 : SCode := .seq c_turretlaw04_DialTurned_59 c_turretlaw04_DialTurned_62
def c_turretlaw04_DialTurned_64 : SCode := .reg [⟨(some 27), none, .mov (.const (.int .i64 0)), [], false⟩] [10, 23, 25, 27]
def c_turretlaw04_DialTurned_65 : SCode := .reg [⟨(some 200), none, .mov (.tmp 27), [], false⟩,
  ⟨(some 201), none, .mov (.tmp 23), [], false⟩,
  ⟨(some 202), none, .len (.tmp 201), [], false⟩,
  ⟨(some 203), none, .bin .lss (.tmp 200) (.tmp 202), [], false⟩] [10, 23, 25, 27, 203]
def c_turretlaw04_DialTurned_66 : SCode := .cond (.tmp 203) .skip (.exit 6)
def c_turretlaw04_DialTurned_67 : SCode := .seq c_turretlaw04_DialTurned_65 c_turretlaw04_DialTurned_66
def c_turretlaw04_DialTurned_68 : SCode := .reg [⟨(some 206), none, .mov (.tmp 23), [], false⟩,
  ⟨(some 207), none, .mov (.tmp 27), [], false⟩,
  ⟨(some 208), none, .idxS 2 (.tmp 206) (.tmp 207), [], false⟩,
  ⟨(some 209), none, .fld 0 (.tmp 208), [], false⟩,
  ⟨(some 210), none, .load false 1 (.tmp 209), [], false⟩,
  ⟨(some 211), none, .mov (.tmp 10), [], false⟩,
  ⟨(some 212), none, .bin .add (.tmp 210) (.tmp 211), [], false⟩,
  ⟨(some 213), none, .mov (.tmp 25), [], false⟩,
  ⟨(some 214), none, .mov (.tmp 27), [], false⟩,
  ⟨(some 215), none, .idxS 2 (.tmp 213) (.tmp 214), [], false⟩,
  ⟨(some 216), none, .fld 0 (.tmp 215), [], false⟩,
  ⟨(some 217), none, .load false 1 (.tmp 216), [], false⟩,
  ⟨(some 218), none, .bin .neq (.tmp 212) (.tmp 217), [], false⟩,
  ⟨(some 219), none, .mov (.tmp 218), [], false⟩,
  ⟨(some 220), (some (219, false)), .mov (.tmp 23), [], false⟩,
  ⟨(some 221), (some (219, false)), .mov (.tmp 27), [], false⟩,
  ⟨(some 222), (some (219, false)), .idxS 2 (.tmp 220) (.tmp 221), [], false⟩,
  ⟨(some 223), (some (219, false)), .fld 1 (.tmp 222), [], false⟩,
  ⟨(some 224), (some (219, false)), .load false 1 (.tmp 223), [], false⟩,
  ⟨(some 225), (some (219, false)), .mov (.tmp 10), [], false⟩,
  ⟨(some 226), (some (219, false)), .bin .add (.tmp 224) (.tmp 225), [], false⟩,
  ⟨(some 227), (some (219, false)), .mov (.tmp 25), [], false⟩,
  ⟨(some 228), (some (219, false)), .mov (.tmp 27), [], false⟩,
  ⟨(some 229), (some (219, false)), .idxS 2 (.tmp 227) (.tmp 228), [], false⟩,
  ⟨(some 230), (some (219, false)), .fld 1 (.tmp 229), [], false⟩,
  ⟨(some 231), (some (219, false)), .load false 1 (.tmp 230), [], false⟩,
  ⟨(some 232), (some (219, false)), .bin .neq (.tmp 226) (.tmp 231), [], false⟩,
  ⟨(some 233), none, .pick (.tmp 219) (.const (.bool true)) (.tmp 232), [], false⟩] [10, 23, 25, 27, 233]
def c_turretlaw04_DialTurned_69 : SCode := .reg [⟨(some 6), none, .mov (.const (.bool false)), [], false⟩] [6]
def c_turretlaw04_DialTurned_70 : SCode := .seq c_turretlaw04_DialTurned_69 .ret
def c_turretlaw04_DialTurned_71 : SCode := .cond (.tmp 233) c_turretlaw04_DialTurned_70 .skip
def c_turretlaw04_DialTurned_72 : SCode := .seq c_turretlaw04_DialTurned_68 c_turretlaw04_DialTurned_71
def c_turretlaw04_DialTurned_73 : SCode := .block 7 c_turretlaw04_DialTurned_72
def c_turretlaw04_DialTurned_74 : SCode := .reg [⟨(some 204), none, .mov (.tmp 27), [], false⟩,
  ⟨(some 205), none, .bin .add (.tmp 204) (.const (.int .i64 1)), [], false⟩,
  ⟨(some 27), none, .mov (.tmp 205), [], false⟩] [10, 23, 25, 27]
def c_turretlaw04_DialTurned_75 : SCode := .seq c_turretlaw04_DialTurned_73 c_turretlaw04_DialTurned_74
def c_turretlaw04_DialTurned_76 : SCode := .seq c_turretlaw04_DialTurned_67 c_turretlaw04_DialTurned_75
def c_turretlaw04_DialTurned_77 : SCode := .loop c_turretlaw04_DialTurned_76
def c_turretlaw04_DialTurned_78 : SCode := .block 6 c_turretlaw04_DialTurned_77
def c_turretlaw04_DialTurned_79 : SCode := .seq c_turretlaw04_DialTurned_64 c_turretlaw04_DialTurned_78
def c_turretlaw04_DialTurned_80 : SCode := .reg [⟨(some 234), none, .call 12 [], [], false⟩,
  ⟨(some 6), none, .mov (.tmp 234), [], false⟩] [6]
def c_turretlaw04_DialTurned_81 : SCode := .seq c_turretlaw04_DialTurned_80 .ret
def c_turretlaw04_DialTurned_82 : SCode := .seq c_turretlaw04_DialTurned_79 c_turretlaw04_DialTurned_81
def c_turretlaw04_DialTurned_83 : SCode := .seq c_turretlaw04_DialTurned_63 c_turretlaw04_DialTurned_82
def c_turretlaw04_DialTurned_84 : SCode := .seq c_turretlaw04_DialTurned_58 c_turretlaw04_DialTurned_83
def c_turretlaw04_DialTurned_85 : SCode := .seq c_turretlaw04_DialTurned_57 c_turretlaw04_DialTurned_84
def c_turretlaw04_DialTurned_86 : SCode := .seq c_turretlaw04_DialTurned_56 c_turretlaw04_DialTurned_85
def c_turretlaw04_DialTurned_87 : SCode := .seq c_turretlaw04_DialTurned_44 c_turretlaw04_DialTurned_86
def c_turretlaw04_DialTurned_88 : SCode := .seq c_turretlaw04_DialTurned_43 c_turretlaw04_DialTurned_87
def c_turretlaw04_DialTurned_89 : SCode := .seq c_turretlaw04_DialTurned_2 c_turretlaw04_DialTurned_88
def c_turretlaw04_DialTurned_90 : SCode := .seq c_turretlaw04_DialTurned_1 c_turretlaw04_DialTurned_89
def c_turretlaw04_DialTurned_91 : SCode := .seq c_turretlaw04_DialTurned_0 c_turretlaw04_DialTurned_90
@[simp] def rs_turretlaw04_DialTurned : List SRes := [.tmp 6]
theorem law_turretlaw04_DialTurned (cs : List CV) (r : CV) (hl : cs.length ≤ 235) (h : STri (cfF Try.prog [] 235) c_turretlaw04_DialTurned_91 (initT 0 cs) [] (retQ rs_turretlaw04_DialTurned r)) : SC Try.prog 8 cs r :=
  sc_of [] follows Try.func8 rfl Try.ntmps8 (by decide) (by kernel_rfl) (by kernel_rfl) hl h

-- turret/turretlaw04.large (11)
def c_turretlaw04_large_0 : SCode := .reg [⟨(some 1), none, .box 26 (.tmp 0), [], false⟩,
  ⟨(some 2), none, .mov (.const (.bool false)), [], false⟩] [1]
def c_turretlaw04_large_1 : SCode := .reg [⟨(some 3), none, .mov (.const (.int .i64 0)), [], false⟩] [1, 3]
def c_turretlaw04_large_2 : SCode := .reg [⟨(some 4), none, .mov (.tmp 3), [], false⟩,
  ⟨(some 5), none, .fld 3 (.tmp 1), [], false⟩,
  ⟨(some 6), none, .load false 1 (.tmp 5), [], false⟩,
  ⟨(some 7), none, .len (.tmp 6), [], false⟩,
  ⟨(some 8), none, .bin .lss (.tmp 4) (.tmp 7), [], false⟩] [1, 3, 8]
def c_turretlaw04_large_3 : SCode := .cond (.tmp 8) .skip (.exit 0)
def c_turretlaw04_large_4 : SCode := .seq c_turretlaw04_large_2 c_turretlaw04_large_3
def c_turretlaw04_large_5 : SCode := .reg [⟨(some 11), none, .fld 3 (.tmp 1), [], false⟩,
  ⟨(some 12), none, .load false 1 (.tmp 11), [], false⟩,
  ⟨(some 13), none, .mov (.tmp 3), [], false⟩,
  ⟨(some 14), none, .idxS 5 (.tmp 12) (.tmp 13), [], false⟩,
  ⟨(some 15), none, .fld 2 (.tmp 14), [], false⟩,
  ⟨(some 16), none, .load false 1 (.tmp 15), [], false⟩,
  ⟨(some 17), none, .len (.tmp 16), [], false⟩,
  ⟨(some 18), none, .bin .gtr (.tmp 17) (.const (.int .i64 10)), [], false⟩] [1, 3, 18]
def c_turretlaw04_large_6 : SCode := .reg [⟨(some 2), none, .mov (.const (.bool true)), [], false⟩] [2]
def c_turretlaw04_large_7 : SCode := .seq c_turretlaw04_large_6 .ret
def c_turretlaw04_large_8 : SCode := .cond (.tmp 18) c_turretlaw04_large_7 .skip
def c_turretlaw04_large_9 : SCode := .seq c_turretlaw04_large_5 c_turretlaw04_large_8
def c_turretlaw04_large_10 : SCode := .block 1 c_turretlaw04_large_9
def c_turretlaw04_large_11 : SCode := .reg [⟨(some 9), none, .mov (.tmp 3), [], false⟩,
  ⟨(some 10), none, .bin .add (.tmp 9) (.const (.int .i64 1)), [], false⟩,
  ⟨(some 3), none, .mov (.tmp 10), [], false⟩] [1, 3]
def c_turretlaw04_large_12 : SCode := .seq c_turretlaw04_large_10 c_turretlaw04_large_11
def c_turretlaw04_large_13 : SCode := .seq c_turretlaw04_large_4 c_turretlaw04_large_12
def c_turretlaw04_large_14 : SCode := .loop c_turretlaw04_large_13
def c_turretlaw04_large_15 : SCode := .block 0 c_turretlaw04_large_14
def c_turretlaw04_large_16 : SCode := .seq c_turretlaw04_large_1 c_turretlaw04_large_15
def c_turretlaw04_large_17 : SCode := .reg [⟨(some 19), none, .fld 3 (.tmp 1), [], false⟩,
  ⟨(some 20), none, .load false 1 (.tmp 19), [], false⟩,
  ⟨(some 21), none, .len (.tmp 20), [], false⟩,
  ⟨(some 22), none, .bin .gtr (.tmp 21) (.const (.int .i64 12)), [], false⟩,
  ⟨(some 2), none, .mov (.tmp 22), [], false⟩] [2]
def c_turretlaw04_large_18 : SCode := .seq c_turretlaw04_large_17 .ret
def c_turretlaw04_large_19 : SCode := .seq c_turretlaw04_large_16 c_turretlaw04_large_18
def c_turretlaw04_large_20 : SCode := .seq c_turretlaw04_large_0 c_turretlaw04_large_19
@[simp] def rs_turretlaw04_large : List SRes := [.tmp 2]
theorem law_turretlaw04_large (cs : List CV) (r : CV) (hl : cs.length ≤ 23) (h : STri (cfF Try.prog [] 23) c_turretlaw04_large_20 (initT 0 cs) [] (retQ rs_turretlaw04_large r)) : SC Try.prog 11 cs r :=
  sc_of [] follows Try.func11 rfl Try.ntmps11 (by decide) (by kernel_rfl) (by kernel_rfl) hl h

-- turret/turretlaw04.works (13)
def c_turretlaw04_works_0 : SCode := .reg [⟨(some 1), none, .box 26 (.tmp 0), [], false⟩,
  ⟨(some 2), none, .alloc 26 [(.int .i64 0), (.int .i64 0), (.int .i64 0), (.slice none 0 0)], [], false⟩] [1, 2]
def c_turretlaw04_works_1 : SCode := .reg [⟨(some 5), none, .load true 4 (.tmp 1), [], false⟩,
  ⟨(some 3), none, .alloc 26 [(.int .i64 0), (.int .i64 0), (.int .i64 0), (.slice none 0 0)], [], false⟩,
  ⟨none, none, .store 4 (.tmp 3) (.tmp 5), [], false⟩] [1, 2, 3]
def c_turretlaw04_works_2 : SCode := .reg [⟨(some 6), none, .fld 3 (.tmp 3), [], false⟩,
  ⟨none, none, .store 1 (.tmp 6) (.const (.slice none 0 0)), [], false⟩] [1, 2, 3]
def c_turretlaw04_works_3 : SCode := .reg [⟨(some 4), none, .mov (.const (.int .i64 0)), [], false⟩] [1, 2, 3, 4]
def c_turretlaw04_works_4 : SCode := .reg [⟨(some 7), none, .mov (.tmp 4), [], false⟩,
  ⟨(some 8), none, .fld 3 (.tmp 1), [], false⟩,
  ⟨(some 9), none, .load false 1 (.tmp 8), [], false⟩,
  ⟨(some 10), none, .len (.tmp 9), [], false⟩,
  ⟨(some 11), none, .bin .lss (.tmp 7) (.tmp 10), [], false⟩] [1, 2, 3, 4, 11]
def c_turretlaw04_works_5 : SCode := .cond (.tmp 11) .skip (.exit 0)
def c_turretlaw04_works_6 : SCode := .seq c_turretlaw04_works_4 c_turretlaw04_works_5
def c_turretlaw04_works_7 : SCode := .reg [⟨(some 14), none, .fld 3 (.tmp 3), [], true⟩,
  ⟨(some 15), none, .load false 1 (.tmp 14), [], true⟩,
  ⟨(some 16), none, .fld 3 (.tmp 1), [], false⟩,
  ⟨(some 17), none, .load false 1 (.tmp 16), [], false⟩,
  ⟨(some 18), none, .mov (.tmp 4), [], false⟩,
  ⟨(some 19), none, .idxS 5 (.tmp 17) (.tmp 18), [], false⟩,
  ⟨(some 20), none, .load true 5 (.tmp 19), [], false⟩,
  ⟨(some 21), none, .call 35 [(.tmp 20)], [], false⟩,
  ⟨(some 22), none, .buildSl 80 5 [(.int .i64 0), (.int .i64 0), (.slice none 0 0), (.int .i64 0), (.int .i64 0)] 1 [(0, (.tmp 21))], [0, 1], false⟩,
  ⟨(some 23), none, .append 80 5 56 (.tmp 15) (.tmp 22), [], false⟩,
  ⟨(some 24), none, .fld 3 (.tmp 3), [], false⟩,
  ⟨none, none, .store 1 (.tmp 24) (.tmp 23), [], false⟩] [1, 2, 3, 4]
def c_turretlaw04_works_8 : SCode := .block 1 c_turretlaw04_works_7
def c_turretlaw04_works_9 : SCode := .reg [⟨(some 12), none, .mov (.tmp 4), [], false⟩,
  ⟨(some 13), none, .bin .add (.tmp 12) (.const (.int .i64 1)), [], false⟩,
  ⟨(some 4), none, .mov (.tmp 13), [], false⟩] [1, 2, 3, 4]
def c_turretlaw04_works_10 : SCode := .seq c_turretlaw04_works_8 c_turretlaw04_works_9
def c_turretlaw04_works_11 : SCode := .seq c_turretlaw04_works_6 c_turretlaw04_works_10
def c_turretlaw04_works_12 : SCode := .loop c_turretlaw04_works_11
def c_turretlaw04_works_13 : SCode := .block 0 c_turretlaw04_works_12
def c_turretlaw04_works_14 : SCode := .seq c_turretlaw04_works_3 c_turretlaw04_works_13
def c_turretlaw04_works_15 : SCode := .reg [⟨(some 25), none, .load true 4 (.tmp 3), [], false⟩,
  ⟨none, none, .store 4 (.tmp 2) (.tmp 25), [], false⟩] [2]
def c_turretlaw04_works_16 : SCode := .seq c_turretlaw04_works_15 .ret
def c_turretlaw04_works_17 : SCode := .seq c_turretlaw04_works_14 c_turretlaw04_works_16
def c_turretlaw04_works_18 : SCode := .seq c_turretlaw04_works_2 c_turretlaw04_works_17
def c_turretlaw04_works_19 : SCode := .seq c_turretlaw04_works_1 c_turretlaw04_works_18
def c_turretlaw04_works_20 : SCode := .seq c_turretlaw04_works_0 c_turretlaw04_works_19
@[simp] def rs_turretlaw04_works : List SRes := [.cell 2 true 4]
theorem law_turretlaw04_works (cs : List CV) (r : CV) (hl : cs.length ≤ 26) (h : STri (cfF Try.prog [] 26) c_turretlaw04_works_20 (initT 0 cs) [] (retQ rs_turretlaw04_works r)) : SC Try.prog 13 cs r :=
  sc_of [] follows Try.func13 rfl Try.ntmps13 (by decide) (by kernel_rfl) (by kernel_rfl) hl h

-- turret/turretlaw04.unchanged (16)
def c_turretlaw04_unchanged_0 : SCode := .reg [⟨(some 2), none, .box 26 (.tmp 0), [], false⟩,
  ⟨(some 3), none, .box 26 (.tmp 1), [], false⟩,
  ⟨(some 4), none, .mov (.const (.bool false)), [], false⟩] [2, 3]
def c_turretlaw04_unchanged_1 : SCode := .reg [⟨(some 9), none, .fld 0 (.tmp 2), [], false⟩,
  ⟨(some 10), none, .load false 1 (.tmp 9), [], false⟩,
  ⟨(some 11), none, .fld 0 (.tmp 3), [], false⟩,
  ⟨(some 12), none, .load false 1 (.tmp 11), [], false⟩,
  ⟨(some 13), none, .bin .neq (.tmp 10) (.tmp 12), [], false⟩,
  ⟨(some 14), none, .mov (.tmp 13), [], false⟩,
  ⟨(some 15), (some (14, false)), .fld 1 (.tmp 2), [], false⟩,
  ⟨(some 16), (some (14, false)), .load true 2 (.tmp 15), [], false⟩,
  ⟨(some 17), (some (14, false)), .fld 1 (.tmp 3), [], false⟩,
  ⟨(some 18), (some (14, false)), .load true 2 (.tmp 17), [], false⟩,
  ⟨(some 19), (some (14, false)), .eqC true [true, true] (.tmp 16) (.tmp 18), [], false⟩,
  ⟨(some 20), none, .pick (.tmp 14) (.const (.bool true)) (.tmp 19), [], false⟩,
  ⟨(some 21), none, .mov (.tmp 20), [], false⟩,
  ⟨(some 22), (some (21, false)), .fld 3 (.tmp 2), [], false⟩,
  ⟨(some 23), (some (21, false)), .load false 1 (.tmp 22), [], false⟩,
  ⟨(some 24), (some (21, false)), .len (.tmp 23), [], false⟩,
  ⟨(some 25), (some (21, false)), .fld 3 (.tmp 3), [], false⟩,
  ⟨(some 26), (some (21, false)), .load false 1 (.tmp 25), [], false⟩,
  ⟨(some 27), (some (21, false)), .len (.tmp 26), [], false⟩,
  ⟨(some 28), (some (21, false)), .bin .neq (.tmp 24) (.tmp 27), [], false⟩,
  ⟨(some 29), none, .pick (.tmp 21) (.const (.bool true)) (.tmp 28), [], false⟩] [2, 3, 29]
def c_turretlaw04_unchanged_2 : SCode := .reg [⟨(some 4), none, .mov (.const (.bool false)), [], false⟩] [4]
def c_turretlaw04_unchanged_3 : SCode := .seq c_turretlaw04_unchanged_2 .ret
def c_turretlaw04_unchanged_4 : SCode := .cond (.tmp 29) c_turretlaw04_unchanged_3 .skip
def c_turretlaw04_unchanged_5 : SCode := .seq c_turretlaw04_unchanged_1 c_turretlaw04_unchanged_4
def c_turretlaw04_unchanged_6 : SCode := .reg [⟨(some 5), none, .mov (.const (.int .i64 0)), [], false⟩] [2, 3, 5]
def c_turretlaw04_unchanged_7 : SCode := .reg [⟨(some 30), none, .mov (.tmp 5), [], false⟩,
  ⟨(some 31), none, .fld 3 (.tmp 2), [], false⟩,
  ⟨(some 32), none, .load false 1 (.tmp 31), [], false⟩,
  ⟨(some 33), none, .len (.tmp 32), [], false⟩,
  ⟨(some 34), none, .bin .lss (.tmp 30) (.tmp 33), [], false⟩] [2, 3, 5, 34]
def c_turretlaw04_unchanged_8 : SCode := .cond (.tmp 34) .skip (.exit 0)
def c_turretlaw04_unchanged_9 : SCode := .seq c_turretlaw04_unchanged_7 c_turretlaw04_unchanged_8
def c_turretlaw04_unchanged_10 : SCode := .reg [⟨(some 37), none, .fld 3 (.tmp 2), [], true⟩,
  ⟨(some 38), none, .load false 1 (.tmp 37), [], true⟩,
  ⟨(some 39), none, .mov (.tmp 5), [], false⟩,
  ⟨(some 40), none, .idxS 5 (.tmp 38) (.tmp 39), [], true⟩,
  ⟨(some 41), none, .load true 5 (.tmp 40), [], true⟩,
  ⟨(some 42), none, .fld 3 (.tmp 3), [], true⟩,
  ⟨(some 43), none, .load false 1 (.tmp 42), [], true⟩,
  ⟨(some 44), none, .mov (.tmp 5), [], false⟩,
  ⟨(some 45), none, .idxS 5 (.tmp 43) (.tmp 44), [], true⟩,
  ⟨(some 46), none, .load true 5 (.tmp 45), [], true⟩,
  ⟨(some 6), none, .alloc 80 [(.int .i64 0), (.int .i64 0), (.slice none 0 0), (.int .i64 0), (.int .i64 0)], [0, 1, 3, 4, 5, 6, 8, 9], false⟩,
  ⟨(some 7), none, .alloc 80 [(.int .i64 0), (.int .i64 0), (.slice none 0 0), (.int .i64 0), (.int .i64 0)], [0, 1, 3, 4, 5, 6, 8, 9], false⟩,
  ⟨none, none, .store 5 (.tmp 6) (.tmp 41), [5, 6, 8, 9], false⟩,
  ⟨none, none, .store 5 (.tmp 7) (.tmp 46), [], false⟩] [2, 3, 5, 6, 7]
def c_turretlaw04_unchanged_11 : SCode := .reg [⟨(some 47), none, .fld 0 (.tmp 6), [], false⟩,
  ⟨(some 48), none, .load true 2 (.tmp 47), [], false⟩,
  ⟨(some 49), none, .fld 0 (.tmp 7), [], false⟩,
  ⟨(some 50), none, .load true 2 (.tmp 49), [], false⟩,
  ⟨(some 51), none, .eqC true [true, true] (.tmp 48) (.tmp 50), [], false⟩,
  ⟨(some 52), none, .mov (.tmp 51), [], false⟩,
  ⟨(some 53), (some (52, false)), .fld 3 (.tmp 6), [], false⟩,
  ⟨(some 54), (some (52, false)), .load false 1 (.tmp 53), [], false⟩,
  ⟨(some 55), (some (52, false)), .fld 3 (.tmp 7), [], false⟩,
  ⟨(some 56), (some (52, false)), .load false 1 (.tmp 55), [], false⟩,
  ⟨(some 57), (some (52, false)), .bin .neq (.tmp 54) (.tmp 56), [], false⟩,
  ⟨(some 58), none, .pick (.tmp 52) (.const (.bool true)) (.tmp 57), [], false⟩,
  ⟨(some 59), none, .mov (.tmp 58), [], false⟩,
  ⟨(some 60), (some (59, false)), .fld 4 (.tmp 6), [], false⟩,
  ⟨(some 61), (some (59, false)), .load false 1 (.tmp 60), [], false⟩,
  ⟨(some 62), (some (59, false)), .fld 4 (.tmp 7), [], false⟩,
  ⟨(some 63), (some (59, false)), .load false 1 (.tmp 62), [], false⟩,
  ⟨(some 64), (some (59, false)), .bin .neq (.tmp 61) (.tmp 63), [], false⟩,
  ⟨(some 65), none, .pick (.tmp 59) (.const (.bool true)) (.tmp 64), [], false⟩,
  ⟨(some 66), none, .mov (.tmp 65), [], false⟩,
  ⟨(some 67), (some (66, false)), .fld 2 (.tmp 6), [], false⟩,
  ⟨(some 68), (some (66, false)), .load false 1 (.tmp 67), [], false⟩,
  ⟨(some 69), (some (66, false)), .len (.tmp 68), [], false⟩,
  ⟨(some 70), (some (66, false)), .fld 2 (.tmp 7), [], false⟩,
  ⟨(some 71), (some (66, false)), .load false 1 (.tmp 70), [], false⟩,
  ⟨(some 72), (some (66, false)), .len (.tmp 71), [], false⟩,
  ⟨(some 73), (some (66, false)), .bin .neq (.tmp 69) (.tmp 72), [], false⟩,
  ⟨(some 74), none, .pick (.tmp 66) (.const (.bool true)) (.tmp 73), [], false⟩] [2, 3, 5, 6, 7, 74]
def c_turretlaw04_unchanged_12 : SCode := .reg [⟨(some 4), none, .mov (.const (.bool false)), [], false⟩] [4]
def c_turretlaw04_unchanged_13 : SCode := .seq c_turretlaw04_unchanged_12 .ret
def c_turretlaw04_unchanged_14 : SCode := .cond (.tmp 74) c_turretlaw04_unchanged_13 .skip
def c_turretlaw04_unchanged_15 : SCode := .seq c_turretlaw04_unchanged_11 c_turretlaw04_unchanged_14
def c_turretlaw04_unchanged_16 : SCode := .reg [⟨(some 8), none, .mov (.const (.int .i64 0)), [], false⟩] [2, 3, 5, 6, 7, 8]
def c_turretlaw04_unchanged_17 : SCode := .reg [⟨(some 75), none, .mov (.tmp 8), [], false⟩,
  ⟨(some 76), none, .fld 2 (.tmp 6), [], false⟩,
  ⟨(some 77), none, .load false 1 (.tmp 76), [], false⟩,
  ⟨(some 78), none, .len (.tmp 77), [], false⟩,
  ⟨(some 79), none, .bin .lss (.tmp 75) (.tmp 78), [], false⟩] [2, 3, 5, 6, 7, 8, 79]
def c_turretlaw04_unchanged_18 : SCode := .cond (.tmp 79) .skip (.exit 2)
def c_turretlaw04_unchanged_19 : SCode := .seq c_turretlaw04_unchanged_17 c_turretlaw04_unchanged_18
def c_turretlaw04_unchanged_20 : SCode := .reg [⟨(some 82), none, .fld 2 (.tmp 6), [], false⟩,
  ⟨(some 83), none, .load false 1 (.tmp 82), [], false⟩,
  ⟨(some 84), none, .mov (.tmp 8), [], false⟩,
  ⟨(some 85), none, .idxS 3 (.tmp 83) (.tmp 84), [], false⟩,
  ⟨(some 86), none, .load true 3 (.tmp 85), [], false⟩,
  ⟨(some 87), none, .fld 2 (.tmp 7), [], false⟩,
  ⟨(some 88), none, .load false 1 (.tmp 87), [], false⟩,
  ⟨(some 89), none, .mov (.tmp 8), [], false⟩,
  ⟨(some 90), none, .idxS 3 (.tmp 88) (.tmp 89), [], false⟩,
  ⟨(some 91), none, .load true 3 (.tmp 90), [], false⟩,
  ⟨(some 92), none, .eqC true [true, true, true] (.tmp 86) (.tmp 91), [], false⟩] [2, 3, 5, 6, 7, 8, 92]
def c_turretlaw04_unchanged_21 : SCode := .reg [⟨(some 4), none, .mov (.const (.bool false)), [], false⟩] [4]
def c_turretlaw04_unchanged_22 : SCode := .seq c_turretlaw04_unchanged_21 .ret
def c_turretlaw04_unchanged_23 : SCode := .cond (.tmp 92) c_turretlaw04_unchanged_22 .skip
def c_turretlaw04_unchanged_24 : SCode := .seq c_turretlaw04_unchanged_20 c_turretlaw04_unchanged_23
def c_turretlaw04_unchanged_25 : SCode := .block 3 c_turretlaw04_unchanged_24
def c_turretlaw04_unchanged_26 : SCode := .reg [⟨(some 80), none, .mov (.tmp 8), [], false⟩,
  ⟨(some 81), none, .bin .add (.tmp 80) (.const (.int .i64 1)), [], false⟩,
  ⟨(some 8), none, .mov (.tmp 81), [], false⟩] [2, 3, 5, 6, 7, 8]
def c_turretlaw04_unchanged_27 : SCode := .seq c_turretlaw04_unchanged_25 c_turretlaw04_unchanged_26
def c_turretlaw04_unchanged_28 : SCode := .seq c_turretlaw04_unchanged_19 c_turretlaw04_unchanged_27
def c_turretlaw04_unchanged_29 : SCode := .loop c_turretlaw04_unchanged_28
def c_turretlaw04_unchanged_30 : SCode := .block 2 c_turretlaw04_unchanged_29
def c_turretlaw04_unchanged_31 : SCode := .seq c_turretlaw04_unchanged_16 c_turretlaw04_unchanged_30
def c_turretlaw04_unchanged_32 : SCode := .seq c_turretlaw04_unchanged_15 c_turretlaw04_unchanged_31
def c_turretlaw04_unchanged_33 : SCode := .seq c_turretlaw04_unchanged_10 c_turretlaw04_unchanged_32
def c_turretlaw04_unchanged_34 : SCode := .block 1 c_turretlaw04_unchanged_33
def c_turretlaw04_unchanged_35 : SCode := .reg [⟨(some 35), none, .mov (.tmp 5), [], false⟩,
  ⟨(some 36), none, .bin .add (.tmp 35) (.const (.int .i64 1)), [], false⟩,
  ⟨(some 5), none, .mov (.tmp 36), [], false⟩] [2, 3, 5]
def c_turretlaw04_unchanged_36 : SCode := .seq c_turretlaw04_unchanged_34 c_turretlaw04_unchanged_35
def c_turretlaw04_unchanged_37 : SCode := .seq c_turretlaw04_unchanged_9 c_turretlaw04_unchanged_36
def c_turretlaw04_unchanged_38 : SCode := .loop c_turretlaw04_unchanged_37
def c_turretlaw04_unchanged_39 : SCode := .block 0 c_turretlaw04_unchanged_38
def c_turretlaw04_unchanged_40 : SCode := .seq c_turretlaw04_unchanged_6 c_turretlaw04_unchanged_39
def c_turretlaw04_unchanged_41 : SCode := .reg [⟨(some 4), none, .mov (.const (.bool true)), [], false⟩] [4]
def c_turretlaw04_unchanged_42 : SCode := .seq c_turretlaw04_unchanged_41 .ret
def c_turretlaw04_unchanged_43 : SCode := .seq c_turretlaw04_unchanged_40 c_turretlaw04_unchanged_42
def c_turretlaw04_unchanged_44 : SCode := .seq c_turretlaw04_unchanged_5 c_turretlaw04_unchanged_43
def c_turretlaw04_unchanged_45 : SCode := .seq c_turretlaw04_unchanged_0 c_turretlaw04_unchanged_44
@[simp] def rs_turretlaw04_unchanged : List SRes := [.tmp 4]
theorem law_turretlaw04_unchanged (cs : List CV) (r : CV) (hl : cs.length ≤ 93) (h : STri (cfF Try.prog [] 93) c_turretlaw04_unchanged_45 (initT 0 cs) [] (retQ rs_turretlaw04_unchanged r)) : SC Try.prog 16 cs r :=
  sc_of [] follows Try.func16 rfl Try.ntmps16 (by decide) (by kernel_rfl) (by kernel_rfl) hl h

-- (turret/turretlaw04.Tower).works (24)
def c_turretlaw04_Tower_works_0 : SCode := .reg [⟨(some 1), none, .box 57 (.tmp 0), [], false⟩,
  ⟨(some 2), none, .alloc 26 [(.int .i64 0), (.int .i64 0), (.int .i64 0), (.slice none 0 0)], [], false⟩] [1, 2]
def c_turretlaw04_Tower_works_1 : SCode := .reg [⟨(some 7), none, .build [(.int .i64 0), (.int .i64 0), (.int .i64 0), (.int .i64 0), (.int .i64 0), (.int .i64 0)] [(0, 1, (.const (.int .i64 1))), (1, 1, (.const (.int .i64 2))), (2, 1, (.const (.int .i64 10))), (3, 1, (.const (.int .i64 30))), (4, 1, (.const (.int .i64 60))), (5, 1, (.const (.int .i64 120)))], [], false⟩,
  ⟨(some 8), none, .fld 0 (.tmp 1), [], true⟩,
  ⟨(some 9), none, .load false 1 (.tmp 8), [], true⟩,
  ⟨(some 10), none, .bin .rem (.tmp 9) (.const (.int .u8 6)), [], false⟩,
  ⟨(some 11), none, .index 6 1 false (.tmp 7) (.tmp 10), [], false⟩,
  ⟨(some 12), none, .fld 2 (.tmp 1), [], true⟩,
  ⟨(some 13), none, .idxA 2 1 (.tmp 12) (.const (.int .i64 0)), [], true⟩,
  ⟨(some 14), none, .load false 1 (.tmp 13), [], true⟩,
  ⟨(some 15), none, .conv .i64 (.tmp 14), [], false⟩,
  ⟨(some 16), none, .bin .rem (.tmp 15) (.const (.int .i64 60)), [], false⟩,
  ⟨(some 17), none, .bin .sub (.tmp 16) (.const (.int .i64 30)), [], false⟩,
  ⟨(some 18), none, .fld 2 (.tmp 1), [], true⟩,
  ⟨(some 19), none, .idxA 2 1 (.tmp 18) (.const (.int .i64 0)), [], true⟩,
  ⟨(some 20), none, .load false 1 (.tmp 19), [], true⟩,
  ⟨(some 21), none, .conv .i64 (.tmp 20), [], false⟩,
  ⟨(some 22), none, .bin .rem (.tmp 21) (.const (.int .i64 60)), [], false⟩,
  ⟨(some 23), none, .bin .sub (.tmp 22) (.const (.int .i64 30)), [], false⟩,
  ⟨(some 24), none, .fld 2 (.tmp 1), [], true⟩,
  ⟨(some 25), none, .idxA 2 1 (.tmp 24) (.const (.int .i64 1)), [], true⟩,
  ⟨(some 26), none, .load false 1 (.tmp 25), [], true⟩,
  ⟨(some 27), none, .conv .i64 (.tmp 26), [], false⟩,
  ⟨(some 28), none, .bin .rem (.tmp 27) (.const (.int .i64 40)), [], false⟩,
  ⟨(some 29), none, .bin .add (.tmp 23) (.tmp 28), [], false⟩,
  ⟨(some 30), none, .call 30 [(.tmp 17), (.tmp 29)], [], true⟩,
  ⟨(some 31), none, .build [(.int .i64 0), (.int .i64 0), (.int .i64 0), (.slice none 0 0)] [(0, 1, (.tmp 11)), (1, 2, (.tmp 30))], [], false⟩,
  ⟨(some 3), none, .alloc 26 [(.int .i64 0), (.int .i64 0), (.int .i64 0), (.slice none 0 0)], [1, 2, 5, 6, 7, 11, 12, 13, 17, 18, 19, 23], false⟩,
  ⟨none, none, .store 4 (.tmp 3) (.tmp 31), [], false⟩] [1, 2, 3]
def c_turretlaw04_Tower_works_2 : SCode := .reg [⟨(some 4), none, .mov (.const (.int .i64 0)), [], false⟩] [1, 2, 3, 4]
def c_turretlaw04_Tower_works_3 : SCode := .reg [⟨(some 32), none, .mov (.tmp 4), [], false⟩,
  ⟨(some 33), none, .bin .eql (.tmp 32) (.const (.int .i64 0)), [], false⟩,
  ⟨(some 34), none, .mov (.tmp 33), [], false⟩,
  ⟨(some 35), (some (34, false)), .mov (.tmp 4), [], false⟩,
  ⟨(some 36), (some (34, false)), .fld 4 (.tmp 1), [], false⟩,
  ⟨(some 37), (some (34, false)), .load false 1 (.tmp 36), [], false⟩,
  ⟨(some 38), (some (34, false)), .len (.tmp 37), [], false⟩,
  ⟨(some 39), (some (34, false)), .bin .lss (.tmp 35) (.tmp 38), [], false⟩,
  ⟨(some 40), (some (34, false)), .mov (.tmp 39), [], false⟩,
  ⟨(some 41), (some (40, true)), .mov (.tmp 4), [], false⟩,
  ⟨(some 42), (some (40, true)), .bin .lss (.tmp 41) (.const (.int .i64 3)), [], false⟩,
  ⟨(some 43), (some (34, false)), .pick (.tmp 40) (.tmp 42) (.const (.bool false)), [], false⟩,
  ⟨(some 44), none, .pick (.tmp 34) (.const (.bool true)) (.tmp 43), [], false⟩] [1, 2, 3, 4, 44]
def c_turretlaw04_Tower_works_4 : SCode := .cond (.tmp 44) .skip (.exit 0)
def c_turretlaw04_Tower_works_5 : SCode := .seq c_turretlaw04_Tower_works_3 c_turretlaw04_Tower_works_4
def c_turretlaw04_Tower_works_6 : SCode := .reg [⟨(some 47), none, .build [(.int .u8 0), (.int .u8 0), (.int .u8 0), (.int .u8 0), (.int .u8 0), (.int .u8 0)] [], [], false⟩,
  ⟨(some 5), none, .alloc 122 [(.int .u8 0), (.int .u8 0), (.int .u8 0), (.int .u8 0), (.int .u8 0), (.int .u8 0)], [], false⟩,
  ⟨none, none, .store 6 (.tmp 5) (.tmp 47), [], false⟩] [1, 2, 3, 4, 5]
def c_turretlaw04_Tower_works_7 : SCode := .reg [⟨(some 48), none, .mov (.tmp 4), [], false⟩,
  ⟨(some 49), none, .fld 4 (.tmp 1), [], false⟩,
  ⟨(some 50), none, .load false 1 (.tmp 49), [], false⟩,
  ⟨(some 51), none, .len (.tmp 50), [], false⟩,
  ⟨(some 52), none, .bin .lss (.tmp 48) (.tmp 51), [], false⟩] [1, 2, 3, 4, 5, 52]
def c_turretlaw04_Tower_works_8 : SCode := .reg [⟨(some 53), none, .fld 4 (.tmp 1), [], false⟩,
  ⟨(some 54), none, .load false 1 (.tmp 53), [], false⟩,
  ⟨(some 55), none, .mov (.tmp 4), [], false⟩,
  ⟨(some 56), none, .idxS 6 (.tmp 54) (.tmp 55), [], false⟩,
  ⟨(some 57), none, .load true 6 (.tmp 56), [], false⟩,
  ⟨none, none, .store 6 (.tmp 5) (.tmp 57), [], false⟩] [1, 2, 3, 4, 5]
def c_turretlaw04_Tower_works_9 : SCode := .cond (.tmp 52) c_turretlaw04_Tower_works_8 .skip
def c_turretlaw04_Tower_works_10 : SCode := .seq c_turretlaw04_Tower_works_7 c_turretlaw04_Tower_works_9
def c_turretlaw04_Tower_works_11 : SCode := .reg [⟨(some 58), none, .idxA 6 1 (.tmp 5) (.const (.int .i64 0)), [], true⟩,
  ⟨(some 59), none, .load false 1 (.tmp 58), [], true⟩,
  ⟨(some 60), none, .conv .i64 (.tmp 59), [], false⟩,
  ⟨(some 61), none, .bin .rem (.tmp 60) (.const (.int .i64 30)), [], false⟩,
  ⟨(some 62), none, .bin .sub (.tmp 61) (.const (.int .i64 15)), [], false⟩,
  ⟨(some 63), none, .idxA 6 1 (.tmp 5) (.const (.int .i64 0)), [], true⟩,
  ⟨(some 64), none, .load false 1 (.tmp 63), [], true⟩,
  ⟨(some 65), none, .conv .i64 (.tmp 64), [], false⟩,
  ⟨(some 66), none, .bin .rem (.tmp 65) (.const (.int .i64 30)), [], false⟩,
  ⟨(some 67), none, .bin .sub (.tmp 66) (.const (.int .i64 15)), [], false⟩,
  ⟨(some 68), none, .idxA 6 1 (.tmp 5) (.const (.int .i64 1)), [], true⟩,
  ⟨(some 69), none, .load false 1 (.tmp 68), [], true⟩,
  ⟨(some 70), none, .conv .i64 (.tmp 69), [], false⟩,
  ⟨(some 71), none, .bin .rem (.tmp 70) (.const (.int .i64 10)), [], false⟩,
  ⟨(some 72), none, .bin .add (.tmp 67) (.tmp 71), [], false⟩,
  ⟨(some 73), none, .call 30 [(.tmp 62), (.tmp 72)], [], true⟩,
  ⟨(some 74), none, .idxA 6 1 (.tmp 5) (.const (.int .i64 2)), [], true⟩,
  ⟨(some 75), none, .load false 1 (.tmp 74), [], true⟩,
  ⟨(some 76), none, .conv .i64 (.tmp 75), [], false⟩,
  ⟨(some 77), none, .bin .sub (.tmp 76) (.const (.int .i64 128)), [], false⟩,
  ⟨(some 78), none, .idxA 6 1 (.tmp 5) (.const (.int .i64 3)), [], true⟩,
  ⟨(some 79), none, .load false 1 (.tmp 78), [], true⟩,
  ⟨(some 80), none, .conv .i64 (.tmp 79), [], false⟩,
  ⟨(some 81), none, .bin .rem (.tmp 80) (.const (.int .i64 60)), [], false⟩,
  ⟨(some 82), none, .build [(.int .i64 0), (.int .i64 0), (.slice none 0 0), (.int .i64 0), (.int .i64 0)] [(0, 2, (.tmp 73)), (3, 1, (.tmp 77)), (4, 1, (.tmp 81))], [], false⟩,
  ⟨(some 6), none, .alloc 80 [(.int .i64 0), (.int .i64 0), (.slice none 0 0), (.int .i64 0), (.int .i64 0)], [0, 1, 5, 6, 10, 11, 15, 16, 17, 20, 21], false⟩,
  ⟨none, none, .store 5 (.tmp 6) (.tmp 82), [], false⟩] [1, 2, 3, 4, 5, 6]
def c_turretlaw04_Tower_works_12 : SCode := .reg [⟨(some 83), none, .idxA 6 1 (.tmp 5) (.const (.int .i64 4)), [], false⟩,
  ⟨(some 84), none, .load false 1 (.tmp 83), [], false⟩,
  ⟨(some 85), none, .conv .i64 (.tmp 84), [], false⟩,
  ⟨(some 86), none, .bin .rem (.tmp 85) (.const (.int .i64 40)), [], false⟩,
  ⟨(some 87), none, .idxA 6 1 (.tmp 5) (.const (.int .i64 5)), [], false⟩,
  ⟨(some 88), none, .load false 1 (.tmp 87), [], false⟩,
  ⟨(some 89), none, .conv .i64 (.tmp 88), [], false⟩,
  ⟨(some 90), none, .bin .rem (.tmp 89) (.const (.int .i64 12)), [], false⟩,
  ⟨(some 91), none, .bin .add (.const (.int .i64 1)) (.tmp 90), [], false⟩,
  ⟨(some 92), none, .idxA 6 1 (.tmp 5) (.const (.int .i64 5)), [], false⟩,
  ⟨(some 93), none, .load false 1 (.tmp 92), [], false⟩,
  ⟨(some 94), none, .conv .i64 (.tmp 93), [], false⟩,
  ⟨(some 95), none, .bin .quo (.tmp 94) (.const (.int .i64 12)), [], false⟩,
  ⟨(some 96), none, .bin .rem (.tmp 95) (.const (.int .i64 3)), [], false⟩,
  ⟨(some 97), none, .bin .add (.const (.int .i64 1)) (.tmp 96), [], false⟩,
  ⟨(some 98), none, .build [(.int .i64 0), (.int .i64 0)] [(0, 1, (.tmp 91)), (1, 1, (.tmp 97))], [], false⟩,
  ⟨(some 99), none, .build [(.int .i64 0), (.int .i64 0), (.int .i64 0)] [(0, 1, (.tmp 86)), (1, 2, (.tmp 98))], [], false⟩,
  ⟨(some 100), none, .buildSl 101 3 [(.int .i64 0), (.int .i64 0), (.int .i64 0)] 1 [(0, (.tmp 99))], [], false⟩,
  ⟨(some 101), none, .fld 2 (.tmp 6), [], false⟩,
  ⟨none, none, .store 1 (.tmp 101) (.tmp 100), [], false⟩] [1, 2, 3, 4, 5, 6]
def c_turretlaw04_Tower_works_13 : SCode := .reg [⟨(some 102), none, .idxA 6 1 (.tmp 5) (.const (.int .i64 5)), [], false⟩,
  ⟨(some 103), none, .load false 1 (.tmp 102), [], false⟩,
  ⟨(some 104), none, .bin .geq (.tmp 103) (.const (.int .u8 128)), [], false⟩] [1, 2, 3, 4, 5, 6, 104]
def c_turretlaw04_Tower_works_14 : SCode := .reg [⟨(some 105), none, .fld 2 (.tmp 6), [], false⟩,
  ⟨(some 106), none, .load false 1 (.tmp 105), [], false⟩,
  ⟨(some 107), none, .idxA 6 1 (.tmp 5) (.const (.int .i64 3)), [], false⟩,
  ⟨(some 108), none, .load false 1 (.tmp 107), [], false⟩,
  ⟨(some 109), none, .conv .i64 (.tmp 108), [], false⟩,
  ⟨(some 110), none, .bin .rem (.tmp 109) (.const (.int .i64 30)), [], false⟩,
  ⟨(some 111), none, .build [(.int .i64 0), (.int .i64 0)] [(0, 1, (.const (.int .i64 1))), (1, 1, (.const (.int .i64 1)))], [], false⟩,
  ⟨(some 112), none, .build [(.int .i64 0), (.int .i64 0), (.int .i64 0)] [(0, 1, (.tmp 110)), (1, 2, (.tmp 111))], [], false⟩,
  ⟨(some 113), none, .buildSl 101 3 [(.int .i64 0), (.int .i64 0), (.int .i64 0)] 1 [(0, (.tmp 112))], [], false⟩,
  ⟨(some 114), none, .append 101 3 24 (.tmp 106) (.tmp 113), [], false⟩,
  ⟨(some 115), none, .fld 2 (.tmp 6), [], false⟩,
  ⟨none, none, .store 1 (.tmp 115) (.tmp 114), [], false⟩] [1, 2, 3, 4, 6]
def c_turretlaw04_Tower_works_15 : SCode := .cond (.tmp 104) c_turretlaw04_Tower_works_14 .skip
def c_turretlaw04_Tower_works_16 : SCode := .seq c_turretlaw04_Tower_works_13 c_turretlaw04_Tower_works_15
def c_turretlaw04_Tower_works_17 : SCode := .reg [⟨(some 116), none, .fld 3 (.tmp 3), [], false⟩,
  ⟨(some 117), none, .load false 1 (.tmp 116), [], false⟩,
  ⟨(some 118), none, .load true 5 (.tmp 6), [], false⟩,
  ⟨(some 119), none, .buildSl 80 5 [(.int .i64 0), (.int .i64 0), (.slice none 0 0), (.int .i64 0), (.int .i64 0)] 1 [(0, (.tmp 118))], [], false⟩,
  ⟨(some 120), none, .append 80 5 56 (.tmp 117) (.tmp 119), [], false⟩,
  ⟨(some 121), none, .fld 3 (.tmp 3), [], false⟩,
  ⟨none, none, .store 1 (.tmp 121) (.tmp 120), [], false⟩] [1, 2, 3, 4]
def c_turretlaw04_Tower_works_18 : SCode := .seq c_turretlaw04_Tower_works_16 c_turretlaw04_Tower_works_17
def c_turretlaw04_Tower_works_19 : SCode := .seq c_turretlaw04_Tower_works_12 c_turretlaw04_Tower_works_18
def c_turretlaw04_Tower_works_20 : SCode := .seq c_turretlaw04_Tower_works_11 c_turretlaw04_Tower_works_19
def c_turretlaw04_Tower_works_21 : SCode := .seq c_turretlaw04_Tower_works_10 c_turretlaw04_Tower_works_20
def c_turretlaw04_Tower_works_22 : SCode := .seq c_turretlaw04_Tower_works_6 c_turretlaw04_Tower_works_21
def c_turretlaw04_Tower_works_23 : SCode := .block 1 c_turretlaw04_Tower_works_22
def c_turretlaw04_Tower_works_24 : SCode := .reg [⟨(some 45), none, .mov (.tmp 4), [], false⟩,
  ⟨(some 46), none, .bin .add (.tmp 45) (.const (.int .i64 1)), [], false⟩,
  ⟨(some 4), none, .mov (.tmp 46), [], false⟩] [1, 2, 3, 4]
def c_turretlaw04_Tower_works_25 : SCode := .seq c_turretlaw04_Tower_works_23 c_turretlaw04_Tower_works_24
def c_turretlaw04_Tower_works_26 : SCode := .seq c_turretlaw04_Tower_works_5 c_turretlaw04_Tower_works_25
def c_turretlaw04_Tower_works_27 : SCode := .loop c_turretlaw04_Tower_works_26
def c_turretlaw04_Tower_works_28 : SCode := .block 0 c_turretlaw04_Tower_works_27
def c_turretlaw04_Tower_works_29 : SCode := .seq c_turretlaw04_Tower_works_2 c_turretlaw04_Tower_works_28
def c_turretlaw04_Tower_works_30 : SCode := .reg [⟨(some 122), none, .load true 4 (.tmp 3), [], false⟩,
  ⟨none, none, .store 4 (.tmp 2) (.tmp 122), [], false⟩] [2]
def c_turretlaw04_Tower_works_31 : SCode := .seq c_turretlaw04_Tower_works_30 .ret
def c_turretlaw04_Tower_works_32 : SCode := .seq c_turretlaw04_Tower_works_29 c_turretlaw04_Tower_works_31
def c_turretlaw04_Tower_works_33 : SCode := .seq c_turretlaw04_Tower_works_1 c_turretlaw04_Tower_works_32
def c_turretlaw04_Tower_works_34 : SCode := .seq c_turretlaw04_Tower_works_0 c_turretlaw04_Tower_works_33
@[simp] def rs_turretlaw04_Tower_works : List SRes := [.cell 2 true 4]
theorem law_turretlaw04_Tower_works (cs : List CV) (r : CV) (hl : cs.length ≤ 123) (h : STri (cfF Try.prog [] 123) c_turretlaw04_Tower_works_34 (initT 0 cs) [] (retQ rs_turretlaw04_Tower_works r)) : SC Try.prog 24 cs r :=
  sc_of [] follows Try.func24 rfl Try.ntmps24 (by decide) (by kernel_rfl) (by kernel_rfl) hl h

-- (turret/turretlaw04.Tower).at (25)
def c_turretlaw04_Tower_at_0 : SCode := .reg [⟨(some 1), none, .box 57 (.tmp 0), [], false⟩,
  ⟨(some 2), none, .mov (.const (.int .i64 0)), [], false⟩] [1]
def c_turretlaw04_Tower_at_1 : SCode := .reg [⟨(some 3), none, .fld 5 (.tmp 1), [], false⟩,
  ⟨(some 4), none, .load false 1 (.tmp 3), [], false⟩,
  ⟨(some 5), none, .conv .i64 (.tmp 4), [], false⟩,
  ⟨(some 2), none, .mov (.tmp 5), [], false⟩] [2]
def c_turretlaw04_Tower_at_2 : SCode := .seq c_turretlaw04_Tower_at_1 .ret
def c_turretlaw04_Tower_at_3 : SCode := .seq c_turretlaw04_Tower_at_0 c_turretlaw04_Tower_at_2
@[simp] def rs_turretlaw04_Tower_at : List SRes := [.tmp 2]
theorem law_turretlaw04_Tower_at (cs : List CV) (r : CV) (hl : cs.length ≤ 6) (h : STri (cfF Try.prog [] 6) c_turretlaw04_Tower_at_3 (initT 0 cs) [] (retQ rs_turretlaw04_Tower_at r)) : SC Try.prog 25 cs r :=
  sc_of [] follows Try.func25 rfl Try.ntmps25 (by decide) (by kernel_rfl) (by kernel_rfl) hl h

-- (turret/turretlaw04.Tower).wind (26)
def c_turretlaw04_Tower_wind_0 : SCode := .reg [⟨(some 1), none, .box 57 (.tmp 0), [], false⟩,
  ⟨(some 2), none, .alloc 23 [(.int .i64 0), (.int .i64 0)], [], false⟩] [1, 2]
def c_turretlaw04_Tower_wind_1 : SCode := .reg [⟨(some 3), none, .fld 6 (.tmp 1), [], false⟩,
  ⟨(some 4), none, .idxA 2 1 (.tmp 3) (.const (.int .i64 0)), [], false⟩,
  ⟨(some 5), none, .load false 1 (.tmp 4), [], false⟩,
  ⟨(some 6), none, .conv .i64 (.tmp 5), [], false⟩,
  ⟨(some 7), none, .bin .sub (.tmp 6) (.const (.int .i64 128)), [], false⟩,
  ⟨(some 8), none, .fld 6 (.tmp 1), [], false⟩,
  ⟨(some 9), none, .idxA 2 1 (.tmp 8) (.const (.int .i64 0)), [], false⟩,
  ⟨(some 10), none, .load false 1 (.tmp 9), [], false⟩,
  ⟨(some 11), none, .conv .i64 (.tmp 10), [], false⟩,
  ⟨(some 12), none, .bin .sub (.tmp 11) (.const (.int .i64 128)), [], false⟩,
  ⟨(some 13), none, .fld 6 (.tmp 1), [], false⟩,
  ⟨(some 14), none, .idxA 2 1 (.tmp 13) (.const (.int .i64 1)), [], false⟩,
  ⟨(some 15), none, .load false 1 (.tmp 14), [], false⟩,
  ⟨(some 16), none, .conv .i64 (.tmp 15), [], false⟩,
  ⟨(some 17), none, .bin .rem (.tmp 16) (.const (.int .i64 100)), [], false⟩,
  ⟨(some 18), none, .bin .add (.tmp 12) (.tmp 17), [], false⟩,
  ⟨(some 19), none, .call 30 [(.tmp 7), (.tmp 18)], [], false⟩,
  ⟨none, none, .store 2 (.tmp 2) (.tmp 19), [], false⟩] [2]
def c_turretlaw04_Tower_wind_2 : SCode := .seq c_turretlaw04_Tower_wind_1 .ret
def c_turretlaw04_Tower_wind_3 : SCode := .seq c_turretlaw04_Tower_wind_0 c_turretlaw04_Tower_wind_2
@[simp] def rs_turretlaw04_Tower_wind : List SRes := [.cell 2 true 2]
theorem law_turretlaw04_Tower_wind (cs : List CV) (r : CV) (hl : cs.length ≤ 20) (h : STri (cfF Try.prog [] 20) c_turretlaw04_Tower_wind_3 (initT 0 cs) [] (retQ rs_turretlaw04_Tower_wind r)) : SC Try.prog 26 cs r :=
  sc_of [] follows Try.func26 rfl Try.ntmps26 (by decide) (by kernel_rfl) (by kernel_rfl) hl h

-- turret/turretlaw04.tell (27)
def c_turretlaw04_tell_0 : SCode := .reg [⟨(some 4), none, .box 26 (.tmp 0), [], false⟩,
  ⟨(some 6), none, .box 23 (.tmp 2), [], false⟩,
  ⟨(some 8), none, .alloc 64 [(.int .i64 0), (.int .i64 0), (.slice none 0 0), (.slice none 0 0)], [], false⟩] [1, 3, 4, 6, 8]
def c_turretlaw04_tell_1 : SCode := .reg [⟨(some 16), none, .fld 1 (.tmp 4), [], true⟩,
  ⟨(some 17), none, .fld 0 (.tmp 16), [], true⟩,
  ⟨(some 18), none, .load false 1 (.tmp 17), [], true⟩,
  ⟨(some 19), none, .mov (.tmp 3), [], false⟩,
  ⟨(some 20), none, .call 61 [(.tmp 19), (.const (.int .i64 0))], [], true⟩,
  ⟨(some 21), none, .fld 1 (.tmp 4), [], true⟩,
  ⟨(some 22), none, .fld 1 (.tmp 21), [], true⟩,
  ⟨(some 23), none, .load false 1 (.tmp 22), [], true⟩,
  ⟨(some 24), none, .fld 1 (.tmp 4), [], true⟩,
  ⟨(some 25), none, .fld 0 (.tmp 24), [], true⟩,
  ⟨(some 26), none, .load false 1 (.tmp 25), [], true⟩,
  ⟨(some 27), none, .bin .sub (.tmp 23) (.tmp 26), [], false⟩,
  ⟨(some 28), none, .bin .add (.tmp 27) (.const (.int .i64 1)), [], false⟩,
  ⟨(some 29), none, .bin .rem (.tmp 20) (.tmp 28), [], false⟩,
  ⟨(some 30), none, .bin .add (.tmp 18) (.tmp 29), [], false⟩,
  ⟨(some 31), none, .build [(.int .i64 0), (.int .i64 0), (.slice none 0 0), (.slice none 0 0)] [(0, 1, (.tmp 30))], [], false⟩,
  ⟨(some 9), none, .alloc 64 [(.int .i64 0), (.int .i64 0), (.slice none 0 0), (.slice none 0 0)], [0, 1, 2, 4, 5, 6, 7, 8, 9, 10], false⟩,
  ⟨none, none, .store 4 (.tmp 9) (.tmp 31), [], false⟩] [1, 3, 4, 6, 8, 9]
def c_turretlaw04_tell_2 : SCode := .reg [⟨(some 32), none, .mov (.tmp 1), [], false⟩,
  ⟨(some 33), none, .fld 0 (.tmp 9), [], false⟩,
  ⟨(some 34), none, .load false 1 (.tmp 33), [], false⟩,
  ⟨(some 35), none, .bin .add (.tmp 32) (.tmp 34), [], false⟩,
  ⟨(some 36), none, .mov (.tmp 1), [], false⟩,
  ⟨(some 37), none, .fld 0 (.tmp 9), [], false⟩,
  ⟨(some 38), none, .load false 1 (.tmp 37), [], false⟩,
  ⟨(some 39), none, .bin .add (.tmp 36) (.tmp 38), [], false⟩,
  ⟨(some 40), none, .fld 0 (.tmp 4), [], false⟩,
  ⟨(some 41), none, .load false 1 (.tmp 40), [], false⟩,
  ⟨(some 42), none, .call 28 [(.tmp 39), (.tmp 41)], [], false⟩,
  ⟨(some 43), none, .bin .sub (.tmp 35) (.tmp 42), [], false⟩,
  ⟨(some 44), none, .fld 1 (.tmp 9), [], false⟩,
  ⟨none, none, .store 1 (.tmp 44) (.tmp 43), [], false⟩] [3, 4, 6, 8, 9]
def c_turretlaw04_tell_3 : SCode := .reg [⟨(some 10), none, .mov (.const (.int .i64 0)), [], false⟩] [3, 4, 6, 8, 9, 10]
def c_turretlaw04_tell_4 : SCode := .reg [⟨(some 45), none, .mov (.tmp 10), [], false⟩,
  ⟨(some 46), none, .fld 3 (.tmp 4), [], false⟩,
  ⟨(some 47), none, .load false 1 (.tmp 46), [], false⟩,
  ⟨(some 48), none, .len (.tmp 47), [], false⟩,
  ⟨(some 49), none, .bin .lss (.tmp 45) (.tmp 48), [], false⟩] [3, 4, 6, 8, 9, 10, 49]
def c_turretlaw04_tell_5 : SCode := .cond (.tmp 49) .skip (.exit 0)
def c_turretlaw04_tell_6 : SCode := .seq c_turretlaw04_tell_4 c_turretlaw04_tell_5
def c_turretlaw04_tell_7 : SCode := .reg [⟨(some 52), none, .fld 3 (.tmp 4), [], false⟩,
  ⟨(some 53), none, .load false 1 (.tmp 52), [], false⟩,
  ⟨(some 54), none, .mov (.tmp 10), [], false⟩,
  ⟨(some 55), none, .idxS 5 (.tmp 53) (.tmp 54), [], false⟩,
  ⟨(some 56), none, .load true 5 (.tmp 55), [], false⟩,
  ⟨(some 11), none, .alloc 80 [(.int .i64 0), (.int .i64 0), (.slice none 0 0), (.int .i64 0), (.int .i64 0)], [], false⟩,
  ⟨none, none, .store 5 (.tmp 11) (.tmp 56), [], false⟩] [3, 4, 6, 8, 9, 10, 11]
def c_turretlaw04_tell_8 : SCode := .reg [⟨(some 57), none, .fld 0 (.tmp 9), [], true⟩,
  ⟨(some 58), none, .load false 1 (.tmp 57), [], true⟩,
  ⟨(some 59), none, .fld 0 (.tmp 11), [], true⟩,
  ⟨(some 60), none, .fld 0 (.tmp 59), [], true⟩,
  ⟨(some 61), none, .load false 1 (.tmp 60), [], true⟩,
  ⟨(some 62), none, .mov (.tmp 3), [], false⟩,
  ⟨(some 63), none, .mov (.tmp 10), [], false⟩,
  ⟨(some 64), none, .bin .mul (.const (.int .i64 4)) (.tmp 63), [], false⟩,
  ⟨(some 65), none, .bin .add (.tmp 64) (.const (.int .i64 1)), [], false⟩,
  ⟨(some 66), none, .call 61 [(.tmp 62), (.tmp 65)], [], true⟩,
  ⟨(some 67), none, .fld 0 (.tmp 11), [], true⟩,
  ⟨(some 68), none, .fld 1 (.tmp 67), [], true⟩,
  ⟨(some 69), none, .load false 1 (.tmp 68), [], true⟩,
  ⟨(some 70), none, .fld 0 (.tmp 11), [], true⟩,
  ⟨(some 71), none, .fld 0 (.tmp 70), [], true⟩,
  ⟨(some 72), none, .load false 1 (.tmp 71), [], true⟩,
  ⟨(some 73), none, .bin .sub (.tmp 69) (.tmp 72), [], false⟩,
  ⟨(some 74), none, .bin .add (.tmp 73) (.const (.int .i64 1)), [], false⟩,
  ⟨(some 75), none, .bin .rem (.tmp 66) (.tmp 74), [], false⟩,
  ⟨(some 76), none, .bin .add (.tmp 61) (.tmp 75), [], false⟩,
  ⟨(some 77), none, .fld 0 (.tmp 6), [], true⟩,
  ⟨(some 78), none, .load false 1 (.tmp 77), [], true⟩,
  ⟨(some 79), none, .mov (.tmp 3), [], false⟩,
  ⟨(some 80), none, .mov (.tmp 10), [], false⟩,
  ⟨(some 81), none, .bin .mul (.const (.int .i64 4)) (.tmp 80), [], false⟩,
  ⟨(some 82), none, .bin .add (.tmp 81) (.const (.int .i64 2)), [], false⟩,
  ⟨(some 83), none, .call 61 [(.tmp 79), (.tmp 82)], [], true⟩,
  ⟨(some 84), none, .fld 1 (.tmp 6), [], true⟩,
  ⟨(some 85), none, .load false 1 (.tmp 84), [], true⟩,
  ⟨(some 86), none, .fld 0 (.tmp 6), [], true⟩,
  ⟨(some 87), none, .load false 1 (.tmp 86), [], true⟩,
  ⟨(some 88), none, .bin .sub (.tmp 85) (.tmp 87), [], false⟩,
  ⟨(some 89), none, .bin .add (.tmp 88) (.const (.int .i64 1)), [], false⟩,
  ⟨(some 90), none, .bin .rem (.tmp 83) (.tmp 89), [], false⟩,
  ⟨(some 91), none, .bin .add (.tmp 78) (.tmp 90), [], false⟩,
  ⟨(some 92), none, .build [(.int .i64 0), (.int .i64 0), (.int .i64 0), (.int .i64 0)] [(0, 1, (.tmp 58)), (1, 1, (.tmp 76)), (2, 1, (.tmp 91))], [], false⟩,
  ⟨(some 12), none, .alloc 36 [(.int .i64 0), (.int .i64 0), (.int .i64 0), (.int .i64 0)], [0, 1, 2, 3, 4, 9, 10, 11, 12, 13, 14, 15, 20, 21, 26, 27, 28, 29, 30], false⟩,
  ⟨none, none, .store 4 (.tmp 12) (.tmp 92), [], false⟩] [3, 4, 6, 8, 9, 10, 11, 12]
def c_turretlaw04_tell_9 : SCode := .reg [⟨(some 94), none, .load true 5 (.tmp 11), [], false⟩,
  ⟨(some 95), none, .call 35 [(.tmp 94)], [], false⟩,
  ⟨(some 96), none, .call 34 [(.tmp 95)], [], false⟩,
  ⟨(some 93), none, .mov (.tmp 96), [], false⟩,
  ⟨(some 97), none, .ext (.tmp 93) 0, [], false⟩,
  ⟨(some 98), none, .ext (.tmp 93) 1, [], false⟩,
  ⟨(some 13), none, .mov (.tmp 97), [], false⟩,
  ⟨(some 14), none, .mov (.tmp 98), [], false⟩] [3, 4, 6, 8, 9, 10, 11, 12, 13]
def c_turretlaw04_tell_10 : SCode := .reg [⟨(some 99), none, .fld 2 (.tmp 12), [], false⟩,
  ⟨(some 100), none, .load false 1 (.tmp 99), [], false⟩,
  ⟨(some 101), none, .fld 3 (.tmp 11), [], false⟩,
  ⟨(some 102), none, .load false 1 (.tmp 101), [], false⟩,
  ⟨(some 103), none, .bin .add (.tmp 100) (.tmp 102), [], false⟩,
  ⟨(some 15), none, .mov (.tmp 103), [], false⟩] [3, 4, 6, 8, 9, 10, 11, 12, 13, 15]
def c_turretlaw04_tell_11 : SCode := .reg [⟨(some 104), none, .fld 1 (.tmp 9), [], false⟩,
  ⟨(some 105), none, .load false 1 (.tmp 104), [], false⟩,
  ⟨(some 106), none, .call 28 [(.tmp 105), (.const (.int .i64 3600))], [], false⟩,
  ⟨(some 107), none, .bin .geq (.tmp 106) (.const (.int .i64 1800)), [], false⟩] [3, 4, 6, 8, 9, 10, 11, 12, 13, 15, 107]
def c_turretlaw04_tell_12 : SCode := .reg [⟨(some 108), none, .fld 2 (.tmp 12), [], false⟩,
  ⟨(some 109), none, .load false 1 (.tmp 108), [], false⟩,
  ⟨(some 110), none, .fld 3 (.tmp 11), [], false⟩,
  ⟨(some 111), none, .load false 1 (.tmp 110), [], false⟩,
  ⟨(some 112), none, .bin .sub (.tmp 109) (.tmp 111), [], false⟩,
  ⟨(some 15), none, .mov (.tmp 112), [], false⟩] [3, 4, 6, 8, 9, 10, 11, 12, 13, 15]
def c_turretlaw04_tell_13 : SCode := .cond (.tmp 107) c_turretlaw04_tell_12 .skip
def c_turretlaw04_tell_14 : SCode := .seq c_turretlaw04_tell_11 c_turretlaw04_tell_13
def c_turretlaw04_tell_15 : SCode := .reg [⟨(some 124), none, .mov (.tmp 15), [], false⟩,
  ⟨(some 125), none, .fld 4 (.tmp 11), [], false⟩,
  ⟨(some 126), none, .load false 1 (.tmp 125), [], false⟩,
  ⟨(some 127), none, .bin .gtr (.tmp 124) (.tmp 126), [], false⟩,
  ⟨(some 123), none, .mov (.tmp 127), [], false⟩] [3, 4, 6, 8, 9, 10, 11, 12, 13, 15, 123]
def c_turretlaw04_tell_16 : SCode := .reg [⟨(some 129), none, .mov (.tmp 15), [], false⟩,
  ⟨(some 130), none, .fld 4 (.tmp 11), [], false⟩,
  ⟨(some 131), none, .load false 1 (.tmp 130), [], false⟩,
  ⟨(some 132), none, .un .neg (.tmp 131), [], false⟩,
  ⟨(some 133), none, .bin .lss (.tmp 129) (.tmp 132), [], false⟩,
  ⟨(some 128), none, .mov (.tmp 133), [], false⟩] [3, 4, 6, 8, 9, 10, 12, 13, 128]
def c_turretlaw04_tell_17 : SCode := .reg [⟨(some 134), none, .mov (.tmp 13), [], false⟩,
  ⟨(some 135), none, .fld 3 (.tmp 12), [], false⟩,
  ⟨none, none, .store 1 (.tmp 135) (.tmp 134), [], false⟩] [3, 4, 6, 8, 9, 10, 12]
def c_turretlaw04_tell_18 : SCode := .reg [⟨(some 113), none, .mov (.tmp 3), [], false⟩,
  ⟨(some 114), none, .mov (.tmp 10), [], false⟩,
  ⟨(some 115), none, .bin .mul (.const (.int .i64 4)) (.tmp 114), [], false⟩,
  ⟨(some 116), none, .bin .add (.tmp 115) (.const (.int .i64 3)), [], false⟩,
  ⟨(some 117), none, .call 61 [(.tmp 113), (.tmp 116)], [], false⟩,
  ⟨(some 118), none, .mov (.tmp 13), [], false⟩,
  ⟨(some 119), none, .max [(.const (.int .i64 0)), (.tmp 118)], [], false⟩,
  ⟨(some 120), none, .bin .add (.tmp 119) (.const (.int .i64 1)), [], false⟩,
  ⟨(some 121), none, .bin .rem (.tmp 117) (.tmp 120), [], false⟩,
  ⟨(some 122), none, .fld 3 (.tmp 12), [], false⟩,
  ⟨none, none, .store 1 (.tmp 122) (.tmp 121), [], false⟩] [3, 4, 6, 8, 9, 10, 12]
def c_turretlaw04_tell_19 : SCode := .cond (.tmp 128) c_turretlaw04_tell_17 c_turretlaw04_tell_18
def c_turretlaw04_tell_20 : SCode := .seq c_turretlaw04_tell_16 c_turretlaw04_tell_19
def c_turretlaw04_tell_21 : SCode := .cond (.tmp 123) .skip c_turretlaw04_tell_20
def c_turretlaw04_tell_22 : SCode := .seq c_turretlaw04_tell_15 c_turretlaw04_tell_21
def c_turretlaw04_tell_23 : SCode := .block 2 c_turretlaw04_tell_22
def c_turretlaw04_tell_24 : SCode := .reg [⟨(some 136), none, .fld 2 (.tmp 9), [], true⟩,
  ⟨(some 137), none, .load false 1 (.tmp 136), [], true⟩,
  ⟨(some 138), none, .load true 4 (.tmp 12), [], true⟩,
  ⟨(some 139), none, .buildSl 36 4 [(.int .i64 0), (.int .i64 0), (.int .i64 0), (.int .i64 0)] 1 [(0, (.tmp 138))], [0, 1], true⟩,
  ⟨(some 140), none, .append 36 4 32 (.tmp 137) (.tmp 139), [], true⟩,
  ⟨(some 141), none, .fld 3 (.tmp 9), [3, 4], true⟩,
  ⟨(some 142), none, .load false 1 (.tmp 141), [3, 4], true⟩,
  ⟨(some 143), none, .fld 1 (.tmp 9), [3, 4], false⟩,
  ⟨(some 144), none, .load false 1 (.tmp 143), [3, 4], false⟩,
  ⟨(some 145), none, .fld 1 (.tmp 12), [3, 4], false⟩,
  ⟨(some 146), none, .load false 1 (.tmp 145), [3, 4], false⟩,
  ⟨(some 147), none, .bin .add (.tmp 144) (.tmp 146), [], false⟩,
  ⟨(some 148), none, .fld 3 (.tmp 12), [3, 4], false⟩,
  ⟨(some 149), none, .load false 1 (.tmp 148), [3, 4], false⟩,
  ⟨(some 150), none, .bin .sub (.tmp 147) (.tmp 149), [], false⟩,
  ⟨(some 151), none, .buildSl 3 1 [(.int .i64 0)] 1 [(0, (.tmp 150))], [0, 1, 2, 4, 5, 6], true⟩,
  ⟨(some 152), none, .append 3 1 8 (.tmp 142) (.tmp 151), [], true⟩,
  ⟨(some 153), none, .fld 2 (.tmp 9), [15, 16], false⟩,
  ⟨none, none, .store 1 (.tmp 153) (.tmp 140), [], false⟩,
  ⟨(some 154), none, .fld 3 (.tmp 9), [], false⟩,
  ⟨none, none, .store 1 (.tmp 154) (.tmp 152), [], false⟩] [3, 4, 6, 8, 9, 10]
def c_turretlaw04_tell_25 : SCode := .seq c_turretlaw04_tell_23 c_turretlaw04_tell_24
def c_turretlaw04_tell_26 : SCode := .seq c_turretlaw04_tell_14 c_turretlaw04_tell_25
def c_turretlaw04_tell_27 : SCode := .seq c_turretlaw04_tell_10 c_turretlaw04_tell_26
def c_turretlaw04_tell_28 : SCode := .seq c_turretlaw04_tell_9 c_turretlaw04_tell_27
def c_turretlaw04_tell_29 : SCode := .seq c_turretlaw04_tell_8 c_turretlaw04_tell_28
def c_turretlaw04_tell_30 : SCode := .seq c_turretlaw04_tell_7 c_turretlaw04_tell_29
def c_turretlaw04_tell_31 : SCode := .block 1 c_turretlaw04_tell_30
def c_turretlaw04_tell_32 : SCode := .reg [⟨(some 50), none, .mov (.tmp 10), [], false⟩,
  ⟨(some 51), none, .bin .add (.tmp 50) (.const (.int .i64 1)), [], false⟩,
  ⟨(some 10), none, .mov (.tmp 51), [], false⟩] [3, 4, 6, 8, 9, 10]
def c_turretlaw04_tell_33 : SCode := .seq c_turretlaw04_tell_31 c_turretlaw04_tell_32
def c_turretlaw04_tell_34 : SCode := .seq c_turretlaw04_tell_6 c_turretlaw04_tell_33
def c_turretlaw04_tell_35 : SCode := .loop c_turretlaw04_tell_34
def c_turretlaw04_tell_36 : SCode := .block 0 c_turretlaw04_tell_35
def c_turretlaw04_tell_37 : SCode := .seq c_turretlaw04_tell_3 c_turretlaw04_tell_36
def c_turretlaw04_tell_38 : SCode := .reg [⟨(some 155), none, .load true 4 (.tmp 9), [], false⟩,
  ⟨none, none, .store 4 (.tmp 8) (.tmp 155), [], false⟩] [8]
def c_turretlaw04_tell_39 : SCode := .seq c_turretlaw04_tell_38 .ret
def c_turretlaw04_tell_40 : SCode := .seq c_turretlaw04_tell_37 c_turretlaw04_tell_39
def c_turretlaw04_tell_41 : SCode := .seq c_turretlaw04_tell_2 c_turretlaw04_tell_40
def c_turretlaw04_tell_42 : SCode := .seq c_turretlaw04_tell_1 c_turretlaw04_tell_41
def c_turretlaw04_tell_43 : SCode := .seq c_turretlaw04_tell_0 c_turretlaw04_tell_42
@[simp] def rs_turretlaw04_tell : List SRes := [.cell 8 true 4]
theorem law_turretlaw04_tell (cs : List CV) (r : CV) (hl : cs.length ≤ 156) (h : STri (cfF Try.prog [] 156) c_turretlaw04_tell_43 (initT 0 cs) [] (retQ rs_turretlaw04_tell r)) : SC Try.prog 27 cs r :=
  sc_of [] follows Try.func27 rfl Try.ntmps27 (by decide) (by kernel_rfl) (by kernel_rfl) hl h

-- turret/turretlaw04.rest (28)
def c_turretlaw04_rest_0 : SCode := .reg [⟨(some 4), none, .mov (.const (.int .i64 0)), [], false⟩] [0, 1]
def c_turretlaw04_rest_1 : SCode := .reg [⟨(some 5), none, .mov (.tmp 0), [], false⟩,
  ⟨(some 6), none, .mov (.tmp 1), [], false⟩,
  ⟨(some 7), none, .bin .rem (.tmp 5) (.tmp 6), [], false⟩,
  ⟨(some 8), none, .mov (.tmp 1), [], false⟩,
  ⟨(some 9), none, .bin .add (.tmp 7) (.tmp 8), [], false⟩,
  ⟨(some 10), none, .mov (.tmp 1), [], false⟩,
  ⟨(some 11), none, .bin .rem (.tmp 9) (.tmp 10), [], false⟩,
  ⟨(some 4), none, .mov (.tmp 11), [], false⟩] [4]
def c_turretlaw04_rest_2 : SCode := .seq c_turretlaw04_rest_1 .ret
def c_turretlaw04_rest_3 : SCode := .seq c_turretlaw04_rest_0 c_turretlaw04_rest_2
@[simp] def rs_turretlaw04_rest : List SRes := [.tmp 4]
theorem law_turretlaw04_rest (cs : List CV) (r : CV) (hl : cs.length ≤ 12) (h : STri (cfF Try.prog [] 12) c_turretlaw04_rest_3 (initT 0 cs) [] (retQ rs_turretlaw04_rest r)) : SC Try.prog 28 cs r :=
  sc_of [] follows Try.func28 rfl Try.ntmps28 (by decide) (by kernel_rfl) (by kernel_rfl) hl h

-- turret/turretlaw04.inside (29)
def c_turretlaw04_inside_0 : SCode := .reg [⟨(some 4), none, .mov (.const (.bool false)), [], false⟩] [0, 1]
def c_turretlaw04_inside_1 : SCode := .reg [⟨(some 5), none, .mov (.const (.bool false)), [], false⟩] [0, 1, 5]
def c_turretlaw04_inside_2 : SCode := .reg [⟨(some 6), none, .mov (.const (.int .i64 0)), [], false⟩] [0, 1, 5, 6]
def c_turretlaw04_inside_3 : SCode := .reg [⟨(some 7), none, .mov (.tmp 6), [], false⟩,
  ⟨(some 8), none, .mov (.tmp 1), [], false⟩,
  ⟨(some 9), none, .len (.tmp 8), [], false⟩,
  ⟨(some 10), none, .bin .lss (.tmp 7) (.tmp 9), [], false⟩] [0, 1, 5, 6, 10]
def c_turretlaw04_inside_4 : SCode := .cond (.tmp 10) .skip (.exit 0)
def c_turretlaw04_inside_5 : SCode := .seq c_turretlaw04_inside_3 c_turretlaw04_inside_4
def c_turretlaw04_inside_6 : SCode := .reg [⟨(some 13), none, .mov (.tmp 5), [], false⟩,
  ⟨(some 14), none, .mov (.tmp 13), [], false⟩,
  ⟨(some 15), (some (14, false)), .mov (.tmp 0), [], false⟩,
  ⟨(some 16), (some (14, false)), .mov (.tmp 1), [], false⟩,
  ⟨(some 17), (some (14, false)), .mov (.tmp 6), [], false⟩,
  ⟨(some 18), (some (14, false)), .idxS 2 (.tmp 16) (.tmp 17), [], false⟩,
  ⟨(some 19), (some (14, false)), .fld 0 (.tmp 18), [], false⟩,
  ⟨(some 20), (some (14, false)), .load false 1 (.tmp 19), [], false⟩,
  ⟨(some 21), (some (14, false)), .bin .geq (.tmp 15) (.tmp 20), [], false⟩,
  ⟨(some 22), (some (14, false)), .mov (.tmp 21), [], false⟩,
  ⟨(some 23), (some (22, true)), .mov (.tmp 0), [], false⟩,
  ⟨(some 24), (some (22, true)), .mov (.tmp 1), [], false⟩,
  ⟨(some 25), (some (22, true)), .mov (.tmp 6), [], false⟩,
  ⟨(some 26), (some (22, true)), .idxS 2 (.tmp 24) (.tmp 25), [], false⟩,
  ⟨(some 27), (some (22, true)), .fld 1 (.tmp 26), [], false⟩,
  ⟨(some 28), (some (22, true)), .load false 1 (.tmp 27), [], false⟩,
  ⟨(some 29), (some (22, true)), .bin .leq (.tmp 23) (.tmp 28), [], false⟩,
  ⟨(some 30), (some (14, false)), .pick (.tmp 22) (.tmp 29) (.const (.bool false)), [], false⟩,
  ⟨(some 31), none, .pick (.tmp 14) (.const (.bool true)) (.tmp 30), [], false⟩,
  ⟨(some 5), none, .mov (.tmp 31), [], false⟩] [0, 1, 5, 6]
def c_turretlaw04_inside_7 : SCode := .reg [⟨(some 32), none, .mov (.tmp 1), [], false⟩,
  ⟨(some 33), none, .mov (.tmp 6), [], false⟩,
  ⟨(some 34), none, .idxS 2 (.tmp 32) (.tmp 33), [], false⟩,
  ⟨(some 35), none, .fld 0 (.tmp 34), [], false⟩,
  ⟨(some 36), none, .load false 1 (.tmp 35), [], false⟩,
  ⟨(some 37), none, .mov (.tmp 1), [], false⟩,
  ⟨(some 38), none, .mov (.tmp 6), [], false⟩,
  ⟨(some 39), none, .idxS 2 (.tmp 37) (.tmp 38), [], false⟩,
  ⟨(some 40), none, .fld 1 (.tmp 39), [], false⟩,
  ⟨(some 41), none, .load false 1 (.tmp 40), [], false⟩,
  ⟨(some 42), none, .bin .gtr (.tmp 36) (.tmp 41), [], false⟩,
  ⟨(some 43), none, .mov (.tmp 42), [], false⟩,
  ⟨(some 44), (some (43, false)), .mov (.tmp 6), [], false⟩,
  ⟨(some 45), (some (43, false)), .bin .gtr (.tmp 44) (.const (.int .i64 0)), [], false⟩,
  ⟨(some 46), (some (43, false)), .mov (.tmp 45), [], false⟩,
  ⟨(some 47), (some (46, true)), .mov (.tmp 1), [], false⟩,
  ⟨(some 48), (some (46, true)), .mov (.tmp 6), [], false⟩,
  ⟨(some 49), (some (46, true)), .idxS 2 (.tmp 47) (.tmp 48), [], false⟩,
  ⟨(some 50), (some (46, true)), .fld 0 (.tmp 49), [], false⟩,
  ⟨(some 51), (some (46, true)), .load false 1 (.tmp 50), [], false⟩,
  ⟨(some 52), (some (46, true)), .mov (.tmp 1), [], false⟩,
  ⟨(some 53), (some (46, true)), .mov (.tmp 6), [], false⟩,
  ⟨(some 54), (some (46, true)), .bin .sub (.tmp 53) (.const (.int .i64 1)), [], false⟩,
  ⟨(some 55), (some (46, true)), .idxS 2 (.tmp 52) (.tmp 54), [], false⟩,
  ⟨(some 56), (some (46, true)), .fld 1 (.tmp 55), [], false⟩,
  ⟨(some 57), (some (46, true)), .load false 1 (.tmp 56), [], false⟩,
  ⟨(some 58), (some (46, true)), .bin .add (.tmp 57) (.const (.int .i64 1)), [], false⟩,
  ⟨(some 59), (some (46, true)), .bin .leq (.tmp 51) (.tmp 58), [], false⟩,
  ⟨(some 60), (some (43, false)), .pick (.tmp 46) (.tmp 59) (.const (.bool false)), [], false⟩,
  ⟨(some 61), none, .pick (.tmp 43) (.const (.bool true)) (.tmp 60), [], false⟩] [0, 1, 5, 6, 61]
def c_turretlaw04_inside_8 : SCode := .reg [⟨(some 4), none, .mov (.const (.bool false)), [], false⟩] [4]
def c_turretlaw04_inside_9 : SCode := .seq c_turretlaw04_inside_8 .ret
def c_turretlaw04_inside_10 : SCode := .cond (.tmp 61) c_turretlaw04_inside_9 .skip
def c_turretlaw04_inside_11 : SCode := .seq c_turretlaw04_inside_7 c_turretlaw04_inside_10
def c_turretlaw04_inside_12 : SCode := .seq c_turretlaw04_inside_6 c_turretlaw04_inside_11
def c_turretlaw04_inside_13 : SCode := .block 1 c_turretlaw04_inside_12
def c_turretlaw04_inside_14 : SCode := .reg [⟨(some 11), none, .mov (.tmp 6), [], false⟩,
  ⟨(some 12), none, .bin .add (.tmp 11) (.const (.int .i64 1)), [], false⟩,
  ⟨(some 6), none, .mov (.tmp 12), [], false⟩] [0, 1, 5, 6]
def c_turretlaw04_inside_15 : SCode := .seq c_turretlaw04_inside_13 c_turretlaw04_inside_14
def c_turretlaw04_inside_16 : SCode := .seq c_turretlaw04_inside_5 c_turretlaw04_inside_15
def c_turretlaw04_inside_17 : SCode := .loop c_turretlaw04_inside_16
def c_turretlaw04_inside_18 : SCode := .block 0 c_turretlaw04_inside_17
def c_turretlaw04_inside_19 : SCode := .seq c_turretlaw04_inside_2 c_turretlaw04_inside_18
def c_turretlaw04_inside_20 : SCode := .reg [⟨(some 62), none, .mov (.tmp 5), [], false⟩,
  ⟨(some 4), none, .mov (.tmp 62), [], false⟩] [4]
def c_turretlaw04_inside_21 : SCode := .seq c_turretlaw04_inside_20 .ret
def c_turretlaw04_inside_22 : SCode := .seq c_turretlaw04_inside_19 c_turretlaw04_inside_21
def c_turretlaw04_inside_23 : SCode := .seq c_turretlaw04_inside_1 c_turretlaw04_inside_22
def c_turretlaw04_inside_24 : SCode := .seq c_turretlaw04_inside_0 c_turretlaw04_inside_23
@[simp] def rs_turretlaw04_inside : List SRes := [.tmp 4]
theorem law_turretlaw04_inside (cs : List CV) (r : CV) (hl : cs.length ≤ 63) (h : STri (cfF Try.prog [] 63) c_turretlaw04_inside_24 (initT 0 cs) [] (retQ rs_turretlaw04_inside r)) : SC Try.prog 29 cs r :=
  sc_of [] follows Try.func29 rfl Try.ntmps29 (by decide) (by kernel_rfl) (by kernel_rfl) hl h

-- turret/turretlaw04.readings (32)
def c_turretlaw04_readings_0 : SCode := .reg [⟨(some 2), none, .mov (.const (.slice none 0 0)), [], false⟩] [0]
def c_turretlaw04_readings_1 : SCode := .reg [⟨(some 3), none, .buildSl 70 2 [(.int .i64 0), (.int .i64 0)] 0 [], [], false⟩,
  ⟨(some 4), none, .mov (.tmp 0), [], false⟩,
  ⟨(some 5), none, .append 70 2 16 (.tmp 3) (.tmp 4), [], false⟩,
  ⟨(some 2), none, .mov (.tmp 5), [], false⟩] [2]
def c_turretlaw04_readings_2 : SCode := .seq c_turretlaw04_readings_1 .ret
def c_turretlaw04_readings_3 : SCode := .seq c_turretlaw04_readings_0 c_turretlaw04_readings_2
@[simp] def rs_turretlaw04_readings : List SRes := [.tmp 2]
theorem law_turretlaw04_readings (cs : List CV) (r : CV) (hl : cs.length ≤ 6) (h : STri (cfF Try.prog [] 6) c_turretlaw04_readings_3 (initT 0 cs) [] (retQ rs_turretlaw04_readings r)) : SC Try.prog 32 cs r :=
  sc_of [] follows Try.func32 rfl Try.ntmps32 (by decide) (by kernel_rfl) (by kernel_rfl) hl h

-- turret/turretlaw04.face (35)
def c_turretlaw04_face_0 : SCode := .reg [⟨(some 1), none, .box 80 (.tmp 0), [], false⟩,
  ⟨(some 2), none, .alloc 80 [(.int .i64 0), (.int .i64 0), (.slice none 0 0), (.int .i64 0), (.int .i64 0)], [], false⟩] [1, 2]
def c_turretlaw04_face_1 : SCode := .reg [⟨(some 3), none, .buildSl 101 3 [(.int .i64 0), (.int .i64 0), (.int .i64 0)] 0 [], [], false⟩,
  ⟨(some 4), none, .fld 2 (.tmp 1), [], false⟩,
  ⟨(some 5), none, .load false 1 (.tmp 4), [], false⟩,
  ⟨(some 6), none, .append 101 3 24 (.tmp 3) (.tmp 5), [], false⟩,
  ⟨(some 7), none, .fld 2 (.tmp 1), [], false⟩,
  ⟨none, none, .store 1 (.tmp 7) (.tmp 6), [], false⟩] [1, 2]
def c_turretlaw04_face_2 : SCode := .reg [⟨(some 8), none, .load true 5 (.tmp 1), [], false⟩,
  ⟨none, none, .store 5 (.tmp 2) (.tmp 8), [], false⟩] [2]
def c_turretlaw04_face_3 : SCode := .seq c_turretlaw04_face_2 .ret
def c_turretlaw04_face_4 : SCode := .seq c_turretlaw04_face_1 c_turretlaw04_face_3
def c_turretlaw04_face_5 : SCode := .seq c_turretlaw04_face_0 c_turretlaw04_face_4
@[simp] def rs_turretlaw04_face : List SRes := [.cell 2 true 5]
theorem law_turretlaw04_face (cs : List CV) (r : CV) (hl : cs.length ≤ 9) (h : STri (cfF Try.prog [] 9) c_turretlaw04_face_5 (initT 0 cs) [] (retQ rs_turretlaw04_face r)) : SC Try.prog 35 cs r :=
  sc_of [] follows Try.func35 rfl Try.ntmps35 (by decide) (by kernel_rfl) (by kernel_rfl) hl h

-- turret/turretlaw04.byteOf (61)
def c_turretlaw04_byteOf_0 : SCode := .reg [⟨(some 4), none, .mov (.const (.int .i64 0)), [], false⟩] [0, 1]
def c_turretlaw04_byteOf_1 : SCode := .reg [⟨(some 5), none, .mov (.tmp 0), [], false⟩,
  ⟨(some 6), none, .len (.tmp 5), [], false⟩,
  ⟨(some 7), none, .bin .eql (.tmp 6) (.const (.int .i64 0)), [], false⟩] [0, 1, 7]
def c_turretlaw04_byteOf_2 : SCode := .reg [⟨(some 4), none, .mov (.const (.int .i64 0)), [], false⟩] [4]
def c_turretlaw04_byteOf_3 : SCode := .seq c_turretlaw04_byteOf_2 .ret
def c_turretlaw04_byteOf_4 : SCode := .cond (.tmp 7) c_turretlaw04_byteOf_3 .skip
def c_turretlaw04_byteOf_5 : SCode := .seq c_turretlaw04_byteOf_1 c_turretlaw04_byteOf_4
def c_turretlaw04_byteOf_6 : SCode := .reg [⟨(some 8), none, .mov (.tmp 0), [], false⟩,
  ⟨(some 9), none, .mov (.tmp 1), [], false⟩,
  ⟨(some 10), none, .mov (.tmp 0), [], false⟩,
  ⟨(some 11), none, .len (.tmp 10), [], false⟩,
  ⟨(some 12), none, .bin .rem (.tmp 9) (.tmp 11), [], false⟩,
  ⟨(some 13), none, .idxS 1 (.tmp 8) (.tmp 12), [], false⟩,
  ⟨(some 14), none, .load false 1 (.tmp 13), [], false⟩,
  ⟨(some 15), none, .conv .i64 (.tmp 14), [], false⟩,
  ⟨(some 4), none, .mov (.tmp 15), [], false⟩] [4]
def c_turretlaw04_byteOf_7 : SCode := .seq c_turretlaw04_byteOf_6 .ret
def c_turretlaw04_byteOf_8 : SCode := .seq c_turretlaw04_byteOf_5 c_turretlaw04_byteOf_7
def c_turretlaw04_byteOf_9 : SCode := .seq c_turretlaw04_byteOf_0 c_turretlaw04_byteOf_8
@[simp] def rs_turretlaw04_byteOf : List SRes := [.tmp 4]
theorem law_turretlaw04_byteOf (cs : List CV) (r : CV) (hl : cs.length ≤ 16) (h : STri (cfF Try.prog [] 16) c_turretlaw04_byteOf_9 (initT 0 cs) [] (retQ rs_turretlaw04_byteOf r)) : SC Try.prog 61 cs r :=
  sc_of [] follows Try.func61 rfl Try.ntmps61 (by decide) (by kernel_rfl) (by kernel_rfl) hl h

end Go.Proofs.Ytnfggkopledpcaa
/- The shadow code of functions, as the kit's translation has them. -/
namespace Go.Proofs.Ytnfggkopledpcaa
open Go.RowKit



end Go.Proofs.Ytnfggkopledpcaa
/- Own slices that lie in boxes are closed. -/
namespace Go.Proofs.Ytnfggkopledpcaa
open Go.RowKit

section
variable {cf : Cf} {cx : Cx} {T T' : TL} {H H' : HL} {a : Act} {w : World} {F : Nat → Option Blk} {ρ : Nat → Option Nat}

/-- A cell stays, or is an own slice that is closed. -/
def CloC (H : HL) (X : Nat → Prop) (x y : SV) : Prop := x = y ∨ ∃ id t k rows, x = .own id rows.length ∧ lookH H id = some (.arr t k rows) ∧ X id ∧ y = .c (.sl k rows)
def CloL (H : HL) (X : Nat → Prop) : List SV → List SV → Prop
  | [], [] => True
  | x :: xs, y :: ys => CloC H X x y ∧ CloL H X xs ys
  | _, _ => False

theorem CloL.get {X : Nat → Prop} : ∀ {xs ys : List SV}, CloL H X xs ys → xs.length = ys.length ∧ ∀ (i : Nat) y, ys[i]? = some y → ∃ x, xs[i]? = some x ∧ CloC H X x y
  | [], [], _ => ⟨rfl, fun i y h => by simp at h⟩
  | x :: xs, y :: ys, h => by
    obtain ⟨h1, h2⟩ := CloL.get h.2
    refine ⟨by simp [h1], fun i z hz => ?_⟩
    cases i with
    | zero => simp at hz; subst hz; exact ⟨x, by simp, h.1⟩
    | succ i => simp at hz ⊢; exact h2 i z hz
  | [], _ :: _, h => h.elim
  | _ :: _, [], h => h.elim

/-- As Drop, and cells of boxes may be closed. -/
structure Shut (cf : Cf) (H H' : HL) (X : Nat → Prop) : Prop where
  at' : ∀ i, X i → cf.b ≤ i ∧ i < cf.b + 1000 ∧ i ∉ cf.K
  keep : ∀ i, ¬ X i → lookH H' i = lookH H i ∨ ∃ t cs cs', lookH H i = some (.box t cs) ∧ lookH H' i = some (.box t cs') ∧ CloL H X cs cs'
  gone : ∀ i, X i → lookH H' i = none
  gh : lookH H' (1000000000 + cf.b) = lookH H (1000000000 + cf.b)
  cl : ∀ i t cells, lookH H' i = some (.box t cells) → inPL (fun j => ¬ X j) cells

/-- The blocks that stay. -/
theorem Shut.eqs {X : Nat → Prop} (d : Shut cf H H' X) (out : ∀ i, Rg cf.b i → F i = none) (i : Nat) : (X i → tot F (lookH H') i = none) ∧ (¬ X i → tot F (lookH H') i = tot F (lookH H) i ∨ ∃ t cs cs', tot F (lookH H) i = some (.box t cs) ∧ tot F (lookH H') i = some (.box t cs') ∧ CloL H X cs cs') := by
  refine ⟨fun hi => ?_, fun hi => ?_⟩
  · rw [tot_none (d.gone i hi)]
    exact out i (.inl ⟨(d.at' i hi).1, (d.at' i hi).2.1⟩)
  · rcases d.keep i hi with h | ⟨t, cs, cs', h1, h2, h3⟩
    · left; unfold tot; rw [h]
    · right; exact ⟨t, cs, cs', tot_some h1, tot_some h2, h3⟩

theorem RepS.less2 {w : World} {NA : Nat → Prop} {ρ : Nat → Option Nat} {H H' : Nat → Option Blk} {D : Nat → Prop} (hs : ∀ id, H' id ≠ none → H id ≠ none) (hD : ∀ id B, H id = some B → D id → H' id = some B ∨ ∃ t cs cs', B = .box t cs ∧ H' id = some (.box t cs')) {x : SV} {v : Value}
    (h : RepS w NA ρ H x v) (hx : x.inP D) : RepS w NA ρ H' x v := by
  have calm : Calm w (Mut NA ρ H) w (Mut NA ρ H') := ⟨Nat.le_refl _, fun b _ hn => ⟨rfl, fun hm => by
    rcases hm with hm | ⟨i, h1, h2⟩
    · exact hn (.inl hm)
    · exact hn (.inr ⟨i, hs i h1, h2⟩)⟩⟩
  induction h with
  | c x v r => exact .c x v (r.move calm)
  | agg xs vs h1 _ ih => exact .agg xs vs h1 (fun i x v hx' hv => ih i x v hx' hv (inPL_get hx i x hx'))
  | tup xs vs h1 _ ih => exact .tup xs vs h1 (fun i x v hx' hv => ih i x v hx' hv (inPL_get hx i x hx'))
  | own id len t k rows v hH hl ho hv =>
    rcases hD id _ hH hx with h | ⟨_, _, _, h, _⟩
    · exact .own id len t k rows v h hl ho hv
    · cases h
  | ptrB id j t cells b hH hb =>
    rcases hD id _ hH hx with h | ⟨t', cs, cs', h, h'⟩
    · exact .ptrB id j t cells b h hb
    · cases h; exact .ptrB id j t cs' b h' hb
  | ptrA id len i j t k rows v hH hl ho hv =>
    rcases hD id _ hH hx with h | ⟨_, _, _, h, _⟩
    · exact .ptrA id len i j t k rows v h hl ho hv
    · cases h
  | pel k rows i j b off c hc hi => exact .pel k rows i j b off c (hc.move calm) hi
  | fn f fs cs vf vc h1 h2 _ _ ih1 ih2 =>
    exact .fn f fs cs vf vc h1 h2 (fun i x v hx' hv => ih1 i x v hx' hv (inPL_get hx.1 i x hx')) (fun i x v hx' hv => ih2 i x v hx' hv (inPL_get hx.2 i x hx'))
  | yl id lo b hH hb =>
    rcases hD id _ hH hx with h | ⟨_, _, _, h, _⟩
    · exact .yl id lo b h hb
    · cases h
  | om id ag kd es b hH hb =>
    rcases hD id _ hH hx with h | ⟨_, _, _, h, _⟩
    · exact .om id ag kd es b h hb
    · cases h
  | dead v => exact .dead v

theorem Shut.ne {X : Nat → Prop} (d : Shut cf H H' X) (out : ∀ i, Rg cf.b i → F i = none) (id : Nat) (hn : tot F (lookH H') id ≠ none) : tot F (lookH H) id ≠ none ∧ ¬ X id := by
  by_cases hx : X id
  · exact absurd ((d.eqs out id).1 hx) hn
  · rcases (d.eqs out id).2 hx with h | ⟨t, cs, cs', h1, _⟩
    · exact ⟨by rw [← h]; exact hn, hx⟩
    · exact ⟨by rw [h1]; simp, hx⟩

theorem Shut.sub {X : Nat → Prop} (d : Shut cf H H' X) (out : ∀ i, Rg cf.b i → F i = none) {x : SV} {v : Value} {NA : Nat → Prop} (r : RepS w NA ρ (tot F (lookH H)) x v) (hx : x.inP (fun j => ¬ X j)) : RepS w NA ρ (tot F (lookH H')) x v := by
  refine r.less2 (D := fun j => ¬ X j) (fun id hn => (d.ne out id hn).1) (fun id B hB hid => ?_) hx
  rcases (d.eqs out id).2 hid with h | ⟨t, cs, cs', h1, h2, _⟩
  · left; rw [h, hB]
  · right; rw [hB] at h1; cases h1; exact ⟨t, cs, cs', rfl, h2⟩

/-- A slice of the call's own whose block is let go: it is closed. -/
theorem shut_own (h : StAt cf cx T H a w F ρ) {X : Nat → Prop} (d : Shut cf H H' X) {id : Nat} {t : TypeId} {k : Nat} {rows : List (List CV)} (hH : lookH H id = some (.arr t k rows)) (hX : X id) {v : Value} (hv : RepS w cx.NA ρ (tot F (lookH H)) (.own id rows.length) v) :
    RepS w cx.NA ρ (tot F (lookH H')) (.c (.sl k rows)) v := by
  have hne := d.ne (F := F) h.out
  have calm : Calm w (Mut cx.NA ρ (tot F (lookH H))) w (Mut cx.NA ρ (tot F (lookH H'))) := ⟨Nat.le_refl _, fun b _ hn => ⟨rfl, fun hm => by
    rcases hm with hm | ⟨i, h1, h2⟩
    · exact hn (.inl hm)
    · exact hn (.inr ⟨i, (hne i h1).1, h2⟩)⟩⟩
  have e2 := tot_some (F := F) hH
  have q1 := h.rep.heap
  cases hv with
  | own _ _ t' k' rows' _ hH' hl ho hv =>
    rw [e2] at hH'; cases hH'
    rcases hv rfl with ⟨q0, q1', rfl⟩ | ⟨b, cap, cs, t2, p1, rfl, p3, p4, p5, p6⟩
    · have : rows = [] := List.length_eq_zero_iff.1 q1'
      subst this; exact .c _ _ (.nil k none 0 (Nat.zero_le _))
    · rcases q1.blk id _ e2 with ⟨g1, _⟩ | ⟨b', cs', cap', g1, g2, g3, g4, g5, g6, g7⟩
      · rw [p1] at g1; cases g1
      · rw [p1] at g1; cases g1
        rw [p3] at g2; cases g2
        have hown : Own ρ (tot F (lookH H)) b := ⟨id, by rw [e2]; simp, p1⟩
        refine .c _ _ (.sl k rows b 0 cap (fun j i => cs.getD (j * k + i) undef) p5 p6 (q1.lt hown) (fun hm => ?_) g6 (fun j row i x hj hx => ?_) (fun j row i x hj hx => ?_))
        · rcases hm with hm | ⟨j, z1, z2⟩
          · exact cx.nn b hm (q1.low b hown (cx.na b hm))
          · obtain ⟨z3, z4⟩ := hne j z1
            have := q1.inj j id b z3 (by rw [e2]; simp) z2 p1
            subst this
            exact z4 hX
        · obtain ⟨v, hv1, _⟩ := g7 j row i x hj hx
          rw [Nat.zero_add, cell_of_row w b (j * k + i) cs _ (0, 0) p3]
          simp [hv1]
        · obtain ⟨v, hv1, hv2⟩ := g7 j row i x hj hx
          have : cs.getD (j * k + i) undef = v := by simp [hv1]
          rw [this]; exact hv2.move calm

theorem Shut.cell (h : StAt cf cx T H a w F ρ) {X : Nat → Prop} (d : Shut cf H H' X) {x y : SV} (hc : CloC H X x y) (hy : y.inP (fun j => ¬ X j)) {v : Value} (hv : RepS w cx.NA ρ (tot F (lookH H)) x v) : RepS w cx.NA ρ (tot F (lookH H')) y v := by
  rcases hc with rfl | ⟨id, t, k, rows, rfl, h2, h3, rfl⟩
  · exact d.sub h.out hv hy
  · exact shut_own h d h2 h3 hv

theorem StAt.shut (ok : cf.ok) (hHs : ∀ i, cf.b ≤ i → i < cf.b + 1000 → i ∉ cf.K → cx.Hs i = none) (h : StAt cf cx T H a w F ρ) {X : Nat → Prop} (d : Shut cf H H' X)
    (hT : ∀ i, (∀ v, RepS w cx.NA ρ (tot F (lookH H)) (lookT T i) v → RepS w cx.NA ρ (tot F (lookH H')) (lookT T' i) v)) : StAt cf cx T' H' a w F ρ := by
  have tt := d.eqs (F := F) h.out
  have hne := d.ne (F := F) h.out
  have own : ∀ b, Mut cx.NA ρ (tot F (lookH H')) b → Mut cx.NA ρ (tot F (lookH H)) b := fun b hm => by
    rcases hm with hm | ⟨i, h1, h2⟩
    · exact .inl hm
    · exact .inr ⟨i, (hne i h1).1, h2⟩
  have calm : Calm w (Mut cx.NA ρ (tot F (lookH H))) w (Mut cx.NA ρ (tot F (lookH H'))) := ⟨Nat.le_refl _, fun b _ hn => ⟨rfl, fun hm => hn (own b hm)⟩⟩
  have hgh := d.gh
  have hsub : ∀ i, lookH H' i ≠ none → lookH H i ≠ none := fun i hi => by
    by_cases hx : X i
    · exact absurd (d.gone i hx) hi
    · rcases d.keep i hx with h | ⟨t, cs, cs', h1, _⟩
      · rw [← h]; exact hi
      · rw [h1]; simp
  have boxF : ∀ id t cells, tot F (lookH H') id = some (.box t cells) → inPL (fun j => ¬ X j) cells := fun id t cells hB => by
    cases hL : lookH H' id with
    | some B =>
      rw [tot_some hL] at hB; cases hB
      exact d.cl id t cells hL
    | none =>
      rw [tot_none hL] at hB
      refine inPL_mono (fun j hj hx => hj ?_) cells (h.cl id t cells hB)
      exact h.out j (.inl ⟨(d.at' j hx).1, (d.at' j hx).2.1⟩)
  refine ⟨by unfold kOf at *; rw [hgh]; exact h.iv, h.cl, h.out, h.ol, fun i hi => h.dis i (hsub i hi), by rw [hgh]; exact h.yd, fun i hi => ?_, h.dm, ⟨h.rep.size, ⟨fun i j b h1 h2 => h.rep.heap.inj i j b (hne i h1).1 (hne j h2).1, fun id B hB => ?_, h.rep.heap.fr, fun b hb => h.rep.heap.low b ?_⟩, fun i => hT i _ (h.rep.tmp i)⟩, fun x v hx => ?_, ⟨h.tr.1.trans calm, fun i => ?_⟩, ?_⟩
  · exact h.av i (hsub i hi)
  · have hx : ¬ X id := (hne id (by rw [hB]; simp)).2
    rcases (tt id).2 hx with he | ⟨t, cs, cs', e1, e2, e3⟩
    · have hr := h.rep.heap.blk id B (by rw [← he]; exact hB)
      cases B with
      | box t cells =>
        obtain ⟨b, cs, e1, e2, e3, e4⟩ := hr
        exact ⟨b, cs, e1, e2, e3, fun j x v hx hv => d.sub h.out (e4 j x v hx hv) (inPL_get (boxF id t cells hB) j x hx)⟩
      | arr t k rows =>
        rcases hr with ⟨e1, e2⟩ | ⟨b, cs, cap, e1, e2, e3, e4, e5, e6, e7⟩
        · exact .inl ⟨e1, e2⟩
        · exact .inr ⟨b, cs, cap, e1, e2, e3, e4, e5, e6, fun j row m x hr hx => by
            obtain ⟨v, hv1, hv2⟩ := e7 j row m x hr hx
            exact ⟨v, hv1, hv2.move calm⟩⟩
      | map ag kd es =>
        obtain ⟨b, ents, clock, e1, e2, e3, e4⟩ := hr
        exact ⟨b, ents, clock, e1, e2, e3, fun i p e hp he => (e4 i p e hp he).move calm⟩
      | loop lo => exact hr
      | gh k s => exact hr
    · rw [e2] at hB; cases hB
      obtain ⟨b, vs, q1, q2, q3, q4⟩ := h.rep.heap.blk id _ e1
      obtain ⟨c1, c2⟩ := e3.get
      refine ⟨b, vs, q1, q2, by rw [q3, c1], fun j y v hy hv => ?_⟩
      obtain ⟨x, hx1, hx2⟩ := c2 j y hy
      exact d.cell h hx2 (inPL_get (boxF id t cs' e2) j y hy) (q4 j x v hx1 hv)
  · obtain ⟨i, h1, h2⟩ := hb
    exact ⟨i, (hne i h1).1, h2⟩
  · refine d.sub h.out (h.gh x v hx) (inP_mono (fun j hj hX => ?_) x (ok.G x v hx))
    obtain ⟨q1, q2, q3⟩ := d.at' j hX
    exact q3 (hj (.inl ⟨q1, q2⟩))
  · have hi := h.tr.2 i
    by_cases hX : X i
    · obtain ⟨q1, q2, q3⟩ := d.at' i hX
      have := hHs i q1 q2 q3
      refine ⟨fun B hB _ => ?_, fun t k rows hB => ?_⟩
      · rw [this] at hB; cases hB
      · rw [this] at hB; cases hB
    · refine hi.trans ?_
      rcases (tt i).2 hX with he | ⟨t, cs, cs', e1, e2, _⟩
      · unfold KeepI
        rw [he]
        exact KeepI.refl w ρ _ i
      · refine ⟨fun B hB _ => ⟨_, e2, ?_, rfl⟩, fun t k rows hB => ?_⟩
        · rw [e1] at hB; cases hB; rfl
        · rw [e1] at hB; cases hB
  · obtain ⟨Ds, h1, h2, h3⟩ := h.df
    exact ⟨Ds, h1, h2, fun D hD => by
      obtain ⟨l, q1, q2, q3⟩ := h3 D hD
      exact ⟨l, q1, fun hm => q2 (own D hm), q3⟩⟩

end

def ownS (X : List Nat) (H : HL) : SV → SV → Prop
  | .own id n, .c (.sl k rows) => n = rows.length ∧ X.contains id = true ∧ ∃ t, lookH H id = some (.arr t k rows)
  | _, _ => False
def ownL (X : List Nat) (H : HL) : List SV → List SV → Prop
  | [], [] => True
  | x :: xs, y :: ys => (x = y ∨ ownS X H x y) ∧ ownL X H xs ys
  | _, _ => False
theorem ownS_clo {X : List Nat} {H : HL} : ∀ {x y : SV}, ownS X H x y → CloC H (fun i => i ∈ X) x y := fun {x y} h => by
  unfold ownS at h
  split at h
  · obtain ⟨rfl, h2, t, h3⟩ := h
    exact .inr ⟨_, t, _, _, rfl, h3, by simpa using h2, rfl⟩
  · exact h.elim
theorem ownL_clo {X : List Nat} {H : HL} : ∀ {xs ys : List SV}, ownL X H xs ys → CloL H (fun i => i ∈ X) xs ys
  | [], [], _ => trivial
  | _ :: _, _ :: _, h => ⟨h.1.elim .inl ownS_clo, ownL_clo h.2⟩
  | [], _ :: _, h => h.elim
  | _ :: _, [], h => h.elim
def ShutB (X : List Nat) (H : HL) : Blk → Blk → Prop
  | .box t cs, .box t' cs' => t = t' ∧ ownL X H cs cs'
  | B, B' => B = B'
theorem shutB_or {X : List Nat} {H : HL} {B B' : Blk} (h : ShutB X H B B') : B = B' ∨ ∃ t cs cs', B = .box t cs ∧ B' = .box t cs' ∧ CloL H (fun i => i ∈ X) cs cs' := by
  unfold ShutB at h
  split at h
  · obtain ⟨rfl, h⟩ := h; exact .inr ⟨_, _, _, rfl, rfl, ownL_clo h⟩
  · exact .inl h
def ShutH (X : List Nat) (H : HL) : HL → Prop
  | [] => True
  | (id, B') :: r => (∃ B, lookH H id = some B ∧ ShutB X H B B') ∧ B'.outD X = true ∧ ShutH X H r

theorem ShutH.get {X : List Nat} {H : HL} : ∀ {H' : HL}, ShutH X H H' → ∀ i B', lookH H' i = some B' → (∃ B, lookH H i = some B ∧ ShutB X H B B') ∧ B'.outD X = true
  | [], _, i, B, h => by simp [lookH] at h
  | (j, C) :: r, h, i, B, hB => by
    obtain ⟨h1, h2, h3⟩ := h
    by_cases hi : i = j
    · subst hi; simp [lookH] at hB; subst hB; exact ⟨h1, h2⟩
    · simp only [lookH, if_neg hi] at hB; exact ShutH.get h3 i B hB

theorem shut_drop {cf : Cf} {H H' : HL} (hb : cf.b + 1000 ≤ 1000000000) (hg : lookH H (1000000000 + cf.b) = none ∨ ∃ k s, lookH H (1000000000 + cf.b) = some (.gh k s)) (h1 : dropOK cf (dropK H (H'.map (·.1))) = true) (h2 : ShutH (dropK H (H'.map (·.1))) H H') : Shut cf H H' (fun i => i ∈ dropK H (H'.map (·.1))) := by
  have mem : ∀ i, i ∈ dropK H (H'.map (·.1)) ↔ i ∈ H.map (·.1) ∧ i ∉ H'.map (·.1) := fun i => by
    unfold dropK; rw [List.mem_filter]
    simp only [Bool.not_eq_true', List.contains_eq_mem, decide_eq_false_iff_not]
  have at' : ∀ i, i ∈ dropK H (H'.map (·.1)) → cf.b ≤ i ∧ i < cf.b + 1000 ∧ i ∉ cf.K := fun i hi => by
    unfold dropOK at h1
    rw [List.all_eq_true] at h1
    have := h1 i hi
    simp only [Bool.and_eq_true, decide_eq_true_eq, Bool.not_eq_true', List.contains_eq_mem, decide_eq_false_iff_not] at this
    exact ⟨this.1.1, this.1.2, this.2⟩
  have keep : ∀ i, ¬ i ∈ dropK H (H'.map (·.1)) → lookH H' i = lookH H i ∨ ∃ t cs cs', lookH H i = some (.box t cs) ∧ lookH H' i = some (.box t cs') ∧ CloL H (fun i => i ∈ dropK H (H'.map (·.1))) cs cs' := fun i hi => by
    cases hB : lookH H' i with
    | some B' =>
      obtain ⟨⟨B, e1, e2⟩, _⟩ := h2.get i B' hB
      rcases shutB_or e2 with rfl | ⟨t, cs, cs', rfl, rfl, e3⟩
      · left; rw [e1]
      · right; exact ⟨t, cs, cs', e1, rfl, e3⟩
    | none =>
      cases hC : lookH H i with
      | none => left; rfl
      | some C =>
        exfalso
        refine hi ((mem i).2 ⟨mem_lookH (by rw [hC]; simp), fun hm => ?_⟩)
        obtain ⟨B, hB'⟩ := lookH_mem hm
        rw [hB] at hB'; cases hB'
  refine ⟨at', keep, fun i hi => ?_, ?_, fun i t cells hB => ?_⟩
  · cases hB : lookH H' i with
    | none => rfl
    | some B => exact absurd (mem_lookH (by rw [hB]; simp)) ((mem i).1 hi).2
  · have hn : ¬ (1000000000 + cf.b) ∈ dropK H (H'.map (·.1)) := fun hm => by have := (at' _ hm).2.1; omega
    rcases keep _ hn with h | ⟨t, cs, cs', e1, _⟩
    · exact h
    · rcases hg with hg | ⟨k, s, hg⟩
      · rw [e1] at hg; cases hg
      · rw [e1] at hg; cases hg
  · have := (h2.get i _ hB).2
    exact outDL_inP cells this

theorem shut_rep {cf : Cf} (ok : cf.ok) {cx : Cx} (hHs : ∀ i, cf.b ≤ i → i < cf.b + 1000 → i ∉ cf.K → cx.Hs i = none) {T T' : TL} {H H' : HL} (h0 : dropOK cf (dropK H (H'.map (·.1))) = true) (h1 : ClosT (dropK H (H'.map (·.1))) T H T') (h2 : ShutH (dropK H (H'.map (·.1))) H H') {a : Act} {w : World} (h : RepSt cf cx T H a w) : RepSt cf cx T' H' a w := by
  obtain ⟨F, ρ, h⟩ := h
  have d := shut_drop ok.b h.yd h0 h2
  refine ⟨F, ρ, h.shut ok hHs d (fun i v hv => ?_)⟩
  rcases h1.get i with e | ⟨e1, e2⟩ | ⟨id, t, k, rows, e1, e2, e3, e4⟩
  · rw [e]; exact .dead _
  · rw [← e1] at hv
    exact d.sub h.out hv (outD_inP _ e2)
  · rw [e4]
    rw [e1] at hv
    exact shut_own h d e2 e3 hv

/-- Own slices are closed, also those that lie in boxes; their blocks are let go. -/
theorem st_shut {cf : Cf} {sc : SCode} {T : TL} {H : HL} {Q : Exit → TL → HL → Prop} (T' : TL) (H' : HL) (hl0 : dropOK cf (dropK H (H'.map (·.1))) = true) (hl1 : ClosT (dropK H (H'.map (·.1))) T H T') (hl2 : ShutH (dropK H (H'.map (·.1))) H H') (h : STri cf sc T' H' Q) : STri cf sc T H Q :=
  st_weak (fun ok _ hHs _ _ hr => shut_rep ok hHs hl0 hl1 hl2 hr) h

/-- One own slice is closed wherever it lies. -/
@[simp] def shS (id k : Nat) (rows : List (List CV)) : SV → SV
  | .own i n => if i = id then .c (.sl k rows) else .own i n
  | x => x
@[simp] def shB (id k : Nat) (rows : List (List CV)) : Blk → Blk
  | .box t cs => .box t (cs.map (shS id k rows))
  | B => B
@[simp] def shT (id k : Nat) (rows : List (List CV)) : TL → TL
  | [] => []
  | (i, x) :: r => (i, shS id k rows x) :: shT id k rows r
@[simp] def shH (id k : Nat) (rows : List (List CV)) : HL → HL
  | [] => []
  | (i, B) :: r => if i = id then shH id k rows r else (i, shB id k rows B) :: shH id k rows r

def ClosO (X : List Nat) (T : TL) (H : HL) : TL → Prop
  | [] => True
  | (i, x) :: r => ((lookT T i = x ∧ x.outD X = true) ∨ ownS X H (lookT T i) x) ∧ ClosO X T H r
theorem ClosO.clos {X : List Nat} {T : TL} {H : HL} : ∀ {T' : TL}, ClosO X T H T' → ClosT X T H T'
  | [], _ => trivial
  | (_, _) :: _, h => ⟨h.1.elim .inl fun h => by
      generalize lookT _ _ = y at *
      unfold ownS at h
      split at h
      · obtain ⟨rfl, h2, t, h3⟩ := h
        exact .inr ⟨_, t, _, _, rfl, h3, h2, rfl⟩
      · exact h.elim, ClosO.clos h.2⟩

theorem st_shut1 {cf : Cf} {sc : SCode} {T : TL} {H : HL} {Q : Exit → TL → HL → Prop} (id : Nat) {t : TypeId} {k : Nat} {rows : List (List CV)} (hid : lookH H id = some (.arr t k rows)) (hl0 : dropOK cf (dropK H ((shH id k rows H).map (·.1))) = true)
    (hl1 : ClosO (dropK H ((shH id k rows H).map (·.1))) T H (shT id k rows T)) (hl2 : ShutH (dropK H ((shH id k rows H).map (·.1))) H (shH id k rows H)) (h : STri cf sc (shT id k rows T) (shH id k rows H) Q) : STri cf sc T H Q :=
  st_shut _ _ hl0 hl1.clos hl2 h

end Go.Proofs.Ytnfggkopledpcaa
/- Dial: the ends of what a dial can be off by. -/
namespace Go.Proofs.Ytnfggkopledpcaa
open Go.RowKit

def rhLo (k : Lo) (e : Int) : Int := handLo k.f (slackI k.f.links) (dAt k e) k.wlo - k.at'
def rhHi (k : Lo) (e : Int) : Int := handHi k.f (slackI k.f.links) (dAt k e) k.wlo k.whi - k.at'
theorem rh_bd {k : Lo} (hk : LoSm k) (hok : fcOK k.f = true) (e : Int) (h1 : k.w.elo ≤ e) (h2 : e ≤ k.w.ehi) : (-10000000000 ≤ rhLo k e ∧ rhLo k e ≤ 10000000000) ∧ -10000000000 ≤ rhHi k e ∧ rhHi k e ≤ 10000000000 := by
  have hs := fc_sm hok
  have b1 := hs.a
  have b2 := hs.b
  have b3 := hs.c
  have b4 := hs.d
  have b5 := hs.k
  have b6 := hs.j
  have j1 := hk.w.a
  have j2 := hk.w.b
  have e1 := hk.w.c
  have e4 := hk.w.f
  obtain ⟨g1, g2, g3, g4⟩ := lag_le k.f (slackI k.f.links) (dAt k e) k.wlo k.whi b6
  obtain ⟨d1, d2⟩ := down_le (n := k.at' + e) (b := k.w.jump) (by omega)
  unfold rhLo rhHi handLo handHi
  unfold dAt at *
  omega

theorem selMin {l : List (Int × Int)} : ∀ {k : Nat}, 1 ≤ k → k ≤ l.length → ∀ (i : Nat) (h : i < l.length), i < k → (selK (minB fun x y => x.1 - y.1) l k).1 ≤ l[i].1
  | 0, h, _, _, _, _ => by omega
  | 1, _, hl, i, h, hi => by
    have : i = 0 := by omega
    subst this
    rw [selK_one _ h]; exact Int.le_refl _
  | k + 2, _, hl, i, h, hi => by
    have ih := selMin (l := l) (k := k + 1) (by omega) (by omega)
    rw [selK_succ _ (by omega) (by omega)]
    by_cases hc : (minB fun x y => x.1 - y.1) l[k + 1] (selK (minB fun x y => x.1 - y.1) l (k + 1)) = true
    · rw [if_pos hc]
      simp only [minB, decide_eq_true_eq] at hc
      by_cases hik : i = k + 1
      · subst hik; exact Int.le_refl _
      · have := ih i h (by omega); omega
    · rw [if_neg hc]
      simp only [minB, decide_eq_true_eq] at hc
      by_cases hik : i = k + 1
      · subst hik; omega
      · exact ih i h (by omega)
theorem selMax {l : List (Int × Int)} : ∀ {k : Nat}, 1 ≤ k → k ≤ l.length → ∀ (i : Nat) (h : i < l.length), i < k → l[i].2 ≤ (selK (maxB fun x y => x.2 - y.2) l k).2
  | 0, h, _, _, _, _ => by omega
  | 1, _, hl, i, h, hi => by
    have : i = 0 := by omega
    subst this
    rw [selK_one _ h]; exact Int.le_refl _
  | k + 2, _, hl, i, h, hi => by
    have ih := selMax (l := l) (k := k + 1) (by omega) (by omega)
    rw [selK_succ _ (by omega) (by omega)]
    by_cases hc : (maxB fun x y => x.2 - y.2) l[k + 1] (selK (maxB fun x y => x.2 - y.2) l (k + 1)) = true
    · rw [if_pos hc]
      simp only [maxB, decide_eq_true_eq] at hc
      by_cases hik : i = k + 1
      · subst hik; exact Int.le_refl _
      · have := ih i h (by omega); omega
    · rw [if_neg hc]
      simp only [maxB, decide_eq_true_eq] at hc
      by_cases hik : i = k + 1
      · subst hik; omega
      · exact ih i h (by omega)

theorem down_mono {a b j : Int} (h : a ≤ b) (hj : 0 < j) : downI a j ≤ downI b j := by
  have e : ∀ n, downI n j = n / j * j := fun n => by
    unfold downI
    have := Int.emod_add_mul_ediv n j
    rw [Int.mul_comm (n / j) j]; omega
  rw [e, e]
  exact Int.mul_le_mul_of_nonneg_right (Int.ediv_le_ediv hj h) (by omega)

/-- To each second the hands are driven to one of the places. -/
theorem dr_to {k : Lo} (hk : LoSm k) {e : Int} (h1 : k.w.elo ≤ e) (h2 : e ≤ k.w.ehi) : dAt k e ∈ drL k.w k.at' k.at' := by
  have j1 := hk.w.a
  obtain ⟨q0, hq0⟩ := down_is (k.at' + k.w.elo) k.w.jump
  obtain ⟨q, hq⟩ := down_is (k.at' + e) k.w.jump
  have hm := down_mono (show k.at' + k.w.elo ≤ k.at' + e by omega) (show 0 < k.w.jump by omega)
  obtain ⟨_, d2⟩ := down_le (n := k.at' + e) (b := k.w.jump) (by omega)
  have hqq : q0 ≤ q := by
    rw [hq0, hq] at hm
    exact Int.le_of_mul_le_mul_right hm (by omega)
  have hat : drAt k.w k.at' (q - q0).toNat = dAt k e := by
    unfold drAt dAt
    rw [hq0, hq, Int.toNat_of_nonneg (by omega), Int.sub_mul]; omega
  unfold drL
  refine List.mem_map.2 ⟨(q - q0).toNat, List.mem_range.2 ((dr_lt (by omega)).2 ?_), hat⟩
  rw [hat]
  unfold dAt
  omega

theorem off_le {k : Lo} (hk : LoSm k) {e : Int} (h1 : k.w.elo ≤ e) (h2 : e ≤ k.w.ehi) : offLo k ≤ rhLo k e ∧ rhHi k e ≤ offHi k := by
  obtain ⟨l1, _⟩ := haL_len hk
  have hm : (handLo k.f (slackI k.f.links) (dAt k e) k.wlo, handHi k.f (slackI k.f.links) (dAt k e) k.wlo k.whi) ∈ haL k := List.mem_map.2 ⟨_, dr_to hk h1 h2, rfl⟩
  obtain ⟨i, hi, he⟩ := List.getElem_of_mem hm
  have q1 := selMin (l := haL k) (k := (haL k).length) (by omega) (Nat.le_refl _) i hi hi
  have q2 := selMax (l := haL k) (k := (haL k).length) (by omega) (Nat.le_refl _) i hi hi
  rw [he] at q1 q2
  unfold offLo offHi rhLo rhHi
  simp only at q1 q2
  omega

theorem off_at {k : Lo} (hk : LoSm k) : (∃ e, k.w.elo ≤ e ∧ e ≤ k.w.ehi ∧ rhLo k e = offLo k) ∧ ∃ e, k.w.elo ≤ e ∧ e ≤ k.w.ehi ∧ rhHi k e = offHi k := by
  obtain ⟨l1, _⟩ := haL_len hk
  constructor
  · have hm := selK_mem (minB fun x y => x.1 - y.1) l1 (k := (haL k).length) (by omega) (Nat.le_refl _)
    obtain ⟨d, hd, he⟩ := List.mem_map.1 hm
    obtain ⟨e, h1, h2, h3⟩ := dr_from hk hd
    refine ⟨e, h1, h2, ?_⟩
    unfold rhLo offLo
    rw [h3, ← he]
  · have hm := selK_mem (maxB fun x y => x.2 - y.2) l1 (k := (haL k).length) (by omega) (Nat.le_refl _)
    obtain ⟨d, hd, he⟩ := List.mem_map.1 hm
    obtain ⟨e, h1, h2, h3⟩ := dr_from hk hd
    refine ⟨e, h1, h2, ?_⟩
    unfold rhHi offHi
    rw [h3, ← he]

end Go.Proofs.Ytnfggkopledpcaa
/- Dial: the least wind lies within. -/
namespace Go.Proofs.Ytnfggkopledpcaa
open Go.RowKit

theorem lag_ord (f : Fc) (s d wlo whi : Int) (hs : 0 ≤ s) : lagLo f s d whi wlo ≤ lagHi f s d wlo := by
  unfold lagLo lagHi
  (repeat' split) <;> omega

theorem gust_whi {k : Lo} (hk : LoSm k) {d g : Int} {m : Bool} (hw : k.wlo ≤ k.whi) (hg : Gust k d (lagOf k d m) g) : g ≤ k.whi := by
  have f1 := hk.f.h
  have f3 := hk.f.j
  have key : ∃ b, k.wlo ≤ b ∧ b ≤ k.whi ∧ gustP k.f (slackI k.f.links) d (lagOf k d m) b = true := by
    by_cases h1 : k.wlo + forceI k.f d > k.f.friction
    · refine ⟨k.wlo, Int.le_refl _, hw, ?_⟩
      unfold gustP lagOf endI lagLo lagHi inB
      cases m <;> simp [h1]
    · by_cases h2 : k.whi + forceI k.f d < -k.f.friction
      · refine ⟨k.wlo, Int.le_refl _, hw, ?_⟩
        have h3 : k.wlo + forceI k.f d < -k.f.friction := by omega
        unfold gustP lagOf endI lagLo lagHi inB
        cases m <;> simp [h1, h2, h3]
      · cases m with
        | false =>
          refine ⟨k.wlo, Int.le_refl _, hw, ?_⟩
          unfold gustP lagOf endI lagLo lagHi inB
          simp [h1, h2]
          split <;> omega
        | true =>
          refine ⟨if k.wlo + forceI k.f d < -k.f.friction then -k.f.friction - forceI k.f d else k.wlo, by split <;> omega, by split <;> omega, ?_⟩
          unfold gustP lagOf endI lagLo lagHi inB
          simp only [h1, h2, if_false, Bool.not_true, Bool.false_eq_true]
          split
          · rename_i h3
            have h4 : ¬ -k.f.friction - forceI k.f d + forceI k.f d > k.f.friction := by omega
            have h5 : ¬ -k.f.friction - forceI k.f d + forceI k.f d < -k.f.friction := by omega
            simp [h4, h5, f3] <;> omega
          · rename_i h3
            simp [h1, h3, f3] <;> omega
  obtain ⟨b, b1, b2, b3⟩ := key
  rcases Int.lt_or_le k.whi g with h | h
  · have := hg.no b b1 (by omega)
    rw [b3] at this; cases this
  · exact h

theorem off_bd {k : Lo} (hk : LoSm k) (hok : fcOK k.f = true) : (-10000000000 ≤ offLo k ∧ offLo k ≤ 10000000000) ∧ -10000000000 ≤ offHi k ∧ offHi k ≤ 10000000000 := by
  obtain ⟨⟨e1, a1, a2, a3⟩, e2, b1, b2, b3⟩ := off_at hk
  have r1 := (rh_bd hk hok e1 a1 a2).1
  have r2 := (rh_bd hk hok e2 b1 b2).2
  rw [← a3, ← b3]
  exact ⟨r1, r2⟩

end Go.Proofs.Ytnfggkopledpcaa
/- Dial's laws: copies, and what they are compared with. -/
namespace Go.Proofs.Ytnfggkopledpcaa
open Go.RowKit

def largeB (w : Dw) : Bool := w.faces.any (fun f => decide (f.links.length > 10)) || decide (w.faces.length > 12)

/-- So far no face is large. -/
def SmTo (fs : List Fc) (k : Nat) : Prop := ∀ f ∈ fs.take k, f.links.length ≤ 10
theorem sm_succ {fs : List Fc} {k : Nat} (hlt : k < fs.length) (h : SmTo fs k) (hc : fs[k].links.length ≤ 10) : SmTo fs (k + 1) := fun x hx => by
  rw [List.take_succ_eq_append_getElem hlt, List.mem_append] at hx
  rcases hx with hx | hx
  · exact h x hx
  · simp at hx; subst hx; exact hc
theorem sm_all {fs : List Fc} (h : SmTo fs fs.length) : fs.any (fun f => decide (f.links.length > 10)) = false := by
  rw [List.any_eq_false]
  intro f hf
  have := h f (by rw [List.take_length]; exact hf)
  simp; omega

theorem dw_len {w : Dw} (h : ¬ largeB w = true) : DwLen w := by
  unfold largeB at h
  simp only [Bool.or_eq_true, List.any_eq_true, decide_eq_true_eq, not_or, not_exists, not_and] at h
  exact ⟨by omega, fun f hf => by have := h.1 f hf; omega⟩

theorem lLarge (w : Dw) (hw : DwMax w) : SC Try.prog 11 [cDw w] (B (largeB w)) := by
  refine law_turretlaw04_large _ _ (by simp) ?_
  have hn := hw.n
  (repeat' (first | ((first | with_reducible refine st_skip ?_ | with_reducible refine st_exit ?_); (try simp only [seqQ, blockQ, loopQ, forQ, whileQ, reduceIte, Nat.reduceEqDiff])) | (with_reducible refine st_ret ?_; ((try simp only [seqQ, blockQ, loopQ, forQ, whileQ]); first | (with_reducible refine retM_ret ?_) | refine retQ_ret ?_; simp)) | refine st_seq ?_ | refine st_block ?_ | ((first | refine st_reg ?_ | refine buildP_own ?_) <;> (simp -dsimp; (repeat (simp -dsimp (disch := (first | omega | assumption | (refine Bool.eq_false_iff.1 ?_; assumption))) only [wrap_in, if_pos, if_neg]; (try simp -dsimp))))) | ((first | refine guardP_of (fun hc => ?_) (fun hc => ?_) | refine st_cond rfl (fun hc => ?_) (fun hc => ?_)) <;> (try simp only [decide_eq_true_eq, decide_eq_false_iff_not, Bool.true_eq_false, Bool.false_eq_true, bne_iff_ne, ne_eq, bne_eq_false_iff_eq, beq_iff_eq, beq_eq_false_iff_ne, Bool.not_eq_true, Bool.not_eq_false, Bool.not_eq_eq_eq_not, Bool.not_true, Bool.not_false, Decidable.not_not] at hc) <;> (try (exfalso; first | omega | exact bool_tf hc (by assumption) | exact bool_ft hc (by assumption) | exact absurd (by assumption) hc)) <;> (first | with_reducible show STri _ _ _ _ _ _ | (simp -dsimp [hc]; (repeat (simp -dsimp (disch := (first | omega | assumption | (refine Bool.eq_false_iff.1 ?_; assumption))) only [wrap_in, if_pos, if_neg]; (try simp -dsimp [hc]))))))))
  refine st_for [1] w.faces.length (fun k T H => SmTo w.faces k ∧ T = [(1, .ptr 1 0), (3, .c (I k))] ∧ H = [(1, .box 26 [.c (I w.jump), .c (I w.elo), .c (I w.ehi), .c (slF w.faces)])]) (by simp) ⟨fun f hf => by simp at hf, by simp, by simp⟩ ?_
  rintro k T H hk ⟨ht, rfl, rfl⟩
  by_cases hlt : k < w.faces.length
  · have hl := hw.l _ (List.getElem_mem hlt)
    (repeat' (first | ((first | with_reducible refine st_skip ?_ | with_reducible refine st_exit ?_); (try simp only [seqQ, blockQ, loopQ, forQ, whileQ, reduceIte, Nat.reduceEqDiff])) | (with_reducible refine st_ret ?_; ((try simp only [seqQ, blockQ, loopQ, forQ, whileQ]); first | (with_reducible refine retM_ret ?_) | refine retQ_ret ?_; simp [hlt])) | refine st_seq ?_ | refine st_block ?_ | ((first | refine st_reg ?_ | refine buildP_own ?_) <;> (simp -dsimp [hlt]; (repeat (simp -dsimp (disch := (first | omega | assumption | (refine Bool.eq_false_iff.1 ?_; assumption))) only [wrap_in, if_pos, if_neg]; (try simp -dsimp [hlt]))))) | ((first | refine guardP_of (fun hc => ?_) (fun hc => ?_) | refine st_cond rfl (fun hc => ?_) (fun hc => ?_)) <;> (try simp only [decide_eq_true_eq, decide_eq_false_iff_not, Bool.true_eq_false, Bool.false_eq_true, bne_iff_ne, ne_eq, bne_eq_false_iff_eq, beq_iff_eq, beq_eq_false_iff_ne, Bool.not_eq_true, Bool.not_eq_false, Bool.not_eq_eq_eq_not, Bool.not_true, Bool.not_false, Decidable.not_not] at hc) <;> (try (exfalso; first | omega | exact bool_tf hc (by assumption) | exact bool_ft hc (by assumption) | exact absurd (by assumption) hc)) <;> (first | with_reducible show STri _ _ _ _ _ _ | (simp -dsimp [hlt, hc]; (repeat (simp -dsimp (disch := (first | omega | assumption | (refine Bool.eq_false_iff.1 ?_; assumption))) only [wrap_in, if_pos, if_neg]; (try simp -dsimp [hlt, hc]))))))))
    · refine CLe.bool ?_
      have : w.faces.any (fun f => decide (f.links.length > 10)) = true := List.any_eq_true.2 ⟨_, List.getElem_mem hlt, by simp; omega⟩
      simp [largeB, this]
    · exact ⟨hlt, by simp, sm_succ hlt ht (by omega), by simp, by simp⟩
  · have hke : k = w.faces.length := by omega
    subst hke
    (repeat' (first | ((first | with_reducible refine st_skip ?_ | with_reducible refine st_exit ?_); (try simp only [seqQ, blockQ, loopQ, forQ, whileQ, reduceIte, Nat.reduceEqDiff])) | (with_reducible refine st_ret ?_; ((try simp only [seqQ, blockQ, loopQ, forQ, whileQ]); first | (with_reducible refine retM_ret ?_) | refine retQ_ret ?_; simp)) | refine st_seq ?_ | refine st_block ?_ | ((first | refine st_reg ?_ | refine buildP_own ?_) <;> (simp -dsimp; (repeat (simp -dsimp (disch := (first | omega | assumption | (refine Bool.eq_false_iff.1 ?_; assumption))) only [wrap_in, if_pos, if_neg]; (try simp -dsimp))))) | ((first | refine guardP_of (fun hc => ?_) (fun hc => ?_) | refine st_cond rfl (fun hc => ?_) (fun hc => ?_)) <;> (try simp only [decide_eq_true_eq, decide_eq_false_iff_not, Bool.true_eq_false, Bool.false_eq_true, bne_iff_ne, ne_eq, bne_eq_false_iff_eq, beq_iff_eq, beq_eq_false_iff_ne, Bool.not_eq_true, Bool.not_eq_false, Bool.not_eq_eq_eq_not, Bool.not_true, Bool.not_false, Decidable.not_not] at hc) <;> (try (exfalso; first | omega | exact bool_tf hc (by assumption) | exact bool_ft hc (by assumption) | exact absurd (by assumption) hc)) <;> (first | with_reducible show STri _ _ _ _ _ _ | (simp -dsimp [hc]; (repeat (simp -dsimp (disch := (first | omega | assumption | (refine Bool.eq_false_iff.1 ?_; assumption))) only [wrap_in, if_pos, if_neg]; (try simp -dsimp [hc]))))))))
    all_goals (refine CLe.bool ?_; rw [largeB, sm_all ht, Bool.false_or, decide_eq_decide]; omega)

theorem lFace (f : Fc) (hl : f.links.length ≤ 1000000) : SC Try.prog 35 [cF f] (cF f) := by
  refine law_turretlaw04_face _ _ (by simp) ?_
  have hA : f.links.length ≤ 9223372036854775807 := by omega
  have hB : f.links.length * 24 ≤ 140737488355328 := by omega
  (repeat' (first | ((first | with_reducible refine st_skip ?_ | with_reducible refine st_exit ?_); (try simp only [seqQ, blockQ, loopQ, forQ, whileQ, reduceIte, Nat.reduceEqDiff])) | (with_reducible refine st_ret ?_; ((try simp only [seqQ, blockQ, loopQ, forQ, whileQ]); first | (with_reducible refine retM_ret ?_) | refine retQ_ret ?_; simp [hA, hB])) | refine st_seq ?_ | refine st_block ?_ | ((first | refine st_reg ?_ | refine buildP_own ?_) <;> (simp -dsimp [hA, hB]; (repeat (simp -dsimp (disch := (first | omega | assumption | (refine Bool.eq_false_iff.1 ?_; assumption))) only [wrap_in, if_pos, if_neg]; (try simp -dsimp [hA, hB]))))) | ((first | refine guardP_of (fun hc => ?_) (fun hc => ?_) | refine st_cond rfl (fun hc => ?_) (fun hc => ?_)) <;> (try simp only [decide_eq_true_eq, decide_eq_false_iff_not, Bool.true_eq_false, Bool.false_eq_true, bne_iff_ne, ne_eq, bne_eq_false_iff_eq, beq_iff_eq, beq_eq_false_iff_ne, Bool.not_eq_true, Bool.not_eq_false, Bool.not_eq_eq_eq_not, Bool.not_true, Bool.not_false, Decidable.not_not] at hc) <;> (try (exfalso; first | omega | exact bool_tf hc (by assumption) | exact bool_ft hc (by assumption) | exact absurd (by assumption) hc)) <;> (first | with_reducible show STri _ _ _ _ _ _ | (simp -dsimp [hA, hB, hc]; (repeat (simp -dsimp (disch := (first | omega | assumption | (refine Bool.eq_false_iff.1 ?_; assumption))) only [wrap_in, if_pos, if_neg]; (try simp -dsimp [hA, hB, hc]))))))))
  all_goals exact .refl _

theorem lReadings (l : List (Int × Int)) (hl : l.length ≤ 1000000) : SC Try.prog 32 [slS l] (slS l) := by
  refine law_turretlaw04_readings _ _ (by simp) ?_
  have hA : l.length ≤ 9223372036854775807 := by omega
  have hB : l.length * 16 ≤ 140737488355328 := by omega
  (repeat' (first | ((first | with_reducible refine st_skip ?_ | with_reducible refine st_exit ?_); (try simp only [seqQ, blockQ, loopQ, forQ, whileQ, reduceIte, Nat.reduceEqDiff])) | (with_reducible refine st_ret ?_; ((try simp only [seqQ, blockQ, loopQ, forQ, whileQ]); first | (with_reducible refine retM_ret ?_) | refine retQ_ret ?_; simp [hA, hB])) | refine st_seq ?_ | refine st_block ?_ | ((first | refine st_reg ?_ | refine buildP_own ?_) <;> (simp -dsimp [hA, hB]; (repeat (simp -dsimp (disch := (first | omega | assumption | (refine Bool.eq_false_iff.1 ?_; assumption))) only [wrap_in, if_pos, if_neg]; (try simp -dsimp [hA, hB]))))) | ((first | refine guardP_of (fun hc => ?_) (fun hc => ?_) | refine st_cond rfl (fun hc => ?_) (fun hc => ?_)) <;> (try simp only [decide_eq_true_eq, decide_eq_false_iff_not, Bool.true_eq_false, Bool.false_eq_true, bne_iff_ne, ne_eq, bne_eq_false_iff_eq, beq_iff_eq, beq_eq_false_iff_ne, Bool.not_eq_true, Bool.not_eq_false, Bool.not_eq_eq_eq_not, Bool.not_true, Bool.not_false, Decidable.not_not] at hc) <;> (try (exfalso; first | omega | exact bool_tf hc (by assumption) | exact bool_ft hc (by assumption) | exact absurd (by assumption) hc)) <;> (first | with_reducible show STri _ _ _ _ _ _ | (simp -dsimp [hA, hB, hc]; (repeat (simp -dsimp (disch := (first | omega | assumption | (refine Bool.eq_false_iff.1 ?_; assumption))) only [wrap_in, if_pos, if_neg]; (try simp -dsimp [hA, hB, hc]))))))))
  all_goals exact .refl _

def rowsF (fs : List Fc) (k : Nat) : List (List CV) := (fs.take k).map rowF
theorem rowsF_len {fs : List Fc} {k : Nat} (h : k ≤ fs.length) : (rowsF fs k).length = k := by simp [rowsF]; omega
theorem rowsF_succ {fs : List Fc} {k : Nat} (h : k < fs.length) : rowsF fs (k + 1) = rowsF fs k ++ [rowF fs[k]] := by
  unfold rowsF; rw [List.take_succ_eq_append_getElem h, List.map_append]; rfl

theorem lWorks (w : Dw) (hw : DwLen w) : SC Try.prog 13 [cDw w] (cDw w) := by
  refine law_turretlaw04_works _ _ (by simp) ?_
  have hn := hw.n
  (repeat' (first | ((first | with_reducible refine st_skip ?_ | with_reducible refine st_exit ?_); (try simp only [seqQ, blockQ, loopQ, forQ, whileQ, reduceIte, Nat.reduceEqDiff])) | (with_reducible refine st_ret ?_; ((try simp only [seqQ, blockQ, loopQ, forQ, whileQ]); first | (with_reducible refine retM_ret ?_) | refine retQ_ret ?_; simp)) | refine st_seq ?_ | refine st_block ?_ | ((first | refine st_reg ?_ | refine buildP_own ?_) <;> (simp -dsimp; (repeat (simp -dsimp (disch := (first | omega | assumption | (refine Bool.eq_false_iff.1 ?_; assumption))) only [wrap_in, if_pos, if_neg]; (try simp -dsimp))))) | ((first | refine guardP_of (fun hc => ?_) (fun hc => ?_) | refine st_cond rfl (fun hc => ?_) (fun hc => ?_)) <;> (try simp only [decide_eq_true_eq, decide_eq_false_iff_not, Bool.true_eq_false, Bool.false_eq_true, bne_iff_ne, ne_eq, bne_eq_false_iff_eq, beq_iff_eq, beq_eq_false_iff_ne, Bool.not_eq_true, Bool.not_eq_false, Bool.not_eq_eq_eq_not, Bool.not_true, Bool.not_false, Decidable.not_not] at hc) <;> (try (exfalso; first | omega | exact bool_tf hc (by assumption) | exact bool_ft hc (by assumption) | exact absurd (by assumption) hc)) <;> (first | with_reducible show STri _ _ _ _ _ _ | (simp -dsimp [hc]; (repeat (simp -dsimp (disch := (first | omega | assumption | (refine Bool.eq_false_iff.1 ?_; assumption))) only [wrap_in, if_pos, if_neg]; (try simp -dsimp [hc]))))))))
  refine st_nilB 3 3 200 80 5 rfl (by simp) rfl (by simp [newOK]) ?_
  refine st_for [1, 2, 3, 200] w.faces.length (fun k T H => T = [(1, .ptr 1 0), (2, .ptr 2 0), (3, .ptr 3 0), (4, .c (I k))] ∧ H = [(1, .box 26 [.c (I w.jump), .c (I w.elo), .c (I w.ehi), .c (slF w.faces)]), (2, .box 26 [.c (I 0), .c (I 0), .c (I 0), .c (.val (.slice none 0 0))]),
    (3, .box 26 [.c (I w.jump), .c (I w.elo), .c (I w.ehi), .own 200 k]), (200, .arr 80 5 (rowsF w.faces k))]) (by simp) ⟨by simp, by simp [rowsF]⟩ ?_
  rintro k T H hk ⟨rfl, rfl⟩
  have hlen := rowsF_len hk
  by_cases hlt : k < w.faces.length
  · have hf := lFace w.faces[k] (hw.l _ (List.getElem_mem hlt))
    have hs := rowsF_succ hlt
    have hA : k + 1 ≤ 9223372036854775807 := by omega
    have hB : (k + 1) * 56 ≤ 140737488355328 := by omega
    (repeat' (first | ((first | with_reducible refine st_skip ?_ | with_reducible refine st_exit ?_); (try simp only [seqQ, blockQ, loopQ, forQ, whileQ, reduceIte, Nat.reduceEqDiff])) | (with_reducible refine st_ret ?_; ((try simp only [seqQ, blockQ, loopQ, forQ, whileQ]); first | (with_reducible refine retM_ret ?_) | refine retQ_ret ?_; simp [hlt, hlen, hA, hB])) | refine st_seq ?_ | refine st_block ?_ | ((first | refine st_reg ?_ | refine buildP_own ?_ | refine callP_b (hf) rfl ?_) <;> (simp -dsimp [hlt, hlen, hA, hB]; (repeat (simp -dsimp (disch := (first | omega | assumption | (refine Bool.eq_false_iff.1 ?_; assumption))) only [wrap_in, if_pos, if_neg]; (try simp -dsimp [hlt, hlen, hA, hB]))))) | ((first | refine guardP_of (fun hc => ?_) (fun hc => ?_) | refine st_cond rfl (fun hc => ?_) (fun hc => ?_)) <;> (try simp only [decide_eq_true_eq, decide_eq_false_iff_not, Bool.true_eq_false, Bool.false_eq_true, bne_iff_ne, ne_eq, bne_eq_false_iff_eq, beq_iff_eq, beq_eq_false_iff_ne, Bool.not_eq_true, Bool.not_eq_false, Bool.not_eq_eq_eq_not, Bool.not_true, Bool.not_false, Decidable.not_not] at hc) <;> (try (exfalso; first | omega | exact bool_tf hc (by assumption) | exact bool_ft hc (by assumption) | exact absurd (by assumption) hc)) <;> (first | with_reducible show STri _ _ _ _ _ _ | (simp -dsimp [hlt, hlen, hA, hB, hc]; (repeat (simp -dsimp (disch := (first | omega | assumption | (refine Bool.eq_false_iff.1 ?_; assumption))) only [wrap_in, if_pos, if_neg]; (try simp -dsimp [hlt, hlen, hA, hB, hc]))))))))
    all_goals exact ⟨hlt, by simp, by simp, by simp [hs]⟩
  · have hke : k = w.faces.length := by omega
    subst hke
    have hall : rowsF w.faces w.faces.length = w.faces.map rowF := by simp [rowsF]
    (repeat' (first | ((first | with_reducible refine st_skip ?_ | with_reducible refine st_exit ?_); (try simp only [seqQ, blockQ, loopQ, forQ, whileQ, reduceIte, Nat.reduceEqDiff])) | (with_reducible refine st_ret ?_; ((try simp only [seqQ, blockQ, loopQ, forQ, whileQ]); first | (with_reducible refine retM_ret ?_) | refine retQ_ret ?_; simp [hlen])) | refine st_seq ?_ | refine st_block ?_ | ((first | refine st_reg ?_ | refine buildP_own ?_) <;> (simp -dsimp [hlen]; (repeat (simp -dsimp (disch := (first | omega | assumption | (refine Bool.eq_false_iff.1 ?_; assumption))) only [wrap_in, if_pos, if_neg]; (try simp -dsimp [hlen]))))) | ((first | refine guardP_of (fun hc => ?_) (fun hc => ?_) | refine st_cond rfl (fun hc => ?_) (fun hc => ?_)) <;> (try simp only [decide_eq_true_eq, decide_eq_false_iff_not, Bool.true_eq_false, Bool.false_eq_true, bne_iff_ne, ne_eq, bne_eq_false_iff_eq, beq_iff_eq, beq_eq_false_iff_ne, Bool.not_eq_true, Bool.not_eq_false, Bool.not_eq_eq_eq_not, Bool.not_true, Bool.not_false, Decidable.not_not] at hc) <;> (try (exfalso; first | omega | exact bool_tf hc (by assumption) | exact bool_ft hc (by assumption) | exact absurd (by assumption) hc)) <;> (first | with_reducible show STri _ _ _ _ _ _ | (simp -dsimp [hlen, hc]; (repeat (simp -dsimp (disch := (first | omega | assumption | (refine Bool.eq_false_iff.1 ?_; assumption))) only [wrap_in, if_pos, if_neg]; (try simp -dsimp [hlen, hc]))))))))
    rw [hall]
    exact .refl _

def bxW (w : Dw) : Blk := .box 26 [.c (I w.jump), .c (I w.elo), .c (I w.ehi), .c (slF w.faces)]
def bxF (f : Fc) : Blk := .box 80 [.c (I f.lo), .c (I f.hi), .c (slL f.links), .c (I f.weight), .c (I f.friction)]
attribute [simp] bxW bxF

theorem lUnchanged (w : Dw) (hw : DwLen w) : SC Try.prog 16 [cDw w, cDw w] (B true) := by
  refine law_turretlaw04_unchanged _ _ (by simp) ?_
  have hn := hw.n
  (repeat' (first | ((first | with_reducible refine st_skip ?_ | with_reducible refine st_exit ?_); (try simp only [seqQ, blockQ, loopQ, forQ, whileQ, reduceIte, Nat.reduceEqDiff])) | (with_reducible refine st_ret ?_; ((try simp only [seqQ, blockQ, loopQ, forQ, whileQ]); first | (with_reducible refine retM_ret ?_) | refine retQ_ret ?_; simp)) | refine st_seq ?_ | refine st_block ?_ | ((first | refine st_reg ?_ | refine buildP_own ?_) <;> (simp -dsimp; (repeat (simp -dsimp (disch := (first | omega | assumption | (refine Bool.eq_false_iff.1 ?_; assumption))) only [wrap_in, if_pos, if_neg]; (try simp -dsimp))))) | ((first | refine guardP_of (fun hc => ?_) (fun hc => ?_) | refine st_cond rfl (fun hc => ?_) (fun hc => ?_)) <;> (try simp only [decide_eq_true_eq, decide_eq_false_iff_not, Bool.true_eq_false, Bool.false_eq_true, bne_iff_ne, ne_eq, bne_eq_false_iff_eq, beq_iff_eq, beq_eq_false_iff_ne, Bool.not_eq_true, Bool.not_eq_false, Bool.not_eq_eq_eq_not, Bool.not_true, Bool.not_false, Decidable.not_not] at hc) <;> (try (exfalso; first | omega | exact bool_tf hc (by assumption) | exact bool_ft hc (by assumption) | exact absurd (by assumption) hc)) <;> (first | with_reducible show STri _ _ _ _ _ _ | (simp -dsimp [hc]; (repeat (simp -dsimp (disch := (first | omega | assumption | (refine Bool.eq_false_iff.1 ?_; assumption))) only [wrap_in, if_pos, if_neg]; (try simp -dsimp [hc]))))))))
  refine st_for [2, 3] w.faces.length (fun k T H => T = [(2, .ptr 2 0), (3, .ptr 3 0), (5, .c (I k))] ∧ H = [(2, bxW w), (3, bxW w)]) (by simp) ⟨by simp, by simp⟩ ?_
  rintro k T H hk ⟨rfl, rfl⟩
  by_cases hlt : k < w.faces.length
  · have hl := hw.l _ (List.getElem_mem hlt)
    (repeat' (first | ((first | with_reducible refine st_skip ?_ | with_reducible refine st_exit ?_); (try simp only [seqQ, blockQ, loopQ, forQ, whileQ, reduceIte, Nat.reduceEqDiff])) | (with_reducible refine st_ret ?_; ((try simp only [seqQ, blockQ, loopQ, forQ, whileQ]); first | (with_reducible refine retM_ret ?_) | refine retQ_ret ?_; simp [hlt])) | refine st_seq ?_ | refine st_block ?_ | ((first | refine st_reg ?_ | refine buildP_own ?_) <;> (simp -dsimp [hlt]; (repeat (simp -dsimp (disch := (first | omega | assumption | (refine Bool.eq_false_iff.1 ?_; assumption))) only [wrap_in, if_pos, if_neg]; (try simp -dsimp [hlt]))))) | ((first | refine guardP_of (fun hc => ?_) (fun hc => ?_) | refine st_cond rfl (fun hc => ?_) (fun hc => ?_)) <;> (try simp only [decide_eq_true_eq, decide_eq_false_iff_not, Bool.true_eq_false, Bool.false_eq_true, bne_iff_ne, ne_eq, bne_eq_false_iff_eq, beq_iff_eq, beq_eq_false_iff_ne, Bool.not_eq_true, Bool.not_eq_false, Bool.not_eq_eq_eq_not, Bool.not_true, Bool.not_false, Decidable.not_not] at hc) <;> (try (exfalso; first | omega | exact bool_tf hc (by assumption) | exact bool_ft hc (by assumption) | exact absurd (by assumption) hc)) <;> (first | with_reducible show STri _ _ _ _ _ _ | (simp -dsimp [hlt, hc]; (repeat (simp -dsimp (disch := (first | omega | assumption | (refine Bool.eq_false_iff.1 ?_; assumption))) only [wrap_in, if_pos, if_neg]; (try simp -dsimp [hlt, hc]))))))))
    refine st_for [2, 3, 6, 7] w.faces[k].links.length (fun j T H => T = [(2, .ptr 2 0), (3, .ptr 3 0), (5, .c (I k)), (6, .ptr 6 0), (7, .ptr 7 0), (8, .c (I j))] ∧ H = [(2, bxW w), (3, bxW w), (6, bxF w.faces[k]), (7, bxF w.faces[k])]) (by simp) ⟨by simp, by simp⟩ ?_
    rintro j T H hj ⟨rfl, rfl⟩
    by_cases hlt2 : j < w.faces[k].links.length
    · (repeat' (first | ((first | with_reducible refine st_skip ?_ | with_reducible refine st_exit ?_); (try simp only [seqQ, blockQ, loopQ, forQ, whileQ, reduceIte, Nat.reduceEqDiff])) | (with_reducible refine st_ret ?_; ((try simp only [seqQ, blockQ, loopQ, forQ, whileQ]); first | (with_reducible refine retM_ret ?_) | refine retQ_ret ?_; simp [hlt, hlt2])) | refine st_seq ?_ | refine st_block ?_ | ((first | refine st_reg ?_ | refine buildP_own ?_) <;> (simp -dsimp [hlt, hlt2]; (repeat (simp -dsimp (disch := (first | omega | assumption | (refine Bool.eq_false_iff.1 ?_; assumption))) only [wrap_in, if_pos, if_neg]; (try simp -dsimp [hlt, hlt2]))))) | ((first | refine guardP_of (fun hc => ?_) (fun hc => ?_) | refine st_cond rfl (fun hc => ?_) (fun hc => ?_)) <;> (try simp only [decide_eq_true_eq, decide_eq_false_iff_not, Bool.true_eq_false, Bool.false_eq_true, bne_iff_ne, ne_eq, bne_eq_false_iff_eq, beq_iff_eq, beq_eq_false_iff_ne, Bool.not_eq_true, Bool.not_eq_false, Bool.not_eq_eq_eq_not, Bool.not_true, Bool.not_false, Decidable.not_not] at hc) <;> (try (exfalso; first | omega | exact bool_tf hc (by assumption) | exact bool_ft hc (by assumption) | exact absurd (by assumption) hc)) <;> (first | with_reducible show STri _ _ _ _ _ _ | (simp -dsimp [hlt, hlt2, hc]; (repeat (simp -dsimp (disch := (first | omega | assumption | (refine Bool.eq_false_iff.1 ?_; assumption))) only [wrap_in, if_pos, if_neg]; (try simp -dsimp [hlt, hlt2, hc]))))))))
      all_goals exact ⟨hlt2, by simp, by simp, by simp⟩
    · (repeat' (first | ((first | with_reducible refine st_skip ?_ | with_reducible refine st_exit ?_); (try simp only [seqQ, blockQ, loopQ, forQ, whileQ, reduceIte, Nat.reduceEqDiff])) | (with_reducible refine st_ret ?_; ((try simp only [seqQ, blockQ, loopQ, forQ, whileQ]); first | (with_reducible refine retM_ret ?_) | refine retQ_ret ?_; simp [hlt2])) | refine st_seq ?_ | refine st_block ?_ | ((first | refine st_reg ?_ | refine buildP_own ?_) <;> (simp -dsimp [hlt2]; (repeat (simp -dsimp (disch := (first | omega | assumption | (refine Bool.eq_false_iff.1 ?_; assumption))) only [wrap_in, if_pos, if_neg]; (try simp -dsimp [hlt2]))))) | ((first | refine guardP_of (fun hc => ?_) (fun hc => ?_) | refine st_cond rfl (fun hc => ?_) (fun hc => ?_)) <;> (try simp only [decide_eq_true_eq, decide_eq_false_iff_not, Bool.true_eq_false, Bool.false_eq_true, bne_iff_ne, ne_eq, bne_eq_false_iff_eq, beq_iff_eq, beq_eq_false_iff_ne, Bool.not_eq_true, Bool.not_eq_false, Bool.not_eq_eq_eq_not, Bool.not_true, Bool.not_false, Decidable.not_not] at hc) <;> (try (exfalso; first | omega | exact bool_tf hc (by assumption) | exact bool_ft hc (by assumption) | exact absurd (by assumption) hc)) <;> (first | with_reducible show STri _ _ _ _ _ _ | (simp -dsimp [hlt2, hc]; (repeat (simp -dsimp (disch := (first | omega | assumption | (refine Bool.eq_false_iff.1 ?_; assumption))) only [wrap_in, if_pos, if_neg]; (try simp -dsimp [hlt2, hc]))))))))
      all_goals exact ⟨hlt, by simp, by simp, by simp⟩
  · (repeat' (first | ((first | with_reducible refine st_skip ?_ | with_reducible refine st_exit ?_); (try simp only [seqQ, blockQ, loopQ, forQ, whileQ, reduceIte, Nat.reduceEqDiff])) | (with_reducible refine st_ret ?_; ((try simp only [seqQ, blockQ, loopQ, forQ, whileQ]); first | (with_reducible refine retM_ret ?_) | refine retQ_ret ?_; simp [hlt])) | refine st_seq ?_ | refine st_block ?_ | ((first | refine st_reg ?_ | refine buildP_own ?_) <;> (simp -dsimp [hlt]; (repeat (simp -dsimp (disch := (first | omega | assumption | (refine Bool.eq_false_iff.1 ?_; assumption))) only [wrap_in, if_pos, if_neg]; (try simp -dsimp [hlt]))))) | ((first | refine guardP_of (fun hc => ?_) (fun hc => ?_) | refine st_cond rfl (fun hc => ?_) (fun hc => ?_)) <;> (try simp only [decide_eq_true_eq, decide_eq_false_iff_not, Bool.true_eq_false, Bool.false_eq_true, bne_iff_ne, ne_eq, bne_eq_false_iff_eq, beq_iff_eq, beq_eq_false_iff_ne, Bool.not_eq_true, Bool.not_eq_false, Bool.not_eq_eq_eq_not, Bool.not_true, Bool.not_false, Decidable.not_not] at hc) <;> (try (exfalso; first | omega | exact bool_tf hc (by assumption) | exact bool_ft hc (by assumption) | exact absurd (by assumption) hc)) <;> (first | with_reducible show STri _ _ _ _ _ _ | (simp -dsimp [hlt, hc]; (repeat (simp -dsimp (disch := (first | omega | assumption | (refine Bool.eq_false_iff.1 ?_; assumption))) only [wrap_in, if_pos, if_neg]; (try simp -dsimp [hlt, hc]))))))))
    all_goals exact .refl _

end Go.Proofs.Ytnfggkopledpcaa
/- Dial: what a dial can show, as integers. -/
namespace Go.Proofs.Ytnfggkopledpcaa
open Go.RowKit

theorem cutS_memb {x : Int × Int} (h1 : x.1 ≤ x.2) (h2 : x.2 ≤ x.1 + 10800) (n : Int) : Memb (cutS x) n ↔ (0 ≤ n ∧ n < 43200) ∧ ∃ m, x.1 ≤ m ∧ m ≤ x.2 ∧ m % 43200 = n := by
  have g1 := Int.emod_nonneg x.1 (show (43200 : Int) ≠ 0 by decide)
  have g2 := Int.emod_lt_of_pos x.1 (show (0 : Int) < 43200 by decide)
  unfold cutS Memb
  constructor
  · rintro ⟨y, hy, l1, l2⟩
    split at hy
    · simp at hy
      rcases hy with rfl | rfl
      · simp only at l1 l2
        split at l2
        · exact ⟨by omega, x.1 + (n - x.1 % 43200), by omega, by omega, by omega⟩
        · exact ⟨by omega, x.1 + (n - x.1 % 43200), by omega, by omega, by omega⟩
      · simp only at l1 l2
        exact ⟨by omega, x.1 + (n + 43200 - x.1 % 43200), by omega, by omega, by omega⟩
    · simp at hy
      subst hy
      simp only at l1 l2
      split at l2
      · exact ⟨by omega, x.1 + (n - x.1 % 43200), by omega, by omega, by omega⟩
      · exact ⟨by omega, x.1 + (n - x.1 % 43200), by omega, by omega, by omega⟩
  · rintro ⟨⟨n1, n2⟩, m, m1, m2, rfl⟩
    by_cases hw : x.1 % 43200 + (m - x.1) < 43200
    · split
      · refine ⟨_, .head _, by simp only; omega, ?_⟩
        simp only; split <;> omega
      · refine ⟨_, .head _, by simp only; omega, ?_⟩
        simp only; split <;> omega
    · rw [if_pos (by omega)]
      exact ⟨_, .tail _ (.head _), by simp only; omega, by simp only; omega⟩

theorem showRaw_memb {k : Lo} (hk : LoSm k) (hf : k.f.lo ≤ k.f.hi) (n : Int) : Memb (showRaw k) n ↔ (0 ≤ n ∧ n < 43200) ∧ ∃ x ∈ haL k, ∃ m, x.1 ≤ m ∧ m ≤ x.2 ∧ m % 43200 = n := by
  unfold showRaw cutK
  rw [List.take_length]
  constructor
  · rintro ⟨y, hy, l1, l2⟩
    obtain ⟨x, hx, hy⟩ := List.mem_flatMap.1 hy
    obtain ⟨a, b⟩ := haL_wide hk hf hx
    obtain ⟨p, m, q⟩ := (cutS_memb a b n).1 ⟨y, hy, l1, l2⟩
    exact ⟨p, x, hx, m, q⟩
  · rintro ⟨p, x, hx, m, q⟩
    obtain ⟨a, b⟩ := haL_wide hk hf hx
    obtain ⟨y, hy, l⟩ := (cutS_memb a b n).2 ⟨p, m, q⟩
    exact ⟨y, List.mem_flatMap.2 ⟨x, hx, hy⟩, l⟩

end Go.Proofs.Ytnfggkopledpcaa
/- Dial's plain laws: a tower. -/
namespace Go.Proofs.Ytnfggkopledpcaa
open Go.RowKit

abbrev U8 (n : Int) : CV := .val (.int .u8 n)
abbrev U16 (n : Int) : CV := .val (.int .u16 n)
structure Fv where
  (a b c d e g : Int)
structure Tw where
  (j f e0 e1 : Int)
  (faces : List Fv)
  (t w0 w1 : Int)
  truth : List Int
def rowV (v : Fv) : List CV := [U8 v.a, U8 v.b, U8 v.c, U8 v.d, U8 v.e, U8 v.g]
def rowB (n : Int) : List CV := [U8 n]
def cTw (x : Tw) : CV := .agg [U8 x.j, U8 x.f, U8 x.e0, U8 x.e1, .sl 6 (x.faces.map rowV), U16 x.t, U8 x.w0, U8 x.w1, .sl 1 (x.truth.map rowB)]
attribute [simp] rowV
structure FvOk (v : Fv) : Prop where
  a : 0 ≤ v.a ∧ v.a ≤ 255
  b : 0 ≤ v.b ∧ v.b ≤ 255
  c : 0 ≤ v.c ∧ v.c ≤ 255
  d : 0 ≤ v.d ∧ v.d ≤ 255
  e : 0 ≤ v.e ∧ v.e ≤ 255
  g : 0 ≤ v.g ∧ v.g ≤ 255
structure TwOk (x : Tw) : Prop where
  j : 0 ≤ x.j ∧ x.j ≤ 255
  e0 : 0 ≤ x.e0 ∧ x.e0 ≤ 255
  e1 : 0 ≤ x.e1 ∧ x.e1 ≤ 255
  faces : ∀ v ∈ x.faces, FvOk v
  fl : x.faces.length ≤ 9223372036854775807
  t : 0 ≤ x.t ∧ x.t ≤ 65535
  w0 : 0 ≤ x.w0 ∧ x.w0 ≤ 255
  w1 : 0 ≤ x.w1 ∧ x.w1 ≤ 255
  truth : ∀ n ∈ x.truth, 0 ≤ n ∧ n ≤ 255
  tl : x.truth.length ≤ 9223372036854775807

theorem lAt (x : Tw) (hx : TwOk x) : SC Try.prog 25 [cTw x] (I x.t) := by
  refine law_turretlaw04_Tower_at _ _ (by simp) ?_
  have h := hx.t
  unfold cTw
  (repeat' (first | ((first | with_reducible refine st_skip ?_ | with_reducible refine st_exit ?_); (try simp only [seqQ, blockQ, loopQ, forQ, whileQ, reduceIte, Nat.reduceEqDiff])) | (with_reducible refine st_ret ?_; ((try simp only [seqQ, blockQ, loopQ, forQ, whileQ]); first | (with_reducible refine retM_ret ?_) | refine retQ_ret ?_; simp)) | refine st_seq ?_ | refine st_block ?_ | ((first | refine st_reg ?_ | refine buildP_own ?_) <;> (simp -dsimp; (repeat (simp -dsimp (disch := (first | omega | assumption | (refine Bool.eq_false_iff.1 ?_; assumption))) only [wrap_in, if_pos, if_neg]; (try simp -dsimp))))) | ((first | refine guardP_of (fun hc => ?_) (fun hc => ?_) | refine st_cond rfl (fun hc => ?_) (fun hc => ?_)) <;> (try simp only [decide_eq_true_eq, decide_eq_false_iff_not, Bool.true_eq_false, Bool.false_eq_true, bne_iff_ne, ne_eq, bne_eq_false_iff_eq, beq_iff_eq, beq_eq_false_iff_ne, Bool.not_eq_true, Bool.not_eq_false, Bool.not_eq_eq_eq_not, Bool.not_true, Bool.not_false, Decidable.not_not] at hc) <;> (try (exfalso; first | omega | exact bool_tf hc (by assumption) | exact bool_ft hc (by assumption) | exact absurd (by assumption) hc)) <;> (first | with_reducible show STri _ _ _ _ _ _ | (simp -dsimp [hc]; (repeat (simp -dsimp (disch := (first | omega | assumption | (refine Bool.eq_false_iff.1 ?_; assumption))) only [wrap_in, if_pos, if_neg]; (try simp -dsimp [hc]))))))))
  all_goals exact .refl _

theorem lWind (x : Tw) (hx : TwOk x) : SC Try.prog 26 [cTw x] (cS (x.w0 - 128) (x.w0 - 128 + x.w1 % 100)) := by
  refine law_turretlaw04_Tower_wind _ _ (by simp) ?_
  have h := hx.w0
  have h1 := hx.w1
  unfold cTw
  have hs := lSpan (x.w0 - 128) (x.w0 - 128 + x.w1 % 100)
  have m1 : x.w1.tmod 100 = x.w1 % 100 := Int.tmod_eq_emod_of_nonneg (by omega)
  (repeat' (first | ((first | with_reducible refine st_skip ?_ | with_reducible refine st_exit ?_); (try simp only [seqQ, blockQ, loopQ, forQ, whileQ, reduceIte, Nat.reduceEqDiff])) | (with_reducible refine st_ret ?_; ((try simp only [seqQ, blockQ, loopQ, forQ, whileQ]); first | (with_reducible refine retM_ret ?_) | refine retQ_ret ?_; simp [m1])) | refine st_seq ?_ | refine st_block ?_ | ((first | refine st_reg ?_ | refine buildP_own ?_ | refine callP_b (hs) rfl ?_) <;> (simp -dsimp [m1]; (repeat (simp -dsimp (disch := (first | omega | assumption | (refine Bool.eq_false_iff.1 ?_; assumption))) only [wrap_in, if_pos, if_neg]; (try simp -dsimp [m1]))))) | ((first | refine guardP_of (fun hc => ?_) (fun hc => ?_) | refine st_cond rfl (fun hc => ?_) (fun hc => ?_)) <;> (try simp only [decide_eq_true_eq, decide_eq_false_iff_not, Bool.true_eq_false, Bool.false_eq_true, bne_iff_ne, ne_eq, bne_eq_false_iff_eq, beq_iff_eq, beq_eq_false_iff_ne, Bool.not_eq_true, Bool.not_eq_false, Bool.not_eq_eq_eq_not, Bool.not_true, Bool.not_false, Decidable.not_not] at hc) <;> (try (exfalso; first | omega | exact bool_tf hc (by assumption) | exact bool_ft hc (by assumption) | exact absurd (by assumption) hc)) <;> (first | with_reducible show STri _ _ _ _ _ _ | (simp -dsimp [m1, hc]; (repeat (simp -dsimp (disch := (first | omega | assumption | (refine Bool.eq_false_iff.1 ?_; assumption))) only [wrap_in, if_pos, if_neg]; (try simp -dsimp [m1, hc]))))))))
  all_goals exact .refl _

theorem lRest (n b : Int) (h1 : -1000000000000 ≤ n) (h2 : n ≤ 1000000000000) (h3 : 0 < b) (h4 : b ≤ 1000000000000) : SC Try.prog 28 [I n, I b] (I (n % b)) := by
  refine law_turretlaw04_rest _ _ (by simp) ?_
  obtain ⟨g1, g2⟩ := tmod_lt n b h3
  have hm := mod_eq n b h3
  have h5 := Int.emod_nonneg n (show b ≠ 0 by omega)
  have h6 := Int.emod_lt_of_pos n h3
  have hb : ¬ b = 0 := by omega
  (repeat' (first | ((first | with_reducible refine st_skip ?_ | with_reducible refine st_exit ?_); (try simp only [seqQ, blockQ, loopQ, forQ, whileQ, reduceIte, Nat.reduceEqDiff])) | (with_reducible refine st_ret ?_; ((try simp only [seqQ, blockQ, loopQ, forQ, whileQ]); first | (with_reducible refine retM_ret ?_) | refine retQ_ret ?_; simp [hb, hm])) | refine st_seq ?_ | refine st_block ?_ | ((first | refine st_reg ?_ | refine buildP_own ?_) <;> (simp -dsimp [hb, hm]; (repeat (simp -dsimp (disch := (first | omega | assumption | (refine Bool.eq_false_iff.1 ?_; assumption))) only [wrap_in, if_pos, if_neg]; (try simp -dsimp [hb, hm]))))) | ((first | refine guardP_of (fun hc => ?_) (fun hc => ?_) | refine st_cond rfl (fun hc => ?_) (fun hc => ?_)) <;> (try simp only [decide_eq_true_eq, decide_eq_false_iff_not, Bool.true_eq_false, Bool.false_eq_true, bne_iff_ne, ne_eq, bne_eq_false_iff_eq, beq_iff_eq, beq_eq_false_iff_ne, Bool.not_eq_true, Bool.not_eq_false, Bool.not_eq_eq_eq_not, Bool.not_true, Bool.not_false, Decidable.not_not] at hc) <;> (try (exfalso; first | omega | exact bool_tf hc (by assumption) | exact bool_ft hc (by assumption) | exact absurd (by assumption) hc)) <;> (first | with_reducible show STri _ _ _ _ _ _ | (simp -dsimp [hb, hm, hc]; (repeat (simp -dsimp (disch := (first | omega | assumption | (refine Bool.eq_false_iff.1 ?_; assumption))) only [wrap_in, if_pos, if_neg]; (try simp -dsimp [hb, hm, hc]))))))))
  all_goals exact .refl _

def bytI (l : List Int) (i : Int) : Int := if l = [] then 0 else l.getD (i % l.length).toNat 0

theorem byt_bd {l : List Int} (h : ∀ n ∈ l, 0 ≤ n ∧ n ≤ 255) (i : Int) : 0 ≤ bytI l i ∧ bytI l i ≤ 255 := by
  unfold bytI
  split
  · omega
  · rw [List.getD_eq_getElem?_getD]
    cases he : l[(i % l.length).toNat]? with
    | none => simp
    | some v => exact h v (List.mem_of_getElem? he)

theorem lByte (l : List Int) (h : ∀ n ∈ l, 0 ≤ n ∧ n ≤ 255) (hl : l.length ≤ 9223372036854775807) (i : Int) (h1 : 0 ≤ i) (h2 : i ≤ 1000000) : SC Try.prog 61 [.sl 1 (l.map rowB), I i] (I (bytI l i)) := by
  refine law_turretlaw04_byteOf _ _ (by simp) ?_
  by_cases h0 : l = []
  · subst h0
    (repeat' (first | ((first | with_reducible refine st_skip ?_ | with_reducible refine st_exit ?_); (try simp only [seqQ, blockQ, loopQ, forQ, whileQ, reduceIte, Nat.reduceEqDiff])) | (with_reducible refine st_ret ?_; ((try simp only [seqQ, blockQ, loopQ, forQ, whileQ]); first | (with_reducible refine retM_ret ?_) | refine retQ_ret ?_; simp)) | refine st_seq ?_ | refine st_block ?_ | ((first | refine st_reg ?_ | refine buildP_own ?_) <;> (simp -dsimp; (repeat (simp -dsimp (disch := (first | omega | assumption | (refine Bool.eq_false_iff.1 ?_; assumption))) only [wrap_in, if_pos, if_neg]; (try simp -dsimp))))) | ((first | refine guardP_of (fun hc => ?_) (fun hc => ?_) | refine st_cond rfl (fun hc => ?_) (fun hc => ?_)) <;> (try simp only [decide_eq_true_eq, decide_eq_false_iff_not, Bool.true_eq_false, Bool.false_eq_true, bne_iff_ne, ne_eq, bne_eq_false_iff_eq, beq_iff_eq, beq_eq_false_iff_ne, Bool.not_eq_true, Bool.not_eq_false, Bool.not_eq_eq_eq_not, Bool.not_true, Bool.not_false, Decidable.not_not] at hc) <;> (try (exfalso; first | omega | exact bool_tf hc (by assumption) | exact bool_ft hc (by assumption) | exact absurd (by assumption) hc)) <;> (first | with_reducible show STri _ _ _ _ _ _ | (simp -dsimp [hc]; (repeat (simp -dsimp (disch := (first | omega | assumption | (refine Bool.eq_false_iff.1 ?_; assumption))) only [wrap_in, if_pos, if_neg]; (try simp -dsimp [hc]))))))))
    all_goals exact .refl _
  · have hp : 0 < l.length := by cases l with
      | nil => exact absurd rfl h0
      | cons a l => simp
    have hne : ¬ (l.length : Int) = 0 := by omega
    have hm : i.tmod l.length = i % l.length := Int.tmod_eq_emod_of_nonneg h1
    have h5 := Int.emod_nonneg i (show (l.length : Int) ≠ 0 by omega)
    have h6 := Int.emod_lt_of_pos i (show 0 < (l.length : Int) by omega)
    have hlt : (i % l.length).toNat < l.length := by omega
    have hg : (l.map rowB)[(i % l.length).toNat]? = some [U8 (bytI l i)] := by
      unfold bytI
      rw [if_neg h0, List.getElem?_map, List.getElem?_eq_getElem hlt, List.getD_eq_getElem?_getD, List.getElem?_eq_getElem hlt]; rfl
    obtain ⟨b1, b2⟩ := byt_bd h i
    (repeat' (first | ((first | with_reducible refine st_skip ?_ | with_reducible refine st_exit ?_); (try simp only [seqQ, blockQ, loopQ, forQ, whileQ, reduceIte, Nat.reduceEqDiff])) | (with_reducible refine st_ret ?_; ((try simp only [seqQ, blockQ, loopQ, forQ, whileQ]); first | (with_reducible refine retM_ret ?_) | refine retQ_ret ?_; simp [hne, hm, hp, hg, h0])) | refine st_seq ?_ | refine st_block ?_ | ((first | refine st_reg ?_ | refine buildP_own ?_) <;> (simp -dsimp [hne, hm, hp, hg, h0]; (repeat (simp -dsimp (disch := (first | omega | assumption | (refine Bool.eq_false_iff.1 ?_; assumption))) only [wrap_in, if_pos, if_neg]; (try simp -dsimp [hne, hm, hp, hg, h0]))))) | ((first | refine guardP_of (fun hc => ?_) (fun hc => ?_) | refine st_cond rfl (fun hc => ?_) (fun hc => ?_)) <;> (try simp only [decide_eq_true_eq, decide_eq_false_iff_not, Bool.true_eq_false, Bool.false_eq_true, bne_iff_ne, ne_eq, bne_eq_false_iff_eq, beq_iff_eq, beq_eq_false_iff_ne, Bool.not_eq_true, Bool.not_eq_false, Bool.not_eq_eq_eq_not, Bool.not_true, Bool.not_false, Decidable.not_not] at hc) <;> (try (exfalso; first | omega | exact bool_tf hc (by assumption) | exact bool_ft hc (by assumption) | exact absurd (by assumption) hc)) <;> (first | with_reducible show STri _ _ _ _ _ _ | (simp -dsimp [hne, hm, hp, hg, h0, hc]; (repeat (simp -dsimp (disch := (first | omega | assumption | (refine Bool.eq_false_iff.1 ?_; assumption))) only [wrap_in, if_pos, if_neg]; (try simp -dsimp [hne, hm, hp, hg, h0, hc]))))))))
    all_goals exact .refl _

def linksV (v : Fv) : List Lk := ⟨v.e % 40, 1 + v.g % 12, 1 + v.g / 12 % 3⟩ :: if 128 ≤ v.g then [⟨v.d % 30, 1, 1⟩] else []
def faceV (v : Fv) : Fc := ⟨v.a % 30 - 15, v.a % 30 - 15 + v.b % 10, linksV v, v.c - 128, v.d % 60⟩
def Fv.zero : Fv := ⟨0, 0, 0, 0, 0, 0⟩
def twN (x : Tw) : Nat := if x.faces.length = 0 then 1 else if x.faces.length < 3 then x.faces.length else 3
def twF (x : Tw) (k : Nat) : List Fc := (List.range k).map fun i => faceV (x.faces.getD i .zero)
def jmpI (n : Int) : Int := [1, 2, 10, 30, 60, 120].getD (n % 6).toNat 0
def twW (x : Tw) : Dw := ⟨jmpI x.j, x.e0 % 60 - 30, x.e0 % 60 - 30 + x.e1 % 40, twF x (twN x)⟩

def bxT (x : Tw) : Blk := .box 57 [.c (U8 x.j), .c (U8 x.f), .c (U8 x.e0), .c (U8 x.e1), .c (.sl 6 (x.faces.map rowV)), .c (U16 x.t), .c (U8 x.w0), .c (U8 x.w1), .c (.sl 1 (x.truth.map rowB))]
attribute [simp] bxT
theorem twF_succ (x : Tw) (k : Nat) : twF x (k + 1) = twF x k ++ [faceV (x.faces.getD k .zero)] := by simp [twF, List.range_succ]

set_option maxHeartbeats 1000000 in
theorem lTower (x : Tw) (hx : TwOk x) : SC Try.prog 24 [cTw x] (cDw (twW x)) := by
  refine law_turretlaw04_Tower_works _ _ (by simp) ?_
  unfold cTw
  have j1 := hx.j
  have g0 := hx.e0
  have g1 := hx.e1
  have m1 : x.j.tmod 6 = x.j % 6 := Int.tmod_eq_emod_of_nonneg (by omega)
  have m2 : x.e0.tmod 60 = x.e0 % 60 := Int.tmod_eq_emod_of_nonneg (by omega)
  have m3 : x.e1.tmod 40 = x.e1 % 40 := Int.tmod_eq_emod_of_nonneg (by omega)
  have hs := lSpan (x.e0 % 60 - 30) (x.e0 % 60 - 30 + x.e1 % 40)
  have hg : List.take 1 (List.drop (x.j % 6).toNat [SV.c (I 1), SV.c (I 2), SV.c (I 10), SV.c (I 30), SV.c (I 60), SV.c (I 120)]) = [SV.c (I (jmpI x.j))] := by
    have : x.j % 6 = 0 ∨ x.j % 6 = 1 ∨ x.j % 6 = 2 ∨ x.j % 6 = 3 ∨ x.j % 6 = 4 ∨ x.j % 6 = 5 := by omega
    unfold jmpI
    rcases this with h | h | h | h | h | h <;> rw [h] <;> rfl
  (repeat' (first | ((first | with_reducible refine st_skip ?_ | with_reducible refine st_exit ?_); (try simp only [seqQ, blockQ, loopQ, forQ, whileQ, reduceIte, Nat.reduceEqDiff])) | (with_reducible refine st_ret ?_; ((try simp only [seqQ, blockQ, loopQ, forQ, whileQ]); first | (with_reducible refine retM_ret ?_) | refine retQ_ret ?_; simp [m1, m2, m3, hg])) | refine st_seq ?_ | refine st_block ?_ | ((first | refine st_reg ?_ | refine buildP_own ?_ | refine callP_b (hs) rfl ?_) <;> (simp -dsimp [m1, m2, m3, hg]; (repeat (simp -dsimp (disch := (first | omega | assumption | (refine Bool.eq_false_iff.1 ?_; assumption))) only [wrap_in, if_pos, if_neg]; (try simp -dsimp [m1, m2, m3, hg]))))) | ((first | refine guardP_of (fun hc => ?_) (fun hc => ?_) | refine st_cond rfl (fun hc => ?_) (fun hc => ?_)) <;> (try simp only [decide_eq_true_eq, decide_eq_false_iff_not, Bool.true_eq_false, Bool.false_eq_true, bne_iff_ne, ne_eq, bne_eq_false_iff_eq, beq_iff_eq, beq_eq_false_iff_ne, Bool.not_eq_true, Bool.not_eq_false, Bool.not_eq_eq_eq_not, Bool.not_true, Bool.not_false, Decidable.not_not] at hc) <;> (try (exfalso; first | omega | exact bool_tf hc (by assumption) | exact bool_ft hc (by assumption) | exact absurd (by assumption) hc)) <;> (first | with_reducible show STri _ _ _ _ _ _ | (simp -dsimp [m1, m2, m3, hg, hc]; (repeat (simp -dsimp (disch := (first | omega | assumption | (refine Bool.eq_false_iff.1 ?_; assumption))) only [wrap_in, if_pos, if_neg]; (try simp -dsimp [m1, m2, m3, hg, hc]))))))))
  refine st_nilB 3 3 200 80 5 rfl (by simp) rfl (by simp [newOK]) ?_
  refine st_for [1, 2, 3, 200] (twN x) (fun k T H => T = [(1, .ptr 1 0), (2, .ptr 2 0), (3, .ptr 3 0), (4, .c (I k))] ∧ H = [(1, bxT x), (2, .box 26 [.c (I 0), .c (I 0), .c (I 0), .c (.val (.slice none 0 0))]),
    (3, .box 26 [.c (I (jmpI x.j)), .c (I (x.e0 % 60 - 30)), .c (I (x.e0 % 60 - 30 + x.e1 % 40)), .own 200 k]), (200, .arr 80 5 ((twF x k).map rowF))]) (by simp) ⟨by simp, by simp [twF]⟩ ?_
  rintro k T H hk ⟨rfl, rfl⟩
  have hfl := hx.fl
  have hn3 : twN x ≤ 3 := by unfold twN; (repeat' split) <;> omega
  have hlen : (twF x k).length = k := by simp [twF]
  by_cases hlt : k < twN x
  · have hs := twF_succ x k
    have hA : k + 1 ≤ 9223372036854775807 := by omega
    have hB : (k + 1) * 56 ≤ 140737488355328 := by omega
    by_cases hv : k < x.faces.length
    · have hvo := hx.faces _ (List.getElem_mem hv)
      have hgd : x.faces.getD k .zero = x.faces[k] := by simp [hv]
      rw [hgd] at hs
      have hgr : ∀ h : k < (x.faces.map rowV).length, (x.faces.map rowV)[k]'h = rowV x.faces[k] := fun h => by simp
      have hq : x.faces[k]? = some x.faces[k] := by simp
      generalize x.faces[k] = v at *
      obtain ⟨⟨a1, a2⟩, ⟨b1, b2⟩, ⟨c1, c2⟩, ⟨d1, d2⟩, ⟨e1, e2⟩, ⟨g3, g4⟩⟩ := hvo
      have n1 : v.a.tmod 30 = v.a % 30 := Int.tmod_eq_emod_of_nonneg a1
      have n2 : v.b.tmod 10 = v.b % 10 := Int.tmod_eq_emod_of_nonneg b1
      have n3 : v.d.tmod 60 = v.d % 60 := Int.tmod_eq_emod_of_nonneg d1
      have n4 : v.e.tmod 40 = v.e % 40 := Int.tmod_eq_emod_of_nonneg e1
      have n5 : v.g.tmod 12 = v.g % 12 := Int.tmod_eq_emod_of_nonneg g3
      have n6 : v.g.tdiv 12 = v.g / 12 := Int.tdiv_eq_ediv_of_nonneg g3
      have n7 : (v.g / 12).tmod 3 = v.g / 12 % 3 := Int.tmod_eq_emod_of_nonneg (by omega)
      have n8 : v.d.tmod 30 = v.d % 30 := Int.tmod_eq_emod_of_nonneg d1
      have hsp := lSpan (v.a % 30 - 15) (v.a % 30 - 15 + v.b % 10)
      by_cases hk0 : k = 0
      · subst hk0
        (repeat' (first | ((with_reducible show STri _ c_turretlaw04_Tower_works_17 _ _ _); refine st_shut1 100 rfl (by simp [dropOK, dropK]) (by simp [ClosO, ownS, dropK, SV.outD]) (by simp [ShutH, ShutB, ownL, ownS, dropK, SV.outD, outDL, Blk.outD]) ?_; simp) | ((first | with_reducible refine st_skip ?_ | with_reducible refine st_exit ?_); (try simp only [seqQ, blockQ, loopQ, forQ, whileQ, reduceIte, Nat.reduceEqDiff])) | (with_reducible refine st_ret ?_; ((try simp only [seqQ, blockQ, loopQ, forQ, whileQ]); first | (with_reducible refine retM_ret ?_) | refine retQ_ret ?_; simp [hlt, hv, hgr, hq, n1, n2, n3, n4, n5, n6, n7, n8, hA, hB, hlen])) | refine st_seq ?_ | refine st_block ?_ | ((first | refine st_reg ?_ | refine buildP_own ?_ | refine callP_b (hsp) rfl ?_) <;> (simp -dsimp [hlt, hv, hgr, hq, n1, n2, n3, n4, n5, n6, n7, n8, hA, hB, hlen]; (repeat (simp -dsimp (disch := (first | omega | assumption | (refine Bool.eq_false_iff.1 ?_; assumption))) only [wrap_in, if_pos, if_neg]; (try simp -dsimp [hlt, hv, hgr, hq, n1, n2, n3, n4, n5, n6, n7, n8, hA, hB, hlen]))))) | ((first | refine guardP_of (fun hc => ?_) (fun hc => ?_) | refine st_cond rfl (fun hc => ?_) (fun hc => ?_)) <;> (try simp only [decide_eq_true_eq, decide_eq_false_iff_not, Bool.true_eq_false, Bool.false_eq_true, bne_iff_ne, ne_eq, bne_eq_false_iff_eq, beq_iff_eq, beq_eq_false_iff_ne, Bool.not_eq_true, Bool.not_eq_false, Bool.not_eq_eq_eq_not, Bool.not_true, Bool.not_false, Decidable.not_not] at hc) <;> (try (exfalso; first | omega | exact bool_tf hc (by assumption) | exact bool_ft hc (by assumption) | exact absurd (by assumption) hc)) <;> (first | with_reducible show STri _ _ _ _ _ _ | (simp -dsimp [hlt, hv, hgr, hq, n1, n2, n3, n4, n5, n6, n7, n8, hA, hB, hlen, hc]; (repeat (simp -dsimp (disch := (first | omega | assumption | (refine Bool.eq_false_iff.1 ?_; assumption))) only [wrap_in, if_pos, if_neg]; (try simp -dsimp [hlt, hv, hgr, hq, n1, n2, n3, n4, n5, n6, n7, n8, hA, hB, hlen, hc]))))))))
        all_goals exact ⟨hlt, by simp, by simp, by rw [hs]; simp [faceV, linksV, hc]⟩
      · (repeat' (first | ((with_reducible show STri _ c_turretlaw04_Tower_works_17 _ _ _); refine st_shut1 100 rfl (by simp [dropOK, dropK]) (by simp [ClosO, ownS, dropK, SV.outD]) (by simp [ShutH, ShutB, ownL, ownS, dropK, SV.outD, outDL, Blk.outD]) ?_; simp) | ((first | with_reducible refine st_skip ?_ | with_reducible refine st_exit ?_); (try simp only [seqQ, blockQ, loopQ, forQ, whileQ, reduceIte, Nat.reduceEqDiff])) | (with_reducible refine st_ret ?_; ((try simp only [seqQ, blockQ, loopQ, forQ, whileQ]); first | (with_reducible refine retM_ret ?_) | refine retQ_ret ?_; simp [hlt, hv, hgr, n1, n2, n3, n4, n5, n6, n7, n8, hA, hB, hlen])) | refine st_seq ?_ | refine st_block ?_ | ((first | refine st_reg ?_ | refine buildP_own ?_ | refine callP_b (hsp) rfl ?_) <;> (simp -dsimp [hlt, hv, hgr, n1, n2, n3, n4, n5, n6, n7, n8, hA, hB, hlen]; (repeat (simp -dsimp (disch := (first | omega | assumption | (refine Bool.eq_false_iff.1 ?_; assumption))) only [wrap_in, if_pos, if_neg]; (try simp -dsimp [hlt, hv, hgr, n1, n2, n3, n4, n5, n6, n7, n8, hA, hB, hlen]))))) | ((first | refine guardP_of (fun hc => ?_) (fun hc => ?_) | refine st_cond rfl (fun hc => ?_) (fun hc => ?_)) <;> (try simp only [decide_eq_true_eq, decide_eq_false_iff_not, Bool.true_eq_false, Bool.false_eq_true, bne_iff_ne, ne_eq, bne_eq_false_iff_eq, beq_iff_eq, beq_eq_false_iff_ne, Bool.not_eq_true, Bool.not_eq_false, Bool.not_eq_eq_eq_not, Bool.not_true, Bool.not_false, Decidable.not_not] at hc) <;> (try (exfalso; first | omega | exact bool_tf hc (by assumption) | exact bool_ft hc (by assumption) | exact absurd (by assumption) hc)) <;> (first | with_reducible show STri _ _ _ _ _ _ | (simp -dsimp [hlt, hv, hgr, n1, n2, n3, n4, n5, n6, n7, n8, hA, hB, hlen, hc]; (repeat (simp -dsimp (disch := (first | omega | assumption | (refine Bool.eq_false_iff.1 ?_; assumption))) only [wrap_in, if_pos, if_neg]; (try simp -dsimp [hlt, hv, hgr, n1, n2, n3, n4, n5, n6, n7, n8, hA, hB, hlen, hc]))))))))
        all_goals exact ⟨hlt, by simp, by simp, by rw [hs]; simp [faceV, linksV, hc]⟩
    · have hk0 : k = 0 ∧ x.faces.length = 0 := by
        unfold twN at hlt
        split at hlt
        · omega
        · split at hlt <;> omega
      obtain ⟨rfl, hl0⟩ := hk0
      have hf0 : x.faces = [] := List.length_eq_zero_iff.1 hl0
      have hgd : x.faces.getD 0 .zero = Fv.zero := by rw [hf0]; rfl
      rw [hgd] at hs
      have hsp := lSpan (-15) (-15)
      (repeat' (first | ((with_reducible show STri _ c_turretlaw04_Tower_works_17 _ _ _); refine st_shut1 100 rfl (by simp [dropOK, dropK]) (by simp [ClosO, ownS, dropK, SV.outD]) (by simp [ShutH, ShutB, ownL, ownS, dropK, SV.outD, outDL, Blk.outD]) ?_; simp) | ((first | with_reducible refine st_skip ?_ | with_reducible refine st_exit ?_); (try simp only [seqQ, blockQ, loopQ, forQ, whileQ, reduceIte, Nat.reduceEqDiff])) | (with_reducible refine st_ret ?_; ((try simp only [seqQ, blockQ, loopQ, forQ, whileQ]); first | (with_reducible refine retM_ret ?_) | refine retQ_ret ?_; simp [hlt, hf0, hA, hB, hlen])) | refine st_seq ?_ | refine st_block ?_ | ((first | refine st_reg ?_ | refine buildP_own ?_ | refine callP_b (hsp) rfl ?_) <;> (simp -dsimp [hlt, hf0, hA, hB, hlen]; (repeat (simp -dsimp (disch := (first | omega | assumption | (refine Bool.eq_false_iff.1 ?_; assumption))) only [wrap_in, if_pos, if_neg]; (try simp -dsimp [hlt, hf0, hA, hB, hlen]))))) | ((first | refine guardP_of (fun hc => ?_) (fun hc => ?_) | refine st_cond rfl (fun hc => ?_) (fun hc => ?_)) <;> (try simp only [decide_eq_true_eq, decide_eq_false_iff_not, Bool.true_eq_false, Bool.false_eq_true, bne_iff_ne, ne_eq, bne_eq_false_iff_eq, beq_iff_eq, beq_eq_false_iff_ne, Bool.not_eq_true, Bool.not_eq_false, Bool.not_eq_eq_eq_not, Bool.not_true, Bool.not_false, Decidable.not_not] at hc) <;> (try (exfalso; first | omega | exact bool_tf hc (by assumption) | exact bool_ft hc (by assumption) | exact absurd (by assumption) hc)) <;> (first | with_reducible show STri _ _ _ _ _ _ | (simp -dsimp [hlt, hf0, hA, hB, hlen, hc]; (repeat (simp -dsimp (disch := (first | omega | assumption | (refine Bool.eq_false_iff.1 ?_; assumption))) only [wrap_in, if_pos, if_neg]; (try simp -dsimp [hlt, hf0, hA, hB, hlen, hc]))))))))
      all_goals exact ⟨hlt, by simp, by simp, by rw [hs]; simp [faceV, linksV, Fv.zero]⟩
  · have hkn : k = twN x := by omega
    have hb : ¬ k = 0 ∧ ¬ (k < x.faces.length ∧ k < 3) := by
      unfold twN at hkn
      split at hkn
      · omega
      · split at hkn <;> omega
    obtain ⟨b1, b2⟩ := hb
    (repeat' (first | ((first | with_reducible refine st_skip ?_ | with_reducible refine st_exit ?_); (try simp only [seqQ, blockQ, loopQ, forQ, whileQ, reduceIte, Nat.reduceEqDiff])) | (with_reducible refine st_ret ?_; ((try simp only [seqQ, blockQ, loopQ, forQ, whileQ]); first | (with_reducible refine retM_ret ?_) | refine retQ_ret ?_; simp [b1, b2, hlen])) | refine st_seq ?_ | refine st_block ?_ | ((first | refine st_reg ?_ | refine buildP_own ?_) <;> (simp -dsimp [b1, b2, hlen]; (repeat (simp -dsimp (disch := (first | omega | assumption | (refine Bool.eq_false_iff.1 ?_; assumption))) only [wrap_in, if_pos, if_neg]; (try simp -dsimp [b1, b2, hlen]))))) | ((first | refine guardP_of (fun hc => ?_) (fun hc => ?_) | refine st_cond rfl (fun hc => ?_) (fun hc => ?_)) <;> (try simp only [decide_eq_true_eq, decide_eq_false_iff_not, Bool.true_eq_false, Bool.false_eq_true, bne_iff_ne, ne_eq, bne_eq_false_iff_eq, beq_iff_eq, beq_eq_false_iff_ne, Bool.not_eq_true, Bool.not_eq_false, Bool.not_eq_eq_eq_not, Bool.not_true, Bool.not_false, Decidable.not_not] at hc) <;> (try (exfalso; first | omega | exact bool_tf hc (by assumption) | exact bool_ft hc (by assumption) | exact absurd (by assumption) hc)) <;> (first | with_reducible show STri _ _ _ _ _ _ | (simp -dsimp [b1, b2, hlen, hc]; (repeat (simp -dsimp (disch := (first | omega | assumption | (refine Bool.eq_false_iff.1 ?_; assumption))) only [wrap_in, if_pos, if_neg]; (try simp -dsimp [b1, b2, hlen, hc]))))))))
    all_goals (subst hkn; exact CLe.of_eq rfl)

end Go.Proofs.Ytnfggkopledpcaa
/- Dial's plain laws, II: a tower's works are valid. -/
namespace Go.Proofs.Ytnfggkopledpcaa
open Go.RowKit

theorem slack1 (s num den : Int) (h1 : 0 ≤ s) (h2 : s < 40) (h3 : 1 ≤ num) (h4 : num ≤ 12) (h5 : 1 ≤ den) (h6 : den ≤ 3) : slackI [⟨s, num, den⟩] ≤ 3600 := by
  have hp : s * 3600 * den ≤ 39 * 3600 * 3 := by
    have := Int.mul_le_mul (show s * 3600 ≤ 39 * 3600 by omega) h6 (by omega) (by decide)
    omega
  have hn : 0 ≤ s * 3600 * den := Int.mul_nonneg (by omega) (by omega)
  have e1 : (Int.gcd 1 num : Int) = 1 := by simp
  have hD : denK [⟨s, num, den⟩] 1 = num := by simp [denK, stepD]
  have hN : numK [⟨s, num, den⟩] 1 = s * 3600 * den := by
    have : num.tdiv num = 1 := Int.tdiv_self (by omega)
    simp [numK, stepN, hD, this]
  unfold slackI overI
  simp only [List.length_singleton, hD, hN]
  generalize s * 3600 * den = z at *
  have : (z + 1000 * num - 1).tdiv (1000 * num) = (z + 1000 * num - 1) / (1000 * num) := Int.tdiv_eq_ediv_of_nonneg (by omega)
  rw [this]
  have : (z + 1000 * num - 1) / (1000 * num) < 3600 := Int.ediv_lt_of_lt_mul (by omega) (by omega)
  omega

theorem slack2 (s num den r : Int) (h1 : 0 ≤ s) (h2 : s < 40) (h3 : 1 ≤ num) (h4 : num ≤ 12) (h5 : 1 ≤ den) (h6 : den ≤ 3) (r1 : 0 ≤ r) (r2 : r < 30) : slackI [⟨s, num, den⟩, ⟨r, 1, 1⟩] ≤ 3600 := by
  have hp : s * 3600 * den ≤ 39 * 3600 * 3 := by
    have := Int.mul_le_mul (show s * 3600 ≤ 39 * 3600 by omega) h6 (by omega) (by decide)
    omega
  have hn : 0 ≤ s * 3600 * den := Int.mul_nonneg (by omega) (by omega)
  have hD : denK [⟨s, num, den⟩, ⟨r, 1, 1⟩] 2 = num := by simp [denK, stepD]
  have hN : numK [⟨s, num, den⟩, ⟨r, 1, 1⟩] 2 = s * 3600 * den + r * 3600 * num := by
    have : num.tdiv num = 1 := Int.tdiv_self (by omega)
    simp [numK, stepN, hD, this]
  unfold slackI overI
  simp only [List.length_cons, List.length_nil, Nat.zero_add, Nat.reduceAdd, hD, hN]
  have q1 : r * 3600 * num ≤ 29 * 3600 * 12 := by
    have := Int.mul_le_mul (show r * 3600 ≤ 29 * 3600 by omega) h4 (by omega) (by decide)
    omega
  have q2 : 0 ≤ r * 3600 * num := Int.mul_nonneg (by omega) (by omega)
  generalize s * 3600 * den = z at *
  generalize r * 3600 * num = y at *
  have : (z + y + 1000 * num - 1).tdiv (1000 * num) = (z + y + 1000 * num - 1) / (1000 * num) := Int.tdiv_eq_ediv_of_nonneg (by omega)
  rw [this]
  have : (z + y + 1000 * num - 1) / (1000 * num) < 3600 := Int.ediv_lt_of_lt_mul (by omega) (by omega)
  omega

theorem face_ok {v : Fv} (h : FvOk v) : fcOK (faceV v) = true := by
  obtain ⟨⟨a1, a2⟩, ⟨b1, b2⟩, ⟨c1, c2⟩, ⟨d1, d2⟩, ⟨e1, e2⟩, ⟨g3, g4⟩⟩ := h
  have hl : (linksV v).all lkB = true := by
    unfold linksV
    split <;> simp [lkB, inB] <;> omega
  have hs : slackI (linksV v) ≤ 3600 := by
    unfold linksV
    split
    · exact slack2 _ _ _ _ (by omega) (by omega) (by omega) (by omega) (by omega) (by omega) (by omega) (by omega)
    · exact slack1 _ _ _ (by omega) (by omega) (by omega) (by omega) (by omega) (by omega)
  have hn : (linksV v).length ≤ 4 := by unfold linksV; split <;> simp
  simp only [fcOK, fcB, faceV, hl, spanB, inB, Bool.and_eq_true, decide_eq_true_eq, and_true]
  repeat' apply And.intro
  all_goals first | exact decide_eq_true (by omega) | omega

theorem zero_ok : FvOk Fv.zero := by constructor <;> simp [Fv.zero]

theorem tw_face {x : Tw} (hx : TwOk x) (i : Nat) : FvOk (x.faces.getD i .zero) := by
  rw [List.getD_eq_getElem?_getD]
  cases h : x.faces[i]? with
  | none => exact zero_ok
  | some v => exact hx.faces v (List.mem_of_getElem? h)

theorem twN_bd (x : Tw) : 1 ≤ twN x ∧ twN x ≤ 3 := by unfold twN; (repeat' split) <;> omega
theorem twF_len (x : Tw) (k : Nat) : (twF x k).length = k := by simp [twF]

theorem tw_ok {x : Tw} (hx : TwOk x) : dwB (twW x) = true := by
  have hj : (1 ≤ jmpI x.j ∧ jmpI x.j ≤ 3600) ∧ 3600 % jmpI x.j = 0 := by
    have : x.j % 6 = 0 ∨ x.j % 6 = 1 ∨ x.j % 6 = 2 ∨ x.j % 6 = 3 ∨ x.j % 6 = 4 ∨ x.j % 6 = 5 := by omega
    unfold jmpI
    rcases this with h | h | h | h | h | h <;> rw [h] <;> decide
  obtain ⟨n1, n2⟩ := twN_bd x
  have g0 := hx.e0
  have g1 := hx.e1
  have hf : (twF x (twN x)).all fcOK = true := List.all_eq_true.2 fun f hf => by
    obtain ⟨i, _, rfl⟩ := List.mem_map.1 hf
    exact face_ok (tw_face hx i)
  have hl : (twW x).faces.length = twN x := twF_len x _
  simp only [dwB, hl]
  simp only [twW, hf, spanB, inB, Bool.and_eq_true, decide_eq_true_eq, beq_iff_eq, and_true, hj.2]
  repeat' apply And.intro
  all_goals first | exact decide_eq_true (by omega) | omega

theorem tw_len {x : Tw} (hx : TwOk x) : DwLen (twW x) := by
  have hl : (twW x).faces.length = twN x := twF_len x _
  obtain ⟨n1, n2⟩ := twN_bd x
  refine ⟨by omega, fun f hf => ?_⟩
  obtain ⟨i, _, rfl⟩ := List.mem_map.1 hf
  show (linksV _).length ≤ _
  unfold linksV; split <;> simp

end Go.Proofs.Ytnfggkopledpcaa
/- Dial's plain laws, III: inside. -/
namespace Go.Proofs.Ytnfggkopledpcaa
open Go.RowKit

def memB (l : List (Int × Int)) (n : Int) : Bool := l.any fun x => decide (x.1 ≤ n) && decide (n ≤ x.2)
theorem memB_iff {l : List (Int × Int)} {n : Int} : memB l n = true ↔ Memb l n := by
  unfold memB Memb
  rw [List.any_eq_true]
  constructor
  · rintro ⟨x, hx, h⟩
    simp only [Bool.and_eq_true, decide_eq_true_eq] at h
    exact ⟨x, hx, h⟩
  · rintro ⟨x, hx, h⟩
    exact ⟨x, hx, by simp only [Bool.and_eq_true, decide_eq_true_eq]; exact h⟩
def memK (l : List (Int × Int)) (n : Int) (k : Nat) : Bool := memB (l.take k) n
theorem memK_succ {l : List (Int × Int)} {n : Int} {k : Nat} (h : k < l.length) : memK l n (k + 1) = (memK l n k || (decide (l[k].1 ≤ n) && decide (n ≤ l[k].2))) := by
  unfold memK memB
  rw [List.take_succ_eq_append_getElem h, List.any_append]; simp

theorem lInside (n : Int) (l : List (Int × Int)) (hs : Sep l) (hm : SmS l) (hl : l.length ≤ 1000000) : SC Try.prog 29 [I n, slS l] (B (memB l n)) := by
  refine law_turretlaw04_inside _ _ (by simp) ?_
  (repeat' (first | ((first | with_reducible refine st_skip ?_ | with_reducible refine st_exit ?_); (try simp only [seqQ, blockQ, loopQ, forQ, whileQ, reduceIte, Nat.reduceEqDiff])) | (with_reducible refine st_ret ?_; ((try simp only [seqQ, blockQ, loopQ, forQ, whileQ]); first | (with_reducible refine retM_ret ?_) | refine retQ_ret ?_; simp)) | refine st_seq ?_ | refine st_block ?_ | ((first | refine st_reg ?_ | refine buildP_own ?_) <;> (simp -dsimp; (repeat (simp -dsimp (disch := (first | omega | assumption | (refine Bool.eq_false_iff.1 ?_; assumption))) only [wrap_in, if_pos, if_neg]; (try simp -dsimp))))) | ((first | refine guardP_of (fun hc => ?_) (fun hc => ?_) | refine st_cond rfl (fun hc => ?_) (fun hc => ?_)) <;> (try simp only [decide_eq_true_eq, decide_eq_false_iff_not, Bool.true_eq_false, Bool.false_eq_true, bne_iff_ne, ne_eq, bne_eq_false_iff_eq, beq_iff_eq, beq_eq_false_iff_ne, Bool.not_eq_true, Bool.not_eq_false, Bool.not_eq_eq_eq_not, Bool.not_true, Bool.not_false, Decidable.not_not] at hc) <;> (try (exfalso; first | omega | exact bool_tf hc (by assumption) | exact bool_ft hc (by assumption) | exact absurd (by assumption) hc)) <;> (first | with_reducible show STri _ _ _ _ _ _ | (simp -dsimp [hc]; (repeat (simp -dsimp (disch := (first | omega | assumption | (refine Bool.eq_false_iff.1 ?_; assumption))) only [wrap_in, if_pos, if_neg]; (try simp -dsimp [hc]))))))))
  refine st_for [] l.length (fun k T H => T = [(0, .c (I n)), (1, .c (slS l)), (5, .c (B (memK l n k))), (6, .c (I k))] ∧ H = []) (by simp) ⟨by simp [memK, memB], by simp⟩ ?_
  rintro k T H hk ⟨rfl, rfl⟩
  by_cases hlt : k < l.length
  · have hst := memK_succ (n := n) hlt
    have h1 := hs.2 _ (List.getElem_mem hlt)
    have h2 := hm _ (List.getElem_mem hlt)
    have hgr : ∀ h : k < (l.map rowS).length, (l.map rowS)[k]'h = rowS l[k] := fun h => by simp
    have hq : l[k]? = some l[k] := by simp
    generalize hb : memK l n k = b at *
    by_cases h0 : k = 0
    · subst h0
      generalize l[0] = y at *
      (repeat' (first | ((first | with_reducible refine st_skip ?_ | with_reducible refine st_exit ?_); (try simp only [seqQ, blockQ, loopQ, forQ, whileQ, reduceIte, Nat.reduceEqDiff])) | (with_reducible refine st_ret ?_; ((try simp only [seqQ, blockQ, loopQ, forQ, whileQ]); first | (with_reducible refine retM_ret ?_) | refine retQ_ret ?_; simp [hlt, hgr, hq])) | refine st_seq ?_ | refine st_block ?_ | ((first | refine st_reg ?_ | refine buildP_own ?_) <;> (simp -dsimp [hlt, hgr, hq]; (repeat (simp -dsimp (disch := (first | omega | assumption | (refine Bool.eq_false_iff.1 ?_; assumption))) only [wrap_in, if_pos, if_neg]; (try simp -dsimp [hlt, hgr, hq]))))) | ((first | refine guardP_of (fun hc => ?_) (fun hc => ?_) | refine st_cond rfl (fun hc => ?_) (fun hc => ?_)) <;> (try simp only [decide_eq_true_eq, decide_eq_false_iff_not, Bool.true_eq_false, Bool.false_eq_true, bne_iff_ne, ne_eq, bne_eq_false_iff_eq, beq_iff_eq, beq_eq_false_iff_ne, Bool.not_eq_true, Bool.not_eq_false, Bool.not_eq_eq_eq_not, Bool.not_true, Bool.not_false, Decidable.not_not] at hc) <;> (try (exfalso; first | omega | exact bool_tf hc (by assumption) | exact bool_ft hc (by assumption) | exact absurd (by assumption) hc)) <;> (first | with_reducible show STri _ _ _ _ _ _ | (simp -dsimp [hlt, hgr, hq, hc]; (repeat (simp -dsimp (disch := (first | omega | assumption | (refine Bool.eq_false_iff.1 ?_; assumption))) only [wrap_in, if_pos, if_neg]; (try simp -dsimp [hlt, hgr, hq, hc]))))))))
      all_goals exact ⟨hlt, by simp, by rw [hst]; simp_all <;> omega, by simp⟩
    · obtain ⟨p, rfl⟩ : ∃ p, k = p + 1 := ⟨k - 1, by omega⟩
      have hp : p < l.length := by omega
      have h3 := List.pairwise_iff_getElem.1 hs.1 p (p + 1) hp hlt (by omega)
      have h4 := hm _ (List.getElem_mem hp)
      have hgp : ∀ h : p < (l.map rowS).length, (l.map rowS)[p]'h = rowS l[p] := fun h => by simp
      generalize l[p + 1] = y at *
      generalize l[p] = z at *
      (repeat' (first | ((first | with_reducible refine st_skip ?_ | with_reducible refine st_exit ?_); (try simp only [seqQ, blockQ, loopQ, forQ, whileQ, reduceIte, Nat.reduceEqDiff])) | (with_reducible refine st_ret ?_; ((try simp only [seqQ, blockQ, loopQ, forQ, whileQ]); first | (with_reducible refine retM_ret ?_) | refine retQ_ret ?_; simp [hlt, hp, hgr, hgp])) | refine st_seq ?_ | refine st_block ?_ | ((first | refine st_reg ?_ | refine buildP_own ?_) <;> (simp -dsimp [hlt, hp, hgr, hgp]; (repeat (simp -dsimp (disch := (first | omega | assumption | (refine Bool.eq_false_iff.1 ?_; assumption))) only [wrap_in, if_pos, if_neg]; (try simp -dsimp [hlt, hp, hgr, hgp]))))) | ((first | refine guardP_of (fun hc => ?_) (fun hc => ?_) | refine st_cond rfl (fun hc => ?_) (fun hc => ?_)) <;> (try simp only [decide_eq_true_eq, decide_eq_false_iff_not, Bool.true_eq_false, Bool.false_eq_true, bne_iff_ne, ne_eq, bne_eq_false_iff_eq, beq_iff_eq, beq_eq_false_iff_ne, Bool.not_eq_true, Bool.not_eq_false, Bool.not_eq_eq_eq_not, Bool.not_true, Bool.not_false, Decidable.not_not] at hc) <;> (try (exfalso; first | omega | exact bool_tf hc (by assumption) | exact bool_ft hc (by assumption) | exact absurd (by assumption) hc)) <;> (first | with_reducible show STri _ _ _ _ _ _ | (simp -dsimp [hlt, hp, hgr, hgp, hc]; (repeat (simp -dsimp (disch := (first | omega | assumption | (refine Bool.eq_false_iff.1 ?_; assumption))) only [wrap_in, if_pos, if_neg]; (try simp -dsimp [hlt, hp, hgr, hgp, hc]))))))))
      all_goals exact ⟨hlt, by simp, by rw [hst]; simp_all <;> omega, by simp⟩
  · have hke : k = l.length := by omega
    subst hke
    have hall : memK l n l.length = memB l n := by simp [memK]
    (repeat' (first | ((first | with_reducible refine st_skip ?_ | with_reducible refine st_exit ?_); (try simp only [seqQ, blockQ, loopQ, forQ, whileQ, reduceIte, Nat.reduceEqDiff])) | (with_reducible refine st_ret ?_; ((try simp only [seqQ, blockQ, loopQ, forQ, whileQ]); first | (with_reducible refine retM_ret ?_) | refine retQ_ret ?_; simp [hlt, hall])) | refine st_seq ?_ | refine st_block ?_ | ((first | refine st_reg ?_ | refine buildP_own ?_) <;> (simp -dsimp [hlt, hall]; (repeat (simp -dsimp (disch := (first | omega | assumption | (refine Bool.eq_false_iff.1 ?_; assumption))) only [wrap_in, if_pos, if_neg]; (try simp -dsimp [hlt, hall]))))) | ((first | refine guardP_of (fun hc => ?_) (fun hc => ?_) | refine st_cond rfl (fun hc => ?_) (fun hc => ?_)) <;> (try simp only [decide_eq_true_eq, decide_eq_false_iff_not, Bool.true_eq_false, Bool.false_eq_true, bne_iff_ne, ne_eq, bne_eq_false_iff_eq, beq_iff_eq, beq_eq_false_iff_ne, Bool.not_eq_true, Bool.not_eq_false, Bool.not_eq_eq_eq_not, Bool.not_true, Bool.not_false, Decidable.not_not] at hc) <;> (try (exfalso; first | omega | exact bool_tf hc (by assumption) | exact bool_ft hc (by assumption) | exact absurd (by assumption) hc)) <;> (first | with_reducible show STri _ _ _ _ _ _ | (simp -dsimp [hlt, hall, hc]; (repeat (simp -dsimp (disch := (first | omega | assumption | (refine Bool.eq_false_iff.1 ?_; assumption))) only [wrap_in, if_pos, if_neg]; (try simp -dsimp [hlt, hall, hc]))))))))
    all_goals exact .refl _

end Go.Proofs.Ytnfggkopledpcaa
/- Dial's plain laws: looks of a tower. -/
namespace Go.Proofs.Ytnfggkopledpcaa
open Go.RowKit

theorem showL_mem {k : Lo} (hk : LoSm k) (hf : k.f.lo ≤ k.f.hi) {e h : Int} (h1 : k.w.elo ≤ e) (h2 : e ≤ k.w.ehi) (h3 : handLo k.f (slackI k.f.links) (dAt k e) k.wlo ≤ h) (h4 : h ≤ handHi k.f (slackI k.f.links) (dAt k e) k.wlo k.whi) : memB (showL k) (h % 43200) = true := by
  obtain ⟨_, s2⟩ := joinL_sep (xs := showRaw k) fun x hx => (showRaw_ok hk hf x hx).1
  refine memB_iff.2 ((s2 _).2 ((showRaw_memb hk hf _).2 ⟨by omega, _, List.mem_map.2 ⟨_, dr_to hk h1 h2, rfl⟩, h, h3, h4, rfl⟩))

theorem showL_fine {k : Lo} (hk : LoSm k) (hf : k.f.lo ≤ k.f.hi) : Sep (showL k) ∧ SmS (showL k) ∧ (showL k).length ≤ 1000000 := by
  obtain ⟨s1, s2⟩ := joinL_sep (xs := showRaw k) fun x hx => (showRaw_ok hk hf x hx).1
  refine ⟨s1, fun x hx => ?_, ?_⟩
  · have h0 := s1.2 x hx
    obtain ⟨y, hy, h1, _⟩ := (s2 x.1).1 ⟨x, hx, Int.le_refl _, h0⟩
    obtain ⟨z, hz, _, h2⟩ := (s2 x.2).1 ⟨x, hx, h0, Int.le_refl _⟩
    have := showRaw_ok hk hf y hy
    have := showRaw_ok hk hf z hz
    omega
  · have h1 := joinK_len ((showRaw k).mergeSort fun x y => !ltS y x) (showRaw k).length
    have h2 := cutK_len (haL k) (haL k).length
    have h3 := (haL_len hk).2
    show (joinK _ _).length ≤ _
    unfold showRaw at *
    omega

/-- A tower's look at one of its dials. -/
def twLo (x : Tw) (i : Nat) (a : Int) : Lo := lookOf (twW x) i a (x.w0 - 128) (x.w0 - 128 + x.w1 % 100)
theorem tw_look {x : Tw} (hx : TwOk x) {i : Nat} (hi : i < twN x) {a : Int} (a1 : 0 ≤ a) (a2 : a ≤ 3155760000) : lookErr (twW x) i a (x.w0 - 128) (x.w0 - 128 + x.w1 % 100) = 0 := by
  have hl : (twW x).faces.length = twN x := twF_len x _
  have w0 := hx.w0
  have w1 := hx.w1
  have hq : inB 0 (((twW x).faces.length : Int) - 1) i = true := by rw [hl]; simp [inB]; omega
  have hq2 : inB 0 3155760000 a = true := by simp [inB]; omega
  have hq3 : spanB (-10000) 10000 (x.w0 - 128) (x.w0 - 128 + x.w1 % 100) = true := by
    simp only [spanB, Bool.and_eq_true]
    exact ⟨⟨decide_eq_true (by omega), decide_eq_true (by omega)⟩, decide_eq_true (by omega)⟩
  simp [lookErr, tw_ok hx, hq, hq2, hq3]
theorem tw_f {x : Tw} {i : Nat} (hi : i < twN x) (a : Int) : (twLo x i a).f = faceV (x.faces.getD i .zero) ∧ ∀ h : i < (twW x).faces.length, (twW x).faces[i]'h = faceV (x.faces.getD i .zero) := by
  have h2 : ∀ h : i < (twW x).faces.length, (twW x).faces[i]'h = faceV (x.faces.getD i .zero) := fun h => by
    show (twF x (twN x))[i]'h = _
    unfold twF; simp
  refine ⟨?_, h2⟩
  have hl : (twW x).faces.length = twN x := twF_len x _
  show (twW x).faces.getD (i : Int).toNat .zero = _
  rw [Int.toNat_natCast, List.getD_eq_getElem?_getD, List.getElem?_eq_getElem (by omega), Option.getD_some]
  exact h2 (by omega)
theorem tw_lohi {x : Tw} (hx : TwOk x) (i : Nat) : (faceV (x.faces.getD i .zero)).lo ≤ (faceV (x.faces.getD i .zero)).hi := by
  obtain ⟨_, ⟨b1, _⟩, _⟩ := tw_face hx i
  generalize x.faces.getD i .zero = v at *
  show v.a % 30 - 15 ≤ v.a % 30 - 15 + v.b % 10
  omega

theorem tw_links (x : Tw) (i : Nat) : (faceV (x.faces.getD i .zero)).links.length ≤ 1000000 := by
  show (linksV _).length ≤ _
  unfold linksV; split <;> simp

end Go.Proofs.Ytnfggkopledpcaa
/- Dial's plain laws, V: a truth is told. -/
namespace Go.Proofs.Ytnfggkopledpcaa
open Go.RowKit

def fastI (w : Dw) (by' : List Int) : Int := w.elo + bytI by' 0 % (w.ehi - w.elo + 1)
def drvI (w : Dw) (a : Int) (by' : List Int) : Int := downI (a + fastI w by') w.jump
def setI (f : Fc) (by' : List Int) (i : Nat) : Int := f.lo + bytI by' (4 * i + 1) % (f.hi - f.lo + 1)
def winI (wlo whi : Int) (by' : List Int) (i : Nat) : Int := wlo + bytI by' (4 * i + 2) % (whi - wlo + 1)
def lagI (f : Fc) (d g : Int) (by' : List Int) (i : Nat) : Int := if f.friction < g + forceI f d then 0 else if g + forceI f d < -f.friction then slackI f.links else bytI by' (4 * i + 3) % (slackI f.links + 1)
def faceAt (w : Dw) (i : Nat) : Fc := w.faces.getD i .zero
def lagAt (w : Dw) (a wlo whi : Int) (by' : List Int) (i : Nat) : Int := lagI (faceAt w i) (drvI w a by') (winI wlo whi by' i) by' i
def handAt (w : Dw) (a wlo whi : Int) (by' : List Int) (i : Nat) : Int := drvI w a by' + setI (faceAt w i) by' i - lagAt w a wlo whi by' i
def hnRows (w : Dw) (a wlo whi : Int) (by' : List Int) (k : Nat) : List (List CV) := (List.range k).map fun i => [I (handAt w a wlo whi by' i)]
def trRows (w : Dw) (a wlo whi : Int) (by' : List Int) (k : Nat) : List (List CV) := (List.range k).map fun i => [I (fastI w by'), I (setI (faceAt w i) by' i), I (winI wlo whi by' i), I (lagAt w a wlo whi by' i)]
def cTold (w : Dw) (a wlo whi : Int) (by' : List Int) : CV := .agg [I (fastI w by'), I (drvI w a by'), .sl 4 (trRows w a wlo whi by' w.faces.length), .sl 1 (hnRows w a wlo whi by' w.faces.length)]

theorem hnRows_succ (w : Dw) (a wlo whi : Int) (by' : List Int) (k : Nat) : hnRows w a wlo whi by' (k + 1) = hnRows w a wlo whi by' k ++ [[I (handAt w a wlo whi by' k)]] := by simp [hnRows, List.range_succ]
theorem trRows_succ (w : Dw) (a wlo whi : Int) (by' : List Int) (k : Nat) : trRows w a wlo whi by' (k + 1) = trRows w a wlo whi by' k ++ [[I (fastI w by'), I (setI (faceAt w k) by' k), I (winI wlo whi by' k), I (lagAt w a wlo whi by' k)]] := by simp [trRows, List.range_succ]
theorem hnRows_len (w : Dw) (a wlo whi : Int) (by' : List Int) (k : Nat) : (hnRows w a wlo whi by' k).length = k := by simp [hnRows]
theorem trRows_len (w : Dw) (a wlo whi : Int) (by' : List Int) (k : Nat) : (trRows w a wlo whi by' k).length = k := by simp [trRows]

theorem fast_bd {w : Dw} (h : w.elo ≤ w.ehi) (by' : List Int) : w.elo ≤ fastI w by' ∧ fastI w by' ≤ w.ehi := by
  have h1 := Int.emod_nonneg (bytI by' 0) (show w.ehi - w.elo + 1 ≠ 0 by omega)
  have h2 := Int.emod_lt_of_pos (bytI by' 0) (show 0 < w.ehi - w.elo + 1 by omega)
  unfold fastI; omega
theorem set_bd {f : Fc} (h : f.lo ≤ f.hi) (by' : List Int) (i : Nat) : f.lo ≤ setI f by' i ∧ setI f by' i ≤ f.hi := by
  have h1 := Int.emod_nonneg (bytI by' (4 * i + 1)) (show f.hi - f.lo + 1 ≠ 0 by omega)
  have h2 := Int.emod_lt_of_pos (bytI by' (4 * i + 1)) (show 0 < f.hi - f.lo + 1 by omega)
  unfold setI; omega
theorem win_bd {wlo whi : Int} (h : wlo ≤ whi) (by' : List Int) (i : Nat) : wlo ≤ winI wlo whi by' i ∧ winI wlo whi by' i ≤ whi := by
  have h1 := Int.emod_nonneg (bytI by' (4 * i + 2)) (show whi - wlo + 1 ≠ 0 by omega)
  have h2 := Int.emod_lt_of_pos (bytI by' (4 * i + 2)) (show 0 < whi - wlo + 1 by omega)
  unfold winI; omega
theorem lagI_bd {f : Fc} (h : 0 ≤ slackI f.links) (d g : Int) (by' : List Int) (i : Nat) : 0 ≤ lagI f d g by' i ∧ lagI f d g by' i ≤ slackI f.links := by
  have h1 := Int.emod_nonneg (bytI by' (4 * i + 3)) (show slackI f.links + 1 ≠ 0 by omega)
  have h2 := Int.emod_lt_of_pos (bytI by' (4 * i + 3)) (show 0 < slackI f.links + 1 by omega)
  unfold lagI; (repeat' split) <;> omega

set_option maxHeartbeats 4000000 in
set_option maxRecDepth 100000 in
theorem lTell (w : Dw) (hd : dwB w = true) (hw : DwLen w) (a wlo whi : Int) (by' : List Int) (a1 : 0 ≤ a) (a2 : a ≤ 100000000) (w1 : -10000 ≤ wlo) (w2 : wlo ≤ whi) (w3 : whi ≤ 10000) (hb : ∀ n ∈ by', 0 ≤ n ∧ n ≤ 255) (hbl : by'.length ≤ 9223372036854775807) :
    SC Try.prog 27 [cDw w, I a, cS wlo whi, .sl 1 (by'.map rowB)] (cTold w a wlo whi by') := by
  refine law_turretlaw04_tell _ _ (by simp) ?_
  have hsm := dw_sm hd
  have j1 := hsm.a
  have j2 := hsm.b
  have j3 := hsm.c
  have j4 := hsm.f
  have j5 := hsm.g
  have hn : w.faces.length ≤ 8 := by
    have := hd
    simp only [dwB, inB, Bool.and_eq_true, decide_eq_true_eq] at this
    omega
  have b0 := lByte by' hb hbl 0 (by decide) (by decide)
  obtain ⟨c0, c1⟩ := byt_bd hb 0
  have m0 : (bytI by' 0).tmod (w.ehi - w.elo + 1) = bytI by' 0 % (w.ehi - w.elo + 1) := Int.tmod_eq_emod_of_nonneg c0
  obtain ⟨f1, f2⟩ := fast_bd j5 by'
  have hfi : w.elo + bytI by' 0 % (w.ehi - w.elo + 1) = fastI w by' := rfl
  have h1 := Int.emod_nonneg (bytI by' 0) (show w.ehi - w.elo + 1 ≠ 0 by omega)
  have h2 := Int.emod_lt_of_pos (bytI by' 0) (show 0 < w.ehi - w.elo + 1 by omega)
  have hne : ¬ w.ehi - w.elo + 1 = 0 := by omega
  have r1 := lRest (a + fastI w by') w.jump (by omega) (by omega) (by omega) (by omega)
  have hdr : a + fastI w by' - (a + fastI w by') % w.jump = drvI w a by' := rfl
  obtain ⟨d1, d2⟩ := down_le (n := a + fastI w by') (b := w.jump) (by omega)
  have d3 : a + fastI w by' - w.jump < drvI w a by' ∧ drvI w a by' ≤ a + fastI w by' := ⟨d1, d2⟩
  clear d1 d2
  have h3 := Int.emod_nonneg (a + fastI w by') (show w.jump ≠ 0 by omega)
  have h4 := Int.emod_lt_of_pos (a + fastI w by') (show 0 < w.jump by omega)
  (repeat' (first | ((first | with_reducible refine st_skip ?_ | with_reducible refine st_exit ?_); (try simp only [seqQ, blockQ, loopQ, forQ, whileQ, reduceIte, Nat.reduceEqDiff])) | (with_reducible refine st_ret ?_; ((try simp only [seqQ, blockQ, loopQ, forQ, whileQ]); first | (with_reducible refine retM_ret ?_) | refine retQ_ret ?_; simp [m0, hfi, hne, hdr])) | refine st_seq ?_ | refine st_block ?_ | ((first | refine st_reg ?_ | refine buildP_own ?_ | refine callP_b (b0) rfl ?_ | refine callP_b (r1) rfl ?_) <;> (simp -dsimp [m0, hfi, hne, hdr]; (repeat (simp -dsimp (disch := (first | omega | assumption | (refine Bool.eq_false_iff.1 ?_; assumption))) only [wrap_in, if_pos, if_neg]; (try simp -dsimp [m0, hfi, hne, hdr]))))) | ((first | refine guardP_of (fun hc => ?_) (fun hc => ?_) | refine st_cond rfl (fun hc => ?_) (fun hc => ?_)) <;> (try simp only [decide_eq_true_eq, decide_eq_false_iff_not, Bool.true_eq_false, Bool.false_eq_true, bne_iff_ne, ne_eq, bne_eq_false_iff_eq, beq_iff_eq, beq_eq_false_iff_ne, Bool.not_eq_true, Bool.not_eq_false, Bool.not_eq_eq_eq_not, Bool.not_true, Bool.not_false, Decidable.not_not] at hc) <;> (try (exfalso; first | omega | exact bool_tf hc (by assumption) | exact bool_ft hc (by assumption) | exact absurd (by assumption) hc)) <;> (first | with_reducible show STri _ _ _ _ _ _ | (simp -dsimp [m0, hfi, hne, hdr, hc]; (repeat (simp -dsimp (disch := (first | omega | assumption | (refine Bool.eq_false_iff.1 ?_; assumption))) only [wrap_in, if_pos, if_neg]; (try simp -dsimp [m0, hfi, hne, hdr, hc]))))))))
  refine st_nilB 9 2 200 36 4 rfl (by simp) rfl (by simp [newOK]) ?_
  refine st_nilB 9 3 201 3 1 rfl (by simp) rfl (by simp [newOK, setL1]) ?_
  refine st_for [4, 6, 8, 9, 200, 201] w.faces.length (fun k T H => T = [(3, .c (.sl 1 (by'.map rowB))), (4, .ptr 4 0), (6, .ptr 6 0), (8, .ptr 8 0), (9, .ptr 9 0), (10, .c (I k))] ∧ H = [(4, .box 26 [.c (I w.jump), .c (I w.elo), .c (I w.ehi), .c (slF w.faces)]), (6, .box 23 [.c (I wlo), .c (I whi)]),
    (8, .box 64 [.c (I 0), .c (I 0), .c (.val (.slice none 0 0)), .c (.val (.slice none 0 0))]), (9, .box 64 [.c (I (fastI w by')), .c (I (drvI w a by')), .own 200 k, .own 201 k]), (200, .arr 36 4 (trRows w a wlo whi by' k)), (201, .arr 3 1 (hnRows w a wlo whi by' k))]) (by simp [setL1]) ⟨by simp, by simp [setL1, trRows, hnRows]⟩ ?_
  rintro k T H hk ⟨rfl, rfl⟩
  have l1 := trRows_len w a wlo whi by' k
  have l2 := hnRows_len w a wlo whi by' k
  by_cases hlt : k < w.faces.length
  · have s1 := trRows_succ w a wlo whi by' k
    have s2 := hnRows_succ w a wlo whi by' k
    have hok := dw_face hd (List.getElem_mem hlt)
    have hfs := fc_sm hok
    have hfl := hw.l _ (List.getElem_mem hlt)
    have hfa : faceAt w k = w.faces[k] := by unfold faceAt; simp [hlt]
    have hlh : w.faces[k].lo ≤ w.faces[k].hi := by
      have := hok
      simp only [fcOK, fcB, spanB, Bool.and_eq_true, decide_eq_true_eq] at this
      exact this.1.1.1.1.1.1.2
    have hgr : ∀ h : k < (w.faces.map rowF).length, (w.faces.map rowF)[k]'h = rowF w.faces[k] := fun h => by simp
    have sf := lFace w.faces[k] hfl
    have ss := sSlack w.faces[k] hfl
    unfold rSlack at ss
    rw [if_pos hok] at ss
    generalize hla : lagAt w a wlo whi by' k = lg at *
    unfold lagAt at hla
    have hha : handAt w a wlo whi by' k = drvI w a by' + setI (faceAt w k) by' k - lg := by unfold handAt lagAt; rw [hla]
    rw [hha] at s2
    rw [hfa] at s1 s2 hla
    generalize w.faces[k] = f at *
    have z1 := hfs.a
    have z2 := hfs.d
    have z3 := hfs.e
    have z4 := hfs.g
    have z5 := hfs.h
    have z6 := hfs.i
    have z7 := hfs.j
    have z8 := hfs.k
    have b1 := lByte by' hb hbl (4 * k + 1) (by omega) (by omega)
    have b2 := lByte by' hb hbl (4 * k + 2) (by omega) (by omega)
    have b3 := lByte by' hb hbl (4 * k + 3) (by omega) (by omega)
    obtain ⟨p1, p2⟩ := byt_bd hb (4 * k + 1)
    obtain ⟨p3, p4⟩ := byt_bd hb (4 * k + 2)
    obtain ⟨p5, p6⟩ := byt_bd hb (4 * k + 3)
    have m1 : (bytI by' (4 * k + 1)).tmod (f.hi - f.lo + 1) = bytI by' (4 * k + 1) % (f.hi - f.lo + 1) := Int.tmod_eq_emod_of_nonneg p1
    have m2 : (bytI by' (4 * k + 2)).tmod (whi - wlo + 1) = bytI by' (4 * k + 2) % (whi - wlo + 1) := Int.tmod_eq_emod_of_nonneg p3
    have m3 : (bytI by' (4 * k + 3)).tmod (slackI f.links + 1) = bytI by' (4 * k + 3) % (slackI f.links + 1) := Int.tmod_eq_emod_of_nonneg p5
    have ne1 : ¬ f.hi - f.lo + 1 = 0 := by omega
    have ne2 : ¬ whi - wlo + 1 = 0 := by omega
    have ne3 : ¬ slackI f.links + 1 = 0 := by omega
    have hs : f.lo + bytI by' (4 * k + 1) % (f.hi - f.lo + 1) = setI f by' k := rfl
    have hg : wlo + bytI by' (4 * k + 2) % (whi - wlo + 1) = winI wlo whi by' k := rfl
    obtain ⟨t1, t2⟩ := set_bd hlh by' k
    obtain ⟨t3, t4⟩ := win_bd w2 by' k
    have hll := lagI_bd z7 (drvI w a by') (winI wlo whi by' k) by' k
    rw [hla] at hll
    obtain ⟨t5, t6⟩ := hll
    have q1 : 0 ≤ bytI by' (4 * k + 1) % (f.hi - f.lo + 1) := Int.emod_nonneg _ ne1
    have q2 : bytI by' (4 * k + 1) % (f.hi - f.lo + 1) < f.hi - f.lo + 1 := Int.emod_lt_of_pos _ (by omega)
    have q3 : 0 ≤ bytI by' (4 * k + 2) % (whi - wlo + 1) := Int.emod_nonneg _ ne2
    have q4 : bytI by' (4 * k + 2) % (whi - wlo + 1) < whi - wlo + 1 := Int.emod_lt_of_pos _ (by omega)
    have r2 := lRest (drvI w a by') 3600 (by omega) (by omega) (by decide) (by decide)
    have D1 : -1000000 ≤ drvI w a by' ∧ drvI w a by' ≤ 200000000 := by omega
    have q5 : 0 ≤ bytI by' (4 * k + 3) % (slackI f.links + 1) := Int.emod_nonneg _ ne3
    have q6 : bytI by' (4 * k + 3) % (slackI f.links + 1) < slackI f.links + 1 := Int.emod_lt_of_pos _ (by omega)
    generalize setI f by' k = st at *
    generalize winI wlo whi by' k = g at *
    generalize drvI w a by' = D at *
    generalize fastI w by' = F at *
    have hmx : (if 0 < slackI f.links then slackI f.links else 0) = slackI f.links := by split <;> omega
    have hA : k + 1 ≤ 9223372036854775807 := by omega
    have hB : (k + 1) * 32 ≤ 140737488355328 := by omega
    have hB2 : (k + 1) * 8 ≤ 140737488355328 := by omega
    clear hfs hok hd hw hsm h1 h2 h3 h4 hdr d3 m0 hfi r1
    unfold lagI forceI at hla
    by_cases hF2 : D % 3600 < 1800
    · have hF3 : ¬ 1800 ≤ D % 3600 := by omega
      rw [if_pos hF2] at hla
      skip
      by_cases hX : f.friction < g + f.weight
      · rw [if_pos hX] at hla
        subst hla
        (repeat' (first | ((first | with_reducible refine st_skip ?_ | with_reducible refine st_exit ?_); (try simp only [seqQ, blockQ, loopQ, forQ, whileQ, reduceIte, Nat.reduceEqDiff])) | (with_reducible refine st_ret ?_; ((try simp only [seqQ, blockQ, loopQ, forQ, whileQ]); first | (with_reducible refine retM_ret ?_) | refine retQ_ret ?_; simp [hlt, hgr, m1, m2, m3, ne1, ne2, ne3, hs, hg, hF3, hX, hmx, hA, hB, hB2, l1, l2])) | refine st_seq ?_ | refine st_block ?_ | ((first | refine st_reg ?_ | refine buildP_own ?_ | refine callP_b (sf) rfl ?_ | refine callP_b (ss) rfl ?_ | refine callP_b (b1) rfl ?_ | refine callP_b (b2) rfl ?_ | refine callP_b (b3) rfl ?_ | refine callP_b (r2) rfl ?_) <;> (simp -dsimp [hlt, hgr, m1, m2, m3, ne1, ne2, ne3, hs, hg, hF3, hX, hmx, hA, hB, hB2, l1, l2]; (repeat (simp -dsimp (disch := (first | omega | assumption | (refine Bool.eq_false_iff.1 ?_; assumption))) only [wrap_in, if_pos, if_neg]; (try simp -dsimp [hlt, hgr, m1, m2, m3, ne1, ne2, ne3, hs, hg, hF3, hX, hmx, hA, hB, hB2, l1, l2]))))) | ((first | refine guardP_of (fun hc => ?_) (fun hc => ?_) | refine st_cond rfl (fun hc => ?_) (fun hc => ?_)) <;> (try simp only [decide_eq_true_eq, decide_eq_false_iff_not, Bool.true_eq_false, Bool.false_eq_true, bne_iff_ne, ne_eq, bne_eq_false_iff_eq, beq_iff_eq, beq_eq_false_iff_ne, Bool.not_eq_true, Bool.not_eq_false, Bool.not_eq_eq_eq_not, Bool.not_true, Bool.not_false, Decidable.not_not] at hc) <;> (try (exfalso; first | omega | exact bool_tf hc (by assumption) | exact bool_ft hc (by assumption) | exact absurd (by assumption) hc)) <;> (first | with_reducible show STri _ _ _ _ _ _ | (simp -dsimp [hlt, hgr, m1, m2, m3, ne1, ne2, ne3, hs, hg, hF3, hX, hmx, hA, hB, hB2, l1, l2, hc]; (repeat (simp -dsimp (disch := (first | omega | assumption | (refine Bool.eq_false_iff.1 ?_; assumption))) only [wrap_in, if_pos, if_neg]; (try simp -dsimp [hlt, hgr, m1, m2, m3, ne1, ne2, ne3, hs, hg, hF3, hX, hmx, hA, hB, hB2, l1, l2, hc]))))))))
        all_goals exact ⟨hlt, by simp, by simp, by rw [s1, s2]; simp⟩
      · rw [if_neg hX] at hla
        by_cases hY : g + f.weight < -f.friction
        · rw [if_pos hY] at hla
          subst hla
          (repeat' (first | ((first | with_reducible refine st_skip ?_ | with_reducible refine st_exit ?_); (try simp only [seqQ, blockQ, loopQ, forQ, whileQ, reduceIte, Nat.reduceEqDiff])) | (with_reducible refine st_ret ?_; ((try simp only [seqQ, blockQ, loopQ, forQ, whileQ]); first | (with_reducible refine retM_ret ?_) | refine retQ_ret ?_; simp [hlt, hgr, m1, m2, m3, ne1, ne2, ne3, hs, hg, hF3, hX, hY, hmx, hA, hB, hB2, l1, l2])) | refine st_seq ?_ | refine st_block ?_ | ((first | refine st_reg ?_ | refine buildP_own ?_ | refine callP_b (sf) rfl ?_ | refine callP_b (ss) rfl ?_ | refine callP_b (b1) rfl ?_ | refine callP_b (b2) rfl ?_ | refine callP_b (b3) rfl ?_ | refine callP_b (r2) rfl ?_) <;> (simp -dsimp [hlt, hgr, m1, m2, m3, ne1, ne2, ne3, hs, hg, hF3, hX, hY, hmx, hA, hB, hB2, l1, l2]; (repeat (simp -dsimp (disch := (first | omega | assumption | (refine Bool.eq_false_iff.1 ?_; assumption))) only [wrap_in, if_pos, if_neg]; (try simp -dsimp [hlt, hgr, m1, m2, m3, ne1, ne2, ne3, hs, hg, hF3, hX, hY, hmx, hA, hB, hB2, l1, l2]))))) | ((first | refine guardP_of (fun hc => ?_) (fun hc => ?_) | refine st_cond rfl (fun hc => ?_) (fun hc => ?_)) <;> (try simp only [decide_eq_true_eq, decide_eq_false_iff_not, Bool.true_eq_false, Bool.false_eq_true, bne_iff_ne, ne_eq, bne_eq_false_iff_eq, beq_iff_eq, beq_eq_false_iff_ne, Bool.not_eq_true, Bool.not_eq_false, Bool.not_eq_eq_eq_not, Bool.not_true, Bool.not_false, Decidable.not_not] at hc) <;> (try (exfalso; first | omega | exact bool_tf hc (by assumption) | exact bool_ft hc (by assumption) | exact absurd (by assumption) hc)) <;> (first | with_reducible show STri _ _ _ _ _ _ | (simp -dsimp [hlt, hgr, m1, m2, m3, ne1, ne2, ne3, hs, hg, hF3, hX, hY, hmx, hA, hB, hB2, l1, l2, hc]; (repeat (simp -dsimp (disch := (first | omega | assumption | (refine Bool.eq_false_iff.1 ?_; assumption))) only [wrap_in, if_pos, if_neg]; (try simp -dsimp [hlt, hgr, m1, m2, m3, ne1, ne2, ne3, hs, hg, hF3, hX, hY, hmx, hA, hB, hB2, l1, l2, hc]))))))))
          all_goals exact ⟨hlt, by simp, by simp, by rw [s1, s2]; simp⟩
        · rw [if_neg hY] at hla
          (repeat' (first | ((first | with_reducible refine st_skip ?_ | with_reducible refine st_exit ?_); (try simp only [seqQ, blockQ, loopQ, forQ, whileQ, reduceIte, Nat.reduceEqDiff])) | (with_reducible refine st_ret ?_; ((try simp only [seqQ, blockQ, loopQ, forQ, whileQ]); first | (with_reducible refine retM_ret ?_) | refine retQ_ret ?_; simp [hlt, hgr, m1, m2, m3, ne1, ne2, ne3, hs, hg, hF3, hX, hY, hla, hmx, hA, hB, hB2, l1, l2])) | refine st_seq ?_ | refine st_block ?_ | ((first | refine st_reg ?_ | refine buildP_own ?_ | refine callP_b (sf) rfl ?_ | refine callP_b (ss) rfl ?_ | refine callP_b (b1) rfl ?_ | refine callP_b (b2) rfl ?_ | refine callP_b (b3) rfl ?_ | refine callP_b (r2) rfl ?_) <;> (simp -dsimp [hlt, hgr, m1, m2, m3, ne1, ne2, ne3, hs, hg, hF3, hX, hY, hla, hmx, hA, hB, hB2, l1, l2]; (repeat (simp -dsimp (disch := (first | omega | assumption | (refine Bool.eq_false_iff.1 ?_; assumption))) only [wrap_in, if_pos, if_neg]; (try simp -dsimp [hlt, hgr, m1, m2, m3, ne1, ne2, ne3, hs, hg, hF3, hX, hY, hla, hmx, hA, hB, hB2, l1, l2]))))) | ((first | refine guardP_of (fun hc => ?_) (fun hc => ?_) | refine st_cond rfl (fun hc => ?_) (fun hc => ?_)) <;> (try simp only [decide_eq_true_eq, decide_eq_false_iff_not, Bool.true_eq_false, Bool.false_eq_true, bne_iff_ne, ne_eq, bne_eq_false_iff_eq, beq_iff_eq, beq_eq_false_iff_ne, Bool.not_eq_true, Bool.not_eq_false, Bool.not_eq_eq_eq_not, Bool.not_true, Bool.not_false, Decidable.not_not] at hc) <;> (try (exfalso; first | omega | exact bool_tf hc (by assumption) | exact bool_ft hc (by assumption) | exact absurd (by assumption) hc)) <;> (first | with_reducible show STri _ _ _ _ _ _ | (simp -dsimp [hlt, hgr, m1, m2, m3, ne1, ne2, ne3, hs, hg, hF3, hX, hY, hla, hmx, hA, hB, hB2, l1, l2, hc]; (repeat (simp -dsimp (disch := (first | omega | assumption | (refine Bool.eq_false_iff.1 ?_; assumption))) only [wrap_in, if_pos, if_neg]; (try simp -dsimp [hlt, hgr, m1, m2, m3, ne1, ne2, ne3, hs, hg, hF3, hX, hY, hla, hmx, hA, hB, hB2, l1, l2, hc]))))))))
          all_goals exact ⟨hlt, by simp, by simp, by rw [s1, s2]; simp⟩
    · have hF3 : 1800 ≤ D % 3600 := by omega
      rw [if_neg hF2] at hla
      rw [show g + -f.weight = g - f.weight by omega] at hla
      by_cases hX : f.friction < g - f.weight
      · rw [if_pos hX] at hla
        subst hla
        (repeat' (first | ((first | with_reducible refine st_skip ?_ | with_reducible refine st_exit ?_); (try simp only [seqQ, blockQ, loopQ, forQ, whileQ, reduceIte, Nat.reduceEqDiff])) | (with_reducible refine st_ret ?_; ((try simp only [seqQ, blockQ, loopQ, forQ, whileQ]); first | (with_reducible refine retM_ret ?_) | refine retQ_ret ?_; simp [hlt, hgr, m1, m2, m3, ne1, ne2, ne3, hs, hg, hF3, hX, hmx, hA, hB, hB2, l1, l2])) | refine st_seq ?_ | refine st_block ?_ | ((first | refine st_reg ?_ | refine buildP_own ?_ | refine callP_b (sf) rfl ?_ | refine callP_b (ss) rfl ?_ | refine callP_b (b1) rfl ?_ | refine callP_b (b2) rfl ?_ | refine callP_b (b3) rfl ?_ | refine callP_b (r2) rfl ?_) <;> (simp -dsimp [hlt, hgr, m1, m2, m3, ne1, ne2, ne3, hs, hg, hF3, hX, hmx, hA, hB, hB2, l1, l2]; (repeat (simp -dsimp (disch := (first | omega | assumption | (refine Bool.eq_false_iff.1 ?_; assumption))) only [wrap_in, if_pos, if_neg]; (try simp -dsimp [hlt, hgr, m1, m2, m3, ne1, ne2, ne3, hs, hg, hF3, hX, hmx, hA, hB, hB2, l1, l2]))))) | ((first | refine guardP_of (fun hc => ?_) (fun hc => ?_) | refine st_cond rfl (fun hc => ?_) (fun hc => ?_)) <;> (try simp only [decide_eq_true_eq, decide_eq_false_iff_not, Bool.true_eq_false, Bool.false_eq_true, bne_iff_ne, ne_eq, bne_eq_false_iff_eq, beq_iff_eq, beq_eq_false_iff_ne, Bool.not_eq_true, Bool.not_eq_false, Bool.not_eq_eq_eq_not, Bool.not_true, Bool.not_false, Decidable.not_not] at hc) <;> (try (exfalso; first | omega | exact bool_tf hc (by assumption) | exact bool_ft hc (by assumption) | exact absurd (by assumption) hc)) <;> (first | with_reducible show STri _ _ _ _ _ _ | (simp -dsimp [hlt, hgr, m1, m2, m3, ne1, ne2, ne3, hs, hg, hF3, hX, hmx, hA, hB, hB2, l1, l2, hc]; (repeat (simp -dsimp (disch := (first | omega | assumption | (refine Bool.eq_false_iff.1 ?_; assumption))) only [wrap_in, if_pos, if_neg]; (try simp -dsimp [hlt, hgr, m1, m2, m3, ne1, ne2, ne3, hs, hg, hF3, hX, hmx, hA, hB, hB2, l1, l2, hc]))))))))
        all_goals exact ⟨hlt, by simp, by simp, by rw [s1, s2]; simp⟩
      · rw [if_neg hX] at hla
        by_cases hY : g - f.weight < -f.friction
        · rw [if_pos hY] at hla
          subst hla
          (repeat' (first | ((first | with_reducible refine st_skip ?_ | with_reducible refine st_exit ?_); (try simp only [seqQ, blockQ, loopQ, forQ, whileQ, reduceIte, Nat.reduceEqDiff])) | (with_reducible refine st_ret ?_; ((try simp only [seqQ, blockQ, loopQ, forQ, whileQ]); first | (with_reducible refine retM_ret ?_) | refine retQ_ret ?_; simp [hlt, hgr, m1, m2, m3, ne1, ne2, ne3, hs, hg, hF3, hX, hY, hmx, hA, hB, hB2, l1, l2])) | refine st_seq ?_ | refine st_block ?_ | ((first | refine st_reg ?_ | refine buildP_own ?_ | refine callP_b (sf) rfl ?_ | refine callP_b (ss) rfl ?_ | refine callP_b (b1) rfl ?_ | refine callP_b (b2) rfl ?_ | refine callP_b (b3) rfl ?_ | refine callP_b (r2) rfl ?_) <;> (simp -dsimp [hlt, hgr, m1, m2, m3, ne1, ne2, ne3, hs, hg, hF3, hX, hY, hmx, hA, hB, hB2, l1, l2]; (repeat (simp -dsimp (disch := (first | omega | assumption | (refine Bool.eq_false_iff.1 ?_; assumption))) only [wrap_in, if_pos, if_neg]; (try simp -dsimp [hlt, hgr, m1, m2, m3, ne1, ne2, ne3, hs, hg, hF3, hX, hY, hmx, hA, hB, hB2, l1, l2]))))) | ((first | refine guardP_of (fun hc => ?_) (fun hc => ?_) | refine st_cond rfl (fun hc => ?_) (fun hc => ?_)) <;> (try simp only [decide_eq_true_eq, decide_eq_false_iff_not, Bool.true_eq_false, Bool.false_eq_true, bne_iff_ne, ne_eq, bne_eq_false_iff_eq, beq_iff_eq, beq_eq_false_iff_ne, Bool.not_eq_true, Bool.not_eq_false, Bool.not_eq_eq_eq_not, Bool.not_true, Bool.not_false, Decidable.not_not] at hc) <;> (try (exfalso; first | omega | exact bool_tf hc (by assumption) | exact bool_ft hc (by assumption) | exact absurd (by assumption) hc)) <;> (first | with_reducible show STri _ _ _ _ _ _ | (simp -dsimp [hlt, hgr, m1, m2, m3, ne1, ne2, ne3, hs, hg, hF3, hX, hY, hmx, hA, hB, hB2, l1, l2, hc]; (repeat (simp -dsimp (disch := (first | omega | assumption | (refine Bool.eq_false_iff.1 ?_; assumption))) only [wrap_in, if_pos, if_neg]; (try simp -dsimp [hlt, hgr, m1, m2, m3, ne1, ne2, ne3, hs, hg, hF3, hX, hY, hmx, hA, hB, hB2, l1, l2, hc]))))))))
          all_goals exact ⟨hlt, by simp, by simp, by rw [s1, s2]; simp⟩
        · rw [if_neg hY] at hla
          (repeat' (first | ((first | with_reducible refine st_skip ?_ | with_reducible refine st_exit ?_); (try simp only [seqQ, blockQ, loopQ, forQ, whileQ, reduceIte, Nat.reduceEqDiff])) | (with_reducible refine st_ret ?_; ((try simp only [seqQ, blockQ, loopQ, forQ, whileQ]); first | (with_reducible refine retM_ret ?_) | refine retQ_ret ?_; simp [hlt, hgr, m1, m2, m3, ne1, ne2, ne3, hs, hg, hF3, hX, hY, hla, hmx, hA, hB, hB2, l1, l2])) | refine st_seq ?_ | refine st_block ?_ | ((first | refine st_reg ?_ | refine buildP_own ?_ | refine callP_b (sf) rfl ?_ | refine callP_b (ss) rfl ?_ | refine callP_b (b1) rfl ?_ | refine callP_b (b2) rfl ?_ | refine callP_b (b3) rfl ?_ | refine callP_b (r2) rfl ?_) <;> (simp -dsimp [hlt, hgr, m1, m2, m3, ne1, ne2, ne3, hs, hg, hF3, hX, hY, hla, hmx, hA, hB, hB2, l1, l2]; (repeat (simp -dsimp (disch := (first | omega | assumption | (refine Bool.eq_false_iff.1 ?_; assumption))) only [wrap_in, if_pos, if_neg]; (try simp -dsimp [hlt, hgr, m1, m2, m3, ne1, ne2, ne3, hs, hg, hF3, hX, hY, hla, hmx, hA, hB, hB2, l1, l2]))))) | ((first | refine guardP_of (fun hc => ?_) (fun hc => ?_) | refine st_cond rfl (fun hc => ?_) (fun hc => ?_)) <;> (try simp only [decide_eq_true_eq, decide_eq_false_iff_not, Bool.true_eq_false, Bool.false_eq_true, bne_iff_ne, ne_eq, bne_eq_false_iff_eq, beq_iff_eq, beq_eq_false_iff_ne, Bool.not_eq_true, Bool.not_eq_false, Bool.not_eq_eq_eq_not, Bool.not_true, Bool.not_false, Decidable.not_not] at hc) <;> (try (exfalso; first | omega | exact bool_tf hc (by assumption) | exact bool_ft hc (by assumption) | exact absurd (by assumption) hc)) <;> (first | with_reducible show STri _ _ _ _ _ _ | (simp -dsimp [hlt, hgr, m1, m2, m3, ne1, ne2, ne3, hs, hg, hF3, hX, hY, hla, hmx, hA, hB, hB2, l1, l2, hc]; (repeat (simp -dsimp (disch := (first | omega | assumption | (refine Bool.eq_false_iff.1 ?_; assumption))) only [wrap_in, if_pos, if_neg]; (try simp -dsimp [hlt, hgr, m1, m2, m3, ne1, ne2, ne3, hs, hg, hF3, hX, hY, hla, hmx, hA, hB, hB2, l1, l2, hc]))))))))
          all_goals exact ⟨hlt, by simp, by simp, by rw [s1, s2]; simp⟩
  · have hke : k = w.faces.length := by omega
    subst hke
    have hres : cTold w a wlo whi by' = .agg [I (fastI w by'), I (drvI w a by'), .sl 4 (trRows w a wlo whi by' w.faces.length), .sl 1 (hnRows w a wlo whi by' w.faces.length)] := rfl
    (repeat' (first | ((first | with_reducible refine st_skip ?_ | with_reducible refine st_exit ?_); (try simp only [seqQ, blockQ, loopQ, forQ, whileQ, reduceIte, Nat.reduceEqDiff])) | (with_reducible refine st_ret ?_; ((try simp only [seqQ, blockQ, loopQ, forQ, whileQ]); first | (with_reducible refine retM_ret ?_) | refine retQ_ret ?_; simp [l1, l2])) | refine st_seq ?_ | refine st_block ?_ | ((first | refine st_reg ?_ | refine buildP_own ?_) <;> (simp -dsimp [l1, l2]; (repeat (simp -dsimp (disch := (first | omega | assumption | (refine Bool.eq_false_iff.1 ?_; assumption))) only [wrap_in, if_pos, if_neg]; (try simp -dsimp [l1, l2]))))) | ((first | refine guardP_of (fun hc => ?_) (fun hc => ?_) | refine st_cond rfl (fun hc => ?_) (fun hc => ?_)) <;> (try simp only [decide_eq_true_eq, decide_eq_false_iff_not, Bool.true_eq_false, Bool.false_eq_true, bne_iff_ne, ne_eq, bne_eq_false_iff_eq, beq_iff_eq, beq_eq_false_iff_ne, Bool.not_eq_true, Bool.not_eq_false, Bool.not_eq_eq_eq_not, Bool.not_true, Bool.not_false, Decidable.not_not] at hc) <;> (try (exfalso; first | omega | exact bool_tf hc (by assumption) | exact bool_ft hc (by assumption) | exact absurd (by assumption) hc)) <;> (first | with_reducible show STri _ _ _ _ _ _ | (simp -dsimp [l1, l2, hc]; (repeat (simp -dsimp (disch := (first | omega | assumption | (refine Bool.eq_false_iff.1 ?_; assumption))) only [wrap_in, if_pos, if_neg]; (try simp -dsimp [l1, l2, hc]))))))))
    rw [hres]
    all_goals exact .refl _

end Go.Proofs.Ytnfggkopledpcaa
/- Dial's plain laws, VI: what is told is possible. -/
namespace Go.Proofs.Ytnfggkopledpcaa
open Go.RowKit

theorem told_lag {k : Lo} (hk : LoSm k) (hw : k.wlo ≤ k.whi) (d : Int) (by' : List Int) (i : Nat) : lagLo k.f (slackI k.f.links) d k.whi k.wlo ≤ lagI k.f d (winI k.wlo k.whi by' i) by' i ∧ lagI k.f d (winI k.wlo k.whi by' i) by' i ≤ lagHi k.f (slackI k.f.links) d k.wlo := by
  obtain ⟨g1, g2⟩ := win_bd hw by' i
  obtain ⟨l1, l2⟩ := lagI_bd hk.f.j d (winI k.wlo k.whi by' i) by' i
  have hfr := hk.f.h
  unfold lagLo lagHi
  generalize hl : lagI k.f d (winI k.wlo k.whi by' i) by' i = l at *
  unfold lagI at hl
  (repeat' split at hl) <;> (repeat' split) <;> omega

/-- Where a told hand is. -/
theorem told_hand {k : Lo} (hk : LoSm k) (hw : k.wlo ≤ k.whi) (hf : k.f.lo ≤ k.f.hi) (d : Int) (by' : List Int) (i : Nat) :
    handLo k.f (slackI k.f.links) d k.wlo ≤ d + setI k.f by' i - lagI k.f d (winI k.wlo k.whi by' i) by' i ∧ d + setI k.f by' i - lagI k.f d (winI k.wlo k.whi by' i) by' i ≤ handHi k.f (slackI k.f.links) d k.wlo k.whi := by
  obtain ⟨a, b⟩ := told_lag hk hw d by' i
  obtain ⟨c, e⟩ := set_bd hf by' i
  unfold handLo handHi
  omega

theorem dr_to2 {w : Dw} (hw : DwSm w) {lo hi a e : Int} (a1 : lo ≤ a) (a2 : a ≤ hi) (h1 : w.elo ≤ e) (h2 : e ≤ w.ehi) : downI (a + e) w.jump ∈ drL w lo hi := by
  have j1 := hw.a
  obtain ⟨q0, hq0⟩ := down_is (lo + w.elo) w.jump
  obtain ⟨q, hq⟩ := down_is (a + e) w.jump
  have hm := down_mono (show lo + w.elo ≤ a + e by omega) (show 0 < w.jump by omega)
  obtain ⟨_, d2⟩ := down_le (n := a + e) (b := w.jump) (by omega)
  have hqq : q0 ≤ q := by
    rw [hq0, hq] at hm
    exact Int.le_of_mul_le_mul_right hm (by omega)
  have hat : drAt w lo (q - q0).toNat = downI (a + e) w.jump := by
    unfold drAt
    rw [hq0, hq, Int.toNat_of_nonneg (by omega), Int.sub_mul]; omega
  unfold drL
  refine List.mem_map.2 ⟨(q - q0).toNat, List.mem_range.2 ((dr_lt (by omega)).2 ?_), hat⟩
  rw [hat]
  omega

/-- A time at which all readings are right is one of the times. -/
theorem tim_mem {n : Nt} (ok : NtOk n) {a e : Int} (a1 : n.nlo ≤ a) (a2 : a ≤ n.nhi) (h1 : n.w.elo ≤ e) (h2 : e ≤ n.w.ehi) (hc : allCan n (downI (a + e) n.w.jump) = true) : Memb (timRaw n) a := by
  have dw := dw_sm ok.w
  have j1 := dw.a
  obtain ⟨d1, d2⟩ := down_le (n := a + e) (b := n.w.jump) (by omega)
  have hb : (timeAt n (downI (a + e) n.w.jump)).1 ≤ a ∧ a ≤ (timeAt n (downI (a + e) n.w.jump)).2 := by
    unfold timeAt
    simp only
    constructor <;> split <;> omega
  exact ⟨_, mem_timRaw (dr_to2 dw a1 a2 h1 h2) hc (by omega), hb⟩

theorem timRaw_in {n : Nt} {x : Int × Int} (h : x ∈ timRaw n) : n.nlo ≤ x.1 ∧ x.2 ≤ n.nhi ∧ x.1 ≤ x.2 := by
  obtain ⟨d, hd, rfl, _, h3⟩ := timRaw_mem h
  refine ⟨?_, ?_, h3⟩
  · unfold timeAt; simp only; split <;> omega
  · unfold timeAt; simp only; split <;> omega

theorem timL_fine {n : Nt} (ok : NtOk n) : Sep (timL n) ∧ (∀ a, Memb (timL n) a ↔ Memb (timRaw n) a) ∧ (∀ x ∈ timL n, n.nlo ≤ x.1 ∧ x.2 ≤ n.nhi) ∧ (timL n).length ≤ 20000 := by
  obtain ⟨s1, s2⟩ := joinL_sep (xs := timRaw n) fun x hx => (timRaw_in hx).2.2
  refine ⟨s1, s2, fun x hx => ?_, ?_⟩
  · have h0 := s1.2 x hx
    obtain ⟨y, hy, h1, _⟩ := (s2 x.1).1 ⟨x, hx, Int.le_refl _, h0⟩
    obtain ⟨z, hz, _, h2⟩ := (s2 x.2).1 ⟨x, hx, h0, Int.le_refl _⟩
    have := timRaw_in hy
    have := timRaw_in hz
    omega
  · have h1 := joinK_len ((timRaw n).mergeSort fun x y => !ltS y x) (timRaw n).length
    have h2 := timK_len n (drL n.w n.nlo n.nhi).length
    have h3 := drN_le7 (dw_sm ok.w) ok.n4
    have h4 : (drL n.w n.nlo n.nhi).length = drN n.w n.nlo n.nhi := by simp [drL]
    show (joinK _ _).length ≤ _
    unfold timRaw at *
    omega

theorem prRaw_nil {n : Nt} {d : Int} (hd : d ∈ drL n.w n.nlo n.nhi) (hc : allCan n d = true) : prRaw n = [] := by
  have hin : ∀ x ∈ n.l, d ∈ plL n x := fun x hx => List.mem_filter.2 ⟨hd, List.all_eq_true.1 hc x hx⟩
  have hno : ∀ i k, i < n.l.length → k < n.l.length → noMeet n i k = false := fun i k hi hk => by
    have h1 := hin _ (List.getElem_mem hi)
    have h2 := hin _ (List.getElem_mem hk)
    have e1 : gp n.l i = n.l[i] := by simp [gp, hi]
    have e2 : gp n.l k = n.l[k] := by simp [gp, hk]
    unfold noMeet
    rw [e1, e2]
    simp only [Bool.not_eq_false', List.any_eq_true]
    exact ⟨d, h2, by simpa using h1⟩
  have hI : ∀ i k, i < n.l.length → k ≤ n.l.length → prIn n i k = [] := fun i k hi => by
    induction k with
    | zero => intro _; simp [prIn]
    | succ k ih => intro hk; rw [prIn_succ, hno i k hi (by omega)]; simp [ih (by omega)]
  have hO : ∀ i, i ≤ n.l.length → prOut n i = [] := fun i => by
    induction i with
    | zero => intro _; simp [prOut]
    | succ i ih => intro hi; rw [prOut_succ, ih (by omega), hI i i (by omega) (by omega)]; rfl
  exact hO _ (Nat.le_refl _)

/-- The readings of a truth that is told. -/
def tdL (x : Tw) (k : Nat) : List (Int × Int) := (List.range k).map fun i : Nat => ((i : Int), handAt (twW x) x.t (x.w0 - 128) (x.w0 - 128 + x.w1 % 100) x.truth i % 43200)
theorem tdL_succ (x : Tw) (k : Nat) : tdL x (k + 1) = tdL x k ++ [((k : Int), handAt (twW x) x.t (x.w0 - 128) (x.w0 - 128 + x.w1 % 100) x.truth k % 43200)] := by simp [tdL, List.range_succ]
theorem tdL_len (x : Tw) (k : Nat) : (tdL x k).length = k := by simp [tdL]
def tdN (x : Tw) (lo hi : Int) : Nt := ⟨twW x, tdL x (twN x), lo, hi, x.w0 - 128, x.w0 - 128 + x.w1 % 100⟩

theorem td_hand {x : Tw} (hx : TwOk x) {i : Nat} (hi : i < twN x) : handLo (twLo x i x.t).f (slackI (twLo x i x.t).f.links) (dAt (twLo x i x.t) (fastI (twW x) x.truth)) (x.w0 - 128) ≤ handAt (twW x) x.t (x.w0 - 128) (x.w0 - 128 + x.w1 % 100) x.truth i ∧
    handAt (twW x) x.t (x.w0 - 128) (x.w0 - 128 + x.w1 % 100) x.truth i ≤ handHi (twLo x i x.t).f (slackI (twLo x i x.t).f.links) (dAt (twLo x i x.t) (fastI (twW x) x.truth)) (x.w0 - 128) (x.w0 - 128 + x.w1 % 100) := by
  have t1 := hx.t
  have h := tw_look hx hi t1.1 (by omega)
  have hk := look_sm h
  have hw1 := hx.w1
  have hf : (twLo x i x.t).f.lo ≤ (twLo x i x.t).f.hi := by rw [(tw_f hi x.t).1]; exact tw_lohi hx i
  exact told_hand (k := twLo x i x.t) hk (by show x.w0 - 128 ≤ x.w0 - 128 + x.w1 % 100; omega) hf (dAt (twLo x i x.t) (fastI (twW x) x.truth)) x.truth i

theorem tw_elo {x : Tw} (hx : TwOk x) : (twW x).elo ≤ (twW x).ehi := by
  have := hx.e1
  show x.e0 % 60 - 30 ≤ x.e0 % 60 - 30 + x.e1 % 40
  omega

theorem td_ok {x : Tw} (hx : TwOk x) {lo hi : Int} (h1 : 0 ≤ lo) (h2 : lo ≤ hi) (h3 : hi ≤ 3155760000) (h4 : hi - lo ≤ 7200) : ntErr (tdN x lo hi) = 0 := by
  have hl : (twW x).faces.length = twN x := twF_len x _
  have hlen := tdL_len x (twN x)
  obtain ⟨p1, p2⟩ := twN_bd x
  have w0 := hx.w0
  have w1 := hx.w1
  have e1 : rdErr (twW x).faces.length (tdL x (twN x)) = 0 := by
    refine rd_none fun y hy => ?_
    rw [List.take_length] at hy
    obtain ⟨i, hi, rfl⟩ := List.mem_map.1 hy
    rw [List.mem_range] at hi
    have g1 : inB 0 (((twW x).faces.length : Int) - 1) (i : Int) = true := by rw [hl]; simp [inB]; omega
    have g2 : inB 0 43199 (handAt (twW x) x.t (x.w0 - 128) (x.w0 - 128 + x.w1 % 100) x.truth i % 43200) = true := by simp [inB]; omega
    simp [rdE, g1, g2]
  have e2 : spanB 0 3155760000 lo hi = true := by
    simp only [spanB, Bool.and_eq_true]
    exact ⟨⟨decide_eq_true (by omega), decide_eq_true (by omega)⟩, decide_eq_true (by omega)⟩
  have e3 : spanB (-10000) 10000 (x.w0 - 128) (x.w0 - 128 + x.w1 % 100) = true := by
    simp only [spanB, Bool.and_eq_true]
    exact ⟨⟨decide_eq_true (by omega), decide_eq_true (by omega)⟩, decide_eq_true (by omega)⟩
  unfold ntErr tdN
  simp only [tw_ok hx, e1, e2, e3]
  rw [if_neg (by simp), if_neg (by omega), if_neg (by simp), if_neg (by simp; omega), if_neg (by simp)]

theorem td_can {x : Tw} (hx : TwOk x) (lo hi : Int) : allCan (tdN x lo hi) (drvI (twW x) x.t x.truth) = true := by
  refine List.all_eq_true.2 fun y hy => ?_
  obtain ⟨i, hin, rfl⟩ := List.mem_map.1 hy
  rw [List.mem_range] at hin
  obtain ⟨h1, h2⟩ := td_hand hx hin
  unfold canB
  refine decide_eq_true ?_
  generalize handAt (twW x) x.t (x.w0 - 128) (x.w0 - 128 + x.w1 % 100) x.truth i = h at *
  have hd : dAt (twLo x i x.t) (fastI (twW x) x.truth) = drvI (twW x) x.t x.truth := rfl
  have hf : (twLo x i x.t).f = (tdN x lo hi).w.faces.getD (i : Int).toNat .zero := rfl
  rw [hd, hf] at h1 h2
  have key : ∀ a b : Int, a ≤ h → h ≤ b → (h % 43200 - a) % 43200 ≤ b - a := fun a b _ _ => by omega
  exact key _ _ h1 h2

end Go.Proofs.Ytnfggkopledpcaa
/- Dial's plain laws, VIII: half a day later. -/
namespace Go.Proofs.Ytnfggkopledpcaa
open Go.RowKit

theorem down_sh {j b : Int} (hj : j ∣ b) (n : Int) : downI (n + b) j = downI n j + b := by
  obtain ⟨c, rfl⟩ := hj
  unfold downI
  rw [Int.add_mul_emod_self_left]; omega

theorem force_sh (f : Fc) (d : Int) {b : Int} (hb : (3600 : Int) ∣ b) : forceI f (d + b) = forceI f d := by
  obtain ⟨c, rfl⟩ := hb
  unfold forceI
  rw [Int.add_mul_emod_self_left]

theorem lagLo_sh (f : Fc) (s d whi wlo : Int) {b : Int} (hb : (3600 : Int) ∣ b) : lagLo f s (d + b) whi wlo = lagLo f s d whi wlo := by unfold lagLo; rw [force_sh f d hb]
theorem lagHi_sh (f : Fc) (s d wlo : Int) {b : Int} (hb : (3600 : Int) ∣ b) : lagHi f s (d + b) wlo = lagHi f s d wlo := by unfold lagHi; rw [force_sh f d hb]
theorem handLo_sh (f : Fc) (s d wlo : Int) {b : Int} (hb : (3600 : Int) ∣ b) : handLo f s (d + b) wlo = handLo f s d wlo + b := by unfold handLo; rw [lagHi_sh f s d wlo hb]; omega
theorem handHi_sh (f : Fc) (s d wlo whi : Int) {b : Int} (hb : (3600 : Int) ∣ b) : handHi f s (d + b) wlo whi = handHi f s d wlo whi + b := by unfold handHi; rw [lagLo_sh f s d whi wlo hb]; omega

theorem drL_sh (w : Dw) (lo hi : Int) {b : Int} (hj : w.jump ∣ b) : drL w (lo + b) (hi + b) = (drL w lo hi).map (· + b) := by
  have h1 : downI (lo + b + w.elo) w.jump = downI (lo + w.elo) w.jump + b := by
    rw [show lo + b + w.elo = lo + w.elo + b by omega]; exact down_sh hj _
  have h2 : drN w (lo + b) (hi + b) = drN w lo hi := by
    unfold drN; rw [h1, show hi + b + w.ehi - (downI (lo + w.elo) w.jump + b) = hi + w.ehi - downI (lo + w.elo) w.jump by omega]
  unfold drL
  rw [h2, List.map_map]
  refine List.map_congr_left fun k _ => ?_
  show drAt w (lo + b) k = drAt w lo k + b
  unfold drAt
  rw [h1]; omega

/-- A span, so much later. -/
def shP (b : Int) (x : Int × Int) : Int × Int := (x.1 + b, x.2 + b)
/-- A look, so much later. -/
def shK (b : Int) (k : Lo) : Lo := { k with at' := k.at' + b }

theorem haL_sh (k : Lo) {b : Int} (hj : k.w.jump ∣ b) (hb : (3600 : Int) ∣ b) : haL (shK b k) = (haL k).map (shP b) := by
  unfold haL
  show List.map _ (drL k.w (k.at' + b) (k.at' + b)) = _
  rw [drL_sh k.w k.at' k.at' hj, List.map_map, List.map_map]
  refine List.map_congr_left fun d _ => ?_
  show (handLo k.f _ (d + b) k.wlo, handHi k.f _ (d + b) k.wlo k.whi) = _
  rw [handLo_sh _ _ _ _ hb, handHi_sh _ _ _ _ _ hb]; rfl

theorem cutS_sh (x : Int × Int) {b : Int} (hb : (43200 : Int) ∣ b) : cutS (shP b x) = cutS x := by
  obtain ⟨c, rfl⟩ := hb
  have h1 : (x.1 + 43200 * c) % 43200 = x.1 % 43200 := Int.add_mul_emod_self_left _ _ _
  have h2 : x.2 + 43200 * c - (x.1 + 43200 * c) = x.2 - x.1 := by omega
  unfold cutS shP
  simp only [h1, h2]

theorem showL_sh (k : Lo) {b : Int} (hj : k.w.jump ∣ b) (hb : (43200 : Int) ∣ b) : showL (shK b k) = showL k := by
  have h3 : (3600 : Int) ∣ b := Int.dvd_trans (by decide) hb
  unfold showL showRaw cutK
  rw [haL_sh k hj h3, List.length_map, List.take_of_length_le (by simp), List.take_length, List.flatMap_map]
  congr 1
  congr 1
  funext x
  exact cutS_sh x hb

theorem off_sh {k : Lo} (hk : LoSm k) {b : Int} (hk2 : LoSm (shK b k)) (hj : k.w.jump ∣ b) (hb : (3600 : Int) ∣ b) : offLo (shK b k) = offLo k ∧ offHi (shK b k) = offHi k := by
  have hd : ∀ e, dAt (shK b k) e = dAt k e + b := fun e => by
    show downI (k.at' + b + e) k.w.jump = downI (k.at' + e) k.w.jump + b
    rw [show k.at' + b + e = k.at' + e + b by omega]; exact down_sh hj _
  have h1 : ∀ e, rhLo (shK b k) e = rhLo k e := fun e => by
    unfold rhLo
    rw [hd]
    show handLo k.f (slackI k.f.links) (dAt k e + b) k.wlo - (k.at' + b) = _
    rw [handLo_sh _ _ _ _ hb]; omega
  have h2 : ∀ e, rhHi (shK b k) e = rhHi k e := fun e => by
    unfold rhHi
    rw [hd]
    show handHi k.f (slackI k.f.links) (dAt k e + b) k.wlo k.whi - (k.at' + b) = _
    rw [handHi_sh _ _ _ _ _ hb]; omega
  obtain ⟨⟨e1, a1, a2, a3⟩, e2, a4, a5, a6⟩ := off_at hk
  obtain ⟨⟨e3, b1, b2, b3⟩, e4, b4, b5, b6⟩ := off_at hk2
  have c1 := (off_le hk b1 b2).1
  have c2 := (off_le hk b4 b5).2
  have c3 := (off_le hk2 a1 a2).1
  have c4 := (off_le hk2 a4 a5).2
  rw [h1] at b3 c3
  rw [h2] at b6 c4
  omega

/-- Readings made so much later. -/
def shN (b : Int) (n : Nt) : Nt := { n with nlo := n.nlo + b, nhi := n.nhi + b }

theorem can_sh (n : Nt) (x : Int × Int) (d : Int) {b : Int} (hb : (43200 : Int) ∣ b) : canB (shN b n) x (d + b) = canB n x d := by
  have h3 : (3600 : Int) ∣ b := Int.dvd_trans (by decide) hb
  unfold canB
  show decide ((x.2 - handLo (n.w.faces.getD x.1.toNat .zero) (slackI (n.w.faces.getD x.1.toNat .zero).links) (d + b) n.wlo) % 43200 ≤ handHi (n.w.faces.getD x.1.toNat .zero) (slackI (n.w.faces.getD x.1.toNat .zero).links) (d + b) n.wlo n.whi - handLo (n.w.faces.getD x.1.toNat .zero) (slackI (n.w.faces.getD x.1.toNat .zero).links) (d + b) n.wlo) = decide ((x.2 - handLo (n.w.faces.getD x.1.toNat .zero) (slackI (n.w.faces.getD x.1.toNat .zero).links) d n.wlo) % 43200 ≤ handHi (n.w.faces.getD x.1.toNat .zero) (slackI (n.w.faces.getD x.1.toNat .zero).links) d n.wlo n.whi - handLo (n.w.faces.getD x.1.toNat .zero) (slackI (n.w.faces.getD x.1.toNat .zero).links) d n.wlo)
  rw [handLo_sh _ _ _ _ h3, handHi_sh _ _ _ _ _ h3]
  obtain ⟨c, rfl⟩ := hb
  generalize handLo (n.w.faces.getD x.1.toNat .zero) (slackI (n.w.faces.getD x.1.toNat .zero).links) d n.wlo = p
  generalize handHi (n.w.faces.getD x.1.toNat .zero) (slackI (n.w.faces.getD x.1.toNat .zero).links) d n.wlo n.whi = q
  have e1 : (x.2 - (p + 43200 * c)) % 43200 = (x.2 - p) % 43200 := by omega
  have e2 : q + 43200 * c - (p + 43200 * c) = q - p := by omega
  simp only [e1, e2]

theorem stepT_sh (n : Nt) (o : List (Int × Int)) (d : Int) {b : Int} (hb : (43200 : Int) ∣ b) : stepT (shN b n) (o.map (shP b)) (d + b) = (stepT n o d).map (shP b) := by
  have h1 : allCan (shN b n) (d + b) = allCan n d := by
    unfold allCan
    show (n.l.all fun x => canB (shN b n) x (d + b)) = _
    congr 1
    funext x
    exact can_sh n x d hb
  have h2 : timeAt (shN b n) (d + b) = shP b (timeAt n d) := by
    unfold timeAt shP
    show ((if d + b - n.w.ehi > n.nlo + b then d + b - n.w.ehi else n.nlo + b), (if d + b + n.w.jump - 1 - n.w.elo < n.nhi + b then d + b + n.w.jump - 1 - n.w.elo else n.nhi + b)) = _
    refine Prod.ext ?_ ?_
    · show (if d + b - n.w.ehi > n.nlo + b then d + b - n.w.ehi else n.nlo + b) = (if d - n.w.ehi > n.nlo then d - n.w.ehi else n.nlo) + b
      split <;> split <;> omega
    · show (if d + b + n.w.jump - 1 - n.w.elo < n.nhi + b then d + b + n.w.jump - 1 - n.w.elo else n.nhi + b) = (if d + n.w.jump - 1 - n.w.elo < n.nhi then d + n.w.jump - 1 - n.w.elo else n.nhi) + b
      split <;> split <;> omega
  unfold stepT
  rw [h1, h2]
  by_cases hc : allCan n d = true ∧ (timeAt n d).1 ≤ (timeAt n d).2
  · rw [if_pos hc, if_pos ⟨hc.1, by show _ + b ≤ _ + b; omega⟩]; simp
  · rw [if_neg hc, if_neg fun h => hc ⟨h.1, by have := h.2; simp only [shP] at this; omega⟩]

theorem timRaw_sh (n : Nt) {b : Int} (hj : n.w.jump ∣ b) (hb : (43200 : Int) ∣ b) : timRaw (shN b n) = (timRaw n).map (shP b) := by
  have : ∀ (l : List Int) (o : List (Int × Int)), (l.map (· + b)).foldl (stepT (shN b n)) (o.map (shP b)) = (l.foldl (stepT n) o).map (shP b) := by
    intro l
    induction l with
    | nil => intro o; rfl
    | cons d l ih =>
      intro o
      simp only [List.map_cons, List.foldl_cons]
      rw [stepT_sh n o d hb, ih]
  unfold timRaw timK
  rw [List.take_length, List.take_length]
  show List.foldl _ [] (drL n.w (n.nlo + b) (n.nhi + b)) = _
  rw [drL_sh _ _ _ hj]
  exact this _ []

theorem sep_sh {l : List (Int × Int)} (b : Int) (h : Sep l) : Sep (l.map (shP b)) := by
  refine ⟨List.pairwise_map.2 (h.1.imp fun hxy => by simp only [shP]; omega), fun x hx => ?_⟩
  obtain ⟨y, hy, rfl⟩ := List.mem_map.1 hx
  have := h.2 y hy
  simp only [shP]; omega
theorem memb_sh {l : List (Int × Int)} (b n : Int) : Memb (l.map (shP b)) n ↔ Memb l (n - b) := by
  constructor
  · rintro ⟨x, hx, h1, h2⟩
    obtain ⟨y, hy, rfl⟩ := List.mem_map.1 hx
    simp only [shP] at h1 h2
    exact ⟨y, hy, by omega, by omega⟩
  · rintro ⟨y, hy, h1, h2⟩
    exact ⟨shP b y, List.mem_map.2 ⟨y, hy, rfl⟩, by simp only [shP]; omega, by simp only [shP]; omega⟩

theorem timL_sh {n : Nt} (ok : NtOk n) {b : Int} (ok2 : NtOk (shN b n)) (hj : n.w.jump ∣ b) (hb : (43200 : Int) ∣ b) : timL (shN b n) = (timL n).map (shP b) := by
  obtain ⟨s1, s2, _⟩ := timL_fine ok
  obtain ⟨t1, t2, _⟩ := timL_fine ok2
  refine sep_unique t1 (sep_sh b s1) fun a => ?_
  rw [t2, memb_sh, s2, timRaw_sh n hj hb, memb_sh]

end Go.Proofs.Ytnfggkopledpcaa
