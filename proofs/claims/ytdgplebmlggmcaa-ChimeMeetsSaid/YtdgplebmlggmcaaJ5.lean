/- Part 5 of a proof: Code. -/
import Derived.Test.YtdgplebmlggmcaaJ4
set_option linter.unusedSimpArgs false
set_option linter.unusedVariables false
/- The shadow's code of this seat's functions, as the kit's translation has them. -/
namespace Go.Proofs.Ytdgplebmlggmcaa
open Go.RowKit

-- turret/turretref06.Same
def c19_0 : SCode := .reg [⟨(some 2), none, .box 26 (.tmp 0), [], false⟩,
  ⟨(some 3), none, .box 26 (.tmp 1), [], false⟩,
  ⟨(some 4), none, .mov (.const (.bool false)), [], false⟩] [2, 3]
def c19_1 : SCode := .reg [⟨(some 6), none, .fld 0 (.tmp 2), [], false⟩,
  ⟨(some 7), none, .load false 1 (.tmp 6), [], false⟩,
  ⟨(some 8), none, .fld 0 (.tmp 3), [], false⟩,
  ⟨(some 9), none, .load false 1 (.tmp 8), [], false⟩,
  ⟨(some 10), none, .bin .neq (.tmp 7) (.tmp 9), [], false⟩,
  ⟨(some 11), none, .mov (.tmp 10), [], false⟩,
  ⟨(some 12), (some (11, false)), .fld 1 (.tmp 2), [], false⟩,
  ⟨(some 13), (some (11, false)), .load false 1 (.tmp 12), [], false⟩,
  ⟨(some 14), (some (11, false)), .fld 1 (.tmp 3), [], false⟩,
  ⟨(some 15), (some (11, false)), .load false 1 (.tmp 14), [], false⟩,
  ⟨(some 16), (some (11, false)), .bin .neq (.tmp 13) (.tmp 15), [], false⟩,
  ⟨(some 17), none, .pick (.tmp 11) (.const (.bool true)) (.tmp 16), [], false⟩,
  ⟨(some 18), none, .mov (.tmp 17), [], false⟩,
  ⟨(some 19), (some (18, false)), .fld 3 (.tmp 2), [], false⟩,
  ⟨(some 20), (some (18, false)), .load false 1 (.tmp 19), [], false⟩,
  ⟨(some 21), (some (18, false)), .fld 3 (.tmp 3), [], false⟩,
  ⟨(some 22), (some (18, false)), .load false 1 (.tmp 21), [], false⟩,
  ⟨(some 23), (some (18, false)), .bin .neq (.tmp 20) (.tmp 22), [], false⟩,
  ⟨(some 24), none, .pick (.tmp 18) (.const (.bool true)) (.tmp 23), [], false⟩,
  ⟨(some 25), none, .mov (.tmp 24), [], false⟩,
  ⟨(some 26), (some (25, false)), .fld 2 (.tmp 2), [], false⟩,
  ⟨(some 27), (some (25, false)), .load false 1 (.tmp 26), [], false⟩,
  ⟨(some 28), (some (25, false)), .fld 2 (.tmp 3), [], false⟩,
  ⟨(some 29), (some (25, false)), .load false 1 (.tmp 28), [], false⟩,
  ⟨(some 30), (some (25, false)), .call 29 [(.tmp 27), (.tmp 29)], [], false⟩,
  ⟨(some 31), (some (25, false)), .un .not (.tmp 30), [], false⟩,
  ⟨(some 32), none, .pick (.tmp 25) (.const (.bool true)) (.tmp 31), [], false⟩,
  ⟨(some 33), none, .mov (.tmp 32), [], false⟩,
  ⟨(some 34), (some (33, false)), .fld 4 (.tmp 2), [], false⟩,
  ⟨(some 35), (some (33, false)), .load false 1 (.tmp 34), [], false⟩,
  ⟨(some 36), (some (33, false)), .fld 4 (.tmp 3), [], false⟩,
  ⟨(some 37), (some (33, false)), .load false 1 (.tmp 36), [], false⟩,
  ⟨(some 38), (some (33, false)), .call 36 [(.tmp 35), (.tmp 37)], [], false⟩,
  ⟨(some 39), (some (33, false)), .un .not (.tmp 38), [], false⟩,
  ⟨(some 40), none, .pick (.tmp 33) (.const (.bool true)) (.tmp 39), [], false⟩,
  ⟨(some 41), none, .mov (.tmp 40), [], false⟩,
  ⟨(some 42), (some (41, false)), .fld 5 (.tmp 2), [], false⟩,
  ⟨(some 43), (some (41, false)), .load false 1 (.tmp 42), [], false⟩,
  ⟨(some 44), (some (41, false)), .len (.tmp 43), [], false⟩,
  ⟨(some 45), (some (41, false)), .fld 5 (.tmp 3), [], false⟩,
  ⟨(some 46), (some (41, false)), .load false 1 (.tmp 45), [], false⟩,
  ⟨(some 47), (some (41, false)), .len (.tmp 46), [], false⟩,
  ⟨(some 48), (some (41, false)), .bin .neq (.tmp 44) (.tmp 47), [], false⟩,
  ⟨(some 49), none, .pick (.tmp 41) (.const (.bool true)) (.tmp 48), [], false⟩] [2, 3, 49]
def c19_2 : SCode := .reg [⟨(some 4), none, .mov (.const (.bool false)), [], false⟩] [4]
def c19_3 : SCode := .seq c19_2 .ret
def c19_4 : SCode := .cond (.tmp 49) c19_3 .skip
def c19_5 : SCode := .seq c19_1 c19_4
def c19_6 : SCode := .reg [⟨(some 5), none, .mov (.const (.int .i64 0)), [], false⟩] [2, 3, 5]
def c19_7 : SCode := .reg [⟨(some 50), none, .mov (.tmp 5), [], false⟩,
  ⟨(some 51), none, .fld 5 (.tmp 2), [], false⟩,
  ⟨(some 52), none, .load false 1 (.tmp 51), [], false⟩,
  ⟨(some 53), none, .len (.tmp 52), [], false⟩,
  ⟨(some 54), none, .bin .lss (.tmp 50) (.tmp 53), [], false⟩] [2, 3, 5, 54]
def c19_8 : SCode := .cond (.tmp 54) .skip (.exit 0)
def c19_9 : SCode := .seq c19_7 c19_8
def c19_10 : SCode := .reg [⟨(some 57), none, .fld 5 (.tmp 2), [], false⟩,
  ⟨(some 58), none, .load false 1 (.tmp 57), [], false⟩,
  ⟨(some 59), none, .mov (.tmp 5), [], false⟩,
  ⟨(some 60), none, .idxS 2 (.tmp 58) (.tmp 59), [], false⟩,
  ⟨(some 61), none, .load true 2 (.tmp 60), [], false⟩,
  ⟨(some 62), none, .fld 5 (.tmp 3), [], false⟩,
  ⟨(some 63), none, .load false 1 (.tmp 62), [], false⟩,
  ⟨(some 64), none, .mov (.tmp 5), [], false⟩,
  ⟨(some 65), none, .idxS 2 (.tmp 63) (.tmp 64), [], false⟩,
  ⟨(some 66), none, .load true 2 (.tmp 65), [], false⟩,
  ⟨(some 67), none, .eqC true [true, true] (.tmp 61) (.tmp 66), [], false⟩] [2, 3, 5, 67]
def c19_11 : SCode := .reg [⟨(some 4), none, .mov (.const (.bool false)), [], false⟩] [4]
def c19_12 : SCode := .seq c19_11 .ret
def c19_13 : SCode := .cond (.tmp 67) c19_12 .skip
def c19_14 : SCode := .seq c19_10 c19_13
def c19_15 : SCode := .block 1 c19_14
def c19_16 : SCode := .reg [⟨(some 55), none, .mov (.tmp 5), [], false⟩,
  ⟨(some 56), none, .bin .add (.tmp 55) (.const (.int .i64 1)), [], false⟩,
  ⟨(some 5), none, .mov (.tmp 56), [], false⟩] [2, 3, 5]
def c19_17 : SCode := .seq c19_15 c19_16
def c19_18 : SCode := .seq c19_9 c19_17
def c19_19 : SCode := .loop c19_18
def c19_20 : SCode := .block 0 c19_19
def c19_21 : SCode := .seq c19_6 c19_20
def c19_22 : SCode := .reg [⟨(some 4), none, .mov (.const (.bool true)), [], false⟩] [4]
def c19_23 : SCode := .seq c19_22 .ret
def c19_24 : SCode := .seq c19_21 c19_23
def c19_25 : SCode := .seq c19_5 c19_24
def c19_26 : SCode := .seq c19_0 c19_25
@[simp] def rs19 : List SRes := [.tmp 4]
theorem law19 (cs : List CV) (r : CV) (hl : cs.length ≤ 68) (h : STri Try.prog 68 c19_26 (initT 0 cs) [] (retQ rs19 r)) : SC Try.prog 19 cs r :=
  sc_of Try.func19 rfl Try.ntmps19 (by kernel_rfl) (by kernel_rfl) hl h

-- turret/turretref06.Works
def c20_0 : SCode := .reg [⟨(some 1), none, .box 26 (.tmp 0), [], false⟩,
  ⟨(some 2), none, .mov (.const (.bool false)), [], false⟩] [1]
def c20_1 : SCode := .reg [⟨(some 7), none, .fld 0 (.tmp 1), [], false⟩,
  ⟨(some 8), none, .load false 1 (.tmp 7), [], false⟩,
  ⟨(some 9), none, .call 58 [(.tmp 8), (.const (.int .i64 1)), (.const (.int .i64 1000))], [], false⟩,
  ⟨(some 10), none, .un .not (.tmp 9), [], false⟩,
  ⟨(some 11), none, .mov (.tmp 10), [], false⟩,
  ⟨(some 12), (some (11, false)), .fld 1 (.tmp 1), [], false⟩,
  ⟨(some 13), (some (11, false)), .load false 1 (.tmp 12), [], false⟩,
  ⟨(some 14), (some (11, false)), .fld 0 (.tmp 1), [], false⟩,
  ⟨(some 15), (some (11, false)), .load false 1 (.tmp 14), [], false⟩,
  ⟨(some 16), (some (11, false)), .call 58 [(.tmp 13), (.const (.int .i64 1)), (.tmp 15)], [], false⟩,
  ⟨(some 17), (some (11, false)), .un .not (.tmp 16), [], false⟩,
  ⟨(some 18), none, .pick (.tmp 11) (.const (.bool true)) (.tmp 17), [], false⟩,
  ⟨(some 19), none, .mov (.tmp 18), [], false⟩,
  ⟨(some 20), (some (19, false)), .fld 0 (.tmp 1), [], false⟩,
  ⟨(some 21), (some (19, false)), .load false 1 (.tmp 20), [], false⟩,
  ⟨(some 22), (some (19, false)), .fld 1 (.tmp 1), [], false⟩,
  ⟨(some 23), (some (19, false)), .load false 1 (.tmp 22), [], false⟩,
  ⟨(some 24), (some (19, false)), .bin .rem (.tmp 21) (.tmp 23), [], false⟩,
  ⟨(some 25), (some (19, false)), .bin .neq (.tmp 24) (.const (.int .i64 0)), [], false⟩,
  ⟨(some 26), none, .pick (.tmp 19) (.const (.bool true)) (.tmp 25), [], false⟩,
  ⟨(some 27), none, .mov (.tmp 26), [], false⟩,
  ⟨(some 28), (some (27, false)), .fld 2 (.tmp 1), [], false⟩,
  ⟨(some 29), (some (27, false)), .load false 1 (.tmp 28), [], false⟩,
  ⟨(some 30), (some (27, false)), .len (.tmp 29), [], false⟩,
  ⟨(some 31), (some (27, false)), .call 58 [(.tmp 30), (.const (.int .i64 1)), (.const (.int .i64 8))], [], false⟩,
  ⟨(some 32), (some (27, false)), .un .not (.tmp 31), [], false⟩,
  ⟨(some 33), none, .pick (.tmp 27) (.const (.bool true)) (.tmp 32), [], false⟩,
  ⟨(some 34), none, .mov (.tmp 33), [], false⟩,
  ⟨(some 35), (some (34, false)), .fld 3 (.tmp 1), [], false⟩,
  ⟨(some 36), (some (34, false)), .load false 1 (.tmp 35), [], false⟩,
  ⟨(some 37), (some (34, false)), .call 58 [(.tmp 36), (.const (.int .i64 1)), (.const (.int .i64 8))], [], false⟩,
  ⟨(some 38), (some (34, false)), .un .not (.tmp 37), [], false⟩,
  ⟨(some 39), none, .pick (.tmp 34) (.const (.bool true)) (.tmp 38), [], false⟩,
  ⟨(some 40), none, .mov (.tmp 39), [], false⟩,
  ⟨(some 41), (some (40, false)), .fld 4 (.tmp 1), [], false⟩,
  ⟨(some 42), (some (40, false)), .load false 1 (.tmp 41), [], false⟩,
  ⟨(some 43), (some (40, false)), .len (.tmp 42), [], false⟩,
  ⟨(some 44), (some (40, false)), .call 58 [(.tmp 43), (.const (.int .i64 1)), (.const (.int .i64 40))], [], false⟩,
  ⟨(some 45), (some (40, false)), .un .not (.tmp 44), [], false⟩,
  ⟨(some 46), none, .pick (.tmp 40) (.const (.bool true)) (.tmp 45), [], false⟩,
  ⟨(some 47), none, .mov (.tmp 46), [], false⟩,
  ⟨(some 48), (some (47, false)), .fld 5 (.tmp 1), [], false⟩,
  ⟨(some 49), (some (47, false)), .load false 1 (.tmp 48), [], false⟩,
  ⟨(some 50), (some (47, false)), .len (.tmp 49), [], false⟩,
  ⟨(some 51), (some (47, false)), .bin .gtr (.tmp 50) (.const (.int .i64 400)), [], false⟩,
  ⟨(some 52), none, .pick (.tmp 47) (.const (.bool true)) (.tmp 51), [], false⟩] [1, 52]
def c20_2 : SCode := .reg [⟨(some 2), none, .mov (.const (.bool false)), [], false⟩] [2]
def c20_3 : SCode := .seq c20_2 .ret
def c20_4 : SCode := .cond (.tmp 52) c20_3 .skip
def c20_5 : SCode := .seq c20_1 c20_4
def c20_6 : SCode := .reg [⟨(some 3), none, .mov (.const (.int .i64 0)), [], false⟩] [1, 3]
def c20_7 : SCode := .reg [⟨(some 53), none, .mov (.tmp 3), [], false⟩,
  ⟨(some 54), none, .fld 2 (.tmp 1), [], false⟩,
  ⟨(some 55), none, .load false 1 (.tmp 54), [], false⟩,
  ⟨(some 56), none, .len (.tmp 55), [], false⟩,
  ⟨(some 57), none, .bin .lss (.tmp 53) (.tmp 56), [], false⟩] [1, 3, 57]
def c20_8 : SCode := .cond (.tmp 57) .skip (.exit 0)
def c20_9 : SCode := .seq c20_7 c20_8
def c20_10 : SCode := .reg [⟨(some 60), none, .fld 2 (.tmp 1), [], false⟩,
  ⟨(some 61), none, .load false 1 (.tmp 60), [], false⟩,
  ⟨(some 62), none, .mov (.tmp 3), [], false⟩,
  ⟨(some 63), none, .idxS 1 (.tmp 61) (.tmp 62), [], false⟩,
  ⟨(some 64), none, .load false 1 (.tmp 63), [], false⟩,
  ⟨(some 65), none, .fld 1 (.tmp 1), [], false⟩,
  ⟨(some 66), none, .load false 1 (.tmp 65), [], false⟩,
  ⟨(some 67), none, .call 58 [(.tmp 64), (.const (.int .i64 1)), (.tmp 66)], [], false⟩,
  ⟨(some 68), none, .un .not (.tmp 67), [], false⟩] [1, 3, 68]
def c20_11 : SCode := .reg [⟨(some 2), none, .mov (.const (.bool false)), [], false⟩] [2]
def c20_12 : SCode := .seq c20_11 .ret
def c20_13 : SCode := .cond (.tmp 68) c20_12 .skip
def c20_14 : SCode := .seq c20_10 c20_13
def c20_15 : SCode := .block 1 c20_14
def c20_16 : SCode := .reg [⟨(some 58), none, .mov (.tmp 3), [], false⟩,
  ⟨(some 59), none, .bin .add (.tmp 58) (.const (.int .i64 1)), [], false⟩,
  ⟨(some 3), none, .mov (.tmp 59), [], false⟩] [1, 3]
def c20_17 : SCode := .seq c20_15 c20_16
def c20_18 : SCode := .seq c20_9 c20_17
def c20_19 : SCode := .loop c20_18
def c20_20 : SCode := .block 0 c20_19
def c20_21 : SCode := .seq c20_6 c20_20
def c20_22 : SCode := .reg [⟨(some 4), none, .mov (.const (.int .i64 0)), [], false⟩] [1, 4]
def c20_23 : SCode := .reg [⟨(some 69), none, .mov (.tmp 4), [], false⟩,
  ⟨(some 70), none, .fld 4 (.tmp 1), [], false⟩,
  ⟨(some 71), none, .load false 1 (.tmp 70), [], false⟩,
  ⟨(some 72), none, .len (.tmp 71), [], false⟩,
  ⟨(some 73), none, .bin .lss (.tmp 69) (.tmp 72), [], false⟩] [1, 4, 73]
def c20_24 : SCode := .cond (.tmp 73) .skip (.exit 2)
def c20_25 : SCode := .seq c20_23 c20_24
def c20_26 : SCode := .reg [⟨(some 76), none, .fld 4 (.tmp 1), [], false⟩,
  ⟨(some 77), none, .load false 1 (.tmp 76), [], false⟩,
  ⟨(some 78), none, .mov (.tmp 4), [], false⟩,
  ⟨(some 79), none, .idxS 2 (.tmp 77) (.tmp 78), [], false⟩,
  ⟨(some 80), none, .fld 0 (.tmp 79), [], false⟩,
  ⟨(some 81), none, .load false 1 (.tmp 80), [], false⟩,
  ⟨(some 82), none, .call 58 [(.tmp 81), (.const (.int .i64 0)), (.const (.int .i64 15))], [], false⟩,
  ⟨(some 83), none, .un .not (.tmp 82), [], false⟩,
  ⟨(some 84), none, .mov (.tmp 83), [], false⟩,
  ⟨(some 85), (some (84, false)), .fld 4 (.tmp 1), [], false⟩,
  ⟨(some 86), (some (84, false)), .load false 1 (.tmp 85), [], false⟩,
  ⟨(some 87), (some (84, false)), .mov (.tmp 4), [], false⟩,
  ⟨(some 88), (some (84, false)), .idxS 2 (.tmp 86) (.tmp 87), [], false⟩,
  ⟨(some 89), (some (84, false)), .fld 1 (.tmp 88), [], false⟩,
  ⟨(some 90), (some (84, false)), .load false 1 (.tmp 89), [], false⟩,
  ⟨(some 91), (some (84, false)), .call 58 [(.tmp 90), (.const (.int .i64 0)), (.const (.int .i64 1000))], [], false⟩,
  ⟨(some 92), (some (84, false)), .un .not (.tmp 91), [], false⟩,
  ⟨(some 93), none, .pick (.tmp 84) (.const (.bool true)) (.tmp 92), [], false⟩] [1, 4, 93]
def c20_27 : SCode := .reg [⟨(some 2), none, .mov (.const (.bool false)), [], false⟩] [2]
def c20_28 : SCode := .seq c20_27 .ret
def c20_29 : SCode := .cond (.tmp 93) c20_28 .skip
def c20_30 : SCode := .seq c20_26 c20_29
def c20_31 : SCode := .block 3 c20_30
def c20_32 : SCode := .reg [⟨(some 74), none, .mov (.tmp 4), [], false⟩,
  ⟨(some 75), none, .bin .add (.tmp 74) (.const (.int .i64 1)), [], false⟩,
  ⟨(some 4), none, .mov (.tmp 75), [], false⟩] [1, 4]
def c20_33 : SCode := .seq c20_31 c20_32
def c20_34 : SCode := .seq c20_25 c20_33
def c20_35 : SCode := .loop c20_34
def c20_36 : SCode := .block 2 c20_35
def c20_37 : SCode := .seq c20_22 c20_36
def c20_38 : SCode := .reg [⟨(some 5), none, .mov (.const (.int .i64 0)), [], false⟩] [1, 5]
def c20_39 : SCode := .reg [⟨(some 94), none, .mov (.tmp 5), [], false⟩,
  ⟨(some 95), none, .fld 5 (.tmp 1), [], false⟩,
  ⟨(some 96), none, .load false 1 (.tmp 95), [], false⟩,
  ⟨(some 97), none, .len (.tmp 96), [], false⟩,
  ⟨(some 98), none, .bin .lss (.tmp 94) (.tmp 97), [], false⟩] [1, 5, 98]
def c20_40 : SCode := .cond (.tmp 98) .skip (.exit 4)
def c20_41 : SCode := .seq c20_39 c20_40
def c20_42 : SCode := .reg [⟨(some 101), none, .fld 5 (.tmp 1), [], false⟩,
  ⟨(some 102), none, .load false 1 (.tmp 101), [], false⟩,
  ⟨(some 103), none, .mov (.tmp 5), [], false⟩,
  ⟨(some 104), none, .idxS 2 (.tmp 102) (.tmp 103), [], false⟩,
  ⟨(some 105), none, .fld 0 (.tmp 104), [], false⟩,
  ⟨(some 106), none, .load false 1 (.tmp 105), [], false⟩,
  ⟨(some 107), none, .fld 4 (.tmp 1), [], false⟩,
  ⟨(some 108), none, .load false 1 (.tmp 107), [], false⟩,
  ⟨(some 109), none, .len (.tmp 108), [], false⟩,
  ⟨(some 110), none, .fld 3 (.tmp 1), [], false⟩,
  ⟨(some 111), none, .load false 1 (.tmp 110), [], false⟩,
  ⟨(some 112), none, .bin .mul (.tmp 109) (.tmp 111), [], false⟩,
  ⟨(some 113), none, .bin .sub (.tmp 112) (.const (.int .i64 1)), [], false⟩,
  ⟨(some 114), none, .call 58 [(.tmp 106), (.const (.int .i64 0)), (.tmp 113)], [], false⟩,
  ⟨(some 115), none, .un .not (.tmp 114), [], false⟩,
  ⟨(some 116), none, .mov (.tmp 115), [], false⟩,
  ⟨(some 117), (some (116, false)), .fld 5 (.tmp 1), [], false⟩,
  ⟨(some 118), (some (116, false)), .load false 1 (.tmp 117), [], false⟩,
  ⟨(some 119), (some (116, false)), .mov (.tmp 5), [], false⟩,
  ⟨(some 120), (some (116, false)), .idxS 2 (.tmp 118) (.tmp 119), [], false⟩,
  ⟨(some 121), (some (116, false)), .fld 1 (.tmp 120), [], false⟩,
  ⟨(some 122), (some (116, false)), .load false 1 (.tmp 121), [], false⟩,
  ⟨(some 123), (some (116, false)), .fld 0 (.tmp 1), [], false⟩,
  ⟨(some 124), (some (116, false)), .load false 1 (.tmp 123), [], false⟩,
  ⟨(some 125), (some (116, false)), .bin .sub (.tmp 124) (.const (.int .i64 1)), [], false⟩,
  ⟨(some 126), (some (116, false)), .call 58 [(.tmp 122), (.const (.int .i64 0)), (.tmp 125)], [], false⟩,
  ⟨(some 127), (some (116, false)), .un .not (.tmp 126), [], false⟩,
  ⟨(some 128), none, .pick (.tmp 116) (.const (.bool true)) (.tmp 127), [], false⟩] [1, 5, 128]
def c20_43 : SCode := .reg [⟨(some 2), none, .mov (.const (.bool false)), [], false⟩] [2]
def c20_44 : SCode := .seq c20_43 .ret
def c20_45 : SCode := .cond (.tmp 128) c20_44 .skip
def c20_46 : SCode := .seq c20_42 c20_45
def c20_47 : SCode := .reg [⟨(some 6), none, .mov (.const (.int .i64 0)), [], false⟩] [1, 5, 6]
def c20_48 : SCode := .reg [⟨(some 129), none, .mov (.tmp 6), [], false⟩,
  ⟨(some 130), none, .mov (.tmp 5), [], false⟩,
  ⟨(some 131), none, .bin .lss (.tmp 129) (.tmp 130), [], false⟩] [1, 5, 6, 131]
def c20_49 : SCode := .cond (.tmp 131) .skip (.exit 6)
def c20_50 : SCode := .seq c20_48 c20_49
def c20_51 : SCode := .reg [⟨(some 134), none, .fld 5 (.tmp 1), [], false⟩,
  ⟨(some 135), none, .load false 1 (.tmp 134), [], false⟩,
  ⟨(some 136), none, .mov (.tmp 6), [], false⟩,
  ⟨(some 137), none, .idxS 2 (.tmp 135) (.tmp 136), [], false⟩,
  ⟨(some 138), none, .load true 2 (.tmp 137), [], false⟩,
  ⟨(some 139), none, .fld 5 (.tmp 1), [], false⟩,
  ⟨(some 140), none, .load false 1 (.tmp 139), [], false⟩,
  ⟨(some 141), none, .mov (.tmp 5), [], false⟩,
  ⟨(some 142), none, .idxS 2 (.tmp 140) (.tmp 141), [], false⟩,
  ⟨(some 143), none, .load true 2 (.tmp 142), [], false⟩,
  ⟨(some 144), none, .eqC false [true, true] (.tmp 138) (.tmp 143), [], false⟩] [1, 5, 6, 144]
def c20_52 : SCode := .reg [⟨(some 2), none, .mov (.const (.bool false)), [], false⟩] [2]
def c20_53 : SCode := .seq c20_52 .ret
def c20_54 : SCode := .cond (.tmp 144) c20_53 .skip
def c20_55 : SCode := .seq c20_51 c20_54
def c20_56 : SCode := .block 7 c20_55
def c20_57 : SCode := .reg [⟨(some 132), none, .mov (.tmp 6), [], false⟩,
  ⟨(some 133), none, .bin .add (.tmp 132) (.const (.int .i64 1)), [], false⟩,
  ⟨(some 6), none, .mov (.tmp 133), [], false⟩] [1, 5, 6]
def c20_58 : SCode := .seq c20_56 c20_57
def c20_59 : SCode := .seq c20_50 c20_58
def c20_60 : SCode := .loop c20_59
def c20_61 : SCode := .block 6 c20_60
def c20_62 : SCode := .seq c20_47 c20_61
def c20_63 : SCode := .seq c20_46 c20_62
def c20_64 : SCode := .block 5 c20_63
def c20_65 : SCode := .reg [⟨(some 99), none, .mov (.tmp 5), [], false⟩,
  ⟨(some 100), none, .bin .add (.tmp 99) (.const (.int .i64 1)), [], false⟩,
  ⟨(some 5), none, .mov (.tmp 100), [], false⟩] [1, 5]
def c20_66 : SCode := .seq c20_64 c20_65
def c20_67 : SCode := .seq c20_41 c20_66
def c20_68 : SCode := .loop c20_67
def c20_69 : SCode := .block 4 c20_68
def c20_70 : SCode := .seq c20_38 c20_69
def c20_71 : SCode := .reg [⟨(some 2), none, .mov (.const (.bool true)), [], false⟩] [2]
def c20_72 : SCode := .seq c20_71 .ret
def c20_73 : SCode := .seq c20_70 c20_72
def c20_74 : SCode := .seq c20_37 c20_73
def c20_75 : SCode := .seq c20_21 c20_74
def c20_76 : SCode := .seq c20_5 c20_75
def c20_77 : SCode := .seq c20_0 c20_76
@[simp] def rs20 : List SRes := [.tmp 2]
theorem law20 (cs : List CV) (r : CV) (hl : cs.length ≤ 145) (h : STri Try.prog 145 c20_77 (initT 0 cs) [] (retQ rs20 r)) : SC Try.prog 20 cs r :=
  sc_of Try.func20 rfl Try.ntmps20 (by kernel_rfl) (by kernel_rfl) hl h

-- turret/turretref06.Clash
def c21_0 : SCode := .reg [⟨(some 1), none, .box 26 (.tmp 0), [], false⟩,
  ⟨(some 2), none, .mov (.const (.slice none 0 0)), [], false⟩] [1]
def c21_1 : SCode := .reg [⟨(some 8), none, .buildSl 37 2 [(.int .i64 0), (.int .i64 0)] 0 [], [], false⟩,
  ⟨(some 3), none, .mov (.tmp 8), [], false⟩] [1, 3]
def c21_2 : SCode := .reg [⟨(some 4), none, .mov (.const (.int .i64 0)), [], false⟩] [1, 3, 4]
def c21_3 : SCode := .reg [⟨(some 9), none, .mov (.tmp 4), [], false⟩,
  ⟨(some 10), none, .fld 5 (.tmp 1), [], false⟩,
  ⟨(some 11), none, .load false 1 (.tmp 10), [], false⟩,
  ⟨(some 12), none, .len (.tmp 11), [], false⟩,
  ⟨(some 13), none, .bin .lss (.tmp 9) (.tmp 12), [], false⟩] [1, 3, 4, 13]
def c21_4 : SCode := .cond (.tmp 13) .skip (.exit 0)
def c21_5 : SCode := .seq c21_3 c21_4
def c21_6 : SCode := .reg [⟨(some 16), none, .mov (.tmp 4), [], false⟩,
  ⟨(some 17), none, .bin .add (.tmp 16) (.const (.int .i64 1)), [], false⟩,
  ⟨(some 5), none, .mov (.tmp 17), [], false⟩] [1, 3, 4, 5]
def c21_7 : SCode := .reg [⟨(some 18), none, .mov (.tmp 5), [], false⟩,
  ⟨(some 19), none, .fld 5 (.tmp 1), [], false⟩,
  ⟨(some 20), none, .load false 1 (.tmp 19), [], false⟩,
  ⟨(some 21), none, .len (.tmp 20), [], false⟩,
  ⟨(some 22), none, .bin .lss (.tmp 18) (.tmp 21), [], false⟩] [1, 3, 4, 5, 22]
def c21_8 : SCode := .cond (.tmp 22) .skip (.exit 2)
def c21_9 : SCode := .seq c21_7 c21_8
def c21_10 : SCode := .reg [⟨(some 25), none, .fld 5 (.tmp 1), [], true⟩,
  ⟨(some 26), none, .load false 1 (.tmp 25), [], true⟩,
  ⟨(some 27), none, .mov (.tmp 4), [], false⟩,
  ⟨(some 28), none, .idxS 2 (.tmp 26) (.tmp 27), [], true⟩,
  ⟨(some 29), none, .load true 2 (.tmp 28), [], true⟩,
  ⟨(some 30), none, .fld 5 (.tmp 1), [], true⟩,
  ⟨(some 31), none, .load false 1 (.tmp 30), [], true⟩,
  ⟨(some 32), none, .mov (.tmp 5), [], false⟩,
  ⟨(some 33), none, .idxS 2 (.tmp 31) (.tmp 32), [], true⟩,
  ⟨(some 34), none, .load true 2 (.tmp 33), [], true⟩,
  ⟨(some 6), none, .alloc 89 [(.int .i64 0), (.int .i64 0)], [0, 1, 3, 4, 5, 6, 8, 9], false⟩,
  ⟨(some 7), none, .alloc 89 [(.int .i64 0), (.int .i64 0)], [0, 1, 3, 4, 5, 6, 8, 9], false⟩,
  ⟨none, none, .store 2 (.tmp 6) (.tmp 29), [5, 6, 8, 9], false⟩,
  ⟨none, none, .store 2 (.tmp 7) (.tmp 34), [], false⟩] [1, 3, 4, 5, 6, 7]
def c21_11 : SCode := .reg [⟨(some 35), none, .fld 0 (.tmp 6), [], false⟩,
  ⟨(some 36), none, .load false 1 (.tmp 35), [], false⟩,
  ⟨(some 37), none, .fld 0 (.tmp 7), [], false⟩,
  ⟨(some 38), none, .load false 1 (.tmp 37), [], false⟩,
  ⟨(some 39), none, .bin .eql (.tmp 36) (.tmp 38), [], false⟩,
  ⟨(some 40), none, .mov (.tmp 39), [], false⟩,
  ⟨(some 41), (some (40, true)), .fld 1 (.tmp 6), [], false⟩,
  ⟨(some 42), (some (40, true)), .load false 1 (.tmp 41), [], false⟩,
  ⟨(some 43), (some (40, true)), .fld 1 (.tmp 7), [], false⟩,
  ⟨(some 44), (some (40, true)), .load false 1 (.tmp 43), [], false⟩,
  ⟨(some 45), (some (40, true)), .fld 0 (.tmp 1), [], false⟩,
  ⟨(some 46), (some (40, true)), .load false 1 (.tmp 45), [], false⟩,
  ⟨(some 47), (some (40, true)), .call 59 [(.tmp 42), (.tmp 44), (.tmp 46)], [], false⟩,
  ⟨(some 48), (some (40, true)), .fld 4 (.tmp 1), [], false⟩,
  ⟨(some 49), (some (40, true)), .load false 1 (.tmp 48), [], false⟩,
  ⟨(some 50), (some (40, true)), .fld 0 (.tmp 6), [], false⟩,
  ⟨(some 51), (some (40, true)), .load false 1 (.tmp 50), [], false⟩,
  ⟨(some 52), (some (40, true)), .fld 3 (.tmp 1), [], false⟩,
  ⟨(some 53), (some (40, true)), .load false 1 (.tmp 52), [], false⟩,
  ⟨(some 54), (some (40, true)), .bin .quo (.tmp 51) (.tmp 53), [], false⟩,
  ⟨(some 55), (some (40, true)), .idxS 2 (.tmp 49) (.tmp 54), [], false⟩,
  ⟨(some 56), (some (40, true)), .fld 1 (.tmp 55), [], false⟩,
  ⟨(some 57), (some (40, true)), .load false 1 (.tmp 56), [], false⟩,
  ⟨(some 58), (some (40, true)), .bin .lss (.tmp 47) (.tmp 57), [], false⟩,
  ⟨(some 59), none, .pick (.tmp 40) (.tmp 58) (.const (.bool false)), [], false⟩] [1, 3, 4, 5, 59]
def c21_12 : SCode := .reg [⟨(some 60), none, .mov (.tmp 3), [], false⟩,
  ⟨(some 61), none, .mov (.tmp 4), [], false⟩,
  ⟨(some 62), none, .mov (.tmp 5), [], false⟩,
  ⟨(some 63), none, .build [(.int .i64 0), (.int .i64 0)] [(0, 1, (.tmp 61)), (1, 1, (.tmp 62))], [], false⟩,
  ⟨(some 64), none, .buildSl 37 2 [(.int .i64 0), (.int .i64 0)] 1 [(0, (.tmp 63))], [], false⟩,
  ⟨(some 65), none, .append 37 2 16 (.tmp 60) (.tmp 64), [], false⟩,
  ⟨(some 3), none, .mov (.tmp 65), [], false⟩] [1, 3, 4, 5]
def c21_13 : SCode := .cond (.tmp 59) c21_12 .skip
def c21_14 : SCode := .seq c21_11 c21_13
def c21_15 : SCode := .seq c21_10 c21_14
def c21_16 : SCode := .block 3 c21_15
def c21_17 : SCode := .reg [⟨(some 23), none, .mov (.tmp 5), [], false⟩,
  ⟨(some 24), none, .bin .add (.tmp 23) (.const (.int .i64 1)), [], false⟩,
  ⟨(some 5), none, .mov (.tmp 24), [], false⟩] [1, 3, 4, 5]
def c21_18 : SCode := .seq c21_16 c21_17
def c21_19 : SCode := .seq c21_9 c21_18
def c21_20 : SCode := .loop c21_19
def c21_21 : SCode := .block 2 c21_20
def c21_22 : SCode := .seq c21_6 c21_21
def c21_23 : SCode := .block 1 c21_22
def c21_24 : SCode := .reg [⟨(some 14), none, .mov (.tmp 4), [], false⟩,
  ⟨(some 15), none, .bin .add (.tmp 14) (.const (.int .i64 1)), [], false⟩,
  ⟨(some 4), none, .mov (.tmp 15), [], false⟩] [1, 3, 4]
def c21_25 : SCode := .seq c21_23 c21_24
def c21_26 : SCode := .seq c21_5 c21_25
def c21_27 : SCode := .loop c21_26
def c21_28 : SCode := .block 0 c21_27
def c21_29 : SCode := .seq c21_2 c21_28
def c21_30 : SCode := .reg [⟨(some 66), none, .mov (.tmp 3), [], false⟩,
  ⟨(some 2), none, .mov (.tmp 66), [], false⟩] [2]
def c21_31 : SCode := .seq c21_30 .ret
def c21_32 : SCode := .seq c21_29 c21_31
def c21_33 : SCode := .seq c21_1 c21_32
def c21_34 : SCode := .seq c21_0 c21_33
@[simp] def rs21 : List SRes := [.tmp 2]
theorem law21 (cs : List CV) (r : CV) (hl : cs.length ≤ 67) (h : STri Try.prog 67 c21_34 (initT 0 cs) [] (retQ rs21 r)) : SC Try.prog 21 cs r :=
  sc_of Try.func21 rfl Try.ntmps21 (by kernel_rfl) (by kernel_rfl) hl h

-- turret/turretref06.Run
def c24_0 : SCode := .reg [⟨(some 4), none, .box 26 (.tmp 0), [], false⟩,
  ⟨(some 8), none, .mov (.const (.int .i64 0)), [], false⟩] [1, 2, 3, 4]
def c24_1 : SCode := .reg [⟨(some 9), none, .load true 6 (.tmp 4), [], false⟩,
  ⟨(some 10), none, .call 20 [(.tmp 9)], [], false⟩,
  ⟨(some 11), none, .un .not (.tmp 10), [], false⟩] [1, 2, 3, 4, 11]
def c24_2 : SCode := .reg [⟨(some 8), none, .mov (.const (.int .i64 2)), [], false⟩] [8]
def c24_3 : SCode := .seq c24_2 .ret
def c24_4 : SCode := .cond (.tmp 11) c24_3 .skip
def c24_5 : SCode := .seq c24_1 c24_4
def c24_6 : SCode := .reg [⟨(some 12), none, .mov (.tmp 1), [], false⟩,
  ⟨(some 13), none, .fld 3 (.tmp 4), [], false⟩,
  ⟨(some 14), none, .load false 1 (.tmp 13), [], false⟩,
  ⟨(some 15), none, .bin .sub (.tmp 14) (.const (.int .i64 1)), [], false⟩,
  ⟨(some 16), none, .call 58 [(.tmp 12), (.const (.int .i64 0)), (.tmp 15)], [], false⟩,
  ⟨(some 17), none, .un .not (.tmp 16), [], false⟩,
  ⟨(some 18), none, .mov (.tmp 17), [], false⟩,
  ⟨(some 19), (some (18, false)), .mov (.tmp 2), [], false⟩,
  ⟨(some 20), (some (18, false)), .fld 2 (.tmp 4), [], false⟩,
  ⟨(some 21), (some (18, false)), .load false 1 (.tmp 20), [], false⟩,
  ⟨(some 22), (some (18, false)), .len (.tmp 21), [], false⟩,
  ⟨(some 23), (some (18, false)), .bin .sub (.tmp 22) (.const (.int .i64 1)), [], false⟩,
  ⟨(some 24), (some (18, false)), .call 58 [(.tmp 19), (.const (.int .i64 0)), (.tmp 23)], [], false⟩,
  ⟨(some 25), (some (18, false)), .un .not (.tmp 24), [], false⟩,
  ⟨(some 26), none, .pick (.tmp 18) (.const (.bool true)) (.tmp 25), [], false⟩,
  ⟨(some 27), none, .mov (.tmp 26), [], false⟩,
  ⟨(some 28), (some (27, false)), .mov (.tmp 3), [], false⟩,
  ⟨(some 29), (some (27, false)), .fld 1 (.tmp 4), [], false⟩,
  ⟨(some 30), (some (27, false)), .load false 1 (.tmp 29), [], false⟩,
  ⟨(some 31), (some (27, false)), .bin .sub (.tmp 30) (.const (.int .i64 1)), [], false⟩,
  ⟨(some 32), (some (27, false)), .call 58 [(.tmp 28), (.const (.int .i64 0)), (.tmp 31)], [], false⟩,
  ⟨(some 33), (some (27, false)), .un .not (.tmp 32), [], false⟩,
  ⟨(some 34), none, .pick (.tmp 27) (.const (.bool true)) (.tmp 33), [], false⟩] [34]
def c24_7 : SCode := .reg [⟨(some 8), none, .mov (.const (.int .i64 7)), [], false⟩] [8]
def c24_8 : SCode := .seq c24_7 .ret
def c24_9 : SCode := .cond (.tmp 34) c24_8 .skip
def c24_10 : SCode := .seq c24_6 c24_9
def c24_11 : SCode := .reg [⟨(some 8), none, .mov (.const (.int .i64 0)), [], false⟩] [8]
def c24_12 : SCode := .seq c24_11 .ret
def c24_13 : SCode := .seq c24_10 c24_12
def c24_14 : SCode := .seq c24_5 c24_13
def c24_15 : SCode := .seq c24_0 c24_14
@[simp] def rs24 : List SRes := [.tmp 8]
theorem law24 (cs : List CV) (r : CV) (hl : cs.length ≤ 35) (h : STri Try.prog 35 c24_15 (initT 0 cs) [] (retQ rs24 r)) : SC Try.prog 24 cs r :=
  sc_of Try.func24 rfl Try.ntmps24 (by kernel_rfl) (by kernel_rfl) hl h

-- turret/turretref06.Bring
def c25_0 : SCode := .reg [⟨(some 4), none, .box 26 (.tmp 0), [], false⟩,
  ⟨(some 8), none, .mov (.const (.int .i64 0)), [], false⟩,
  ⟨(some 9), none, .mov (.const (.int .i64 0)), [], false⟩] [1, 2, 3, 4]
def c25_1 : SCode := .reg [⟨(some 10), none, .mov (.const (.int .i64 (-1))), [], false⟩,
  ⟨(some 11), none, .mov (.const (.int .i64 0)), [], false⟩] [1, 2, 3, 4, 10, 11]
def c25_2 : SCode := .reg [⟨(some 12), none, .mov (.const (.int .i64 0)), [], false⟩] [1, 2, 3, 4, 10, 11, 12]
def c25_3 : SCode := .reg [⟨(some 14), none, .mov (.tmp 12), [], false⟩,
  ⟨(some 15), none, .fld 1 (.tmp 4), [], false⟩,
  ⟨(some 16), none, .load false 1 (.tmp 15), [], false⟩,
  ⟨(some 17), none, .bin .lss (.tmp 14) (.tmp 16), [], false⟩] [1, 2, 3, 4, 10, 11, 12, 17]
def c25_4 : SCode := .cond (.tmp 17) .skip (.exit 0)
def c25_5 : SCode := .seq c25_3 c25_4
def c25_6 : SCode := .reg [⟨(some 20), none, .load true 6 (.tmp 4), [], false⟩,
  ⟨(some 21), none, .mov (.tmp 1), [], false⟩,
  ⟨(some 22), none, .mov (.tmp 12), [], false⟩,
  ⟨(some 23), none, .mov (.tmp 3), [], false⟩,
  ⟨(some 24), none, .call 27 [(.tmp 20), (.tmp 21), (.tmp 22), (.tmp 23)], [], false⟩,
  ⟨(some 25), none, .len (.tmp 24), [], false⟩,
  ⟨(some 13), none, .mov (.tmp 25), [], false⟩] [1, 2, 3, 4, 10, 11, 12, 13]
def c25_7 : SCode := .reg [⟨(some 26), none, .load true 6 (.tmp 4), [], false⟩,
  ⟨(some 27), none, .mov (.tmp 2), [], false⟩,
  ⟨(some 28), none, .mov (.tmp 3), [], false⟩,
  ⟨(some 29), none, .mov (.tmp 12), [], false⟩,
  ⟨(some 30), none, .bin .add (.tmp 28) (.tmp 29), [], false⟩,
  ⟨(some 31), none, .fld 1 (.tmp 4), [], false⟩,
  ⟨(some 32), none, .load false 1 (.tmp 31), [], false⟩,
  ⟨(some 33), none, .bin .rem (.tmp 30) (.tmp 32), [], false⟩,
  ⟨(some 34), none, .call 65 [(.tmp 26), (.tmp 27), (.tmp 33)], [], false⟩,
  ⟨(some 35), none, .mov (.tmp 34), [], false⟩,
  ⟨(some 36), (some (35, true)), .mov (.tmp 10), [], false⟩,
  ⟨(some 37), (some (35, true)), .bin .lss (.tmp 36) (.const (.int .i64 0)), [], false⟩,
  ⟨(some 38), (some (35, true)), .mov (.tmp 37), [], false⟩,
  ⟨(some 39), (some (38, false)), .mov (.tmp 13), [], false⟩,
  ⟨(some 40), (some (38, false)), .mov (.tmp 11), [], false⟩,
  ⟨(some 41), (some (38, false)), .bin .lss (.tmp 39) (.tmp 40), [], false⟩,
  ⟨(some 42), (some (35, true)), .pick (.tmp 38) (.const (.bool true)) (.tmp 41), [], false⟩,
  ⟨(some 43), none, .pick (.tmp 35) (.tmp 42) (.const (.bool false)), [], false⟩] [1, 2, 3, 4, 10, 11, 12, 13, 43]
def c25_8 : SCode := .reg [⟨(some 44), none, .mov (.tmp 12), [], false⟩,
  ⟨(some 45), none, .mov (.tmp 13), [], false⟩,
  ⟨(some 10), none, .mov (.tmp 44), [], false⟩,
  ⟨(some 11), none, .mov (.tmp 45), [], false⟩] [1, 2, 3, 4, 10, 11, 12]
def c25_9 : SCode := .cond (.tmp 43) c25_8 .skip
def c25_10 : SCode := .seq c25_7 c25_9
def c25_11 : SCode := .seq c25_6 c25_10
def c25_12 : SCode := .block 1 c25_11
def c25_13 : SCode := .reg [⟨(some 18), none, .mov (.tmp 12), [], false⟩,
  ⟨(some 19), none, .bin .add (.tmp 18) (.const (.int .i64 1)), [], false⟩,
  ⟨(some 12), none, .mov (.tmp 19), [], false⟩] [1, 2, 3, 4, 10, 11, 12]
def c25_14 : SCode := .seq c25_12 c25_13
def c25_15 : SCode := .seq c25_5 c25_14
def c25_16 : SCode := .loop c25_15
def c25_17 : SCode := .block 0 c25_16
def c25_18 : SCode := .seq c25_2 c25_17
def c25_19 : SCode := .reg [⟨(some 46), none, .mov (.tmp 10), [], false⟩,
  ⟨(some 47), none, .mov (.tmp 11), [], false⟩,
  ⟨(some 8), none, .mov (.tmp 46), [], false⟩,
  ⟨(some 9), none, .mov (.tmp 47), [], false⟩] [8, 9]
def c25_20 : SCode := .seq c25_19 .ret
def c25_21 : SCode := .seq c25_18 c25_20
def c25_22 : SCode := .seq c25_1 c25_21
def c25_23 : SCode := .seq c25_0 c25_22
@[simp] def rs25 : List SRes := [.tmp 8, .tmp 9]
theorem law25 (cs : List CV) (r : CV) (hl : cs.length ≤ 48) (h : STri Try.prog 48 c25_23 (initT 0 cs) [] (retQ rs25 r)) : SC Try.prog 25 cs r :=
  sc_of Try.func25 rfl Try.ntmps25 (by kernel_rfl) (by kernel_rfl) hl h

-- turret/turretref06.Blows
def c26_0 : SCode := .reg [⟨(some 4), none, .mov (.const (.bool false)), [], false⟩] [0, 1]
def c26_1 : SCode := .reg [⟨(some 6), none, .mov (.tmp 0), [], false⟩,
  ⟨(some 7), none, .len (.tmp 6), [], false⟩,
  ⟨(some 8), none, .mov (.tmp 1), [], false⟩,
  ⟨(some 9), none, .len (.tmp 8), [], false⟩,
  ⟨(some 10), none, .bin .neq (.tmp 7) (.tmp 9), [], false⟩] [0, 1, 10]
def c26_2 : SCode := .reg [⟨(some 4), none, .mov (.const (.bool false)), [], false⟩] [4]
def c26_3 : SCode := .seq c26_2 .ret
def c26_4 : SCode := .cond (.tmp 10) c26_3 .skip
def c26_5 : SCode := .seq c26_1 c26_4
def c26_6 : SCode := .reg [⟨(some 5), none, .mov (.const (.int .i64 0)), [], false⟩] [0, 1, 5]
def c26_7 : SCode := .reg [⟨(some 11), none, .mov (.tmp 5), [], false⟩,
  ⟨(some 12), none, .mov (.tmp 0), [], false⟩,
  ⟨(some 13), none, .len (.tmp 12), [], false⟩,
  ⟨(some 14), none, .bin .lss (.tmp 11) (.tmp 13), [], false⟩] [0, 1, 5, 14]
def c26_8 : SCode := .cond (.tmp 14) .skip (.exit 0)
def c26_9 : SCode := .seq c26_7 c26_8
def c26_10 : SCode := .reg [⟨(some 17), none, .mov (.tmp 0), [], false⟩,
  ⟨(some 18), none, .mov (.tmp 5), [], false⟩,
  ⟨(some 19), none, .idxS 2 (.tmp 17) (.tmp 18), [], false⟩,
  ⟨(some 20), none, .load true 2 (.tmp 19), [], false⟩,
  ⟨(some 21), none, .mov (.tmp 1), [], false⟩,
  ⟨(some 22), none, .mov (.tmp 5), [], false⟩,
  ⟨(some 23), none, .idxS 2 (.tmp 21) (.tmp 22), [], false⟩,
  ⟨(some 24), none, .load true 2 (.tmp 23), [], false⟩,
  ⟨(some 25), none, .eqC true [true, true] (.tmp 20) (.tmp 24), [], false⟩] [0, 1, 5, 25]
def c26_11 : SCode := .reg [⟨(some 4), none, .mov (.const (.bool false)), [], false⟩] [4]
def c26_12 : SCode := .seq c26_11 .ret
def c26_13 : SCode := .cond (.tmp 25) c26_12 .skip
def c26_14 : SCode := .seq c26_10 c26_13
def c26_15 : SCode := .block 1 c26_14
def c26_16 : SCode := .reg [⟨(some 15), none, .mov (.tmp 5), [], false⟩,
  ⟨(some 16), none, .bin .add (.tmp 15) (.const (.int .i64 1)), [], false⟩,
  ⟨(some 5), none, .mov (.tmp 16), [], false⟩] [0, 1, 5]
def c26_17 : SCode := .seq c26_15 c26_16
def c26_18 : SCode := .seq c26_9 c26_17
def c26_19 : SCode := .loop c26_18
def c26_20 : SCode := .block 0 c26_19
def c26_21 : SCode := .seq c26_6 c26_20
def c26_22 : SCode := .reg [⟨(some 4), none, .mov (.const (.bool true)), [], false⟩] [4]
def c26_23 : SCode := .seq c26_22 .ret
def c26_24 : SCode := .seq c26_21 c26_23
def c26_25 : SCode := .seq c26_5 c26_24
def c26_26 : SCode := .seq c26_0 c26_25
@[simp] def rs26 : List SRes := [.tmp 4]
theorem law26 (cs : List CV) (r : CV) (hl : cs.length ≤ 26) (h : STri Try.prog 26 c26_26 (initT 0 cs) [] (retQ rs26 r)) : SC Try.prog 26 cs r :=
  sc_of Try.func26 rfl Try.ntmps26 (by kernel_rfl) (by kernel_rfl) hl h

-- turret/turretref06.Plays
def c27_0 : SCode := .reg [⟨(some 4), none, .box 26 (.tmp 0), [], false⟩,
  ⟨(some 8), none, .mov (.const (.slice none 0 0)), [], false⟩] [1, 2, 3, 4]
def c27_1 : SCode := .reg [⟨(some 14), none, .buildSl 66 2 [(.int .i64 0), (.int .i64 0)] 0 [], [], true⟩,
  ⟨(some 15), none, .fld 0 (.tmp 4), [0], false⟩,
  ⟨(some 16), none, .load false 1 (.tmp 15), [0], false⟩,
  ⟨(some 17), none, .fld 1 (.tmp 4), [0], false⟩,
  ⟨(some 18), none, .load false 1 (.tmp 17), [0], false⟩,
  ⟨(some 19), none, .bin .quo (.tmp 16) (.tmp 18), [], false⟩,
  ⟨(some 9), none, .mov (.tmp 14), [], false⟩,
  ⟨(some 10), none, .mov (.tmp 19), [], false⟩] [1, 2, 3, 4, 9, 10]
def c27_2 : SCode := .reg [⟨(some 11), none, .mov (.const (.int .i64 0)), [], false⟩] [1, 2, 3, 4, 9, 10, 11]
def c27_3 : SCode := .reg [⟨(some 20), none, .mov (.tmp 11), [], false⟩,
  ⟨(some 21), none, .mov (.tmp 2), [], false⟩,
  ⟨(some 22), none, .mov (.tmp 10), [], false⟩,
  ⟨(some 23), none, .bin .mul (.tmp 21) (.tmp 22), [], false⟩,
  ⟨(some 24), none, .bin .lss (.tmp 20) (.tmp 23), [], false⟩] [1, 2, 3, 4, 9, 10, 11, 24]
def c27_4 : SCode := .cond (.tmp 24) .skip (.exit 0)
def c27_5 : SCode := .seq c27_3 c27_4
def c27_6 : SCode := .reg [⟨(some 12), none, .mov (.const (.int .i64 0)), [], false⟩] [1, 2, 3, 4, 9, 10, 11, 12]
def c27_7 : SCode := .reg [⟨(some 27), none, .mov (.tmp 12), [], false⟩,
  ⟨(some 28), none, .fld 4 (.tmp 4), [], false⟩,
  ⟨(some 29), none, .load false 1 (.tmp 28), [], false⟩,
  ⟨(some 30), none, .len (.tmp 29), [], false⟩,
  ⟨(some 31), none, .bin .lss (.tmp 27) (.tmp 30), [], false⟩] [1, 2, 3, 4, 9, 10, 11, 12, 31]
def c27_8 : SCode := .cond (.tmp 31) .skip (.exit 2)
def c27_9 : SCode := .seq c27_7 c27_8
def c27_10 : SCode := .reg [⟨(some 13), none, .mov (.const (.int .i64 0)), [], false⟩] [1, 2, 3, 4, 9, 10, 11, 12, 13]
def c27_11 : SCode := .reg [⟨(some 34), none, .mov (.tmp 13), [], false⟩,
  ⟨(some 35), none, .fld 5 (.tmp 4), [], false⟩,
  ⟨(some 36), none, .load false 1 (.tmp 35), [], false⟩,
  ⟨(some 37), none, .len (.tmp 36), [], false⟩,
  ⟨(some 38), none, .bin .lss (.tmp 34) (.tmp 37), [], false⟩] [1, 2, 3, 4, 9, 10, 11, 12, 13, 38]
def c27_12 : SCode := .cond (.tmp 38) .skip (.exit 4)
def c27_13 : SCode := .seq c27_11 c27_12
def c27_14 : SCode := .reg [⟨(some 41), none, .fld 5 (.tmp 4), [], false⟩,
  ⟨(some 42), none, .load false 1 (.tmp 41), [], false⟩,
  ⟨(some 43), none, .mov (.tmp 13), [], false⟩,
  ⟨(some 44), none, .idxS 2 (.tmp 42) (.tmp 43), [], false⟩,
  ⟨(some 45), none, .fld 0 (.tmp 44), [], false⟩,
  ⟨(some 46), none, .load false 1 (.tmp 45), [], false⟩,
  ⟨(some 47), none, .mov (.tmp 12), [], false⟩,
  ⟨(some 48), none, .fld 3 (.tmp 4), [], false⟩,
  ⟨(some 49), none, .load false 1 (.tmp 48), [], false⟩,
  ⟨(some 50), none, .bin .mul (.tmp 47) (.tmp 49), [], false⟩,
  ⟨(some 51), none, .mov (.tmp 1), [], false⟩,
  ⟨(some 52), none, .bin .add (.tmp 50) (.tmp 51), [], false⟩,
  ⟨(some 53), none, .bin .eql (.tmp 46) (.tmp 52), [], false⟩,
  ⟨(some 54), none, .mov (.tmp 53), [], false⟩,
  ⟨(some 55), (some (54, true)), .fld 5 (.tmp 4), [], false⟩,
  ⟨(some 56), (some (54, true)), .load false 1 (.tmp 55), [], false⟩,
  ⟨(some 57), (some (54, true)), .mov (.tmp 13), [], false⟩,
  ⟨(some 58), (some (54, true)), .idxS 2 (.tmp 56) (.tmp 57), [], false⟩,
  ⟨(some 59), (some (54, true)), .fld 1 (.tmp 58), [], false⟩,
  ⟨(some 60), (some (54, true)), .load false 1 (.tmp 59), [], false⟩,
  ⟨(some 61), (some (54, true)), .mov (.tmp 3), [], false⟩,
  ⟨(some 62), (some (54, true)), .mov (.tmp 10), [], false⟩,
  ⟨(some 63), (some (54, true)), .bin .mul (.tmp 61) (.tmp 62), [], false⟩,
  ⟨(some 64), (some (54, true)), .mov (.tmp 11), [], false⟩,
  ⟨(some 65), (some (54, true)), .bin .add (.tmp 63) (.tmp 64), [], false⟩,
  ⟨(some 66), (some (54, true)), .fld 0 (.tmp 4), [], false⟩,
  ⟨(some 67), (some (54, true)), .load false 1 (.tmp 66), [], false⟩,
  ⟨(some 68), (some (54, true)), .bin .rem (.tmp 65) (.tmp 67), [], false⟩,
  ⟨(some 69), (some (54, true)), .bin .eql (.tmp 60) (.tmp 68), [], false⟩,
  ⟨(some 70), none, .pick (.tmp 54) (.tmp 69) (.const (.bool false)), [], false⟩] [1, 2, 3, 4, 9, 10, 11, 12, 13, 70]
def c27_15 : SCode := .reg [⟨(some 71), none, .mov (.tmp 9), [], false⟩,
  ⟨(some 72), none, .mov (.tmp 11), [], false⟩,
  ⟨(some 73), none, .fld 4 (.tmp 4), [], false⟩,
  ⟨(some 74), none, .load false 1 (.tmp 73), [], false⟩,
  ⟨(some 75), none, .mov (.tmp 12), [], false⟩,
  ⟨(some 76), none, .idxS 2 (.tmp 74) (.tmp 75), [], false⟩,
  ⟨(some 77), none, .fld 0 (.tmp 76), [], false⟩,
  ⟨(some 78), none, .load false 1 (.tmp 77), [], false⟩,
  ⟨(some 79), none, .build [(.int .i64 0), (.int .i64 0)] [(0, 1, (.tmp 72)), (1, 1, (.tmp 78))], [], false⟩,
  ⟨(some 80), none, .buildSl 66 2 [(.int .i64 0), (.int .i64 0)] 1 [(0, (.tmp 79))], [], false⟩,
  ⟨(some 81), none, .append 66 2 16 (.tmp 71) (.tmp 80), [], false⟩,
  ⟨(some 9), none, .mov (.tmp 81), [], false⟩] [1, 2, 3, 4, 9, 10, 11, 12, 13]
def c27_16 : SCode := .cond (.tmp 70) c27_15 .skip
def c27_17 : SCode := .seq c27_14 c27_16
def c27_18 : SCode := .block 5 c27_17
def c27_19 : SCode := .reg [⟨(some 39), none, .mov (.tmp 13), [], false⟩,
  ⟨(some 40), none, .bin .add (.tmp 39) (.const (.int .i64 1)), [], false⟩,
  ⟨(some 13), none, .mov (.tmp 40), [], false⟩] [1, 2, 3, 4, 9, 10, 11, 12, 13]
def c27_20 : SCode := .seq c27_18 c27_19
def c27_21 : SCode := .seq c27_13 c27_20
def c27_22 : SCode := .loop c27_21
def c27_23 : SCode := .block 4 c27_22
def c27_24 : SCode := .seq c27_10 c27_23
def c27_25 : SCode := .block 3 c27_24
def c27_26 : SCode := .reg [⟨(some 32), none, .mov (.tmp 12), [], false⟩,
  ⟨(some 33), none, .bin .add (.tmp 32) (.const (.int .i64 1)), [], false⟩,
  ⟨(some 12), none, .mov (.tmp 33), [], false⟩] [1, 2, 3, 4, 9, 10, 11, 12]
def c27_27 : SCode := .seq c27_25 c27_26
def c27_28 : SCode := .seq c27_9 c27_27
def c27_29 : SCode := .loop c27_28
def c27_30 : SCode := .block 2 c27_29
def c27_31 : SCode := .seq c27_6 c27_30
def c27_32 : SCode := .block 1 c27_31
def c27_33 : SCode := .reg [⟨(some 25), none, .mov (.tmp 11), [], false⟩,
  ⟨(some 26), none, .bin .add (.tmp 25) (.const (.int .i64 1)), [], false⟩,
  ⟨(some 11), none, .mov (.tmp 26), [], false⟩] [1, 2, 3, 4, 9, 10, 11]
def c27_34 : SCode := .seq c27_32 c27_33
def c27_35 : SCode := .seq c27_5 c27_34
def c27_36 : SCode := .loop c27_35
def c27_37 : SCode := .block 0 c27_36
def c27_38 : SCode := .seq c27_2 c27_37
def c27_39 : SCode := .reg [⟨(some 82), none, .mov (.tmp 9), [], false⟩,
  ⟨(some 8), none, .mov (.tmp 82), [], false⟩] [8]
def c27_40 : SCode := .seq c27_39 .ret
def c27_41 : SCode := .seq c27_38 c27_40
def c27_42 : SCode := .seq c27_1 c27_41
def c27_43 : SCode := .seq c27_0 c27_42
@[simp] def rs27 : List SRes := [.tmp 8]
theorem law27 (cs : List CV) (r : CV) (hl : cs.length ≤ 83) (h : STri Try.prog 83 c27_43 (initT 0 cs) [] (retQ rs27 r)) : SC Try.prog 27 cs r :=
  sc_of Try.func27 rfl Try.ntmps27 (by kernel_rfl) (by kernel_rfl) hl h

-- turret/turretref06.Ints
def c29_0 : SCode := .reg [⟨(some 4), none, .mov (.const (.bool false)), [], false⟩] [0, 1]
def c29_1 : SCode := .reg [⟨(some 6), none, .mov (.tmp 0), [], false⟩,
  ⟨(some 7), none, .len (.tmp 6), [], false⟩,
  ⟨(some 8), none, .mov (.tmp 1), [], false⟩,
  ⟨(some 9), none, .len (.tmp 8), [], false⟩,
  ⟨(some 10), none, .bin .neq (.tmp 7) (.tmp 9), [], false⟩] [0, 1, 10]
def c29_2 : SCode := .reg [⟨(some 4), none, .mov (.const (.bool false)), [], false⟩] [4]
def c29_3 : SCode := .seq c29_2 .ret
def c29_4 : SCode := .cond (.tmp 10) c29_3 .skip
def c29_5 : SCode := .seq c29_1 c29_4
def c29_6 : SCode := .reg [⟨(some 5), none, .mov (.const (.int .i64 0)), [], false⟩] [0, 1, 5]
def c29_7 : SCode := .reg [⟨(some 11), none, .mov (.tmp 5), [], false⟩,
  ⟨(some 12), none, .mov (.tmp 0), [], false⟩,
  ⟨(some 13), none, .len (.tmp 12), [], false⟩,
  ⟨(some 14), none, .bin .lss (.tmp 11) (.tmp 13), [], false⟩] [0, 1, 5, 14]
def c29_8 : SCode := .cond (.tmp 14) .skip (.exit 0)
def c29_9 : SCode := .seq c29_7 c29_8
def c29_10 : SCode := .reg [⟨(some 17), none, .mov (.tmp 0), [], false⟩,
  ⟨(some 18), none, .mov (.tmp 5), [], false⟩,
  ⟨(some 19), none, .idxS 1 (.tmp 17) (.tmp 18), [], false⟩,
  ⟨(some 20), none, .load false 1 (.tmp 19), [], false⟩,
  ⟨(some 21), none, .mov (.tmp 1), [], false⟩,
  ⟨(some 22), none, .mov (.tmp 5), [], false⟩,
  ⟨(some 23), none, .idxS 1 (.tmp 21) (.tmp 22), [], false⟩,
  ⟨(some 24), none, .load false 1 (.tmp 23), [], false⟩,
  ⟨(some 25), none, .bin .neq (.tmp 20) (.tmp 24), [], false⟩] [0, 1, 5, 25]
def c29_11 : SCode := .reg [⟨(some 4), none, .mov (.const (.bool false)), [], false⟩] [4]
def c29_12 : SCode := .seq c29_11 .ret
def c29_13 : SCode := .cond (.tmp 25) c29_12 .skip
def c29_14 : SCode := .seq c29_10 c29_13
def c29_15 : SCode := .block 1 c29_14
def c29_16 : SCode := .reg [⟨(some 15), none, .mov (.tmp 5), [], false⟩,
  ⟨(some 16), none, .bin .add (.tmp 15) (.const (.int .i64 1)), [], false⟩,
  ⟨(some 5), none, .mov (.tmp 16), [], false⟩] [0, 1, 5]
def c29_17 : SCode := .seq c29_15 c29_16
def c29_18 : SCode := .seq c29_9 c29_17
def c29_19 : SCode := .loop c29_18
def c29_20 : SCode := .block 0 c29_19
def c29_21 : SCode := .seq c29_6 c29_20
def c29_22 : SCode := .reg [⟨(some 4), none, .mov (.const (.bool true)), [], false⟩] [4]
def c29_23 : SCode := .seq c29_22 .ret
def c29_24 : SCode := .seq c29_21 c29_23
def c29_25 : SCode := .seq c29_5 c29_24
def c29_26 : SCode := .seq c29_0 c29_25
@[simp] def rs29 : List SRes := [.tmp 4]
theorem law29 (cs : List CV) (r : CV) (hl : cs.length ≤ 26) (h : STri Try.prog 26 c29_26 (initT 0 cs) [] (retQ rs29 r)) : SC Try.prog 29 cs r :=
  sc_of Try.func29 rfl Try.ntmps29 (by kernel_rfl) (by kernel_rfl) hl h

-- turret/turretref06.Heard
def c30_0 : SCode := .reg [⟨(some 4), none, .box 26 (.tmp 0), [], false⟩,
  ⟨(some 8), none, .mov (.const (.slice none 0 0)), [], false⟩] [1, 2, 3, 4]
def c30_1 : SCode := .reg [⟨(some 14), none, .buildSl 3 1 [(.int .i64 0)] 0 [], [], false⟩,
  ⟨(some 9), none, .mov (.tmp 14), [], false⟩] [1, 2, 3, 4, 9]
def c30_2 : SCode := .reg [⟨(some 10), none, .mov (.const (.int .i64 0)), [], false⟩] [1, 2, 3, 4, 9, 10]
def c30_3 : SCode := .reg [⟨(some 15), none, .mov (.tmp 10), [], false⟩,
  ⟨(some 16), none, .fld 1 (.tmp 4), [], false⟩,
  ⟨(some 17), none, .load false 1 (.tmp 16), [], false⟩,
  ⟨(some 18), none, .bin .lss (.tmp 15) (.tmp 17), [], false⟩] [1, 2, 3, 4, 9, 10, 18]
def c30_4 : SCode := .cond (.tmp 18) .skip (.exit 0)
def c30_5 : SCode := .seq c30_3 c30_4
def c30_6 : SCode := .reg [⟨(some 21), none, .load true 6 (.tmp 4), [], false⟩,
  ⟨(some 22), none, .mov (.tmp 1), [], false⟩,
  ⟨(some 23), none, .fld 2 (.tmp 4), [], false⟩,
  ⟨(some 24), none, .load false 1 (.tmp 23), [], false⟩,
  ⟨(some 25), none, .mov (.tmp 2), [], false⟩,
  ⟨(some 26), none, .idxS 1 (.tmp 24) (.tmp 25), [], false⟩,
  ⟨(some 27), none, .load false 1 (.tmp 26), [], false⟩,
  ⟨(some 28), none, .mov (.tmp 10), [], false⟩,
  ⟨(some 29), none, .call 27 [(.tmp 21), (.tmp 22), (.tmp 27), (.tmp 28)], [], false⟩,
  ⟨(some 11), none, .mov (.tmp 29), [], false⟩] [1, 2, 3, 4, 9, 10, 11]
def c30_7 : SCode := .reg [⟨(some 30), none, .mov (.tmp 11), [], false⟩,
  ⟨(some 31), none, .len (.tmp 30), [], false⟩,
  ⟨(some 32), none, .mov (.tmp 3), [], false⟩,
  ⟨(some 33), none, .len (.tmp 32), [], false⟩,
  ⟨(some 34), none, .bin .eql (.tmp 31) (.tmp 33), [], false⟩,
  ⟨(some 12), none, .mov (.tmp 34), [], false⟩] [1, 2, 3, 4, 9, 10, 11, 12]
def c30_8 : SCode := .reg [⟨(some 13), none, .mov (.const (.int .i64 0)), [], false⟩] [1, 2, 3, 4, 9, 10, 11, 12, 13]
def c30_9 : SCode := .reg [⟨(some 35), none, .mov (.tmp 13), [], false⟩,
  ⟨(some 36), none, .mov (.tmp 11), [], false⟩,
  ⟨(some 37), none, .len (.tmp 36), [], false⟩,
  ⟨(some 38), none, .bin .lss (.tmp 35) (.tmp 37), [], false⟩,
  ⟨(some 39), none, .mov (.tmp 38), [], false⟩,
  ⟨(some 40), (some (39, true)), .mov (.tmp 12), [], false⟩,
  ⟨(some 41), none, .pick (.tmp 39) (.tmp 40) (.const (.bool false)), [], false⟩] [1, 2, 3, 4, 9, 10, 11, 12, 13, 41]
def c30_10 : SCode := .cond (.tmp 41) .skip (.exit 2)
def c30_11 : SCode := .seq c30_9 c30_10
def c30_12 : SCode := .reg [⟨(some 44), none, .mov (.tmp 11), [], false⟩,
  ⟨(some 45), none, .mov (.tmp 13), [], false⟩,
  ⟨(some 46), none, .idxS 2 (.tmp 44) (.tmp 45), [], false⟩,
  ⟨(some 47), none, .fld 1 (.tmp 46), [], false⟩,
  ⟨(some 48), none, .load false 1 (.tmp 47), [], false⟩,
  ⟨(some 49), none, .mov (.tmp 3), [], false⟩,
  ⟨(some 50), none, .mov (.tmp 13), [], false⟩,
  ⟨(some 51), none, .idxS 1 (.tmp 49) (.tmp 50), [], false⟩,
  ⟨(some 52), none, .load false 1 (.tmp 51), [], false⟩,
  ⟨(some 53), none, .bin .eql (.tmp 48) (.tmp 52), [], false⟩,
  ⟨(some 12), none, .mov (.tmp 53), [], false⟩] [1, 2, 3, 4, 9, 10, 11, 12, 13]
def c30_13 : SCode := .block 3 c30_12
def c30_14 : SCode := .reg [⟨(some 42), none, .mov (.tmp 13), [], false⟩,
  ⟨(some 43), none, .bin .add (.tmp 42) (.const (.int .i64 1)), [], false⟩,
  ⟨(some 13), none, .mov (.tmp 43), [], false⟩] [1, 2, 3, 4, 9, 10, 11, 12, 13]
def c30_15 : SCode := .seq c30_13 c30_14
def c30_16 : SCode := .seq c30_11 c30_15
def c30_17 : SCode := .loop c30_16
def c30_18 : SCode := .block 2 c30_17
def c30_19 : SCode := .seq c30_8 c30_18
def c30_20 : SCode := .reg [⟨(some 54), none, .mov (.tmp 12), [], false⟩] [1, 2, 3, 4, 9, 10, 54]
def c30_21 : SCode := .reg [⟨(some 55), none, .mov (.tmp 9), [], false⟩,
  ⟨(some 56), none, .mov (.tmp 10), [], false⟩,
  ⟨(some 57), none, .buildSl 3 1 [(.int .i64 0)] 1 [(0, (.tmp 56))], [], false⟩,
  ⟨(some 58), none, .append 3 1 8 (.tmp 55) (.tmp 57), [], false⟩,
  ⟨(some 9), none, .mov (.tmp 58), [], false⟩] [1, 2, 3, 4, 9, 10]
def c30_22 : SCode := .cond (.tmp 54) c30_21 .skip
def c30_23 : SCode := .seq c30_20 c30_22
def c30_24 : SCode := .seq c30_19 c30_23
def c30_25 : SCode := .seq c30_7 c30_24
def c30_26 : SCode := .seq c30_6 c30_25
def c30_27 : SCode := .block 1 c30_26
def c30_28 : SCode := .reg [⟨(some 19), none, .mov (.tmp 10), [], false⟩,
  ⟨(some 20), none, .bin .add (.tmp 19) (.const (.int .i64 1)), [], false⟩,
  ⟨(some 10), none, .mov (.tmp 20), [], false⟩] [1, 2, 3, 4, 9, 10]
def c30_29 : SCode := .seq c30_27 c30_28
def c30_30 : SCode := .seq c30_5 c30_29
def c30_31 : SCode := .loop c30_30
def c30_32 : SCode := .block 0 c30_31
def c30_33 : SCode := .seq c30_2 c30_32
def c30_34 : SCode := .reg [⟨(some 59), none, .mov (.tmp 9), [], false⟩,
  ⟨(some 8), none, .mov (.tmp 59), [], false⟩] [8]
def c30_35 : SCode := .seq c30_34 .ret
def c30_36 : SCode := .seq c30_33 c30_35
def c30_37 : SCode := .seq c30_1 c30_36
def c30_38 : SCode := .seq c30_0 c30_37
@[simp] def rs30 : List SRes := [.tmp 8]
theorem law30 (cs : List CV) (r : CV) (hl : cs.length ≤ 60) (h : STri Try.prog 60 c30_38 (initT 0 cs) [] (retQ rs30 r)) : SC Try.prog 30 cs r :=
  sc_of Try.func30 rfl Try.ntmps30 (by kernel_rfl) (by kernel_rfl) hl h

-- turret/turretref06.Tune
def c33_0 : SCode := .reg [⟨(some 2), none, .box 56 (.tmp 0), [], false⟩,
  ⟨(some 4), none, .mov (.const (.int .i64 0)), [], false⟩] [1, 2]
def c33_1 : SCode := .reg [⟨(some 9), none, .fld 0 (.tmp 2), [], false⟩,
  ⟨(some 10), none, .load false 1 (.tmp 9), [], false⟩,
  ⟨(some 11), none, .call 58 [(.tmp 10), (.const (.int .i64 1)), (.const (.int .i64 1000))], [], false⟩,
  ⟨(some 12), none, .un .not (.tmp 11), [], false⟩,
  ⟨(some 13), none, .mov (.tmp 12), [], false⟩,
  ⟨(some 14), (some (13, false)), .fld 1 (.tmp 2), [], false⟩,
  ⟨(some 15), (some (13, false)), .load false 1 (.tmp 14), [], false⟩,
  ⟨(some 16), (some (13, false)), .len (.tmp 15), [], false⟩,
  ⟨(some 17), (some (13, false)), .bin .gtr (.tmp 16) (.const (.int .i64 60)), [], false⟩,
  ⟨(some 18), none, .pick (.tmp 13) (.const (.bool true)) (.tmp 17), [], false⟩] [1, 2, 18]
def c33_2 : SCode := .reg [⟨(some 4), none, .mov (.const (.int .i64 2)), [], false⟩] [4]
def c33_3 : SCode := .seq c33_2 .ret
def c33_4 : SCode := .cond (.tmp 18) c33_3 .skip
def c33_5 : SCode := .seq c33_1 c33_4
def c33_6 : SCode := .reg [⟨(some 19), none, .build [(.int .i64 0), (.int .i64 0), (.int .i64 0), (.int .i64 0), (.int .i64 0), (.int .i64 0), (.int .i64 0), (.int .i64 0), (.int .i64 0), (.int .i64 0), (.int .i64 0), (.int .i64 0), (.int .i64 0), (.int .i64 0), (.int .i64 0), (.int .i64 0)] [], [], false⟩,
  ⟨(some 5), none, .alloc 61 [(.int .i64 0), (.int .i64 0), (.int .i64 0), (.int .i64 0), (.int .i64 0), (.int .i64 0), (.int .i64 0), (.int .i64 0), (.int .i64 0), (.int .i64 0), (.int .i64 0), (.int .i64 0), (.int .i64 0), (.int .i64 0), (.int .i64 0), (.int .i64 0)], [], false⟩,
  ⟨none, none, .store 16 (.tmp 5) (.tmp 19), [], false⟩] [1, 2, 5]
def c33_7 : SCode := .reg [⟨(some 6), none, .mov (.const (.int .i64 0)), [], false⟩] [1, 2, 5, 6]
def c33_8 : SCode := .reg [⟨(some 20), none, .mov (.tmp 6), [], false⟩,
  ⟨(some 21), none, .fld 1 (.tmp 2), [], false⟩,
  ⟨(some 22), none, .load false 1 (.tmp 21), [], false⟩,
  ⟨(some 23), none, .len (.tmp 22), [], false⟩,
  ⟨(some 24), none, .bin .lss (.tmp 20) (.tmp 23), [], false⟩] [1, 2, 5, 6, 24]
def c33_9 : SCode := .cond (.tmp 24) .skip (.exit 0)
def c33_10 : SCode := .seq c33_8 c33_9
def c33_11 : SCode := .reg [⟨(some 27), none, .fld 1 (.tmp 2), [], false⟩,
  ⟨(some 28), none, .load false 1 (.tmp 27), [], false⟩,
  ⟨(some 29), none, .mov (.tmp 6), [], false⟩,
  ⟨(some 30), none, .idxS 2 (.tmp 28) (.tmp 29), [], false⟩,
  ⟨(some 31), none, .load true 2 (.tmp 30), [], false⟩,
  ⟨(some 7), none, .alloc 66 [(.int .i64 0), (.int .i64 0)], [], false⟩,
  ⟨none, none, .store 2 (.tmp 7) (.tmp 31), [], false⟩] [1, 2, 5, 6, 7]
def c33_12 : SCode := .reg [⟨(some 32), none, .fld 0 (.tmp 7), [], false⟩,
  ⟨(some 33), none, .load false 1 (.tmp 32), [], false⟩,
  ⟨(some 34), none, .fld 0 (.tmp 2), [], false⟩,
  ⟨(some 35), none, .load false 1 (.tmp 34), [], false⟩,
  ⟨(some 36), none, .bin .sub (.tmp 35) (.const (.int .i64 1)), [], false⟩,
  ⟨(some 37), none, .call 58 [(.tmp 33), (.const (.int .i64 0)), (.tmp 36)], [], false⟩,
  ⟨(some 38), none, .un .not (.tmp 37), [], false⟩,
  ⟨(some 39), none, .mov (.tmp 38), [], false⟩,
  ⟨(some 40), (some (39, false)), .fld 1 (.tmp 7), [], false⟩,
  ⟨(some 41), (some (39, false)), .load false 1 (.tmp 40), [], false⟩,
  ⟨(some 42), (some (39, false)), .call 58 [(.tmp 41), (.const (.int .i64 0)), (.const (.int .i64 15))], [], false⟩,
  ⟨(some 43), (some (39, false)), .un .not (.tmp 42), [], false⟩,
  ⟨(some 44), none, .pick (.tmp 39) (.const (.bool true)) (.tmp 43), [], false⟩] [1, 2, 5, 6, 7, 44]
def c33_13 : SCode := .reg [⟨(some 4), none, .mov (.const (.int .i64 2)), [], false⟩] [4]
def c33_14 : SCode := .seq c33_13 .ret
def c33_15 : SCode := .cond (.tmp 44) c33_14 .skip
def c33_16 : SCode := .seq c33_12 c33_15
def c33_17 : SCode := .reg [⟨(some 8), none, .mov (.const (.int .i64 0)), [], false⟩] [1, 2, 5, 6, 7, 8]
def c33_18 : SCode := .reg [⟨(some 45), none, .mov (.tmp 8), [], false⟩,
  ⟨(some 46), none, .mov (.tmp 6), [], false⟩,
  ⟨(some 47), none, .bin .lss (.tmp 45) (.tmp 46), [], false⟩] [1, 2, 5, 6, 7, 8, 47]
def c33_19 : SCode := .cond (.tmp 47) .skip (.exit 2)
def c33_20 : SCode := .seq c33_18 c33_19
def c33_21 : SCode := .reg [⟨(some 50), none, .fld 1 (.tmp 2), [], false⟩,
  ⟨(some 51), none, .load false 1 (.tmp 50), [], false⟩,
  ⟨(some 52), none, .mov (.tmp 8), [], false⟩,
  ⟨(some 53), none, .idxS 2 (.tmp 51) (.tmp 52), [], false⟩,
  ⟨(some 54), none, .load true 2 (.tmp 53), [], false⟩,
  ⟨(some 55), none, .load true 2 (.tmp 7), [], false⟩,
  ⟨(some 56), none, .eqC false [true, true] (.tmp 54) (.tmp 55), [], false⟩] [1, 2, 5, 6, 7, 8, 56]
def c33_22 : SCode := .reg [⟨(some 4), none, .mov (.const (.int .i64 2)), [], false⟩] [4]
def c33_23 : SCode := .seq c33_22 .ret
def c33_24 : SCode := .cond (.tmp 56) c33_23 .skip
def c33_25 : SCode := .seq c33_21 c33_24
def c33_26 : SCode := .block 3 c33_25
def c33_27 : SCode := .reg [⟨(some 48), none, .mov (.tmp 8), [], false⟩,
  ⟨(some 49), none, .bin .add (.tmp 48) (.const (.int .i64 1)), [], false⟩,
  ⟨(some 8), none, .mov (.tmp 49), [], false⟩] [1, 2, 5, 6, 7, 8]
def c33_28 : SCode := .seq c33_26 c33_27
def c33_29 : SCode := .seq c33_20 c33_28
def c33_30 : SCode := .loop c33_29
def c33_31 : SCode := .block 2 c33_30
def c33_32 : SCode := .seq c33_17 c33_31
def c33_33 : SCode := .reg [⟨(some 57), none, .fld 1 (.tmp 7), [], false⟩,
  ⟨(some 58), none, .load false 1 (.tmp 57), [], false⟩,
  ⟨(some 59), none, .idxA 16 1 (.tmp 5) (.tmp 58), [], false⟩,
  ⟨(some 60), none, .load false 1 (.tmp 59), [], false⟩,
  ⟨(some 61), none, .bin .add (.tmp 60) (.const (.int .i64 1)), [], false⟩,
  ⟨(some 62), none, .idxA 16 1 (.tmp 5) (.tmp 58), [], false⟩,
  ⟨none, none, .store 1 (.tmp 62) (.tmp 61), [], false⟩] [1, 2, 5, 6, 7]
def c33_34 : SCode := .reg [⟨(some 63), none, .fld 1 (.tmp 7), [], false⟩,
  ⟨(some 64), none, .load false 1 (.tmp 63), [], false⟩,
  ⟨(some 65), none, .idxA 16 1 (.tmp 5) (.tmp 64), [], false⟩,
  ⟨(some 66), none, .load false 1 (.tmp 65), [], false⟩,
  ⟨(some 67), none, .bin .gtr (.tmp 66) (.const (.int .i64 8)), [], false⟩] [1, 2, 5, 6, 67]
def c33_35 : SCode := .reg [⟨(some 4), none, .mov (.const (.int .i64 2)), [], false⟩] [4]
def c33_36 : SCode := .seq c33_35 .ret
def c33_37 : SCode := .cond (.tmp 67) c33_36 .skip
def c33_38 : SCode := .seq c33_34 c33_37
def c33_39 : SCode := .seq c33_33 c33_38
def c33_40 : SCode := .seq c33_32 c33_39
def c33_41 : SCode := .seq c33_16 c33_40
def c33_42 : SCode := .seq c33_11 c33_41
def c33_43 : SCode := .block 1 c33_42
def c33_44 : SCode := .reg [⟨(some 25), none, .mov (.tmp 6), [], false⟩,
  ⟨(some 26), none, .bin .add (.tmp 25) (.const (.int .i64 1)), [], false⟩,
  ⟨(some 6), none, .mov (.tmp 26), [], false⟩] [1, 2, 5, 6]
def c33_45 : SCode := .seq c33_43 c33_44
def c33_46 : SCode := .seq c33_10 c33_45
def c33_47 : SCode := .loop c33_46
def c33_48 : SCode := .block 0 c33_47
def c33_49 : SCode := .seq c33_7 c33_48
def c33_50 : SCode := .reg [⟨(some 68), none, .mov (.tmp 1), [], false⟩,
  ⟨(some 69), none, .fld 0 (.tmp 2), [], false⟩,
  ⟨(some 70), none, .load false 1 (.tmp 69), [], false⟩,
  ⟨(some 71), none, .call 58 [(.tmp 68), (.const (.int .i64 0)), (.tmp 70)], [], false⟩,
  ⟨(some 72), none, .un .not (.tmp 71), [], false⟩] [72]
def c33_51 : SCode := .reg [⟨(some 4), none, .mov (.const (.int .i64 3)), [], false⟩] [4]
def c33_52 : SCode := .seq c33_51 .ret
def c33_53 : SCode := .cond (.tmp 72) c33_52 .skip
def c33_54 : SCode := .seq c33_50 c33_53
def c33_55 : SCode := .reg [⟨(some 4), none, .mov (.const (.int .i64 0)), [], false⟩] [4]
def c33_56 : SCode := .seq c33_55 .ret
def c33_57 : SCode := .seq c33_54 c33_56
def c33_58 : SCode := .seq c33_49 c33_57
def c33_59 : SCode := .seq c33_6 c33_58
def c33_60 : SCode := .seq c33_5 c33_59
def c33_61 : SCode := .seq c33_0 c33_60
@[simp] def rs33 : List SRes := [.tmp 4]
theorem law33 (cs : List CV) (r : CV) (hl : cs.length ≤ 73) (h : STri Try.prog 73 c33_61 (initT 0 cs) [] (retQ rs33 r)) : SC Try.prog 33 cs r :=
  sc_of Try.func33 rfl Try.ntmps33 (by kernel_rfl) (by kernel_rfl) hl h

-- turret/turretref06.Fewest
def c34_0 : SCode := .reg [⟨(some 2), none, .box 56 (.tmp 0), [], false⟩,
  ⟨(some 4), none, .alloc 61 [(.int .i64 0), (.int .i64 0), (.int .i64 0), (.int .i64 0), (.int .i64 0), (.int .i64 0), (.int .i64 0), (.int .i64 0), (.int .i64 0), (.int .i64 0), (.int .i64 0), (.int .i64 0), (.int .i64 0), (.int .i64 0), (.int .i64 0), (.int .i64 0)], [], false⟩,
  ⟨(some 5), none, .mov (.const (.slice none 0 0)), [], false⟩] [1, 2, 4]
def c34_1 : SCode := .reg [⟨(some 16), none, .build [(.int .i64 0), (.int .i64 0), (.int .i64 0), (.int .i64 0), (.int .i64 0), (.int .i64 0), (.int .i64 0), (.int .i64 0), (.int .i64 0), (.int .i64 0), (.int .i64 0), (.int .i64 0), (.int .i64 0), (.int .i64 0), (.int .i64 0), (.int .i64 0)] [], [], false⟩,
  ⟨(some 17), none, .fld 1 (.tmp 2), [], true⟩,
  ⟨(some 18), none, .load false 1 (.tmp 17), [], true⟩,
  ⟨(some 19), none, .len (.tmp 18), [], true⟩,
  ⟨(some 20), none, .makeSl 3 1 8 [(.int .i64 0)] (.tmp 19) (.tmp 19), [], true⟩,
  ⟨(some 6), none, .alloc 61 [(.int .i64 0), (.int .i64 0), (.int .i64 0), (.int .i64 0), (.int .i64 0), (.int .i64 0), (.int .i64 0), (.int .i64 0), (.int .i64 0), (.int .i64 0), (.int .i64 0), (.int .i64 0), (.int .i64 0), (.int .i64 0), (.int .i64 0), (.int .i64 0)], [1, 2, 3], false⟩,
  ⟨none, none, .store 16 (.tmp 6) (.tmp 16), [1, 2, 3, 4], false⟩,
  ⟨(some 7), none, .mov (.tmp 20), [], false⟩] [1, 2, 4, 6, 7]
def c34_2 : SCode := .reg [⟨(some 8), none, .mov (.const (.int .i64 0)), [], false⟩] [1, 2, 4, 6, 7, 8]
def c34_3 : SCode := .reg [⟨(some 21), none, .mov (.tmp 8), [], false⟩,
  ⟨(some 22), none, .bin .lss (.tmp 21) (.const (.int .i64 16)), [], false⟩] [1, 2, 4, 6, 7, 8, 22]
def c34_4 : SCode := .cond (.tmp 22) .skip (.exit 0)
def c34_5 : SCode := .seq c34_3 c34_4
def c34_6 : SCode := .reg [⟨(some 25), none, .fld 0 (.tmp 2), [], false⟩,
  ⟨(some 26), none, .load false 1 (.tmp 25), [], false⟩,
  ⟨(some 27), none, .build [(.int .i64 0), (.slice none 0 0)] [(0, 1, (.tmp 26))], [], false⟩,
  ⟨(some 28), none, .buildSl 3 1 [(.int .i64 0)] 0 [], [], false⟩,
  ⟨(some 9), none, .alloc 56 [(.int .i64 0), (.slice none 0 0)], [], false⟩,
  ⟨none, none, .store 2 (.tmp 9) (.tmp 27), [], false⟩,
  ⟨(some 10), none, .mov (.tmp 28), [], false⟩] [1, 2, 4, 6, 7, 8, 9, 10]
def c34_7 : SCode := .reg [⟨(some 11), none, .mov (.const (.int .i64 0)), [], false⟩] [1, 2, 4, 6, 7, 8, 9, 10, 11]
def c34_8 : SCode := .reg [⟨(some 29), none, .mov (.tmp 11), [], false⟩,
  ⟨(some 30), none, .fld 1 (.tmp 2), [], false⟩,
  ⟨(some 31), none, .load false 1 (.tmp 30), [], false⟩,
  ⟨(some 32), none, .len (.tmp 31), [], false⟩,
  ⟨(some 33), none, .bin .lss (.tmp 29) (.tmp 32), [], false⟩] [1, 2, 4, 6, 7, 8, 9, 10, 11, 33]
def c34_9 : SCode := .cond (.tmp 33) .skip (.exit 2)
def c34_10 : SCode := .seq c34_8 c34_9
def c34_11 : SCode := .reg [⟨(some 36), none, .fld 1 (.tmp 2), [], false⟩,
  ⟨(some 37), none, .load false 1 (.tmp 36), [], false⟩,
  ⟨(some 38), none, .mov (.tmp 11), [], false⟩,
  ⟨(some 39), none, .idxS 2 (.tmp 37) (.tmp 38), [], false⟩,
  ⟨(some 40), none, .fld 1 (.tmp 39), [], false⟩,
  ⟨(some 41), none, .load false 1 (.tmp 40), [], false⟩,
  ⟨(some 42), none, .mov (.tmp 8), [], false⟩,
  ⟨(some 43), none, .bin .eql (.tmp 41) (.tmp 42), [], false⟩] [1, 2, 4, 6, 7, 8, 9, 10, 11, 43]
def c34_12 : SCode := .reg [⟨(some 44), none, .fld 1 (.tmp 9), [], true⟩,
  ⟨(some 45), none, .load false 1 (.tmp 44), [], true⟩,
  ⟨(some 46), none, .fld 1 (.tmp 2), [], true⟩,
  ⟨(some 47), none, .load false 1 (.tmp 46), [], true⟩,
  ⟨(some 48), none, .mov (.tmp 11), [], false⟩,
  ⟨(some 49), none, .idxS 2 (.tmp 47) (.tmp 48), [], true⟩,
  ⟨(some 50), none, .load true 2 (.tmp 49), [], true⟩,
  ⟨(some 51), none, .buildSl 66 2 [(.int .i64 0), (.int .i64 0)] 1 [(0, (.tmp 50))], [0, 1], false⟩,
  ⟨(some 52), none, .append 66 2 16 (.tmp 45) (.tmp 51), [], true⟩,
  ⟨(some 53), none, .mov (.tmp 10), [], false⟩,
  ⟨(some 54), none, .mov (.tmp 11), [], false⟩,
  ⟨(some 55), none, .buildSl 3 1 [(.int .i64 0)] 1 [(0, (.tmp 54))], [0, 1, 2, 3, 5, 6, 8], true⟩,
  ⟨(some 56), none, .append 3 1 8 (.tmp 53) (.tmp 55), [], true⟩,
  ⟨(some 57), none, .fld 1 (.tmp 9), [11, 12], false⟩,
  ⟨none, none, .store 1 (.tmp 57) (.tmp 52), [], false⟩,
  ⟨(some 10), none, .mov (.tmp 56), [], false⟩] [1, 2, 4, 6, 7, 8, 9, 10, 11]
def c34_13 : SCode := .cond (.tmp 43) c34_12 .skip
def c34_14 : SCode := .seq c34_11 c34_13
def c34_15 : SCode := .block 3 c34_14
def c34_16 : SCode := .reg [⟨(some 34), none, .mov (.tmp 11), [], false⟩,
  ⟨(some 35), none, .bin .add (.tmp 34) (.const (.int .i64 1)), [], false⟩,
  ⟨(some 11), none, .mov (.tmp 35), [], false⟩] [1, 2, 4, 6, 7, 8, 9, 10, 11]
def c34_17 : SCode := .seq c34_15 c34_16
def c34_18 : SCode := .seq c34_10 c34_17
def c34_19 : SCode := .loop c34_18
def c34_20 : SCode := .block 2 c34_19
def c34_21 : SCode := .seq c34_7 c34_20
def c34_22 : SCode := .reg [⟨(some 58), none, .mov (.tmp 10), [], false⟩,
  ⟨(some 59), none, .len (.tmp 58), [], false⟩,
  ⟨(some 60), none, .bin .eql (.tmp 59) (.const (.int .i64 0)), [], false⟩] [1, 2, 4, 6, 7, 8, 9, 10, 60]
def c34_23 : SCode := .cond (.tmp 60) (.exit 1) .skip
def c34_24 : SCode := .seq c34_22 c34_23
def c34_25 : SCode := .reg [⟨(some 61), none, .buildSl 3 1 [(.int .i64 0)] 0 [], [], false⟩,
  ⟨(some 12), none, .mov (.tmp 61), [], false⟩,
  ⟨(some 13), none, .mov (.const (.bool false)), [], false⟩] [1, 2, 4, 6, 7, 8, 9, 10, 12, 13]
def c34_26 : SCode := .reg [⟨(some 14), none, .mov (.const (.int .i64 1)), [], false⟩] [1, 2, 4, 6, 7, 8, 9, 10, 12, 13, 14]
def c34_27 : SCode := .reg [⟨(some 62), none, .mov (.tmp 13), [], false⟩,
  ⟨(some 63), none, .un .not (.tmp 62), [], false⟩] [1, 2, 4, 6, 7, 8, 9, 10, 12, 14, 63]
def c34_28 : SCode := .cond (.tmp 63) .skip (.exit 4)
def c34_29 : SCode := .seq c34_27 c34_28
def c34_30 : SCode := .reg [⟨(some 67), none, .load true 2 (.tmp 9), [], false⟩,
  ⟨(some 68), none, .mov (.tmp 1), [], false⟩,
  ⟨(some 69), none, .mov (.tmp 14), [], false⟩,
  ⟨(some 70), none, .call 72 [(.tmp 67), (.tmp 68), (.tmp 69), (.const (.slice none 0 0))], [], false⟩,
  ⟨(some 66), none, .mov (.tmp 70), [], false⟩,
  ⟨(some 71), none, .ext (.tmp 66) 0, [], false⟩,
  ⟨(some 72), none, .ext (.tmp 66) 1, [], false⟩,
  ⟨(some 12), none, .mov (.tmp 71), [], false⟩,
  ⟨(some 13), none, .mov (.tmp 72), [], false⟩] [1, 2, 4, 6, 7, 8, 9, 10, 12, 13, 14]
def c34_31 : SCode := .reg [⟨(some 73), none, .mov (.tmp 8), [], false⟩,
  ⟨(some 74), none, .mov (.tmp 14), [], false⟩,
  ⟨(some 75), none, .idxA 16 1 (.tmp 6) (.tmp 73), [], false⟩,
  ⟨none, none, .store 1 (.tmp 75) (.tmp 74), [], false⟩] [1, 2, 4, 6, 7, 8, 9, 10, 12, 13, 14]
def c34_32 : SCode := .seq c34_30 c34_31
def c34_33 : SCode := .block 5 c34_32
def c34_34 : SCode := .reg [⟨(some 64), none, .mov (.tmp 14), [], false⟩,
  ⟨(some 65), none, .bin .add (.tmp 64) (.const (.int .i64 1)), [], false⟩,
  ⟨(some 14), none, .mov (.tmp 65), [], false⟩] [1, 2, 4, 6, 7, 8, 9, 10, 12, 13, 14]
def c34_35 : SCode := .seq c34_33 c34_34
def c34_36 : SCode := .seq c34_29 c34_35
def c34_37 : SCode := .loop c34_36
def c34_38 : SCode := .block 4 c34_37
def c34_39 : SCode := .seq c34_26 c34_38
def c34_40 : SCode := .reg [⟨(some 15), none, .mov (.const (.int .i64 0)), [], false⟩] [1, 2, 4, 6, 7, 8, 10, 12, 15]
def c34_41 : SCode := .reg [⟨(some 76), none, .mov (.tmp 15), [], false⟩,
  ⟨(some 77), none, .mov (.tmp 10), [], false⟩,
  ⟨(some 78), none, .len (.tmp 77), [], false⟩,
  ⟨(some 79), none, .bin .lss (.tmp 76) (.tmp 78), [], false⟩] [1, 2, 4, 6, 7, 8, 10, 12, 15, 79]
def c34_42 : SCode := .cond (.tmp 79) .skip (.exit 6)
def c34_43 : SCode := .seq c34_41 c34_42
def c34_44 : SCode := .reg [⟨(some 82), none, .mov (.tmp 7), [], false⟩,
  ⟨(some 83), none, .mov (.tmp 10), [], false⟩,
  ⟨(some 84), none, .mov (.tmp 15), [], false⟩,
  ⟨(some 85), none, .idxS 1 (.tmp 83) (.tmp 84), [], false⟩,
  ⟨(some 86), none, .load false 1 (.tmp 85), [], false⟩,
  ⟨(some 87), none, .mov (.tmp 12), [], false⟩,
  ⟨(some 88), none, .mov (.tmp 15), [], false⟩,
  ⟨(some 89), none, .idxS 1 (.tmp 87) (.tmp 88), [], false⟩,
  ⟨(some 90), none, .load false 1 (.tmp 89), [], false⟩,
  ⟨(some 91), none, .idxS 1 (.tmp 82) (.tmp 86), [], false⟩,
  ⟨none, none, .store 1 (.tmp 91) (.tmp 90), [], false⟩] [1, 2, 4, 6, 7, 8, 10, 12, 15]
def c34_45 : SCode := .block 7 c34_44
def c34_46 : SCode := .reg [⟨(some 80), none, .mov (.tmp 15), [], false⟩,
  ⟨(some 81), none, .bin .add (.tmp 80) (.const (.int .i64 1)), [], false⟩,
  ⟨(some 15), none, .mov (.tmp 81), [], false⟩] [1, 2, 4, 6, 7, 8, 10, 12, 15]
def c34_47 : SCode := .seq c34_45 c34_46
def c34_48 : SCode := .seq c34_43 c34_47
def c34_49 : SCode := .loop c34_48
def c34_50 : SCode := .block 6 c34_49
def c34_51 : SCode := .seq c34_40 c34_50
def c34_52 : SCode := .seq c34_39 c34_51
def c34_53 : SCode := .seq c34_25 c34_52
def c34_54 : SCode := .seq c34_24 c34_53
def c34_55 : SCode := .seq c34_21 c34_54
def c34_56 : SCode := .seq c34_6 c34_55
def c34_57 : SCode := .block 1 c34_56
def c34_58 : SCode := .reg [⟨(some 23), none, .mov (.tmp 8), [], false⟩,
  ⟨(some 24), none, .bin .add (.tmp 23) (.const (.int .i64 1)), [], false⟩,
  ⟨(some 8), none, .mov (.tmp 24), [], false⟩] [1, 2, 4, 6, 7, 8]
def c34_59 : SCode := .seq c34_57 c34_58
def c34_60 : SCode := .seq c34_5 c34_59
def c34_61 : SCode := .loop c34_60
def c34_62 : SCode := .block 0 c34_61
def c34_63 : SCode := .seq c34_2 c34_62
def c34_64 : SCode := .reg [⟨(some 92), none, .load true 16 (.tmp 6), [], false⟩,
  ⟨(some 93), none, .mov (.tmp 7), [], false⟩,
  ⟨none, none, .store 16 (.tmp 4) (.tmp 92), [], false⟩,
  ⟨(some 5), none, .mov (.tmp 93), [], false⟩] [4, 5]
def c34_65 : SCode := .seq c34_64 .ret
def c34_66 : SCode := .seq c34_63 c34_65
def c34_67 : SCode := .seq c34_1 c34_66
def c34_68 : SCode := .seq c34_0 c34_67
@[simp] def rs34 : List SRes := [.cell 4 true 16, .tmp 5]
theorem law34 (cs : List CV) (r : CV) (hl : cs.length ≤ 94) (h : STri Try.prog 94 c34_68 (initT 0 cs) [] (retQ rs34 r)) : SC Try.prog 34 cs r :=
  sc_of Try.func34 rfl Try.ntmps34 (by kernel_rfl) (by kernel_rfl) hl h

-- turret/turretref06.First
def c35_0 : SCode := .reg [⟨(some 2), none, .box 61 (.tmp 0), [], false⟩,
  ⟨(some 4), none, .mov (.const (.int .i64 0)), [], false⟩] [1, 2]
def c35_1 : SCode := .reg [⟨(some 5), none, .mov (.const (.int .i64 0)), [], false⟩] [1, 2, 5]
def c35_2 : SCode := .reg [⟨(some 6), none, .mov (.const (.int .i64 0)), [], false⟩] [1, 2, 5, 6]
def c35_3 : SCode := .reg [⟨(some 7), none, .mov (.tmp 6), [], false⟩,
  ⟨(some 8), none, .mov (.tmp 1), [], false⟩,
  ⟨(some 9), none, .bin .lss (.tmp 7) (.tmp 8), [], false⟩] [1, 2, 5, 6, 9]
def c35_4 : SCode := .cond (.tmp 9) .skip (.exit 0)
def c35_5 : SCode := .seq c35_3 c35_4
def c35_6 : SCode := .reg [⟨(some 12), none, .mov (.tmp 5), [], false⟩,
  ⟨(some 13), none, .mov (.tmp 6), [], false⟩,
  ⟨(some 14), none, .idxA 16 1 (.tmp 2) (.tmp 13), [], false⟩,
  ⟨(some 15), none, .load false 1 (.tmp 14), [], false⟩,
  ⟨(some 16), none, .bin .add (.tmp 12) (.tmp 15), [], false⟩,
  ⟨(some 5), none, .mov (.tmp 16), [], false⟩] [1, 2, 5, 6]
def c35_7 : SCode := .block 1 c35_6
def c35_8 : SCode := .reg [⟨(some 10), none, .mov (.tmp 6), [], false⟩,
  ⟨(some 11), none, .bin .add (.tmp 10) (.const (.int .i64 1)), [], false⟩,
  ⟨(some 6), none, .mov (.tmp 11), [], false⟩] [1, 2, 5, 6]
def c35_9 : SCode := .seq c35_7 c35_8
def c35_10 : SCode := .seq c35_5 c35_9
def c35_11 : SCode := .loop c35_10
def c35_12 : SCode := .block 0 c35_11
def c35_13 : SCode := .seq c35_2 c35_12
def c35_14 : SCode := .reg [⟨(some 17), none, .mov (.tmp 5), [], false⟩,
  ⟨(some 4), none, .mov (.tmp 17), [], false⟩] [4]
def c35_15 : SCode := .seq c35_14 .ret
def c35_16 : SCode := .seq c35_13 c35_15
def c35_17 : SCode := .seq c35_1 c35_16
def c35_18 : SCode := .seq c35_0 c35_17
@[simp] def rs35 : List SRes := [.tmp 4]
theorem law35 (cs : List CV) (r : CV) (hl : cs.length ≤ 18) (h : STri Try.prog 18 c35_18 (initT 0 cs) [] (retQ rs35 r)) : SC Try.prog 35 cs r :=
  sc_of Try.func35 rfl Try.ntmps35 (by kernel_rfl) (by kernel_rfl) hl h

-- turret/turretref06.Hammered
def c36_0 : SCode := .reg [⟨(some 4), none, .mov (.const (.bool false)), [], false⟩] [0, 1]
def c36_1 : SCode := .reg [⟨(some 6), none, .mov (.tmp 0), [], false⟩,
  ⟨(some 7), none, .len (.tmp 6), [], false⟩,
  ⟨(some 8), none, .mov (.tmp 1), [], false⟩,
  ⟨(some 9), none, .len (.tmp 8), [], false⟩,
  ⟨(some 10), none, .bin .neq (.tmp 7) (.tmp 9), [], false⟩] [0, 1, 10]
def c36_2 : SCode := .reg [⟨(some 4), none, .mov (.const (.bool false)), [], false⟩] [4]
def c36_3 : SCode := .seq c36_2 .ret
def c36_4 : SCode := .cond (.tmp 10) c36_3 .skip
def c36_5 : SCode := .seq c36_1 c36_4
def c36_6 : SCode := .reg [⟨(some 5), none, .mov (.const (.int .i64 0)), [], false⟩] [0, 1, 5]
def c36_7 : SCode := .reg [⟨(some 11), none, .mov (.tmp 5), [], false⟩,
  ⟨(some 12), none, .mov (.tmp 0), [], false⟩,
  ⟨(some 13), none, .len (.tmp 12), [], false⟩,
  ⟨(some 14), none, .bin .lss (.tmp 11) (.tmp 13), [], false⟩] [0, 1, 5, 14]
def c36_8 : SCode := .cond (.tmp 14) .skip (.exit 0)
def c36_9 : SCode := .seq c36_7 c36_8
def c36_10 : SCode := .reg [⟨(some 17), none, .mov (.tmp 0), [], false⟩,
  ⟨(some 18), none, .mov (.tmp 5), [], false⟩,
  ⟨(some 19), none, .idxS 2 (.tmp 17) (.tmp 18), [], false⟩,
  ⟨(some 20), none, .load true 2 (.tmp 19), [], false⟩,
  ⟨(some 21), none, .mov (.tmp 1), [], false⟩,
  ⟨(some 22), none, .mov (.tmp 5), [], false⟩,
  ⟨(some 23), none, .idxS 2 (.tmp 21) (.tmp 22), [], false⟩,
  ⟨(some 24), none, .load true 2 (.tmp 23), [], false⟩,
  ⟨(some 25), none, .eqC true [true, true] (.tmp 20) (.tmp 24), [], false⟩] [0, 1, 5, 25]
def c36_11 : SCode := .reg [⟨(some 4), none, .mov (.const (.bool false)), [], false⟩] [4]
def c36_12 : SCode := .seq c36_11 .ret
def c36_13 : SCode := .cond (.tmp 25) c36_12 .skip
def c36_14 : SCode := .seq c36_10 c36_13
def c36_15 : SCode := .block 1 c36_14
def c36_16 : SCode := .reg [⟨(some 15), none, .mov (.tmp 5), [], false⟩,
  ⟨(some 16), none, .bin .add (.tmp 15) (.const (.int .i64 1)), [], false⟩,
  ⟨(some 5), none, .mov (.tmp 16), [], false⟩] [0, 1, 5]
def c36_17 : SCode := .seq c36_15 c36_16
def c36_18 : SCode := .seq c36_9 c36_17
def c36_19 : SCode := .loop c36_18
def c36_20 : SCode := .block 0 c36_19
def c36_21 : SCode := .seq c36_6 c36_20
def c36_22 : SCode := .reg [⟨(some 4), none, .mov (.const (.bool true)), [], false⟩] [4]
def c36_23 : SCode := .seq c36_22 .ret
def c36_24 : SCode := .seq c36_21 c36_23
def c36_25 : SCode := .seq c36_5 c36_24
def c36_26 : SCode := .seq c36_0 c36_25
@[simp] def rs36 : List SRes := [.tmp 4]
theorem law36 (cs : List CV) (r : CV) (hl : cs.length ≤ 26) (h : STri Try.prog 26 c36_26 (initT 0 cs) [] (retQ rs36 r)) : SC Try.prog 36 cs r :=
  sc_of Try.func36 rfl Try.ntmps36 (by kernel_rfl) (by kernel_rfl) hl h

-- turret/turretref06.Hammers
def c37_0 : SCode := .reg [⟨(some 2), none, .box 61 (.tmp 0), [], false⟩,
  ⟨(some 4), none, .mov (.const (.slice none 0 0)), [], false⟩] [1, 2]
def c37_1 : SCode := .reg [⟨(some 8), none, .buildSl 91 2 [(.int .i64 0), (.int .i64 0)] 0 [], [], false⟩,
  ⟨(some 5), none, .mov (.tmp 8), [], false⟩] [1, 2, 5]
def c37_2 : SCode := .reg [⟨(some 6), none, .mov (.const (.int .i64 0)), [], false⟩] [1, 2, 5, 6]
def c37_3 : SCode := .reg [⟨(some 9), none, .mov (.tmp 6), [], false⟩,
  ⟨(some 10), none, .bin .lss (.tmp 9) (.const (.int .i64 16)), [], false⟩] [1, 2, 5, 6, 10]
def c37_4 : SCode := .cond (.tmp 10) .skip (.exit 0)
def c37_5 : SCode := .seq c37_3 c37_4
def c37_6 : SCode := .reg [⟨(some 7), none, .mov (.const (.int .i64 0)), [], false⟩] [1, 2, 5, 6, 7]
def c37_7 : SCode := .reg [⟨(some 13), none, .mov (.tmp 7), [], false⟩,
  ⟨(some 14), none, .mov (.tmp 6), [], false⟩,
  ⟨(some 15), none, .idxA 16 1 (.tmp 2) (.tmp 14), [], false⟩,
  ⟨(some 16), none, .load false 1 (.tmp 15), [], false⟩,
  ⟨(some 17), none, .bin .lss (.tmp 13) (.tmp 16), [], false⟩] [1, 2, 5, 6, 7, 17]
def c37_8 : SCode := .cond (.tmp 17) .skip (.exit 2)
def c37_9 : SCode := .seq c37_7 c37_8
def c37_10 : SCode := .reg [⟨(some 20), none, .mov (.tmp 5), [], false⟩,
  ⟨(some 21), none, .mov (.tmp 6), [], false⟩,
  ⟨(some 22), none, .mov (.tmp 1), [], false⟩,
  ⟨(some 23), none, .build [(.int .i64 0), (.int .i64 0)] [(0, 1, (.tmp 21)), (1, 1, (.tmp 22))], [], false⟩,
  ⟨(some 24), none, .buildSl 91 2 [(.int .i64 0), (.int .i64 0)] 1 [(0, (.tmp 23))], [], false⟩,
  ⟨(some 25), none, .append 91 2 16 (.tmp 20) (.tmp 24), [], false⟩,
  ⟨(some 5), none, .mov (.tmp 25), [], false⟩] [1, 2, 5, 6, 7]
def c37_11 : SCode := .block 3 c37_10
def c37_12 : SCode := .reg [⟨(some 18), none, .mov (.tmp 7), [], false⟩,
  ⟨(some 19), none, .bin .add (.tmp 18) (.const (.int .i64 1)), [], false⟩,
  ⟨(some 7), none, .mov (.tmp 19), [], false⟩] [1, 2, 5, 6, 7]
def c37_13 : SCode := .seq c37_11 c37_12
def c37_14 : SCode := .seq c37_9 c37_13
def c37_15 : SCode := .loop c37_14
def c37_16 : SCode := .block 2 c37_15
def c37_17 : SCode := .seq c37_6 c37_16
def c37_18 : SCode := .block 1 c37_17
def c37_19 : SCode := .reg [⟨(some 11), none, .mov (.tmp 6), [], false⟩,
  ⟨(some 12), none, .bin .add (.tmp 11) (.const (.int .i64 1)), [], false⟩,
  ⟨(some 6), none, .mov (.tmp 12), [], false⟩] [1, 2, 5, 6]
def c37_20 : SCode := .seq c37_18 c37_19
def c37_21 : SCode := .seq c37_5 c37_20
def c37_22 : SCode := .loop c37_21
def c37_23 : SCode := .block 0 c37_22
def c37_24 : SCode := .seq c37_2 c37_23
def c37_25 : SCode := .reg [⟨(some 26), none, .mov (.tmp 5), [], false⟩,
  ⟨(some 4), none, .mov (.tmp 26), [], false⟩] [4]
def c37_26 : SCode := .seq c37_25 .ret
def c37_27 : SCode := .seq c37_24 c37_26
def c37_28 : SCode := .seq c37_1 c37_27
def c37_29 : SCode := .seq c37_0 c37_28
@[simp] def rs37 : List SRes := [.tmp 4]
theorem law37 (cs : List CV) (r : CV) (hl : cs.length ≤ 27) (h : STri Try.prog 27 c37_29 (initT 0 cs) [] (retQ rs37 r)) : SC Try.prog 37 cs r :=
  sc_of Try.func37 rfl Try.ntmps37 (by kernel_rfl) (by kernel_rfl) hl h

-- turret/turretref06.Pin
def c39_0 : SCode := .reg [⟨(some 4), none, .alloc 26 [(.int .i64 0), (.int .i64 0), (.slice none 0 0), (.int .i64 0), (.slice none 0 0), (.slice none 0 0)], [], false⟩,
  ⟨(some 5), none, .mov (.const (.int .i64 0)), [], false⟩] [0, 1, 4]
def c39_1 : SCode := .reg [⟨(some 18), none, .mov (.tmp 0), [], false⟩,
  ⟨(some 19), none, .len (.tmp 18), [], false⟩,
  ⟨(some 20), none, .bin .eql (.tmp 19) (.const (.int .i64 0)), [], false⟩] [0, 1, 4, 20]
def c39_2 : SCode := .reg [⟨(some 21), none, .build [(.int .i64 0), (.int .i64 0), (.slice none 0 0), (.int .i64 0), (.slice none 0 0), (.slice none 0 0)] [], [], false⟩,
  ⟨none, none, .store 6 (.tmp 4) (.tmp 21), [], false⟩,
  ⟨(some 5), none, .mov (.const (.int .i64 7)), [], false⟩] [4, 5]
def c39_3 : SCode := .seq c39_2 .ret
def c39_4 : SCode := .cond (.tmp 20) c39_3 .skip
def c39_5 : SCode := .seq c39_1 c39_4
def c39_6 : SCode := .reg [⟨(some 22), none, .mov (.tmp 0), [], false⟩,
  ⟨(some 23), none, .len (.tmp 22), [], false⟩,
  ⟨(some 24), none, .bin .gtr (.tmp 23) (.const (.int .i64 8)), [], false⟩] [0, 1, 4, 24]
def c39_7 : SCode := .reg [⟨(some 25), none, .build [(.int .i64 0), (.int .i64 0), (.slice none 0 0), (.int .i64 0), (.slice none 0 0), (.slice none 0 0)] [], [], false⟩,
  ⟨none, none, .store 6 (.tmp 4) (.tmp 25), [], false⟩,
  ⟨(some 5), none, .mov (.const (.int .i64 5)), [], false⟩] [4, 5]
def c39_8 : SCode := .seq c39_7 .ret
def c39_9 : SCode := .cond (.tmp 24) c39_8 .skip
def c39_10 : SCode := .seq c39_6 c39_9
def c39_11 : SCode := .reg [⟨(some 26), none, .build [(.int .i64 0), (.int .i64 0), (.int .i64 0), (.int .i64 0), (.int .i64 0), (.int .i64 0), (.int .i64 0), (.int .i64 0), (.int .i64 0), (.int .i64 0), (.int .i64 0), (.int .i64 0), (.int .i64 0), (.int .i64 0), (.int .i64 0), (.int .i64 0)] [], [], false⟩,
  ⟨(some 6), none, .alloc 61 [(.int .i64 0), (.int .i64 0), (.int .i64 0), (.int .i64 0), (.int .i64 0), (.int .i64 0), (.int .i64 0), (.int .i64 0), (.int .i64 0), (.int .i64 0), (.int .i64 0), (.int .i64 0), (.int .i64 0), (.int .i64 0), (.int .i64 0), (.int .i64 0)], [], false⟩,
  ⟨none, none, .store 16 (.tmp 6) (.tmp 26), [], false⟩] [0, 1, 4, 6]
def c39_12 : SCode := .reg [⟨(some 7), none, .mov (.const (.int .i64 0)), [], false⟩] [0, 1, 4, 6, 7]
def c39_13 : SCode := .reg [⟨(some 27), none, .mov (.tmp 7), [], false⟩,
  ⟨(some 28), none, .mov (.tmp 0), [], false⟩,
  ⟨(some 29), none, .len (.tmp 28), [], false⟩,
  ⟨(some 30), none, .bin .lss (.tmp 27) (.tmp 29), [], false⟩] [0, 1, 4, 6, 7, 30]
def c39_14 : SCode := .cond (.tmp 30) .skip (.exit 0)
def c39_15 : SCode := .seq c39_13 c39_14
def c39_16 : SCode := .reg [⟨(some 33), none, .mov (.tmp 0), [], false⟩,
  ⟨(some 34), none, .mov (.tmp 7), [], false⟩,
  ⟨(some 35), none, .idxS 2 (.tmp 33) (.tmp 34), [], false⟩,
  ⟨(some 36), none, .load true 2 (.tmp 35), [], false⟩,
  ⟨(some 37), none, .mov (.tmp 1), [], false⟩,
  ⟨(some 38), none, .call 33 [(.tmp 36), (.tmp 37)], [], false⟩,
  ⟨(some 8), none, .mov (.tmp 38), [], false⟩] [0, 1, 4, 6, 7, 8]
def c39_17 : SCode := .reg [⟨(some 39), none, .mov (.tmp 8), [], false⟩,
  ⟨(some 40), none, .bin .neq (.tmp 39) (.const (.int .i64 0)), [], false⟩] [0, 1, 4, 6, 7, 8, 40]
def c39_18 : SCode := .reg [⟨(some 41), none, .build [(.int .i64 0), (.int .i64 0), (.slice none 0 0), (.int .i64 0), (.slice none 0 0), (.slice none 0 0)] [], [], false⟩,
  ⟨(some 42), none, .mov (.tmp 8), [], false⟩,
  ⟨none, none, .store 6 (.tmp 4) (.tmp 41), [], false⟩,
  ⟨(some 5), none, .mov (.tmp 42), [], false⟩] [4, 5]
def c39_19 : SCode := .seq c39_18 .ret
def c39_20 : SCode := .cond (.tmp 40) c39_19 .skip
def c39_21 : SCode := .seq c39_17 c39_20
def c39_22 : SCode := .seq c39_16 c39_21
def c39_23 : SCode := .reg [⟨(some 43), none, .mov (.tmp 0), [], false⟩,
  ⟨(some 44), none, .mov (.tmp 7), [], false⟩,
  ⟨(some 45), none, .idxS 2 (.tmp 43) (.tmp 44), [], false⟩,
  ⟨(some 46), none, .fld 0 (.tmp 45), [], false⟩,
  ⟨(some 47), none, .load false 1 (.tmp 46), [], false⟩,
  ⟨(some 48), none, .mov (.tmp 0), [], false⟩,
  ⟨(some 49), none, .idxS 2 (.tmp 48) (.const (.int .i64 0)), [], false⟩,
  ⟨(some 50), none, .fld 0 (.tmp 49), [], false⟩,
  ⟨(some 51), none, .load false 1 (.tmp 50), [], false⟩,
  ⟨(some 52), none, .bin .neq (.tmp 47) (.tmp 51), [], false⟩] [0, 1, 4, 6, 7, 52]
def c39_24 : SCode := .reg [⟨(some 53), none, .build [(.int .i64 0), (.int .i64 0), (.slice none 0 0), (.int .i64 0), (.slice none 0 0), (.slice none 0 0)] [], [], false⟩,
  ⟨none, none, .store 6 (.tmp 4) (.tmp 53), [], false⟩,
  ⟨(some 5), none, .mov (.const (.int .i64 4)), [], false⟩] [4, 5]
def c39_25 : SCode := .seq c39_24 .ret
def c39_26 : SCode := .cond (.tmp 52) c39_25 .skip
def c39_27 : SCode := .seq c39_23 c39_26
def c39_28 : SCode := .reg [⟨(some 55), none, .mov (.tmp 0), [], false⟩,
  ⟨(some 56), none, .mov (.tmp 7), [], false⟩,
  ⟨(some 57), none, .idxS 2 (.tmp 55) (.tmp 56), [], false⟩,
  ⟨(some 58), none, .load true 2 (.tmp 57), [], false⟩,
  ⟨(some 59), none, .mov (.tmp 1), [], false⟩,
  ⟨(some 60), none, .call 34 [(.tmp 58), (.tmp 59)], [], false⟩,
  ⟨(some 54), none, .mov (.tmp 60), [], false⟩,
  ⟨(some 61), none, .ext (.tmp 54) 0, [], false⟩,
  ⟨(some 62), none, .ext (.tmp 54) 1, [], false⟩,
  ⟨(some 9), none, .alloc 61 [(.int .i64 0), (.int .i64 0), (.int .i64 0), (.int .i64 0), (.int .i64 0), (.int .i64 0), (.int .i64 0), (.int .i64 0), (.int .i64 0), (.int .i64 0), (.int .i64 0), (.int .i64 0), (.int .i64 0), (.int .i64 0), (.int .i64 0), (.int .i64 0)], [], false⟩,
  ⟨none, none, .store 16 (.tmp 9) (.tmp 61), [], false⟩,
  ⟨(some 10), none, .mov (.tmp 62), [], false⟩] [0, 1, 4, 6, 7, 9]
def c39_29 : SCode := .reg [⟨(some 11), none, .mov (.const (.int .i64 0)), [], false⟩] [0, 1, 4, 6, 7, 9, 11]
def c39_30 : SCode := .reg [⟨(some 63), none, .mov (.tmp 11), [], false⟩,
  ⟨(some 64), none, .bin .lss (.tmp 63) (.const (.int .i64 16)), [], false⟩] [0, 1, 4, 6, 7, 9, 11, 64]
def c39_31 : SCode := .cond (.tmp 64) .skip (.exit 2)
def c39_32 : SCode := .seq c39_30 c39_31
def c39_33 : SCode := .reg [⟨(some 67), none, .mov (.tmp 11), [], false⟩,
  ⟨(some 68), none, .mov (.tmp 11), [], false⟩,
  ⟨(some 69), none, .idxA 16 1 (.tmp 6) (.tmp 68), [], false⟩,
  ⟨(some 70), none, .load false 1 (.tmp 69), [], false⟩,
  ⟨(some 71), none, .mov (.tmp 11), [], false⟩,
  ⟨(some 72), none, .idxA 16 1 (.tmp 9) (.tmp 71), [], false⟩,
  ⟨(some 73), none, .load false 1 (.tmp 72), [], false⟩,
  ⟨(some 74), none, .max [(.tmp 70), (.tmp 73)], [], false⟩,
  ⟨(some 75), none, .idxA 16 1 (.tmp 6) (.tmp 67), [], false⟩,
  ⟨none, none, .store 1 (.tmp 75) (.tmp 74), [], false⟩] [0, 1, 4, 6, 7, 9, 11]
def c39_34 : SCode := .block 3 c39_33
def c39_35 : SCode := .reg [⟨(some 65), none, .mov (.tmp 11), [], false⟩,
  ⟨(some 66), none, .bin .add (.tmp 65) (.const (.int .i64 1)), [], false⟩,
  ⟨(some 11), none, .mov (.tmp 66), [], false⟩] [0, 1, 4, 6, 7, 9, 11]
def c39_36 : SCode := .seq c39_34 c39_35
def c39_37 : SCode := .seq c39_32 c39_36
def c39_38 : SCode := .loop c39_37
def c39_39 : SCode := .block 2 c39_38
def c39_40 : SCode := .seq c39_29 c39_39
def c39_41 : SCode := .seq c39_28 c39_40
def c39_42 : SCode := .seq c39_27 c39_41
def c39_43 : SCode := .seq c39_22 c39_42
def c39_44 : SCode := .block 1 c39_43
def c39_45 : SCode := .reg [⟨(some 31), none, .mov (.tmp 7), [], false⟩,
  ⟨(some 32), none, .bin .add (.tmp 31) (.const (.int .i64 1)), [], false⟩,
  ⟨(some 7), none, .mov (.tmp 32), [], false⟩] [0, 1, 4, 6, 7]
def c39_46 : SCode := .seq c39_44 c39_45
def c39_47 : SCode := .seq c39_15 c39_46
def c39_48 : SCode := .loop c39_47
def c39_49 : SCode := .block 0 c39_48
def c39_50 : SCode := .seq c39_12 c39_49
def c39_51 : SCode := .reg [⟨(some 76), none, .mov (.tmp 0), [], false⟩,
  ⟨(some 77), none, .idxS 2 (.tmp 76) (.const (.int .i64 0)), [], true⟩,
  ⟨(some 78), none, .fld 0 (.tmp 77), [], true⟩,
  ⟨(some 79), none, .load false 1 (.tmp 78), [], true⟩,
  ⟨(some 80), none, .buildSl 3 1 [(.int .i64 0)] 1 [(0, (.const (.int .i64 1)))], [1, 2, 3], true⟩,
  ⟨(some 81), none, .mov (.tmp 0), [], false⟩,
  ⟨(some 82), none, .len (.tmp 81), [4], true⟩,
  ⟨(some 83), none, .load true 16 (.tmp 6), [4], true⟩,
  ⟨(some 84), none, .mov (.tmp 1), [], false⟩,
  ⟨(some 85), none, .call 37 [(.tmp 83), (.tmp 84)], [4], true⟩,
  ⟨(some 86), none, .build [(.int .i64 0), (.int .i64 0), (.slice none 0 0), (.int .i64 0), (.slice none 0 0), (.slice none 0 0)] [(0, 1, (.tmp 79)), (1, 1, (.const (.int .i64 1))), (2, 1, (.tmp 80)), (3, 1, (.tmp 82)), (4, 1, (.tmp 85))], [], false⟩,
  ⟨(some 12), none, .alloc 26 [(.int .i64 0), (.int .i64 0), (.slice none 0 0), (.int .i64 0), (.slice none 0 0), (.slice none 0 0)], [1, 2, 3, 6, 7, 9], false⟩,
  ⟨none, none, .store 6 (.tmp 12) (.tmp 86), [], false⟩] [0, 1, 4, 6, 12]
def c39_52 : SCode := .reg [⟨(some 13), none, .mov (.const (.int .i64 0)), [], false⟩] [0, 1, 4, 6, 12, 13]
def c39_53 : SCode := .reg [⟨(some 87), none, .mov (.tmp 13), [], false⟩,
  ⟨(some 88), none, .mov (.tmp 0), [], false⟩,
  ⟨(some 89), none, .len (.tmp 88), [], false⟩,
  ⟨(some 90), none, .bin .lss (.tmp 87) (.tmp 89), [], false⟩] [0, 1, 4, 6, 12, 13, 90]
def c39_54 : SCode := .cond (.tmp 90) .skip (.exit 4)
def c39_55 : SCode := .seq c39_53 c39_54
def c39_56 : SCode := .reg [⟨(some 94), none, .mov (.tmp 0), [], false⟩,
  ⟨(some 95), none, .mov (.tmp 13), [], false⟩,
  ⟨(some 96), none, .idxS 2 (.tmp 94) (.tmp 95), [], false⟩,
  ⟨(some 97), none, .load true 2 (.tmp 96), [], false⟩,
  ⟨(some 98), none, .mov (.tmp 1), [], false⟩,
  ⟨(some 99), none, .call 34 [(.tmp 97), (.tmp 98)], [], false⟩,
  ⟨(some 93), none, .mov (.tmp 99), [], false⟩,
  ⟨(some 100), none, .ext (.tmp 93) 0, [], false⟩,
  ⟨(some 101), none, .ext (.tmp 93) 1, [], false⟩,
  ⟨(some 14), none, .alloc 61 [(.int .i64 0), (.int .i64 0), (.int .i64 0), (.int .i64 0), (.int .i64 0), (.int .i64 0), (.int .i64 0), (.int .i64 0), (.int .i64 0), (.int .i64 0), (.int .i64 0), (.int .i64 0), (.int .i64 0), (.int .i64 0), (.int .i64 0), (.int .i64 0)], [], false⟩,
  ⟨none, none, .store 16 (.tmp 14) (.tmp 100), [], false⟩,
  ⟨(some 15), none, .mov (.tmp 101), [], false⟩] [0, 1, 4, 6, 12, 13, 15]
def c39_57 : SCode := .reg [⟨(some 16), none, .mov (.const (.int .i64 0)), [], false⟩] [0, 1, 4, 6, 12, 13, 15, 16]
def c39_58 : SCode := .reg [⟨(some 102), none, .mov (.tmp 16), [], false⟩,
  ⟨(some 103), none, .mov (.tmp 0), [], false⟩,
  ⟨(some 104), none, .mov (.tmp 13), [], false⟩,
  ⟨(some 105), none, .idxS 2 (.tmp 103) (.tmp 104), [], false⟩,
  ⟨(some 106), none, .fld 1 (.tmp 105), [], false⟩,
  ⟨(some 107), none, .load false 1 (.tmp 106), [], false⟩,
  ⟨(some 108), none, .len (.tmp 107), [], false⟩,
  ⟨(some 109), none, .bin .lss (.tmp 102) (.tmp 108), [], false⟩] [0, 1, 4, 6, 12, 13, 15, 16, 109]
def c39_59 : SCode := .cond (.tmp 109) .skip (.exit 6)
def c39_60 : SCode := .seq c39_58 c39_59
def c39_61 : SCode := .reg [⟨(some 112), none, .mov (.tmp 0), [], false⟩,
  ⟨(some 113), none, .mov (.tmp 13), [], false⟩,
  ⟨(some 114), none, .idxS 2 (.tmp 112) (.tmp 113), [], false⟩,
  ⟨(some 115), none, .fld 1 (.tmp 114), [], false⟩,
  ⟨(some 116), none, .load false 1 (.tmp 115), [], false⟩,
  ⟨(some 117), none, .mov (.tmp 16), [], false⟩,
  ⟨(some 118), none, .idxS 2 (.tmp 116) (.tmp 117), [], false⟩,
  ⟨(some 119), none, .load true 2 (.tmp 118), [], false⟩,
  ⟨(some 17), none, .alloc 66 [(.int .i64 0), (.int .i64 0)], [], false⟩,
  ⟨none, none, .store 2 (.tmp 17) (.tmp 119), [], false⟩] [0, 1, 4, 6, 12, 13, 15, 16, 17]
def c39_62 : SCode := .reg [⟨(some 120), none, .fld 5 (.tmp 12), [], true⟩,
  ⟨(some 121), none, .load false 1 (.tmp 120), [], true⟩,
  ⟨(some 122), none, .load true 16 (.tmp 6), [], false⟩,
  ⟨(some 123), none, .fld 1 (.tmp 17), [], false⟩,
  ⟨(some 124), none, .load false 1 (.tmp 123), [], false⟩,
  ⟨(some 125), none, .call 35 [(.tmp 122), (.tmp 124)], [], false⟩,
  ⟨(some 126), none, .mov (.tmp 15), [], false⟩,
  ⟨(some 127), none, .mov (.tmp 16), [], false⟩,
  ⟨(some 128), none, .idxS 1 (.tmp 126) (.tmp 127), [], false⟩,
  ⟨(some 129), none, .load false 1 (.tmp 128), [], false⟩,
  ⟨(some 130), none, .bin .add (.tmp 125) (.tmp 129), [], false⟩,
  ⟨(some 131), none, .mov (.tmp 0), [], false⟩,
  ⟨(some 132), none, .len (.tmp 131), [], false⟩,
  ⟨(some 133), none, .bin .mul (.tmp 130) (.tmp 132), [], false⟩,
  ⟨(some 134), none, .mov (.tmp 13), [], false⟩,
  ⟨(some 135), none, .bin .add (.tmp 133) (.tmp 134), [], false⟩,
  ⟨(some 136), none, .fld 0 (.tmp 17), [], false⟩,
  ⟨(some 137), none, .load false 1 (.tmp 136), [], false⟩,
  ⟨(some 138), none, .build [(.int .i64 0), (.int .i64 0)] [(0, 1, (.tmp 135)), (1, 1, (.tmp 137))], [], false⟩,
  ⟨(some 139), none, .buildSl 89 2 [(.int .i64 0), (.int .i64 0)] 1 [(0, (.tmp 138))], [0, 1], false⟩,
  ⟨(some 140), none, .append 89 2 16 (.tmp 121) (.tmp 139), [], false⟩,
  ⟨(some 141), none, .fld 5 (.tmp 12), [], false⟩,
  ⟨none, none, .store 1 (.tmp 141) (.tmp 140), [], false⟩] [0, 1, 4, 6, 12, 13, 15, 16]
def c39_63 : SCode := .seq c39_61 c39_62
def c39_64 : SCode := .block 7 c39_63
def c39_65 : SCode := .reg [⟨(some 110), none, .mov (.tmp 16), [], false⟩,
  ⟨(some 111), none, .bin .add (.tmp 110) (.const (.int .i64 1)), [], false⟩,
  ⟨(some 16), none, .mov (.tmp 111), [], false⟩] [0, 1, 4, 6, 12, 13, 15, 16]
def c39_66 : SCode := .seq c39_64 c39_65
def c39_67 : SCode := .seq c39_60 c39_66
def c39_68 : SCode := .loop c39_67
def c39_69 : SCode := .block 6 c39_68
def c39_70 : SCode := .seq c39_57 c39_69
def c39_71 : SCode := .seq c39_56 c39_70
def c39_72 : SCode := .block 5 c39_71
def c39_73 : SCode := .reg [⟨(some 91), none, .mov (.tmp 13), [], false⟩,
  ⟨(some 92), none, .bin .add (.tmp 91) (.const (.int .i64 1)), [], false⟩,
  ⟨(some 13), none, .mov (.tmp 92), [], false⟩] [0, 1, 4, 6, 12, 13]
def c39_74 : SCode := .seq c39_72 c39_73
def c39_75 : SCode := .seq c39_55 c39_74
def c39_76 : SCode := .loop c39_75
def c39_77 : SCode := .block 4 c39_76
def c39_78 : SCode := .seq c39_52 c39_77
def c39_79 : SCode := .reg [⟨(some 142), none, .fld 4 (.tmp 12), [], false⟩,
  ⟨(some 143), none, .load false 1 (.tmp 142), [], false⟩,
  ⟨(some 144), none, .len (.tmp 143), [], false⟩,
  ⟨(some 145), none, .call 58 [(.tmp 144), (.const (.int .i64 1)), (.const (.int .i64 40))], [], false⟩,
  ⟨(some 146), none, .un .not (.tmp 145), [], false⟩,
  ⟨(some 147), none, .mov (.tmp 146), [], false⟩,
  ⟨(some 148), (some (147, false)), .fld 5 (.tmp 12), [], false⟩,
  ⟨(some 149), (some (147, false)), .load false 1 (.tmp 148), [], false⟩,
  ⟨(some 150), (some (147, false)), .len (.tmp 149), [], false⟩,
  ⟨(some 151), (some (147, false)), .bin .gtr (.tmp 150) (.const (.int .i64 400)), [], false⟩,
  ⟨(some 152), none, .pick (.tmp 147) (.const (.bool true)) (.tmp 151), [], false⟩] [4, 12, 152]
def c39_80 : SCode := .reg [⟨(some 153), none, .build [(.int .i64 0), (.int .i64 0), (.slice none 0 0), (.int .i64 0), (.slice none 0 0), (.slice none 0 0)] [], [], false⟩,
  ⟨none, none, .store 6 (.tmp 4) (.tmp 153), [], false⟩,
  ⟨(some 5), none, .mov (.const (.int .i64 8)), [], false⟩] [4, 5]
def c39_81 : SCode := .seq c39_80 .ret
def c39_82 : SCode := .cond (.tmp 152) c39_81 .skip
def c39_83 : SCode := .seq c39_79 c39_82
def c39_84 : SCode := .reg [⟨(some 154), none, .load true 6 (.tmp 12), [], false⟩,
  ⟨none, none, .store 6 (.tmp 4) (.tmp 154), [], false⟩,
  ⟨(some 5), none, .mov (.const (.int .i64 0)), [], false⟩] [4, 5]
def c39_85 : SCode := .seq c39_84 .ret
def c39_86 : SCode := .seq c39_83 c39_85
def c39_87 : SCode := .seq c39_78 c39_86
def c39_88 : SCode := .seq c39_51 c39_87
def c39_89 : SCode := .seq c39_50 c39_88
def c39_90 : SCode := .seq c39_11 c39_89
def c39_91 : SCode := .seq c39_10 c39_90
def c39_92 : SCode := .seq c39_5 c39_91
def c39_93 : SCode := .seq c39_0 c39_92
@[simp] def rs39 : List SRes := [.cell 4 true 6, .tmp 5]
theorem law39 (cs : List CV) (r : CV) (hl : cs.length ≤ 155) (h : STri Try.prog 155 c39_93 (initT 0 cs) [] (retQ rs39 r)) : SC Try.prog 39 cs r :=
  sc_of Try.func39 rfl Try.ntmps39 (by kernel_rfl) (by kernel_rfl) hl h

-- turret/turretref06.Meet
def c41_0 : SCode := .reg [⟨(some 4), none, .mov (.const (.int .i64 0)), [], false⟩,
  ⟨(some 5), none, .mov (.const (.int .i64 0)), [], false⟩] [0, 1]
def c41_1 : SCode := .reg [⟨(some 12), none, .mov (.tmp 0), [], false⟩,
  ⟨(some 13), none, .len (.tmp 12), [], false⟩,
  ⟨(some 14), none, .bin .gtr (.tmp 13) (.const (.int .i64 3)), [], false⟩] [0, 1, 14]
def c41_2 : SCode := .reg [⟨(some 4), none, .mov (.const (.int .i64 0)), [], false⟩,
  ⟨(some 5), none, .mov (.const (.int .i64 5)), [], false⟩] [4, 5]
def c41_3 : SCode := .seq c41_2 .ret
def c41_4 : SCode := .cond (.tmp 14) c41_3 .skip
def c41_5 : SCode := .seq c41_1 c41_4
def c41_6 : SCode := .reg [⟨(some 6), none, .mov (.const (.int .i64 1)), [], false⟩] [0, 1, 6]
def c41_7 : SCode := .reg [⟨(some 7), none, .mov (.const (.int .i64 0)), [], false⟩] [0, 1, 6, 7]
def c41_8 : SCode := .reg [⟨(some 15), none, .mov (.tmp 7), [], false⟩,
  ⟨(some 16), none, .mov (.tmp 0), [], false⟩,
  ⟨(some 17), none, .len (.tmp 16), [], false⟩,
  ⟨(some 18), none, .bin .lss (.tmp 15) (.tmp 17), [], false⟩] [0, 1, 6, 7, 18]
def c41_9 : SCode := .cond (.tmp 18) .skip (.exit 0)
def c41_10 : SCode := .seq c41_8 c41_9
def c41_11 : SCode := .reg [⟨(some 21), none, .mov (.tmp 0), [], false⟩,
  ⟨(some 22), none, .mov (.tmp 7), [], false⟩,
  ⟨(some 23), none, .idxS 3 (.tmp 21) (.tmp 22), [], false⟩,
  ⟨(some 24), none, .load true 3 (.tmp 23), [], false⟩,
  ⟨(some 8), none, .alloc 80 [(.int .i64 0), (.int .i64 0), (.int .i64 0)], [], false⟩,
  ⟨none, none, .store 3 (.tmp 8) (.tmp 24), [], false⟩] [0, 1, 6, 7, 8]
def c41_12 : SCode := .reg [⟨(some 25), none, .fld 0 (.tmp 8), [], false⟩,
  ⟨(some 26), none, .load false 1 (.tmp 25), [], false⟩,
  ⟨(some 27), none, .call 58 [(.tmp 26), (.const (.int .i64 1)), (.const (.int .i64 100))], [], false⟩,
  ⟨(some 28), none, .un .not (.tmp 27), [], false⟩,
  ⟨(some 29), none, .mov (.tmp 28), [], false⟩,
  ⟨(some 30), (some (29, false)), .fld 1 (.tmp 8), [], false⟩,
  ⟨(some 31), (some (29, false)), .fld 0 (.tmp 30), [], false⟩,
  ⟨(some 32), (some (29, false)), .load false 1 (.tmp 31), [], false⟩,
  ⟨(some 33), (some (29, false)), .fld 1 (.tmp 8), [], false⟩,
  ⟨(some 34), (some (29, false)), .fld 1 (.tmp 33), [], false⟩,
  ⟨(some 35), (some (29, false)), .load false 1 (.tmp 34), [], false⟩,
  ⟨(some 36), (some (29, false)), .call 58 [(.tmp 32), (.const (.int .i64 0)), (.tmp 35)], [], false⟩,
  ⟨(some 37), (some (29, false)), .un .not (.tmp 36), [], false⟩,
  ⟨(some 38), none, .pick (.tmp 29) (.const (.bool true)) (.tmp 37), [], false⟩,
  ⟨(some 39), none, .mov (.tmp 38), [], false⟩,
  ⟨(some 40), (some (39, false)), .fld 1 (.tmp 8), [], false⟩,
  ⟨(some 41), (some (39, false)), .fld 1 (.tmp 40), [], false⟩,
  ⟨(some 42), (some (39, false)), .load false 1 (.tmp 41), [], false⟩,
  ⟨(some 43), (some (39, false)), .fld 0 (.tmp 8), [], false⟩,
  ⟨(some 44), (some (39, false)), .load false 1 (.tmp 43), [], false⟩,
  ⟨(some 45), (some (39, false)), .bin .geq (.tmp 42) (.tmp 44), [], false⟩,
  ⟨(some 46), none, .pick (.tmp 39) (.const (.bool true)) (.tmp 45), [], false⟩] [0, 1, 6, 7, 8, 46]
def c41_13 : SCode := .reg [⟨(some 4), none, .mov (.const (.int .i64 0)), [], false⟩,
  ⟨(some 5), none, .mov (.const (.int .i64 2)), [], false⟩] [4, 5]
def c41_14 : SCode := .seq c41_13 .ret
def c41_15 : SCode := .cond (.tmp 46) c41_14 .skip
def c41_16 : SCode := .seq c41_12 c41_15
def c41_17 : SCode := .reg [⟨(some 47), none, .mov (.tmp 6), [], false⟩,
  ⟨(some 48), none, .fld 0 (.tmp 8), [], false⟩,
  ⟨(some 49), none, .load false 1 (.tmp 48), [], false⟩,
  ⟨(some 50), none, .bin .mul (.tmp 47) (.tmp 49), [], false⟩,
  ⟨(some 6), none, .mov (.tmp 50), [], false⟩] [0, 1, 6, 7]
def c41_18 : SCode := .seq c41_16 c41_17
def c41_19 : SCode := .seq c41_11 c41_18
def c41_20 : SCode := .block 1 c41_19
def c41_21 : SCode := .reg [⟨(some 19), none, .mov (.tmp 7), [], false⟩,
  ⟨(some 20), none, .bin .add (.tmp 19) (.const (.int .i64 1)), [], false⟩,
  ⟨(some 7), none, .mov (.tmp 20), [], false⟩] [0, 1, 6, 7]
def c41_22 : SCode := .seq c41_20 c41_21
def c41_23 : SCode := .seq c41_10 c41_22
def c41_24 : SCode := .loop c41_23
def c41_25 : SCode := .block 0 c41_24
def c41_26 : SCode := .seq c41_7 c41_25
def c41_27 : SCode := .reg [⟨(some 51), none, .mov (.tmp 1), [], false⟩,
  ⟨(some 52), none, .call 58 [(.tmp 51), (.const (.int .i64 0)), (.const (.int .i64 3155760000))], [], false⟩,
  ⟨(some 53), none, .un .not (.tmp 52), [], false⟩] [0, 1, 6, 53]
def c41_28 : SCode := .reg [⟨(some 4), none, .mov (.const (.int .i64 0)), [], false⟩,
  ⟨(some 5), none, .mov (.const (.int .i64 3)), [], false⟩] [4, 5]
def c41_29 : SCode := .seq c41_28 .ret
def c41_30 : SCode := .cond (.tmp 53) c41_29 .skip
def c41_31 : SCode := .seq c41_27 c41_30
def c41_32 : SCode := .reg [⟨(some 54), none, .mov (.tmp 1), [], false⟩,
  ⟨(some 9), none, .mov (.tmp 54), [], false⟩] [0, 1, 6, 9]
def c41_33 : SCode := .reg [⟨(some 55), none, .mov (.tmp 9), [], false⟩,
  ⟨(some 56), none, .mov (.tmp 1), [], false⟩,
  ⟨(some 57), none, .mov (.tmp 6), [], false⟩,
  ⟨(some 58), none, .bin .add (.tmp 56) (.tmp 57), [], false⟩,
  ⟨(some 59), none, .bin .lss (.tmp 55) (.tmp 58), [], false⟩] [0, 1, 6, 9, 59]
def c41_34 : SCode := .cond (.tmp 59) .skip (.exit 2)
def c41_35 : SCode := .seq c41_33 c41_34
def c41_36 : SCode := .reg [⟨(some 10), none, .mov (.const (.bool true)), [], false⟩] [0, 1, 6, 9, 10]
def c41_37 : SCode := .reg [⟨(some 11), none, .mov (.const (.int .i64 0)), [], false⟩] [0, 1, 6, 9, 10, 11]
def c41_38 : SCode := .reg [⟨(some 62), none, .mov (.tmp 11), [], false⟩,
  ⟨(some 63), none, .mov (.tmp 0), [], false⟩,
  ⟨(some 64), none, .len (.tmp 63), [], false⟩,
  ⟨(some 65), none, .bin .lss (.tmp 62) (.tmp 64), [], false⟩] [0, 1, 6, 9, 10, 11, 65]
def c41_39 : SCode := .cond (.tmp 65) .skip (.exit 4)
def c41_40 : SCode := .seq c41_38 c41_39
def c41_41 : SCode := .reg [⟨(some 68), none, .mov (.tmp 10), [], false⟩,
  ⟨(some 69), none, .mov (.tmp 68), [], false⟩,
  ⟨(some 70), (some (69, true)), .mov (.tmp 9), [], false⟩,
  ⟨(some 71), (some (69, true)), .mov (.tmp 0), [], false⟩,
  ⟨(some 72), (some (69, true)), .mov (.tmp 11), [], false⟩,
  ⟨(some 73), (some (69, true)), .idxS 3 (.tmp 71) (.tmp 72), [], false⟩,
  ⟨(some 74), (some (69, true)), .fld 0 (.tmp 73), [], false⟩,
  ⟨(some 75), (some (69, true)), .load false 1 (.tmp 74), [], false⟩,
  ⟨(some 76), (some (69, true)), .bin .rem (.tmp 70) (.tmp 75), [], false⟩,
  ⟨(some 77), (some (69, true)), .mov (.tmp 0), [], false⟩,
  ⟨(some 78), (some (69, true)), .mov (.tmp 11), [], false⟩,
  ⟨(some 79), (some (69, true)), .idxS 3 (.tmp 77) (.tmp 78), [], false⟩,
  ⟨(some 80), (some (69, true)), .fld 1 (.tmp 79), [], false⟩,
  ⟨(some 81), (some (69, true)), .fld 0 (.tmp 80), [], false⟩,
  ⟨(some 82), (some (69, true)), .load false 1 (.tmp 81), [], false⟩,
  ⟨(some 83), (some (69, true)), .mov (.tmp 0), [], false⟩,
  ⟨(some 84), (some (69, true)), .mov (.tmp 11), [], false⟩,
  ⟨(some 85), (some (69, true)), .idxS 3 (.tmp 83) (.tmp 84), [], false⟩,
  ⟨(some 86), (some (69, true)), .fld 1 (.tmp 85), [], false⟩,
  ⟨(some 87), (some (69, true)), .fld 1 (.tmp 86), [], false⟩,
  ⟨(some 88), (some (69, true)), .load false 1 (.tmp 87), [], false⟩,
  ⟨(some 89), (some (69, true)), .call 58 [(.tmp 76), (.tmp 82), (.tmp 88)], [], false⟩,
  ⟨(some 90), none, .pick (.tmp 69) (.tmp 89) (.const (.bool false)), [], false⟩,
  ⟨(some 10), none, .mov (.tmp 90), [], false⟩] [0, 1, 6, 9, 10, 11]
def c41_42 : SCode := .block 5 c41_41
def c41_43 : SCode := .reg [⟨(some 66), none, .mov (.tmp 11), [], false⟩,
  ⟨(some 67), none, .bin .add (.tmp 66) (.const (.int .i64 1)), [], false⟩,
  ⟨(some 11), none, .mov (.tmp 67), [], false⟩] [0, 1, 6, 9, 10, 11]
def c41_44 : SCode := .seq c41_42 c41_43
def c41_45 : SCode := .seq c41_40 c41_44
def c41_46 : SCode := .loop c41_45
def c41_47 : SCode := .block 4 c41_46
def c41_48 : SCode := .seq c41_37 c41_47
def c41_49 : SCode := .reg [⟨(some 91), none, .mov (.tmp 10), [], false⟩] [0, 1, 6, 9, 91]
def c41_50 : SCode := .reg [⟨(some 92), none, .mov (.tmp 9), [], false⟩,
  ⟨(some 4), none, .mov (.tmp 92), [], false⟩,
  ⟨(some 5), none, .mov (.const (.int .i64 0)), [], false⟩] [4, 5]
def c41_51 : SCode := .seq c41_50 .ret
def c41_52 : SCode := .cond (.tmp 91) c41_51 .skip
def c41_53 : SCode := .seq c41_49 c41_52
def c41_54 : SCode := .seq c41_48 c41_53
def c41_55 : SCode := .seq c41_36 c41_54
def c41_56 : SCode := .block 3 c41_55
def c41_57 : SCode := .reg [⟨(some 60), none, .mov (.tmp 9), [], false⟩,
  ⟨(some 61), none, .bin .add (.tmp 60) (.const (.int .i64 1)), [], false⟩,
  ⟨(some 9), none, .mov (.tmp 61), [], false⟩] [0, 1, 6, 9]
def c41_58 : SCode := .seq c41_56 c41_57
def c41_59 : SCode := .seq c41_35 c41_58
def c41_60 : SCode := .loop c41_59
def c41_61 : SCode := .block 2 c41_60
def c41_62 : SCode := .seq c41_32 c41_61
def c41_63 : SCode := .reg [⟨(some 4), none, .mov (.const (.int .i64 0)), [], false⟩,
  ⟨(some 5), none, .mov (.const (.int .i64 7)), [], false⟩] [4, 5]
def c41_64 : SCode := .seq c41_63 .ret
def c41_65 : SCode := .seq c41_62 c41_64
def c41_66 : SCode := .seq c41_31 c41_65
def c41_67 : SCode := .seq c41_26 c41_66
def c41_68 : SCode := .seq c41_6 c41_67
def c41_69 : SCode := .seq c41_5 c41_68
def c41_70 : SCode := .seq c41_0 c41_69
@[simp] def rs41 : List SRes := [.tmp 4, .tmp 5]
theorem law41 (cs : List CV) (r : CV) (hl : cs.length ≤ 93) (h : STri Try.prog 93 c41_70 (initT 0 cs) [] (retQ rs41 r)) : SC Try.prog 41 cs r :=
  sc_of Try.func41 rfl Try.ntmps41 (by kernel_rfl) (by kernel_rfl) hl h

-- turret/turretref06.In
def c58_0 : SCode := .reg [⟨(some 6), none, .mov (.const (.bool false)), [], false⟩] [0, 1, 2]
def c58_1 : SCode := .reg [⟨(some 7), none, .mov (.tmp 0), [], false⟩,
  ⟨(some 8), none, .mov (.tmp 1), [], false⟩,
  ⟨(some 9), none, .bin .geq (.tmp 7) (.tmp 8), [], false⟩,
  ⟨(some 10), none, .mov (.tmp 9), [], false⟩,
  ⟨(some 11), (some (10, true)), .mov (.tmp 0), [], false⟩,
  ⟨(some 12), (some (10, true)), .mov (.tmp 2), [], false⟩,
  ⟨(some 13), (some (10, true)), .bin .leq (.tmp 11) (.tmp 12), [], false⟩,
  ⟨(some 14), none, .pick (.tmp 10) (.tmp 13) (.const (.bool false)), [], false⟩,
  ⟨(some 6), none, .mov (.tmp 14), [], false⟩] [6]
def c58_2 : SCode := .seq c58_1 .ret
def c58_3 : SCode := .seq c58_0 c58_2
@[simp] def rs58 : List SRes := [.tmp 6]
theorem law58 (cs : List CV) (r : CV) (hl : cs.length ≤ 15) (h : STri Try.prog 15 c58_3 (initT 0 cs) [] (retQ rs58 r)) : SC Try.prog 58 cs r :=
  sc_of Try.func58 rfl Try.ntmps58 (by kernel_rfl) (by kernel_rfl) hl h

-- turret/turretref06.Apart
def c59_0 : SCode := .reg [⟨(some 6), none, .mov (.const (.int .i64 0)), [], false⟩] [0, 1, 2]
def c59_1 : SCode := .reg [⟨(some 8), none, .mov (.tmp 0), [], false⟩,
  ⟨(some 9), none, .mov (.tmp 1), [], false⟩,
  ⟨(some 10), none, .bin .sub (.tmp 8) (.tmp 9), [], false⟩,
  ⟨(some 7), none, .mov (.tmp 10), [], false⟩] [2, 7]
def c59_2 : SCode := .reg [⟨(some 11), none, .mov (.tmp 7), [], false⟩,
  ⟨(some 12), none, .bin .lss (.tmp 11) (.const (.int .i64 0)), [], false⟩] [2, 7, 12]
def c59_3 : SCode := .reg [⟨(some 13), none, .mov (.tmp 7), [], false⟩,
  ⟨(some 14), none, .un .neg (.tmp 13), [], false⟩,
  ⟨(some 7), none, .mov (.tmp 14), [], false⟩] [2, 7]
def c59_4 : SCode := .cond (.tmp 12) c59_3 .skip
def c59_5 : SCode := .seq c59_2 c59_4
def c59_6 : SCode := .reg [⟨(some 15), none, .mov (.tmp 2), [], false⟩,
  ⟨(some 16), none, .mov (.tmp 7), [], false⟩,
  ⟨(some 17), none, .bin .sub (.tmp 15) (.tmp 16), [], false⟩,
  ⟨(some 18), none, .mov (.tmp 7), [], false⟩,
  ⟨(some 19), none, .bin .lss (.tmp 17) (.tmp 18), [], false⟩] [2, 7, 19]
def c59_7 : SCode := .reg [⟨(some 20), none, .mov (.tmp 2), [], false⟩,
  ⟨(some 21), none, .mov (.tmp 7), [], false⟩,
  ⟨(some 22), none, .bin .sub (.tmp 20) (.tmp 21), [], false⟩,
  ⟨(some 6), none, .mov (.tmp 22), [], false⟩] [6]
def c59_8 : SCode := .seq c59_7 .ret
def c59_9 : SCode := .cond (.tmp 19) c59_8 .skip
def c59_10 : SCode := .seq c59_6 c59_9
def c59_11 : SCode := .reg [⟨(some 23), none, .mov (.tmp 7), [], false⟩,
  ⟨(some 6), none, .mov (.tmp 23), [], false⟩] [6]
def c59_12 : SCode := .seq c59_11 .ret
def c59_13 : SCode := .seq c59_10 c59_12
def c59_14 : SCode := .seq c59_5 c59_13
def c59_15 : SCode := .seq c59_1 c59_14
def c59_16 : SCode := .seq c59_0 c59_15
@[simp] def rs59 : List SRes := [.tmp 6]
theorem law59 (cs : List CV) (r : CV) (hl : cs.length ≤ 24) (h : STri Try.prog 24 c59_16 (initT 0 cs) [] (retQ rs59 r)) : SC Try.prog 59 cs r :=
  sc_of Try.func59 rfl Try.ntmps59 (by kernel_rfl) (by kernel_rfl) hl h

-- turret/turretref06.InStep
def c65_0 : SCode := .reg [⟨(some 3), none, .box 26 (.tmp 0), [], false⟩,
  ⟨(some 6), none, .mov (.const (.bool false)), [], false⟩] [1, 2, 3]
def c65_1 : SCode := .reg [⟨(some 7), none, .mov (.const (.int .i64 0)), [], false⟩] [1, 2, 3, 7]
def c65_2 : SCode := .reg [⟨(some 8), none, .mov (.const (.int .i64 0)), [], false⟩] [1, 2, 3, 7, 8]
def c65_3 : SCode := .reg [⟨(some 10), none, .mov (.tmp 8), [], false⟩,
  ⟨(some 11), none, .fld 1 (.tmp 3), [], false⟩,
  ⟨(some 12), none, .load false 1 (.tmp 11), [], false⟩,
  ⟨(some 13), none, .bin .leq (.tmp 10) (.tmp 12), [], false⟩] [1, 2, 3, 7, 8, 13]
def c65_4 : SCode := .cond (.tmp 13) .skip (.exit 0)
def c65_5 : SCode := .seq c65_3 c65_4
def c65_6 : SCode := .reg [⟨(some 9), none, .mov (.const (.int .i64 0)), [], false⟩] [1, 2, 3, 7, 8, 9]
def c65_7 : SCode := .reg [⟨(some 16), none, .mov (.tmp 9), [], false⟩,
  ⟨(some 17), none, .fld 2 (.tmp 3), [], false⟩,
  ⟨(some 18), none, .load false 1 (.tmp 17), [], false⟩,
  ⟨(some 19), none, .len (.tmp 18), [], false⟩,
  ⟨(some 20), none, .bin .lss (.tmp 16) (.tmp 19), [], false⟩] [1, 2, 3, 7, 8, 9, 20]
def c65_8 : SCode := .cond (.tmp 20) .skip (.exit 2)
def c65_9 : SCode := .seq c65_7 c65_8
def c65_10 : SCode := .reg [⟨(some 23), none, .mov (.tmp 9), [], false⟩,
  ⟨(some 24), none, .mov (.tmp 1), [], false⟩,
  ⟨(some 25), none, .bin .eql (.tmp 23) (.tmp 24), [], false⟩,
  ⟨(some 26), none, .mov (.tmp 25), [], false⟩,
  ⟨(some 27), (some (26, true)), .mov (.tmp 7), [], false⟩,
  ⟨(some 28), (some (26, true)), .mov (.tmp 2), [], false⟩,
  ⟨(some 29), (some (26, true)), .bin .eql (.tmp 27) (.tmp 28), [], false⟩,
  ⟨(some 30), none, .pick (.tmp 26) (.tmp 29) (.const (.bool false)), [], false⟩] [1, 2, 3, 7, 8, 9, 30]
def c65_11 : SCode := .reg [⟨(some 6), none, .mov (.const (.bool true)), [], false⟩] [6]
def c65_12 : SCode := .seq c65_11 .ret
def c65_13 : SCode := .cond (.tmp 30) c65_12 .skip
def c65_14 : SCode := .seq c65_10 c65_13
def c65_15 : SCode := .reg [⟨(some 31), none, .mov (.tmp 7), [], false⟩,
  ⟨(some 32), none, .fld 2 (.tmp 3), [], false⟩,
  ⟨(some 33), none, .load false 1 (.tmp 32), [], false⟩,
  ⟨(some 34), none, .mov (.tmp 9), [], false⟩,
  ⟨(some 35), none, .idxS 1 (.tmp 33) (.tmp 34), [], false⟩,
  ⟨(some 36), none, .load false 1 (.tmp 35), [], false⟩,
  ⟨(some 37), none, .bin .add (.tmp 31) (.tmp 36), [], false⟩,
  ⟨(some 38), none, .fld 1 (.tmp 3), [], false⟩,
  ⟨(some 39), none, .load false 1 (.tmp 38), [], false⟩,
  ⟨(some 40), none, .bin .rem (.tmp 37) (.tmp 39), [], false⟩,
  ⟨(some 7), none, .mov (.tmp 40), [], false⟩] [1, 2, 3, 7, 8, 9]
def c65_16 : SCode := .seq c65_14 c65_15
def c65_17 : SCode := .block 3 c65_16
def c65_18 : SCode := .reg [⟨(some 21), none, .mov (.tmp 9), [], false⟩,
  ⟨(some 22), none, .bin .add (.tmp 21) (.const (.int .i64 1)), [], false⟩,
  ⟨(some 9), none, .mov (.tmp 22), [], false⟩] [1, 2, 3, 7, 8, 9]
def c65_19 : SCode := .seq c65_17 c65_18
def c65_20 : SCode := .seq c65_9 c65_19
def c65_21 : SCode := .loop c65_20
def c65_22 : SCode := .block 2 c65_21
def c65_23 : SCode := .seq c65_6 c65_22
def c65_24 : SCode := .block 1 c65_23
def c65_25 : SCode := .reg [⟨(some 14), none, .mov (.tmp 8), [], false⟩,
  ⟨(some 15), none, .bin .add (.tmp 14) (.const (.int .i64 1)), [], false⟩,
  ⟨(some 8), none, .mov (.tmp 15), [], false⟩] [1, 2, 3, 7, 8]
def c65_26 : SCode := .seq c65_24 c65_25
def c65_27 : SCode := .seq c65_5 c65_26
def c65_28 : SCode := .loop c65_27
def c65_29 : SCode := .block 0 c65_28
def c65_30 : SCode := .seq c65_2 c65_29
def c65_31 : SCode := .reg [⟨(some 6), none, .mov (.const (.bool false)), [], false⟩] [6]
def c65_32 : SCode := .seq c65_31 .ret
def c65_33 : SCode := .seq c65_30 c65_32
def c65_34 : SCode := .seq c65_1 c65_33
def c65_35 : SCode := .seq c65_0 c65_34
@[simp] def rs65 : List SRes := [.tmp 6]
theorem law65 (cs : List CV) (r : CV) (hl : cs.length ≤ 41) (h : STri Try.prog 41 c65_35 (initT 0 cs) [] (retQ rs65 r)) : SC Try.prog 65 cs r :=
  sc_of Try.func65 rfl Try.ntmps65 (by kernel_rfl) (by kernel_rfl) hl h

-- turret/turretref06.Fill
def c72_0 : SCode := .reg [⟨(some 4), none, .box 56 (.tmp 0), [], false⟩,
  ⟨(some 8), none, .mov (.const (.slice none 0 0)), [], false⟩,
  ⟨(some 9), none, .mov (.const (.bool false)), [], false⟩] [1, 2, 3, 4]
def c72_1 : SCode := .reg [⟨(some 13), none, .load true 2 (.tmp 4), [], false⟩,
  ⟨(some 14), none, .mov (.tmp 1), [], false⟩,
  ⟨(some 15), none, .mov (.tmp 3), [], false⟩,
  ⟨(some 16), none, .call 94 [(.tmp 13), (.tmp 14), (.tmp 15)], [], false⟩,
  ⟨(some 17), none, .un .not (.tmp 16), [], false⟩] [1, 2, 3, 4, 17]
def c72_2 : SCode := .reg [⟨(some 8), none, .mov (.const (.slice none 0 0)), [], false⟩,
  ⟨(some 9), none, .mov (.const (.bool false)), [], false⟩] [8, 9]
def c72_3 : SCode := .seq c72_2 .ret
def c72_4 : SCode := .cond (.tmp 17) c72_3 .skip
def c72_5 : SCode := .seq c72_1 c72_4
def c72_6 : SCode := .reg [⟨(some 18), none, .mov (.tmp 3), [], false⟩,
  ⟨(some 19), none, .len (.tmp 18), [], false⟩,
  ⟨(some 20), none, .fld 1 (.tmp 4), [], false⟩,
  ⟨(some 21), none, .load false 1 (.tmp 20), [], false⟩,
  ⟨(some 22), none, .len (.tmp 21), [], false⟩,
  ⟨(some 23), none, .bin .eql (.tmp 19) (.tmp 22), [], false⟩] [1, 2, 3, 4, 23]
def c72_7 : SCode := .reg [⟨(some 24), none, .mov (.tmp 3), [], false⟩,
  ⟨(some 8), none, .mov (.tmp 24), [], false⟩,
  ⟨(some 9), none, .mov (.const (.bool true)), [], false⟩] [8, 9]
def c72_8 : SCode := .seq c72_7 .ret
def c72_9 : SCode := .cond (.tmp 23) c72_8 .skip
def c72_10 : SCode := .seq c72_6 c72_9
def c72_11 : SCode := .reg [⟨(some 10), none, .mov (.const (.int .i64 0)), [], false⟩] [1, 2, 3, 4, 10]
def c72_12 : SCode := .reg [⟨(some 25), none, .mov (.tmp 10), [], false⟩,
  ⟨(some 26), none, .mov (.tmp 2), [], false⟩,
  ⟨(some 27), none, .bin .lss (.tmp 25) (.tmp 26), [], false⟩] [1, 2, 3, 4, 10, 27]
def c72_13 : SCode := .cond (.tmp 27) .skip (.exit 0)
def c72_14 : SCode := .seq c72_12 c72_13
def c72_15 : SCode := .reg [⟨(some 31), none, .load true 2 (.tmp 4), [], true⟩,
  ⟨(some 32), none, .mov (.tmp 1), [], false⟩,
  ⟨(some 33), none, .mov (.tmp 2), [], false⟩,
  ⟨(some 34), none, .buildSl 3 1 [(.int .i64 0)] 0 [], [0], false⟩,
  ⟨(some 35), none, .mov (.tmp 3), [], false⟩,
  ⟨(some 36), none, .append 3 1 8 (.tmp 34) (.tmp 35), [0], true⟩,
  ⟨(some 37), none, .mov (.tmp 10), [], false⟩,
  ⟨(some 38), none, .buildSl 3 1 [(.int .i64 0)] 1 [(0, (.tmp 37))], [0, 5], false⟩,
  ⟨(some 39), none, .append 3 1 8 (.tmp 36) (.tmp 38), [0], false⟩,
  ⟨(some 40), none, .call 72 [(.tmp 31), (.tmp 32), (.tmp 33), (.tmp 39)], [], false⟩,
  ⟨(some 30), none, .mov (.tmp 40), [], false⟩,
  ⟨(some 41), none, .ext (.tmp 30) 0, [], false⟩,
  ⟨(some 42), none, .ext (.tmp 30) 1, [], false⟩,
  ⟨(some 11), none, .mov (.tmp 41), [], false⟩,
  ⟨(some 12), none, .mov (.tmp 42), [], false⟩] [1, 2, 3, 4, 10, 11, 12]
def c72_16 : SCode := .reg [⟨(some 43), none, .mov (.tmp 12), [], false⟩] [1, 2, 3, 4, 10, 11, 43]
def c72_17 : SCode := .reg [⟨(some 44), none, .mov (.tmp 11), [], false⟩,
  ⟨(some 8), none, .mov (.tmp 44), [], false⟩,
  ⟨(some 9), none, .mov (.const (.bool true)), [], false⟩] [8, 9]
def c72_18 : SCode := .seq c72_17 .ret
def c72_19 : SCode := .cond (.tmp 43) c72_18 .skip
def c72_20 : SCode := .seq c72_16 c72_19
def c72_21 : SCode := .seq c72_15 c72_20
def c72_22 : SCode := .block 1 c72_21
def c72_23 : SCode := .reg [⟨(some 28), none, .mov (.tmp 10), [], false⟩,
  ⟨(some 29), none, .bin .add (.tmp 28) (.const (.int .i64 1)), [], false⟩,
  ⟨(some 10), none, .mov (.tmp 29), [], false⟩] [1, 2, 3, 4, 10]
def c72_24 : SCode := .seq c72_22 c72_23
def c72_25 : SCode := .seq c72_14 c72_24
def c72_26 : SCode := .loop c72_25
def c72_27 : SCode := .block 0 c72_26
def c72_28 : SCode := .seq c72_11 c72_27
def c72_29 : SCode := .reg [⟨(some 8), none, .mov (.const (.slice none 0 0)), [], false⟩,
  ⟨(some 9), none, .mov (.const (.bool false)), [], false⟩] [8, 9]
def c72_30 : SCode := .seq c72_29 .ret
def c72_31 : SCode := .seq c72_28 c72_30
def c72_32 : SCode := .seq c72_10 c72_31
def c72_33 : SCode := .seq c72_5 c72_32
def c72_34 : SCode := .seq c72_0 c72_33
@[simp] def rs72 : List SRes := [.tmp 8, .tmp 9]
theorem law72 (cs : List CV) (r : CV) (hl : cs.length ≤ 45) (h : STri Try.prog 45 c72_34 (initT 0 cs) [] (retQ rs72 r)) : SC Try.prog 72 cs r :=
  sc_of Try.func72 rfl Try.ntmps72 (by kernel_rfl) (by kernel_rfl) hl h

-- turret/turretref06.Free
def c94_0 : SCode := .reg [⟨(some 3), none, .box 56 (.tmp 0), [], false⟩,
  ⟨(some 6), none, .mov (.const (.bool false)), [], false⟩] [1, 2, 3]
def c94_1 : SCode := .reg [⟨(some 7), none, .mov (.const (.int .i64 0)), [], false⟩] [1, 2, 3, 7]
def c94_2 : SCode := .reg [⟨(some 9), none, .mov (.tmp 7), [], false⟩,
  ⟨(some 10), none, .mov (.tmp 2), [], false⟩,
  ⟨(some 11), none, .len (.tmp 10), [], false⟩,
  ⟨(some 12), none, .bin .lss (.tmp 9) (.tmp 11), [], false⟩] [1, 2, 3, 7, 12]
def c94_3 : SCode := .cond (.tmp 12) .skip (.exit 0)
def c94_4 : SCode := .seq c94_2 c94_3
def c94_5 : SCode := .reg [⟨(some 8), none, .mov (.const (.int .i64 0)), [], false⟩] [1, 2, 3, 7, 8]
def c94_6 : SCode := .reg [⟨(some 15), none, .mov (.tmp 8), [], false⟩,
  ⟨(some 16), none, .mov (.tmp 7), [], false⟩,
  ⟨(some 17), none, .bin .lss (.tmp 15) (.tmp 16), [], false⟩] [1, 2, 3, 7, 8, 17]
def c94_7 : SCode := .cond (.tmp 17) .skip (.exit 2)
def c94_8 : SCode := .seq c94_6 c94_7
def c94_9 : SCode := .reg [⟨(some 20), none, .fld 1 (.tmp 3), [], false⟩,
  ⟨(some 21), none, .load false 1 (.tmp 20), [], false⟩,
  ⟨(some 22), none, .mov (.tmp 7), [], false⟩,
  ⟨(some 23), none, .idxS 2 (.tmp 21) (.tmp 22), [], false⟩,
  ⟨(some 24), none, .fld 1 (.tmp 23), [], false⟩,
  ⟨(some 25), none, .load false 1 (.tmp 24), [], false⟩,
  ⟨(some 26), none, .fld 1 (.tmp 3), [], false⟩,
  ⟨(some 27), none, .load false 1 (.tmp 26), [], false⟩,
  ⟨(some 28), none, .mov (.tmp 8), [], false⟩,
  ⟨(some 29), none, .idxS 2 (.tmp 27) (.tmp 28), [], false⟩,
  ⟨(some 30), none, .fld 1 (.tmp 29), [], false⟩,
  ⟨(some 31), none, .load false 1 (.tmp 30), [], false⟩,
  ⟨(some 32), none, .bin .eql (.tmp 25) (.tmp 31), [], false⟩,
  ⟨(some 33), none, .mov (.tmp 32), [], false⟩,
  ⟨(some 34), (some (33, true)), .mov (.tmp 2), [], false⟩,
  ⟨(some 35), (some (33, true)), .mov (.tmp 7), [], false⟩,
  ⟨(some 36), (some (33, true)), .idxS 1 (.tmp 34) (.tmp 35), [], false⟩,
  ⟨(some 37), (some (33, true)), .load false 1 (.tmp 36), [], false⟩,
  ⟨(some 38), (some (33, true)), .mov (.tmp 2), [], false⟩,
  ⟨(some 39), (some (33, true)), .mov (.tmp 8), [], false⟩,
  ⟨(some 40), (some (33, true)), .idxS 1 (.tmp 38) (.tmp 39), [], false⟩,
  ⟨(some 41), (some (33, true)), .load false 1 (.tmp 40), [], false⟩,
  ⟨(some 42), (some (33, true)), .bin .eql (.tmp 37) (.tmp 41), [], false⟩,
  ⟨(some 43), none, .pick (.tmp 33) (.tmp 42) (.const (.bool false)), [], false⟩,
  ⟨(some 44), none, .mov (.tmp 43), [], false⟩,
  ⟨(some 45), (some (44, true)), .fld 1 (.tmp 3), [], false⟩,
  ⟨(some 46), (some (44, true)), .load false 1 (.tmp 45), [], false⟩,
  ⟨(some 47), (some (44, true)), .mov (.tmp 7), [], false⟩,
  ⟨(some 48), (some (44, true)), .idxS 2 (.tmp 46) (.tmp 47), [], false⟩,
  ⟨(some 49), (some (44, true)), .fld 0 (.tmp 48), [], false⟩,
  ⟨(some 50), (some (44, true)), .load false 1 (.tmp 49), [], false⟩,
  ⟨(some 51), (some (44, true)), .fld 1 (.tmp 3), [], false⟩,
  ⟨(some 52), (some (44, true)), .load false 1 (.tmp 51), [], false⟩,
  ⟨(some 53), (some (44, true)), .mov (.tmp 8), [], false⟩,
  ⟨(some 54), (some (44, true)), .idxS 2 (.tmp 52) (.tmp 53), [], false⟩,
  ⟨(some 55), (some (44, true)), .fld 0 (.tmp 54), [], false⟩,
  ⟨(some 56), (some (44, true)), .load false 1 (.tmp 55), [], false⟩,
  ⟨(some 57), (some (44, true)), .fld 0 (.tmp 3), [], false⟩,
  ⟨(some 58), (some (44, true)), .load false 1 (.tmp 57), [], false⟩,
  ⟨(some 59), (some (44, true)), .call 59 [(.tmp 50), (.tmp 56), (.tmp 58)], [], false⟩,
  ⟨(some 60), (some (44, true)), .mov (.tmp 1), [], false⟩,
  ⟨(some 61), (some (44, true)), .bin .lss (.tmp 59) (.tmp 60), [], false⟩,
  ⟨(some 62), none, .pick (.tmp 44) (.tmp 61) (.const (.bool false)), [], false⟩] [1, 2, 3, 7, 8, 62]
def c94_10 : SCode := .reg [⟨(some 6), none, .mov (.const (.bool false)), [], false⟩] [6]
def c94_11 : SCode := .seq c94_10 .ret
def c94_12 : SCode := .cond (.tmp 62) c94_11 .skip
def c94_13 : SCode := .seq c94_9 c94_12
def c94_14 : SCode := .block 3 c94_13
def c94_15 : SCode := .reg [⟨(some 18), none, .mov (.tmp 8), [], false⟩,
  ⟨(some 19), none, .bin .add (.tmp 18) (.const (.int .i64 1)), [], false⟩,
  ⟨(some 8), none, .mov (.tmp 19), [], false⟩] [1, 2, 3, 7, 8]
def c94_16 : SCode := .seq c94_14 c94_15
def c94_17 : SCode := .seq c94_8 c94_16
def c94_18 : SCode := .loop c94_17
def c94_19 : SCode := .block 2 c94_18
def c94_20 : SCode := .seq c94_5 c94_19
def c94_21 : SCode := .block 1 c94_20
def c94_22 : SCode := .reg [⟨(some 13), none, .mov (.tmp 7), [], false⟩,
  ⟨(some 14), none, .bin .add (.tmp 13) (.const (.int .i64 1)), [], false⟩,
  ⟨(some 7), none, .mov (.tmp 14), [], false⟩] [1, 2, 3, 7]
def c94_23 : SCode := .seq c94_21 c94_22
def c94_24 : SCode := .seq c94_4 c94_23
def c94_25 : SCode := .loop c94_24
def c94_26 : SCode := .block 0 c94_25
def c94_27 : SCode := .seq c94_1 c94_26
def c94_28 : SCode := .reg [⟨(some 6), none, .mov (.const (.bool true)), [], false⟩] [6]
def c94_29 : SCode := .seq c94_28 .ret
def c94_30 : SCode := .seq c94_27 c94_29
def c94_31 : SCode := .seq c94_0 c94_30
@[simp] def rs94 : List SRes := [.tmp 6]
theorem law94 (cs : List CV) (r : CV) (hl : cs.length ≤ 63) (h : STri Try.prog 63 c94_31 (initT 0 cs) [] (retQ rs94 r)) : SC Try.prog 94 cs r :=
  sc_of Try.func94 rfl Try.ntmps94 (by kernel_rfl) (by kernel_rfl) hl h

-- turret/turretlaw06.ChimeClashes
def c3_0 : SCode := .reg [⟨(some 1), none, .box 26 (.tmp 0), [], false⟩,
  ⟨(some 2), none, .mov (.const (.bool false)), [], false⟩] [1]
def c3_1 : SCode := .reg [⟨(some 9), none, .load true 6 (.tmp 1), [], false⟩,
  ⟨(some 10), none, .call 14 [(.tmp 9)], [], false⟩] [1, 10]
def c3_2 : SCode := .reg [⟨(some 11), none, .call 15 [], [], false⟩,
  ⟨(some 2), none, .mov (.tmp 11), [], false⟩] [2]
def c3_3 : SCode := .seq c3_2 .ret
def c3_4 : SCode := .cond (.tmp 10) c3_3 .skip
def c3_5 : SCode := .seq c3_1 c3_4
def c3_6 : SCode := .reg [⟨(some 12), none, .load true 6 (.tmp 1), [], false⟩,
  ⟨(some 13), none, .call 16 [(.tmp 12)], [], false⟩,
  ⟨(some 3), none, .alloc 26 [(.int .i64 0), (.int .i64 0), (.slice none 0 0), (.int .i64 0), (.slice none 0 0), (.slice none 0 0)], [], false⟩,
  ⟨none, none, .store 6 (.tmp 3) (.tmp 13), [], false⟩] [1, 3]
def c3_7 : SCode := .reg [⟨(some 14), none, .load true 6 (.tmp 3), [], false⟩,
  ⟨(some 15), none, .call 17 [(.tmp 14)], [], false⟩,
  ⟨(some 4), none, .mov (.tmp 15), [], false⟩] [1, 3, 4]
def c3_8 : SCode := .reg [⟨(some 17), none, .load true 6 (.tmp 3), [], false⟩,
  ⟨(some 18), none, .call 18 [(.tmp 17)], [], false⟩,
  ⟨(some 16), none, .mov (.tmp 18), [], false⟩,
  ⟨(some 19), none, .ext (.tmp 16) 0, [], false⟩,
  ⟨(some 20), none, .ext (.tmp 16) 1, [], false⟩,
  ⟨(some 5), none, .mov (.tmp 19), [], false⟩,
  ⟨(some 6), none, .mov (.tmp 20), [], false⟩] [1, 3, 4, 5, 6]
def c3_9 : SCode := .reg [⟨(some 21), none, .load true 6 (.tmp 3), [], false⟩,
  ⟨(some 22), none, .load true 6 (.tmp 1), [], false⟩,
  ⟨(some 23), none, .call 19 [(.tmp 21), (.tmp 22)], [], false⟩,
  ⟨(some 24), none, .un .not (.tmp 23), [], false⟩,
  ⟨(some 25), none, .mov (.tmp 24), [], false⟩,
  ⟨(some 26), (some (25, false)), .mov (.tmp 4), [], false⟩,
  ⟨(some 27), (some (25, false)), .bin .eql (.tmp 26) (.const (.int .i64 0)), [], false⟩,
  ⟨(some 28), (some (25, false)), .load true 6 (.tmp 1), [], false⟩,
  ⟨(some 29), (some (25, false)), .call 20 [(.tmp 28)], [], false⟩,
  ⟨(some 30), (some (25, false)), .binB true (.tmp 27) (.tmp 29), [], false⟩,
  ⟨(some 31), none, .pick (.tmp 25) (.const (.bool true)) (.tmp 30), [], false⟩,
  ⟨(some 32), none, .mov (.tmp 31), [], false⟩,
  ⟨(some 33), (some (32, false)), .mov (.tmp 4), [], false⟩,
  ⟨(some 34), (some (32, false)), .bin .neq (.tmp 33) (.const (.int .i64 0)), [], false⟩,
  ⟨(some 35), (some (32, false)), .mov (.tmp 34), [], false⟩,
  ⟨(some 36), (some (35, true)), .mov (.tmp 4), [], false⟩,
  ⟨(some 37), (some (35, true)), .bin .neq (.tmp 36) (.const (.int .i64 2)), [], false⟩,
  ⟨(some 38), (some (32, false)), .pick (.tmp 35) (.tmp 37) (.const (.bool false)), [], false⟩,
  ⟨(some 39), none, .pick (.tmp 32) (.const (.bool true)) (.tmp 38), [], false⟩,
  ⟨(some 40), none, .mov (.tmp 39), [], false⟩,
  ⟨(some 41), (some (40, false)), .mov (.tmp 6), [], false⟩,
  ⟨(some 42), (some (40, false)), .mov (.tmp 4), [], false⟩,
  ⟨(some 43), (some (40, false)), .bin .neq (.tmp 41) (.tmp 42), [], false⟩,
  ⟨(some 44), none, .pick (.tmp 40) (.const (.bool true)) (.tmp 43), [], false⟩] [1, 4, 5, 44]
def c3_10 : SCode := .reg [⟨(some 2), none, .mov (.const (.bool false)), [], false⟩] [2]
def c3_11 : SCode := .seq c3_10 .ret
def c3_12 : SCode := .cond (.tmp 44) c3_11 .skip
def c3_13 : SCode := .seq c3_9 c3_12
def c3_14 : SCode := .reg [⟨(some 45), none, .mov (.tmp 4), [], false⟩,
  ⟨(some 46), none, .bin .neq (.tmp 45) (.const (.int .i64 0)), [], false⟩] [1, 5, 46]
def c3_15 : SCode := .reg [⟨(some 47), none, .mov (.tmp 5), [], false⟩,
  ⟨(some 48), none, .len (.tmp 47), [], false⟩,
  ⟨(some 49), none, .bin .eql (.tmp 48) (.const (.int .i64 0)), [], false⟩,
  ⟨(some 50), none, .mov (.tmp 49), [], false⟩,
  ⟨(some 51), (some (50, true)), .call 15 [], [], false⟩,
  ⟨(some 52), none, .pick (.tmp 50) (.tmp 51) (.const (.bool false)), [], false⟩,
  ⟨(some 2), none, .mov (.tmp 52), [], false⟩] [2]
def c3_16 : SCode := .seq c3_15 .ret
def c3_17 : SCode := .cond (.tmp 46) c3_16 .skip
def c3_18 : SCode := .seq c3_14 c3_17
def c3_19 : SCode := .reg [⟨(some 53), none, .load true 6 (.tmp 1), [], false⟩,
  ⟨(some 54), none, .call 21 [(.tmp 53)], [], false⟩,
  ⟨(some 7), none, .mov (.tmp 54), [], false⟩] [5, 7]
def c3_20 : SCode := .reg [⟨(some 55), none, .mov (.tmp 5), [], false⟩,
  ⟨(some 56), none, .len (.tmp 55), [], false⟩,
  ⟨(some 57), none, .mov (.tmp 7), [], false⟩,
  ⟨(some 58), none, .len (.tmp 57), [], false⟩,
  ⟨(some 59), none, .bin .neq (.tmp 56) (.tmp 58), [], false⟩] [5, 7, 59]
def c3_21 : SCode := .reg [⟨(some 2), none, .mov (.const (.bool false)), [], false⟩] [2]
def c3_22 : SCode := .seq c3_21 .ret
def c3_23 : SCode := .cond (.tmp 59) c3_22 .skip
def c3_24 : SCode := .seq c3_20 c3_23
def c3_25 : SCode := .reg [⟨(some 8), none, .mov (.const (.int .i64 0)), [], false⟩] [5, 7, 8]
def c3_26 : SCode := .reg [⟨(some 60), none, .mov (.tmp 8), [], false⟩,
  ⟨(some 61), none, .mov (.tmp 5), [], false⟩,
  ⟨(some 62), none, .len (.tmp 61), [], false⟩,
  ⟨(some 63), none, .bin .lss (.tmp 60) (.tmp 62), [], false⟩] [5, 7, 8, 63]
def c3_27 : SCode := .cond (.tmp 63) .skip (.exit 0)
def c3_28 : SCode := .seq c3_26 c3_27
def c3_29 : SCode := .reg [⟨(some 66), none, .mov (.tmp 5), [], false⟩,
  ⟨(some 67), none, .mov (.tmp 8), [], false⟩,
  ⟨(some 68), none, .idxS 2 (.tmp 66) (.tmp 67), [], false⟩,
  ⟨(some 69), none, .load true 2 (.tmp 68), [], false⟩,
  ⟨(some 70), none, .mov (.tmp 7), [], false⟩,
  ⟨(some 71), none, .mov (.tmp 8), [], false⟩,
  ⟨(some 72), none, .idxS 2 (.tmp 70) (.tmp 71), [], false⟩,
  ⟨(some 73), none, .load true 2 (.tmp 72), [], false⟩,
  ⟨(some 74), none, .eqC true [true, true] (.tmp 69) (.tmp 73), [], false⟩] [5, 7, 8, 74]
def c3_30 : SCode := .reg [⟨(some 2), none, .mov (.const (.bool false)), [], false⟩] [2]
def c3_31 : SCode := .seq c3_30 .ret
def c3_32 : SCode := .cond (.tmp 74) c3_31 .skip
def c3_33 : SCode := .seq c3_29 c3_32
def c3_34 : SCode := .block 1 c3_33
def c3_35 : SCode := .reg [⟨(some 64), none, .mov (.tmp 8), [], false⟩,
  ⟨(some 65), none, .bin .add (.tmp 64) (.const (.int .i64 1)), [], false⟩,
  ⟨(some 8), none, .mov (.tmp 65), [], false⟩] [5, 7, 8]
def c3_36 : SCode := .seq c3_34 c3_35
def c3_37 : SCode := .seq c3_28 c3_36
def c3_38 : SCode := .loop c3_37
def c3_39 : SCode := .block 0 c3_38
def c3_40 : SCode := .seq c3_25 c3_39
def c3_41 : SCode := .reg [⟨(some 75), none, .call 15 [], [], false⟩,
  ⟨(some 2), none, .mov (.tmp 75), [], false⟩] [2]
def c3_42 : SCode := .seq c3_41 .ret
def c3_43 : SCode := .seq c3_40 c3_42
def c3_44 : SCode := .seq c3_24 c3_43
def c3_45 : SCode := .seq c3_19 c3_44
def c3_46 : SCode := .seq c3_18 c3_45
def c3_47 : SCode := .seq c3_13 c3_46
def c3_48 : SCode := .seq c3_8 c3_47
def c3_49 : SCode := .seq c3_7 c3_48
def c3_50 : SCode := .seq c3_6 c3_49
def c3_51 : SCode := .seq c3_5 c3_50
def c3_52 : SCode := .seq c3_0 c3_51
@[simp] def rs3 : List SRes := [.tmp 2]
theorem law3 (cs : List CV) (r : CV) (hl : cs.length ≤ 76) (h : STri Try.prog 76 c3_52 (initT 0 cs) [] (retQ rs3 r)) : SC Try.prog 3 cs r :=
  sc_of Try.func3 rfl Try.ntmps3 (by kernel_rfl) (by kernel_rfl) hl h

-- turret/turretlaw06.ChimePlays
def c4_0 : SCode := .reg [⟨(some 2), none, .box 26 (.tmp 0), [], false⟩,
  ⟨(some 3), none, .box 38 (.tmp 1), [], false⟩,
  ⟨(some 4), none, .mov (.const (.bool false)), [], false⟩] [2, 3]
def c4_1 : SCode := .reg [⟨(some 14), none, .load true 6 (.tmp 2), [], false⟩,
  ⟨(some 15), none, .call 14 [(.tmp 14)], [], false⟩] [2, 3, 15]
def c4_2 : SCode := .reg [⟨(some 16), none, .call 15 [], [], false⟩,
  ⟨(some 4), none, .mov (.tmp 16), [], false⟩] [4]
def c4_3 : SCode := .seq c4_2 .ret
def c4_4 : SCode := .cond (.tmp 15) c4_3 .skip
def c4_5 : SCode := .seq c4_1 c4_4
def c4_6 : SCode := .reg [⟨(some 17), none, .load true 6 (.tmp 2), [], false⟩,
  ⟨(some 18), none, .call 16 [(.tmp 17)], [], false⟩,
  ⟨(some 5), none, .alloc 26 [(.int .i64 0), (.int .i64 0), (.slice none 0 0), (.int .i64 0), (.slice none 0 0), (.slice none 0 0)], [], false⟩,
  ⟨none, none, .store 6 (.tmp 5) (.tmp 18), [], false⟩] [2, 3, 5]
def c4_7 : SCode := .reg [⟨(some 20), none, .load true 6 (.tmp 5), [], false⟩,
  ⟨(some 21), none, .idxA 3 1 (.tmp 3) (.const (.int .i64 0)), [], false⟩,
  ⟨(some 22), none, .load false 1 (.tmp 21), [], false⟩,
  ⟨(some 23), none, .idxA 3 1 (.tmp 3) (.const (.int .i64 1)), [], false⟩,
  ⟨(some 24), none, .load false 1 (.tmp 23), [], false⟩,
  ⟨(some 25), none, .idxA 3 1 (.tmp 3) (.const (.int .i64 2)), [], false⟩,
  ⟨(some 26), none, .load false 1 (.tmp 25), [], false⟩,
  ⟨(some 27), none, .call 22 [(.tmp 20), (.tmp 22), (.tmp 24), (.tmp 26)], [], false⟩,
  ⟨(some 19), none, .mov (.tmp 27), [], false⟩,
  ⟨(some 28), none, .ext (.tmp 19) 0, [], false⟩,
  ⟨(some 29), none, .ext (.tmp 19) 1, [], false⟩,
  ⟨(some 6), none, .mov (.tmp 28), [], false⟩,
  ⟨(some 7), none, .mov (.tmp 29), [], false⟩] [2, 3, 5, 6, 7]
def c4_8 : SCode := .reg [⟨(some 31), none, .load true 6 (.tmp 5), [], false⟩,
  ⟨(some 32), none, .idxA 3 1 (.tmp 3) (.const (.int .i64 0)), [], false⟩,
  ⟨(some 33), none, .load false 1 (.tmp 32), [], false⟩,
  ⟨(some 34), none, .idxA 3 1 (.tmp 3) (.const (.int .i64 1)), [], false⟩,
  ⟨(some 35), none, .load false 1 (.tmp 34), [], false⟩,
  ⟨(some 36), none, .idxA 3 1 (.tmp 3) (.const (.int .i64 2)), [], false⟩,
  ⟨(some 37), none, .load false 1 (.tmp 36), [], false⟩,
  ⟨(some 38), none, .call 23 [(.tmp 31), (.tmp 33), (.tmp 35), (.tmp 37)], [], false⟩,
  ⟨(some 30), none, .mov (.tmp 38), [], false⟩,
  ⟨(some 39), none, .ext (.tmp 30) 0, [], false⟩,
  ⟨(some 40), none, .ext (.tmp 30) 1, [], false⟩,
  ⟨(some 41), none, .ext (.tmp 30) 2, [], false⟩,
  ⟨(some 8), none, .mov (.tmp 39), [], false⟩,
  ⟨(some 9), none, .mov (.tmp 40), [], false⟩,
  ⟨(some 10), none, .mov (.tmp 41), [], false⟩] [2, 3, 5, 6, 7, 8, 9, 10]
def c4_9 : SCode := .reg [⟨(some 42), none, .load true 6 (.tmp 5), [], false⟩,
  ⟨(some 43), none, .load true 6 (.tmp 2), [], false⟩,
  ⟨(some 44), none, .call 19 [(.tmp 42), (.tmp 43)], [], false⟩,
  ⟨(some 45), none, .un .not (.tmp 44), [], false⟩] [2, 3, 6, 7, 8, 9, 10, 45]
def c4_10 : SCode := .reg [⟨(some 4), none, .mov (.const (.bool false)), [], false⟩] [4]
def c4_11 : SCode := .seq c4_10 .ret
def c4_12 : SCode := .cond (.tmp 45) c4_11 .skip
def c4_13 : SCode := .seq c4_9 c4_12
def c4_14 : SCode := .reg [⟨(some 46), none, .load true 6 (.tmp 2), [], false⟩,
  ⟨(some 47), none, .idxA 3 1 (.tmp 3) (.const (.int .i64 0)), [], false⟩,
  ⟨(some 48), none, .load false 1 (.tmp 47), [], false⟩,
  ⟨(some 49), none, .idxA 3 1 (.tmp 3) (.const (.int .i64 1)), [], false⟩,
  ⟨(some 50), none, .load false 1 (.tmp 49), [], false⟩,
  ⟨(some 51), none, .idxA 3 1 (.tmp 3) (.const (.int .i64 2)), [], false⟩,
  ⟨(some 52), none, .load false 1 (.tmp 51), [], false⟩,
  ⟨(some 53), none, .call 24 [(.tmp 46), (.tmp 48), (.tmp 50), (.tmp 52)], [], false⟩,
  ⟨(some 11), none, .mov (.tmp 53), [], false⟩] [2, 3, 6, 7, 8, 9, 10, 11]
def c4_15 : SCode := .reg [⟨(some 54), none, .mov (.tmp 11), [], false⟩,
  ⟨(some 55), none, .bin .neq (.tmp 54) (.const (.int .i64 0)), [], false⟩] [2, 3, 6, 7, 8, 9, 10, 11, 55]
def c4_16 : SCode := .reg [⟨(some 56), none, .mov (.tmp 7), [], false⟩,
  ⟨(some 57), none, .mov (.tmp 11), [], false⟩,
  ⟨(some 58), none, .bin .eql (.tmp 56) (.tmp 57), [], false⟩,
  ⟨(some 59), none, .mov (.tmp 58), [], false⟩,
  ⟨(some 60), (some (59, true)), .mov (.tmp 10), [], false⟩,
  ⟨(some 61), (some (59, true)), .mov (.tmp 11), [], false⟩,
  ⟨(some 62), (some (59, true)), .bin .eql (.tmp 60) (.tmp 61), [], false⟩,
  ⟨(some 63), none, .pick (.tmp 59) (.tmp 62) (.const (.bool false)), [], false⟩,
  ⟨(some 64), none, .mov (.tmp 63), [], false⟩,
  ⟨(some 65), (some (64, true)), .mov (.tmp 6), [], false⟩,
  ⟨(some 66), (some (64, true)), .len (.tmp 65), [], false⟩,
  ⟨(some 67), (some (64, true)), .bin .eql (.tmp 66) (.const (.int .i64 0)), [], false⟩,
  ⟨(some 68), none, .pick (.tmp 64) (.tmp 67) (.const (.bool false)), [], false⟩,
  ⟨(some 69), none, .mov (.tmp 68), [], false⟩,
  ⟨(some 70), (some (69, true)), .mov (.tmp 8), [], false⟩,
  ⟨(some 71), (some (69, true)), .bin .eql (.tmp 70) (.const (.int .i64 0)), [], false⟩,
  ⟨(some 72), none, .pick (.tmp 69) (.tmp 71) (.const (.bool false)), [], false⟩,
  ⟨(some 73), none, .mov (.tmp 72), [], false⟩,
  ⟨(some 74), (some (73, true)), .mov (.tmp 9), [], false⟩,
  ⟨(some 75), (some (73, true)), .bin .eql (.tmp 74) (.const (.int .i64 0)), [], false⟩,
  ⟨(some 76), none, .pick (.tmp 73) (.tmp 75) (.const (.bool false)), [], false⟩,
  ⟨(some 77), none, .mov (.tmp 76), [], false⟩,
  ⟨(some 78), (some (77, true)), .call 15 [], [], false⟩,
  ⟨(some 79), none, .pick (.tmp 77) (.tmp 78) (.const (.bool false)), [], false⟩,
  ⟨(some 4), none, .mov (.tmp 79), [], false⟩] [4]
def c4_17 : SCode := .seq c4_16 .ret
def c4_18 : SCode := .cond (.tmp 55) c4_17 .skip
def c4_19 : SCode := .seq c4_15 c4_18
def c4_20 : SCode := .seq c4_14 c4_19
def c4_21 : SCode := .reg [⟨(some 81), none, .load true 6 (.tmp 2), [], false⟩,
  ⟨(some 82), none, .idxA 3 1 (.tmp 3) (.const (.int .i64 0)), [], false⟩,
  ⟨(some 83), none, .load false 1 (.tmp 82), [], false⟩,
  ⟨(some 84), none, .idxA 3 1 (.tmp 3) (.const (.int .i64 1)), [], false⟩,
  ⟨(some 85), none, .load false 1 (.tmp 84), [], false⟩,
  ⟨(some 86), none, .idxA 3 1 (.tmp 3) (.const (.int .i64 2)), [], false⟩,
  ⟨(some 87), none, .load false 1 (.tmp 86), [], false⟩,
  ⟨(some 88), none, .call 25 [(.tmp 81), (.tmp 83), (.tmp 85), (.tmp 87)], [], false⟩,
  ⟨(some 80), none, .mov (.tmp 88), [], false⟩,
  ⟨(some 89), none, .ext (.tmp 80) 0, [], false⟩,
  ⟨(some 90), none, .ext (.tmp 80) 1, [], false⟩,
  ⟨(some 12), none, .mov (.tmp 89), [], false⟩,
  ⟨(some 13), none, .mov (.tmp 90), [], false⟩] [2, 3, 6, 7, 8, 9, 10, 12, 13]
def c4_22 : SCode := .reg [⟨(some 91), none, .mov (.tmp 7), [], false⟩,
  ⟨(some 92), none, .bin .eql (.tmp 91) (.const (.int .i64 0)), [], false⟩,
  ⟨(some 93), none, .mov (.tmp 92), [], false⟩,
  ⟨(some 94), (some (93, true)), .mov (.tmp 10), [], false⟩,
  ⟨(some 95), (some (93, true)), .bin .eql (.tmp 94) (.const (.int .i64 0)), [], false⟩,
  ⟨(some 96), none, .pick (.tmp 93) (.tmp 95) (.const (.bool false)), [], false⟩,
  ⟨(some 97), none, .mov (.tmp 96), [], false⟩,
  ⟨(some 98), (some (97, true)), .mov (.tmp 6), [], false⟩,
  ⟨(some 99), (some (97, true)), .load true 6 (.tmp 2), [], false⟩,
  ⟨(some 100), (some (97, true)), .idxA 3 1 (.tmp 3) (.const (.int .i64 0)), [], false⟩,
  ⟨(some 101), (some (97, true)), .load false 1 (.tmp 100), [], false⟩,
  ⟨(some 102), (some (97, true)), .fld 2 (.tmp 2), [], false⟩,
  ⟨(some 103), (some (97, true)), .load false 1 (.tmp 102), [], false⟩,
  ⟨(some 104), (some (97, true)), .idxA 3 1 (.tmp 3) (.const (.int .i64 1)), [], false⟩,
  ⟨(some 105), (some (97, true)), .load false 1 (.tmp 104), [], false⟩,
  ⟨(some 106), (some (97, true)), .idxS 1 (.tmp 103) (.tmp 105), [], false⟩,
  ⟨(some 107), (some (97, true)), .load false 1 (.tmp 106), [], false⟩,
  ⟨(some 108), (some (97, true)), .idxA 3 1 (.tmp 3) (.const (.int .i64 2)), [], false⟩,
  ⟨(some 109), (some (97, true)), .load false 1 (.tmp 108), [], false⟩,
  ⟨(some 110), (some (97, true)), .call 27 [(.tmp 99), (.tmp 101), (.tmp 107), (.tmp 109)], [], false⟩,
  ⟨(some 111), (some (97, true)), .call 26 [(.tmp 98), (.tmp 110)], [], false⟩,
  ⟨(some 112), none, .pick (.tmp 97) (.tmp 111) (.const (.bool false)), [], false⟩,
  ⟨(some 113), none, .mov (.tmp 112), [], false⟩,
  ⟨(some 114), (some (113, true)), .mov (.tmp 8), [], false⟩,
  ⟨(some 115), (some (113, true)), .mov (.tmp 12), [], false⟩,
  ⟨(some 116), (some (113, true)), .bin .eql (.tmp 114) (.tmp 115), [], false⟩,
  ⟨(some 117), none, .pick (.tmp 113) (.tmp 116) (.const (.bool false)), [], false⟩,
  ⟨(some 118), none, .mov (.tmp 117), [], false⟩,
  ⟨(some 119), (some (118, true)), .mov (.tmp 9), [], false⟩,
  ⟨(some 120), (some (118, true)), .mov (.tmp 13), [], false⟩,
  ⟨(some 121), (some (118, true)), .bin .eql (.tmp 119) (.tmp 120), [], false⟩,
  ⟨(some 122), none, .pick (.tmp 118) (.tmp 121) (.const (.bool false)), [], false⟩,
  ⟨(some 123), none, .mov (.tmp 122), [], false⟩,
  ⟨(some 124), (some (123, true)), .call 15 [], [], false⟩,
  ⟨(some 125), none, .pick (.tmp 123) (.tmp 124) (.const (.bool false)), [], false⟩,
  ⟨(some 4), none, .mov (.tmp 125), [], false⟩] [4]
def c4_23 : SCode := .seq c4_22 .ret
def c4_24 : SCode := .seq c4_21 c4_23
def c4_25 : SCode := .seq c4_20 c4_24
def c4_26 : SCode := .seq c4_13 c4_25
def c4_27 : SCode := .seq c4_8 c4_26
def c4_28 : SCode := .seq c4_7 c4_27
def c4_29 : SCode := .seq c4_6 c4_28
def c4_30 : SCode := .seq c4_5 c4_29
def c4_31 : SCode := .seq c4_0 c4_30
@[simp] def rs4 : List SRes := [.tmp 4]
theorem law4 (cs : List CV) (r : CV) (hl : cs.length ≤ 126) (h : STri Try.prog 126 c4_31 (initT 0 cs) [] (retQ rs4 r)) : SC Try.prog 4 cs r :=
  sc_of Try.func4 rfl Try.ntmps4 (by kernel_rfl) (by kernel_rfl) hl h

-- turret/turretlaw06.ChimeHeards
def c5_0 : SCode := .reg [⟨(some 3), none, .box 26 (.tmp 0), [], false⟩,
  ⟨(some 4), none, .box 37 (.tmp 1), [], false⟩,
  ⟨(some 6), none, .mov (.const (.bool false)), [], false⟩] [2, 3, 4]
def c5_1 : SCode := .reg [⟨(some 11), none, .load true 6 (.tmp 3), [], false⟩,
  ⟨(some 12), none, .call 14 [(.tmp 11)], [], false⟩,
  ⟨(some 13), none, .mov (.tmp 12), [], false⟩,
  ⟨(some 14), (some (13, false)), .mov (.tmp 2), [], false⟩,
  ⟨(some 15), (some (13, false)), .len (.tmp 14), [], false⟩,
  ⟨(some 16), (some (13, false)), .bin .gtr (.tmp 15) (.const (.int .i64 410)), [], false⟩,
  ⟨(some 17), none, .pick (.tmp 13) (.const (.bool true)) (.tmp 16), [], false⟩] [2, 3, 4, 17]
def c5_2 : SCode := .reg [⟨(some 18), none, .call 15 [], [], false⟩,
  ⟨(some 6), none, .mov (.tmp 18), [], false⟩] [6]
def c5_3 : SCode := .seq c5_2 .ret
def c5_4 : SCode := .cond (.tmp 17) c5_3 .skip
def c5_5 : SCode := .seq c5_1 c5_4
def c5_6 : SCode := .reg [⟨(some 19), none, .buildSl 3 1 [(.int .i64 0)] 0 [], [], false⟩,
  ⟨(some 20), none, .mov (.tmp 2), [], false⟩,
  ⟨(some 21), none, .append 3 1 8 (.tmp 19) (.tmp 20), [], false⟩,
  ⟨(some 7), none, .mov (.tmp 21), [], false⟩] [2, 3, 4, 7]
def c5_7 : SCode := .reg [⟨(some 23), none, .load true 6 (.tmp 3), [], false⟩,
  ⟨(some 24), none, .call 16 [(.tmp 23)], [], false⟩,
  ⟨(some 25), none, .idxA 2 1 (.tmp 4) (.const (.int .i64 0)), [], false⟩,
  ⟨(some 26), none, .load false 1 (.tmp 25), [], false⟩,
  ⟨(some 27), none, .idxA 2 1 (.tmp 4) (.const (.int .i64 1)), [], false⟩,
  ⟨(some 28), none, .load false 1 (.tmp 27), [], false⟩,
  ⟨(some 29), none, .mov (.tmp 7), [], false⟩,
  ⟨(some 30), none, .call 28 [(.tmp 24), (.tmp 26), (.tmp 28), (.tmp 29)], [], false⟩,
  ⟨(some 22), none, .mov (.tmp 30), [], false⟩,
  ⟨(some 31), none, .ext (.tmp 22) 0, [], false⟩,
  ⟨(some 32), none, .ext (.tmp 22) 1, [], false⟩,
  ⟨(some 8), none, .mov (.tmp 31), [], false⟩,
  ⟨(some 9), none, .mov (.tmp 32), [], false⟩] [2, 3, 4, 7, 8, 9]
def c5_8 : SCode := .reg [⟨(some 33), none, .load true 6 (.tmp 3), [], false⟩,
  ⟨(some 34), none, .idxA 2 1 (.tmp 4) (.const (.int .i64 0)), [], false⟩,
  ⟨(some 35), none, .load false 1 (.tmp 34), [], false⟩,
  ⟨(some 36), none, .idxA 2 1 (.tmp 4) (.const (.int .i64 1)), [], false⟩,
  ⟨(some 37), none, .load false 1 (.tmp 36), [], false⟩,
  ⟨(some 38), none, .call 24 [(.tmp 33), (.tmp 35), (.tmp 37), (.const (.int .i64 0))], [], false⟩,
  ⟨(some 10), none, .mov (.tmp 38), [], false⟩] [2, 3, 4, 7, 8, 9, 10]
def c5_9 : SCode := .reg [⟨(some 39), none, .mov (.tmp 10), [], false⟩,
  ⟨(some 40), none, .bin .eql (.tmp 39) (.const (.int .i64 0)), [], false⟩,
  ⟨(some 41), none, .mov (.tmp 40), [], false⟩,
  ⟨(some 42), (some (41, true)), .mov (.tmp 2), [], false⟩,
  ⟨(some 43), (some (41, true)), .len (.tmp 42), [], false⟩,
  ⟨(some 44), (some (41, true)), .bin .gtr (.tmp 43) (.const (.int .i64 400)), [], false⟩,
  ⟨(some 45), none, .pick (.tmp 41) (.tmp 44) (.const (.bool false)), [], false⟩] [2, 3, 4, 7, 8, 9, 10, 45]
def c5_10 : SCode := .reg [⟨(some 10), none, .mov (.const (.int .i64 5)), [], false⟩] [2, 3, 4, 7, 8, 9, 10]
def c5_11 : SCode := .cond (.tmp 45) c5_10 .skip
def c5_12 : SCode := .seq c5_9 c5_11
def c5_13 : SCode := .reg [⟨(some 46), none, .mov (.tmp 7), [], false⟩,
  ⟨(some 47), none, .mov (.tmp 2), [], false⟩,
  ⟨(some 48), none, .call 29 [(.tmp 46), (.tmp 47)], [], false⟩,
  ⟨(some 49), none, .un .not (.tmp 48), [], false⟩,
  ⟨(some 50), none, .mov (.tmp 49), [], false⟩,
  ⟨(some 51), (some (50, false)), .mov (.tmp 10), [], false⟩,
  ⟨(some 52), (some (50, false)), .bin .neq (.tmp 51) (.const (.int .i64 0)), [], false⟩,
  ⟨(some 53), none, .pick (.tmp 50) (.const (.bool true)) (.tmp 52), [], false⟩] [2, 3, 4, 7, 8, 9, 10, 53]
def c5_14 : SCode := .reg [⟨(some 54), none, .mov (.tmp 7), [], false⟩,
  ⟨(some 55), none, .mov (.tmp 2), [], false⟩,
  ⟨(some 56), none, .call 29 [(.tmp 54), (.tmp 55)], [], false⟩,
  ⟨(some 57), none, .mov (.tmp 56), [], false⟩,
  ⟨(some 58), (some (57, true)), .mov (.tmp 9), [], false⟩,
  ⟨(some 59), (some (57, true)), .mov (.tmp 10), [], false⟩,
  ⟨(some 60), (some (57, true)), .bin .eql (.tmp 58) (.tmp 59), [], false⟩,
  ⟨(some 61), none, .pick (.tmp 57) (.tmp 60) (.const (.bool false)), [], false⟩,
  ⟨(some 62), none, .mov (.tmp 61), [], false⟩,
  ⟨(some 63), (some (62, true)), .mov (.tmp 8), [], false⟩,
  ⟨(some 64), (some (62, true)), .len (.tmp 63), [], false⟩,
  ⟨(some 65), (some (62, true)), .bin .eql (.tmp 64) (.const (.int .i64 0)), [], false⟩,
  ⟨(some 66), none, .pick (.tmp 62) (.tmp 65) (.const (.bool false)), [], false⟩,
  ⟨(some 67), none, .mov (.tmp 66), [], false⟩,
  ⟨(some 68), (some (67, true)), .call 15 [], [], false⟩,
  ⟨(some 69), none, .pick (.tmp 67) (.tmp 68) (.const (.bool false)), [], false⟩,
  ⟨(some 6), none, .mov (.tmp 69), [], false⟩] [6]
def c5_15 : SCode := .seq c5_14 .ret
def c5_16 : SCode := .cond (.tmp 53) c5_15 .skip
def c5_17 : SCode := .seq c5_13 c5_16
def c5_18 : SCode := .reg [⟨(some 70), none, .mov (.tmp 9), [], false⟩,
  ⟨(some 71), none, .bin .eql (.tmp 70) (.const (.int .i64 0)), [], false⟩,
  ⟨(some 72), none, .mov (.tmp 71), [], false⟩,
  ⟨(some 73), (some (72, true)), .mov (.tmp 8), [], false⟩,
  ⟨(some 74), (some (72, true)), .load true 6 (.tmp 3), [], false⟩,
  ⟨(some 75), (some (72, true)), .idxA 2 1 (.tmp 4) (.const (.int .i64 0)), [], false⟩,
  ⟨(some 76), (some (72, true)), .load false 1 (.tmp 75), [], false⟩,
  ⟨(some 77), (some (72, true)), .idxA 2 1 (.tmp 4) (.const (.int .i64 1)), [], false⟩,
  ⟨(some 78), (some (72, true)), .load false 1 (.tmp 77), [], false⟩,
  ⟨(some 79), (some (72, true)), .mov (.tmp 2), [], false⟩,
  ⟨(some 80), (some (72, true)), .call 30 [(.tmp 74), (.tmp 76), (.tmp 78), (.tmp 79)], [], false⟩,
  ⟨(some 81), (some (72, true)), .call 29 [(.tmp 73), (.tmp 80)], [], false⟩,
  ⟨(some 82), none, .pick (.tmp 72) (.tmp 81) (.const (.bool false)), [], false⟩,
  ⟨(some 83), none, .mov (.tmp 82), [], false⟩,
  ⟨(some 84), (some (83, true)), .call 15 [], [], false⟩,
  ⟨(some 85), none, .pick (.tmp 83) (.tmp 84) (.const (.bool false)), [], false⟩,
  ⟨(some 6), none, .mov (.tmp 85), [], false⟩] [6]
def c5_19 : SCode := .seq c5_18 .ret
def c5_20 : SCode := .seq c5_17 c5_19
def c5_21 : SCode := .seq c5_12 c5_20
def c5_22 : SCode := .seq c5_8 c5_21
def c5_23 : SCode := .seq c5_7 c5_22
def c5_24 : SCode := .seq c5_6 c5_23
def c5_25 : SCode := .seq c5_5 c5_24
def c5_26 : SCode := .seq c5_0 c5_25
@[simp] def rs5 : List SRes := [.tmp 6]
theorem law5 (cs : List CV) (r : CV) (hl : cs.length ≤ 86) (h : STri Try.prog 86 c5_26 (initT 0 cs) [] (retQ rs5 r)) : SC Try.prog 5 cs r :=
  sc_of Try.func5 rfl Try.ntmps5 (by kernel_rfl) (by kernel_rfl) hl h

-- turret/turretlaw06.ChimeFewests
def c6_0 : SCode := .reg [⟨(some 2), none, .box 56 (.tmp 0), [], false⟩,
  ⟨(some 4), none, .mov (.const (.bool false)), [], false⟩] [1, 2]
def c6_1 : SCode := .reg [⟨(some 13), none, .fld 1 (.tmp 2), [], false⟩,
  ⟨(some 14), none, .load false 1 (.tmp 13), [], false⟩,
  ⟨(some 15), none, .len (.tmp 14), [], false⟩,
  ⟨(some 16), none, .bin .gtr (.tmp 15) (.const (.int .i64 70)), [], false⟩] [1, 2, 16]
def c6_2 : SCode := .reg [⟨(some 17), none, .call 15 [], [], false⟩,
  ⟨(some 4), none, .mov (.tmp 17), [], false⟩] [4]
def c6_3 : SCode := .seq c6_2 .ret
def c6_4 : SCode := .cond (.tmp 16) c6_3 .skip
def c6_5 : SCode := .seq c6_1 c6_4
def c6_6 : SCode := .reg [⟨(some 18), none, .load true 2 (.tmp 2), [], false⟩,
  ⟨(some 19), none, .call 31 [(.tmp 18)], [], false⟩,
  ⟨(some 5), none, .alloc 56 [(.int .i64 0), (.slice none 0 0)], [], false⟩,
  ⟨none, none, .store 2 (.tmp 5) (.tmp 19), [], false⟩] [1, 2, 5]
def c6_7 : SCode := .reg [⟨(some 21), none, .load true 2 (.tmp 5), [], false⟩,
  ⟨(some 22), none, .mov (.tmp 1), [], false⟩,
  ⟨(some 23), none, .call 32 [(.tmp 21), (.tmp 22)], [], false⟩,
  ⟨(some 20), none, .mov (.tmp 23), [], false⟩,
  ⟨(some 24), none, .ext (.tmp 20) 0, [], false⟩,
  ⟨(some 25), none, .ext (.tmp 20) 1, [], false⟩,
  ⟨(some 26), none, .ext (.tmp 20) 2, [], false⟩,
  ⟨(some 6), none, .mov (.tmp 24), [], false⟩,
  ⟨(some 7), none, .mov (.tmp 25), [], false⟩,
  ⟨(some 8), none, .mov (.tmp 26), [], false⟩] [1, 2, 5, 6, 7, 8]
def c6_8 : SCode := .reg [⟨(some 27), none, .fld 1 (.tmp 5), [], false⟩,
  ⟨(some 28), none, .load false 1 (.tmp 27), [], false⟩,
  ⟨(some 29), none, .fld 1 (.tmp 2), [], false⟩,
  ⟨(some 30), none, .load false 1 (.tmp 29), [], false⟩,
  ⟨(some 31), none, .call 26 [(.tmp 28), (.tmp 30)], [], false⟩,
  ⟨(some 32), none, .un .not (.tmp 31), [], false⟩] [1, 2, 6, 7, 8, 32]
def c6_9 : SCode := .reg [⟨(some 4), none, .mov (.const (.bool false)), [], false⟩] [4]
def c6_10 : SCode := .seq c6_9 .ret
def c6_11 : SCode := .cond (.tmp 32) c6_10 .skip
def c6_12 : SCode := .seq c6_8 c6_11
def c6_13 : SCode := .reg [⟨(some 33), none, .load true 2 (.tmp 2), [], false⟩,
  ⟨(some 34), none, .mov (.tmp 1), [], false⟩,
  ⟨(some 35), none, .call 33 [(.tmp 33), (.tmp 34)], [], false⟩,
  ⟨(some 9), none, .mov (.tmp 35), [], false⟩] [1, 2, 6, 7, 8, 9]
def c6_14 : SCode := .reg [⟨(some 36), none, .mov (.tmp 9), [], false⟩,
  ⟨(some 37), none, .bin .neq (.tmp 36) (.const (.int .i64 0)), [], false⟩] [1, 2, 6, 7, 8, 9, 37]
def c6_15 : SCode := .reg [⟨(some 38), none, .mov (.tmp 8), [], false⟩,
  ⟨(some 39), none, .mov (.tmp 9), [], false⟩,
  ⟨(some 40), none, .bin .eql (.tmp 38) (.tmp 39), [], false⟩,
  ⟨(some 41), none, .mov (.tmp 40), [], false⟩,
  ⟨(some 42), (some (41, true)), .mov (.tmp 6), [], false⟩,
  ⟨(some 43), (some (41, true)), .len (.tmp 42), [], false⟩,
  ⟨(some 44), (some (41, true)), .mov (.tmp 7), [], false⟩,
  ⟨(some 45), (some (41, true)), .len (.tmp 44), [], false⟩,
  ⟨(some 46), (some (41, true)), .bin .add (.tmp 43) (.tmp 45), [], false⟩,
  ⟨(some 47), (some (41, true)), .bin .eql (.tmp 46) (.const (.int .i64 0)), [], false⟩,
  ⟨(some 48), none, .pick (.tmp 41) (.tmp 47) (.const (.bool false)), [], false⟩,
  ⟨(some 49), none, .mov (.tmp 48), [], false⟩,
  ⟨(some 50), (some (49, true)), .call 15 [], [], false⟩,
  ⟨(some 51), none, .pick (.tmp 49) (.tmp 50) (.const (.bool false)), [], false⟩,
  ⟨(some 4), none, .mov (.tmp 51), [], false⟩] [4]
def c6_16 : SCode := .seq c6_15 .ret
def c6_17 : SCode := .cond (.tmp 37) c6_16 .skip
def c6_18 : SCode := .seq c6_14 c6_17
def c6_19 : SCode := .seq c6_13 c6_18
def c6_20 : SCode := .reg [⟨(some 53), none, .load true 2 (.tmp 2), [], false⟩,
  ⟨(some 54), none, .mov (.tmp 1), [], false⟩,
  ⟨(some 55), none, .call 34 [(.tmp 53), (.tmp 54)], [], false⟩,
  ⟨(some 52), none, .mov (.tmp 55), [], false⟩,
  ⟨(some 56), none, .ext (.tmp 52) 0, [], false⟩,
  ⟨(some 57), none, .ext (.tmp 52) 1, [], false⟩,
  ⟨(some 10), none, .alloc 61 [(.int .i64 0), (.int .i64 0), (.int .i64 0), (.int .i64 0), (.int .i64 0), (.int .i64 0), (.int .i64 0), (.int .i64 0), (.int .i64 0), (.int .i64 0), (.int .i64 0), (.int .i64 0), (.int .i64 0), (.int .i64 0), (.int .i64 0), (.int .i64 0)], [], false⟩,
  ⟨none, none, .store 16 (.tmp 10) (.tmp 56), [], false⟩,
  ⟨(some 11), none, .mov (.tmp 57), [], false⟩] [1, 2, 6, 7, 8, 10, 11]
def c6_21 : SCode := .reg [⟨(some 12), none, .mov (.const (.int .i64 0)), [], false⟩] [1, 2, 6, 7, 8, 10, 11, 12]
def c6_22 : SCode := .reg [⟨(some 58), none, .mov (.tmp 12), [], false⟩,
  ⟨(some 59), none, .mov (.tmp 11), [], false⟩,
  ⟨(some 60), none, .len (.tmp 59), [], false⟩,
  ⟨(some 61), none, .bin .lss (.tmp 58) (.tmp 60), [], false⟩] [1, 2, 6, 7, 8, 10, 11, 12, 61]
def c6_23 : SCode := .cond (.tmp 61) .skip (.exit 0)
def c6_24 : SCode := .seq c6_22 c6_23
def c6_25 : SCode := .reg [⟨(some 64), none, .mov (.tmp 11), [], false⟩,
  ⟨(some 65), none, .mov (.tmp 12), [], false⟩,
  ⟨(some 66), none, .idxS 1 (.tmp 64) (.tmp 65), [], false⟩,
  ⟨(some 67), none, .load false 1 (.tmp 66), [], false⟩,
  ⟨(some 68), none, .load true 16 (.tmp 10), [], false⟩,
  ⟨(some 69), none, .fld 1 (.tmp 2), [], false⟩,
  ⟨(some 70), none, .load false 1 (.tmp 69), [], false⟩,
  ⟨(some 71), none, .mov (.tmp 12), [], false⟩,
  ⟨(some 72), none, .idxS 2 (.tmp 70) (.tmp 71), [], false⟩,
  ⟨(some 73), none, .fld 1 (.tmp 72), [], false⟩,
  ⟨(some 74), none, .load false 1 (.tmp 73), [], false⟩,
  ⟨(some 75), none, .call 35 [(.tmp 68), (.tmp 74)], [], false⟩,
  ⟨(some 76), none, .bin .add (.tmp 67) (.tmp 75), [], false⟩,
  ⟨(some 77), none, .idxS 1 (.tmp 64) (.tmp 65), [], false⟩,
  ⟨none, none, .store 1 (.tmp 77) (.tmp 76), [], false⟩] [1, 2, 6, 7, 8, 10, 11, 12]
def c6_26 : SCode := .block 1 c6_25
def c6_27 : SCode := .reg [⟨(some 62), none, .mov (.tmp 12), [], false⟩,
  ⟨(some 63), none, .bin .add (.tmp 62) (.const (.int .i64 1)), [], false⟩,
  ⟨(some 12), none, .mov (.tmp 63), [], false⟩] [1, 2, 6, 7, 8, 10, 11, 12]
def c6_28 : SCode := .seq c6_26 c6_27
def c6_29 : SCode := .seq c6_24 c6_28
def c6_30 : SCode := .loop c6_29
def c6_31 : SCode := .block 0 c6_30
def c6_32 : SCode := .seq c6_21 c6_31
def c6_33 : SCode := .reg [⟨(some 78), none, .mov (.tmp 8), [], false⟩,
  ⟨(some 79), none, .bin .eql (.tmp 78) (.const (.int .i64 0)), [], false⟩,
  ⟨(some 80), none, .mov (.tmp 79), [], false⟩,
  ⟨(some 81), (some (80, true)), .mov (.tmp 6), [], false⟩,
  ⟨(some 82), (some (80, true)), .load true 16 (.tmp 10), [], false⟩,
  ⟨(some 83), (some (80, true)), .mov (.tmp 1), [], false⟩,
  ⟨(some 84), (some (80, true)), .call 37 [(.tmp 82), (.tmp 83)], [], false⟩,
  ⟨(some 85), (some (80, true)), .call 36 [(.tmp 81), (.tmp 84)], [], false⟩,
  ⟨(some 86), none, .pick (.tmp 80) (.tmp 85) (.const (.bool false)), [], false⟩,
  ⟨(some 87), none, .mov (.tmp 86), [], false⟩,
  ⟨(some 88), (some (87, true)), .mov (.tmp 7), [], false⟩,
  ⟨(some 89), (some (87, true)), .mov (.tmp 11), [], false⟩,
  ⟨(some 90), (some (87, true)), .call 29 [(.tmp 88), (.tmp 89)], [], false⟩,
  ⟨(some 91), none, .pick (.tmp 87) (.tmp 90) (.const (.bool false)), [], false⟩,
  ⟨(some 92), none, .mov (.tmp 91), [], false⟩,
  ⟨(some 93), (some (92, true)), .call 15 [], [], false⟩,
  ⟨(some 94), none, .pick (.tmp 92) (.tmp 93) (.const (.bool false)), [], false⟩,
  ⟨(some 4), none, .mov (.tmp 94), [], false⟩] [4]
def c6_34 : SCode := .seq c6_33 .ret
def c6_35 : SCode := .seq c6_32 c6_34
def c6_36 : SCode := .seq c6_20 c6_35
def c6_37 : SCode := .seq c6_19 c6_36
def c6_38 : SCode := .seq c6_12 c6_37
def c6_39 : SCode := .seq c6_7 c6_38
def c6_40 : SCode := .seq c6_6 c6_39
def c6_41 : SCode := .seq c6_5 c6_40
def c6_42 : SCode := .seq c6_0 c6_41
@[simp] def rs6 : List SRes := [.tmp 4]
theorem law6 (cs : List CV) (r : CV) (hl : cs.length ≤ 95) (h : STri Try.prog 95 c6_42 (initT 0 cs) [] (retQ rs6 r)) : SC Try.prog 6 cs r :=
  sc_of Try.func6 rfl Try.ntmps6 (by kernel_rfl) (by kernel_rfl) hl h

-- turret/turretlaw06.ChimePins
def c7_0 : SCode := .reg [⟨(some 4), none, .mov (.const (.bool false)), [], false⟩] [0, 1]
def c7_1 : SCode := .reg [⟨(some 12), none, .mov (.tmp 0), [], false⟩,
  ⟨(some 13), none, .len (.tmp 12), [], false⟩,
  ⟨(some 14), none, .bin .gtr (.tmp 13) (.const (.int .i64 10)), [], false⟩] [0, 1, 14]
def c7_2 : SCode := .reg [⟨(some 15), none, .call 15 [], [], false⟩,
  ⟨(some 4), none, .mov (.tmp 15), [], false⟩] [4]
def c7_3 : SCode := .seq c7_2 .ret
def c7_4 : SCode := .cond (.tmp 14) c7_3 .skip
def c7_5 : SCode := .seq c7_1 c7_4
def c7_6 : SCode := .reg [⟨(some 16), none, .buildSl 56 2 [(.int .i64 0), (.slice none 0 0)] 0 [], [], false⟩,
  ⟨(some 5), none, .mov (.tmp 16), [], false⟩] [0, 1, 5]
def c7_7 : SCode := .reg [⟨(some 6), none, .mov (.const (.int .i64 0)), [], false⟩] [0, 1, 5, 6]
def c7_8 : SCode := .reg [⟨(some 17), none, .mov (.tmp 6), [], false⟩,
  ⟨(some 18), none, .mov (.tmp 0), [], false⟩,
  ⟨(some 19), none, .len (.tmp 18), [], false⟩,
  ⟨(some 20), none, .bin .lss (.tmp 17) (.tmp 19), [], false⟩] [0, 1, 5, 6, 20]
def c7_9 : SCode := .cond (.tmp 20) .skip (.exit 0)
def c7_10 : SCode := .seq c7_8 c7_9
def c7_11 : SCode := .reg [⟨(some 23), none, .mov (.tmp 0), [], false⟩,
  ⟨(some 24), none, .mov (.tmp 6), [], false⟩,
  ⟨(some 25), none, .idxS 2 (.tmp 23) (.tmp 24), [], false⟩,
  ⟨(some 26), none, .fld 1 (.tmp 25), [], false⟩,
  ⟨(some 27), none, .load false 1 (.tmp 26), [], false⟩,
  ⟨(some 28), none, .len (.tmp 27), [], false⟩,
  ⟨(some 29), none, .bin .gtr (.tmp 28) (.const (.int .i64 70)), [], false⟩] [0, 1, 5, 6, 29]
def c7_12 : SCode := .reg [⟨(some 30), none, .call 15 [], [], false⟩,
  ⟨(some 4), none, .mov (.tmp 30), [], false⟩] [4]
def c7_13 : SCode := .seq c7_12 .ret
def c7_14 : SCode := .cond (.tmp 29) c7_13 .skip
def c7_15 : SCode := .seq c7_11 c7_14
def c7_16 : SCode := .reg [⟨(some 31), none, .mov (.tmp 5), [], false⟩,
  ⟨(some 32), none, .mov (.tmp 0), [], false⟩,
  ⟨(some 33), none, .mov (.tmp 6), [], false⟩,
  ⟨(some 34), none, .idxS 2 (.tmp 32) (.tmp 33), [], false⟩,
  ⟨(some 35), none, .load true 2 (.tmp 34), [], false⟩,
  ⟨(some 36), none, .call 31 [(.tmp 35)], [], false⟩,
  ⟨(some 37), none, .buildSl 56 2 [(.int .i64 0), (.slice none 0 0)] 1 [(0, (.tmp 36))], [], false⟩,
  ⟨(some 38), none, .append 56 2 32 (.tmp 31) (.tmp 37), [], false⟩,
  ⟨(some 5), none, .mov (.tmp 38), [], false⟩] [0, 1, 5, 6]
def c7_17 : SCode := .seq c7_15 c7_16
def c7_18 : SCode := .block 1 c7_17
def c7_19 : SCode := .reg [⟨(some 21), none, .mov (.tmp 6), [], false⟩,
  ⟨(some 22), none, .bin .add (.tmp 21) (.const (.int .i64 1)), [], false⟩,
  ⟨(some 6), none, .mov (.tmp 22), [], false⟩] [0, 1, 5, 6]
def c7_20 : SCode := .seq c7_18 c7_19
def c7_21 : SCode := .seq c7_10 c7_20
def c7_22 : SCode := .loop c7_21
def c7_23 : SCode := .block 0 c7_22
def c7_24 : SCode := .seq c7_7 c7_23
def c7_25 : SCode := .reg [⟨(some 40), none, .mov (.tmp 5), [], false⟩,
  ⟨(some 41), none, .mov (.tmp 1), [], false⟩,
  ⟨(some 42), none, .call 38 [(.tmp 40), (.tmp 41)], [], false⟩,
  ⟨(some 39), none, .mov (.tmp 42), [], false⟩,
  ⟨(some 43), none, .ext (.tmp 39) 0, [], false⟩,
  ⟨(some 44), none, .ext (.tmp 39) 1, [], false⟩,
  ⟨(some 7), none, .alloc 26 [(.int .i64 0), (.int .i64 0), (.slice none 0 0), (.int .i64 0), (.slice none 0 0), (.slice none 0 0)], [], false⟩,
  ⟨none, none, .store 6 (.tmp 7) (.tmp 43), [], false⟩,
  ⟨(some 8), none, .mov (.tmp 44), [], false⟩] [0, 1, 5, 7, 8]
def c7_26 : SCode := .reg [⟨(some 9), none, .mov (.const (.int .i64 0)), [], false⟩] [0, 1, 5, 7, 8, 9]
def c7_27 : SCode := .reg [⟨(some 45), none, .mov (.tmp 9), [], false⟩,
  ⟨(some 46), none, .mov (.tmp 0), [], false⟩,
  ⟨(some 47), none, .len (.tmp 46), [], false⟩,
  ⟨(some 48), none, .bin .lss (.tmp 45) (.tmp 47), [], false⟩] [0, 1, 5, 7, 8, 9, 48]
def c7_28 : SCode := .cond (.tmp 48) .skip (.exit 2)
def c7_29 : SCode := .seq c7_27 c7_28
def c7_30 : SCode := .reg [⟨(some 51), none, .mov (.tmp 5), [], false⟩,
  ⟨(some 52), none, .mov (.tmp 9), [], false⟩,
  ⟨(some 53), none, .idxS 2 (.tmp 51) (.tmp 52), [], false⟩,
  ⟨(some 54), none, .fld 0 (.tmp 53), [], false⟩,
  ⟨(some 55), none, .load false 1 (.tmp 54), [], false⟩,
  ⟨(some 56), none, .mov (.tmp 0), [], false⟩,
  ⟨(some 57), none, .mov (.tmp 9), [], false⟩,
  ⟨(some 58), none, .idxS 2 (.tmp 56) (.tmp 57), [], false⟩,
  ⟨(some 59), none, .fld 0 (.tmp 58), [], false⟩,
  ⟨(some 60), none, .load false 1 (.tmp 59), [], false⟩,
  ⟨(some 61), none, .bin .neq (.tmp 55) (.tmp 60), [], false⟩,
  ⟨(some 62), none, .mov (.tmp 61), [], false⟩,
  ⟨(some 63), (some (62, false)), .mov (.tmp 5), [], false⟩,
  ⟨(some 64), (some (62, false)), .mov (.tmp 9), [], false⟩,
  ⟨(some 65), (some (62, false)), .idxS 2 (.tmp 63) (.tmp 64), [], false⟩,
  ⟨(some 66), (some (62, false)), .fld 1 (.tmp 65), [], false⟩,
  ⟨(some 67), (some (62, false)), .load false 1 (.tmp 66), [], false⟩,
  ⟨(some 68), (some (62, false)), .mov (.tmp 0), [], false⟩,
  ⟨(some 69), (some (62, false)), .mov (.tmp 9), [], false⟩,
  ⟨(some 70), (some (62, false)), .idxS 2 (.tmp 68) (.tmp 69), [], false⟩,
  ⟨(some 71), (some (62, false)), .fld 1 (.tmp 70), [], false⟩,
  ⟨(some 72), (some (62, false)), .load false 1 (.tmp 71), [], false⟩,
  ⟨(some 73), (some (62, false)), .call 26 [(.tmp 67), (.tmp 72)], [], false⟩,
  ⟨(some 74), (some (62, false)), .un .not (.tmp 73), [], false⟩,
  ⟨(some 75), none, .pick (.tmp 62) (.const (.bool true)) (.tmp 74), [], false⟩] [0, 1, 5, 7, 8, 9, 75]
def c7_31 : SCode := .reg [⟨(some 4), none, .mov (.const (.bool false)), [], false⟩] [4]
def c7_32 : SCode := .seq c7_31 .ret
def c7_33 : SCode := .cond (.tmp 75) c7_32 .skip
def c7_34 : SCode := .seq c7_30 c7_33
def c7_35 : SCode := .block 3 c7_34
def c7_36 : SCode := .reg [⟨(some 49), none, .mov (.tmp 9), [], false⟩,
  ⟨(some 50), none, .bin .add (.tmp 49) (.const (.int .i64 1)), [], false⟩,
  ⟨(some 9), none, .mov (.tmp 50), [], false⟩] [0, 1, 5, 7, 8, 9]
def c7_37 : SCode := .seq c7_35 c7_36
def c7_38 : SCode := .seq c7_29 c7_37
def c7_39 : SCode := .loop c7_38
def c7_40 : SCode := .block 2 c7_39
def c7_41 : SCode := .seq c7_26 c7_40
def c7_42 : SCode := .reg [⟨(some 77), none, .mov (.tmp 0), [], false⟩,
  ⟨(some 78), none, .mov (.tmp 1), [], false⟩,
  ⟨(some 79), none, .call 39 [(.tmp 77), (.tmp 78)], [], false⟩,
  ⟨(some 76), none, .mov (.tmp 79), [], false⟩,
  ⟨(some 80), none, .ext (.tmp 76) 0, [], false⟩,
  ⟨(some 81), none, .ext (.tmp 76) 1, [], false⟩,
  ⟨(some 10), none, .alloc 26 [(.int .i64 0), (.int .i64 0), (.slice none 0 0), (.int .i64 0), (.slice none 0 0), (.slice none 0 0)], [], false⟩,
  ⟨none, none, .store 6 (.tmp 10) (.tmp 80), [], false⟩,
  ⟨(some 11), none, .mov (.tmp 81), [], false⟩] [7, 8, 10, 11]
def c7_43 : SCode := .reg [⟨(some 82), none, .mov (.tmp 8), [], false⟩,
  ⟨(some 83), none, .mov (.tmp 11), [], false⟩,
  ⟨(some 84), none, .bin .eql (.tmp 82) (.tmp 83), [], false⟩,
  ⟨(some 85), none, .mov (.tmp 84), [], false⟩,
  ⟨(some 86), (some (85, true)), .load true 6 (.tmp 7), [], false⟩,
  ⟨(some 87), (some (85, true)), .load true 6 (.tmp 10), [], false⟩,
  ⟨(some 88), (some (85, true)), .call 19 [(.tmp 86), (.tmp 87)], [], false⟩,
  ⟨(some 89), none, .pick (.tmp 85) (.tmp 88) (.const (.bool false)), [], false⟩,
  ⟨(some 90), none, .mov (.tmp 89), [], false⟩,
  ⟨(some 91), (some (90, true)), .call 15 [], [], false⟩,
  ⟨(some 92), none, .pick (.tmp 90) (.tmp 91) (.const (.bool false)), [], false⟩,
  ⟨(some 4), none, .mov (.tmp 92), [], false⟩] [4]
def c7_44 : SCode := .seq c7_43 .ret
def c7_45 : SCode := .seq c7_42 c7_44
def c7_46 : SCode := .seq c7_41 c7_45
def c7_47 : SCode := .seq c7_25 c7_46
def c7_48 : SCode := .seq c7_24 c7_47
def c7_49 : SCode := .seq c7_6 c7_48
def c7_50 : SCode := .seq c7_5 c7_49
def c7_51 : SCode := .seq c7_0 c7_50
@[simp] def rs7 : List SRes := [.tmp 4]
theorem law7 (cs : List CV) (r : CV) (hl : cs.length ≤ 93) (h : STri Try.prog 93 c7_51 (initT 0 cs) [] (retQ rs7 r)) : SC Try.prog 7 cs r :=
  sc_of Try.func7 rfl Try.ntmps7 (by kernel_rfl) (by kernel_rfl) hl h

-- turret/turretlaw06.ChimeMeets
def c8_0 : SCode := .reg [⟨(some 4), none, .mov (.const (.bool false)), [], false⟩] [0, 1]
def c8_1 : SCode := .reg [⟨(some 11), none, .mov (.tmp 0), [], false⟩,
  ⟨(some 12), none, .len (.tmp 11), [], false⟩,
  ⟨(some 13), none, .bin .gtr (.tmp 12) (.const (.int .i64 10)), [], false⟩] [0, 1, 13]
def c8_2 : SCode := .reg [⟨(some 14), none, .call 15 [], [], false⟩,
  ⟨(some 4), none, .mov (.tmp 14), [], false⟩] [4]
def c8_3 : SCode := .seq c8_2 .ret
def c8_4 : SCode := .cond (.tmp 13) c8_3 .skip
def c8_5 : SCode := .seq c8_1 c8_4
def c8_6 : SCode := .reg [⟨(some 15), none, .buildSl 80 3 [(.int .i64 0), (.int .i64 0), (.int .i64 0)] 0 [], [], false⟩,
  ⟨(some 16), none, .mov (.tmp 0), [], false⟩,
  ⟨(some 17), none, .append 80 3 24 (.tmp 15) (.tmp 16), [], false⟩,
  ⟨(some 5), none, .mov (.tmp 17), [], false⟩] [0, 1, 5]
def c8_7 : SCode := .reg [⟨(some 19), none, .mov (.tmp 5), [], false⟩,
  ⟨(some 20), none, .mov (.tmp 1), [], false⟩,
  ⟨(some 21), none, .call 40 [(.tmp 19), (.tmp 20)], [], false⟩,
  ⟨(some 18), none, .mov (.tmp 21), [], false⟩,
  ⟨(some 22), none, .ext (.tmp 18) 0, [], false⟩,
  ⟨(some 23), none, .ext (.tmp 18) 1, [], false⟩,
  ⟨(some 6), none, .mov (.tmp 22), [], false⟩,
  ⟨(some 7), none, .mov (.tmp 23), [], false⟩] [0, 1, 5, 6, 7]
def c8_8 : SCode := .reg [⟨(some 8), none, .mov (.const (.int .i64 0)), [], false⟩] [0, 1, 5, 6, 7, 8]
def c8_9 : SCode := .reg [⟨(some 24), none, .mov (.tmp 8), [], false⟩,
  ⟨(some 25), none, .mov (.tmp 0), [], false⟩,
  ⟨(some 26), none, .len (.tmp 25), [], false⟩,
  ⟨(some 27), none, .bin .lss (.tmp 24) (.tmp 26), [], false⟩] [0, 1, 5, 6, 7, 8, 27]
def c8_10 : SCode := .cond (.tmp 27) .skip (.exit 0)
def c8_11 : SCode := .seq c8_9 c8_10
def c8_12 : SCode := .reg [⟨(some 30), none, .mov (.tmp 5), [], false⟩,
  ⟨(some 31), none, .mov (.tmp 8), [], false⟩,
  ⟨(some 32), none, .idxS 3 (.tmp 30) (.tmp 31), [], false⟩,
  ⟨(some 33), none, .load true 3 (.tmp 32), [], false⟩,
  ⟨(some 34), none, .mov (.tmp 0), [], false⟩,
  ⟨(some 35), none, .mov (.tmp 8), [], false⟩,
  ⟨(some 36), none, .idxS 3 (.tmp 34) (.tmp 35), [], false⟩,
  ⟨(some 37), none, .load true 3 (.tmp 36), [], false⟩,
  ⟨(some 38), none, .eqC true [true, true, true] (.tmp 33) (.tmp 37), [], false⟩] [0, 1, 5, 6, 7, 8, 38]
def c8_13 : SCode := .reg [⟨(some 4), none, .mov (.const (.bool false)), [], false⟩] [4]
def c8_14 : SCode := .seq c8_13 .ret
def c8_15 : SCode := .cond (.tmp 38) c8_14 .skip
def c8_16 : SCode := .seq c8_12 c8_15
def c8_17 : SCode := .block 1 c8_16
def c8_18 : SCode := .reg [⟨(some 28), none, .mov (.tmp 8), [], false⟩,
  ⟨(some 29), none, .bin .add (.tmp 28) (.const (.int .i64 1)), [], false⟩,
  ⟨(some 8), none, .mov (.tmp 29), [], false⟩] [0, 1, 5, 6, 7, 8]
def c8_19 : SCode := .seq c8_17 c8_18
def c8_20 : SCode := .seq c8_11 c8_19
def c8_21 : SCode := .loop c8_20
def c8_22 : SCode := .block 0 c8_21
def c8_23 : SCode := .seq c8_8 c8_22
def c8_24 : SCode := .reg [⟨(some 40), none, .mov (.tmp 0), [], false⟩,
  ⟨(some 41), none, .mov (.tmp 1), [], false⟩,
  ⟨(some 42), none, .call 41 [(.tmp 40), (.tmp 41)], [], false⟩,
  ⟨(some 39), none, .mov (.tmp 42), [], false⟩,
  ⟨(some 43), none, .ext (.tmp 39) 0, [], false⟩,
  ⟨(some 44), none, .ext (.tmp 39) 1, [], false⟩,
  ⟨(some 9), none, .mov (.tmp 43), [], false⟩,
  ⟨(some 10), none, .mov (.tmp 44), [], false⟩] [6, 7, 9, 10]
def c8_25 : SCode := .reg [⟨(some 45), none, .mov (.tmp 6), [], false⟩,
  ⟨(some 46), none, .mov (.tmp 9), [], false⟩,
  ⟨(some 47), none, .bin .eql (.tmp 45) (.tmp 46), [], false⟩,
  ⟨(some 48), none, .mov (.tmp 47), [], false⟩,
  ⟨(some 49), (some (48, true)), .mov (.tmp 7), [], false⟩,
  ⟨(some 50), (some (48, true)), .mov (.tmp 10), [], false⟩,
  ⟨(some 51), (some (48, true)), .bin .eql (.tmp 49) (.tmp 50), [], false⟩,
  ⟨(some 52), none, .pick (.tmp 48) (.tmp 51) (.const (.bool false)), [], false⟩,
  ⟨(some 53), none, .mov (.tmp 52), [], false⟩,
  ⟨(some 54), (some (53, true)), .call 15 [], [], false⟩,
  ⟨(some 55), none, .pick (.tmp 53) (.tmp 54) (.const (.bool false)), [], false⟩,
  ⟨(some 4), none, .mov (.tmp 55), [], false⟩] [4]
def c8_26 : SCode := .seq c8_25 .ret
def c8_27 : SCode := .seq c8_24 c8_26
def c8_28 : SCode := .seq c8_23 c8_27
def c8_29 : SCode := .seq c8_7 c8_28
def c8_30 : SCode := .seq c8_6 c8_29
def c8_31 : SCode := .seq c8_5 c8_30
def c8_32 : SCode := .seq c8_0 c8_31
@[simp] def rs8 : List SRes := [.tmp 4]
theorem law8 (cs : List CV) (r : CV) (hl : cs.length ≤ 56) (h : STri Try.prog 56 c8_32 (initT 0 cs) [] (retQ rs8 r)) : SC Try.prog 8 cs r :=
  sc_of Try.func8 rfl Try.ntmps8 (by kernel_rfl) (by kernel_rfl) hl h

-- turret/turretlaw06.large
def c14_0 : SCode := .reg [⟨(some 1), none, .box 26 (.tmp 0), [], false⟩,
  ⟨(some 2), none, .mov (.const (.bool false)), [], false⟩] [1]
def c14_1 : SCode := .reg [⟨(some 3), none, .fld 2 (.tmp 1), [], false⟩,
  ⟨(some 4), none, .load false 1 (.tmp 3), [], false⟩,
  ⟨(some 5), none, .len (.tmp 4), [], false⟩,
  ⟨(some 6), none, .bin .gtr (.tmp 5) (.const (.int .i64 10)), [], false⟩,
  ⟨(some 7), none, .mov (.tmp 6), [], false⟩,
  ⟨(some 8), (some (7, false)), .fld 4 (.tmp 1), [], false⟩,
  ⟨(some 9), (some (7, false)), .load false 1 (.tmp 8), [], false⟩,
  ⟨(some 10), (some (7, false)), .len (.tmp 9), [], false⟩,
  ⟨(some 11), (some (7, false)), .bin .gtr (.tmp 10) (.const (.int .i64 45)), [], false⟩,
  ⟨(some 12), none, .pick (.tmp 7) (.const (.bool true)) (.tmp 11), [], false⟩,
  ⟨(some 13), none, .mov (.tmp 12), [], false⟩,
  ⟨(some 14), (some (13, false)), .fld 5 (.tmp 1), [], false⟩,
  ⟨(some 15), (some (13, false)), .load false 1 (.tmp 14), [], false⟩,
  ⟨(some 16), (some (13, false)), .len (.tmp 15), [], false⟩,
  ⟨(some 17), (some (13, false)), .bin .gtr (.tmp 16) (.const (.int .i64 60)), [], false⟩,
  ⟨(some 18), (some (13, false)), .mov (.tmp 17), [], false⟩,
  ⟨(some 19), (some (18, true)), .fld 5 (.tmp 1), [], false⟩,
  ⟨(some 20), (some (18, true)), .load false 1 (.tmp 19), [], false⟩,
  ⟨(some 21), (some (18, true)), .len (.tmp 20), [], false⟩,
  ⟨(some 22), (some (18, true)), .bin .leq (.tmp 21) (.const (.int .i64 400)), [], false⟩,
  ⟨(some 23), (some (13, false)), .pick (.tmp 18) (.tmp 22) (.const (.bool false)), [], false⟩,
  ⟨(some 24), none, .pick (.tmp 13) (.const (.bool true)) (.tmp 23), [], false⟩,
  ⟨(some 25), none, .mov (.tmp 24), [], false⟩,
  ⟨(some 26), (some (25, false)), .fld 5 (.tmp 1), [], false⟩,
  ⟨(some 27), (some (25, false)), .load false 1 (.tmp 26), [], false⟩,
  ⟨(some 28), (some (25, false)), .len (.tmp 27), [], false⟩,
  ⟨(some 29), (some (25, false)), .bin .gtr (.tmp 28) (.const (.int .i64 410)), [], false⟩,
  ⟨(some 30), none, .pick (.tmp 25) (.const (.bool true)) (.tmp 29), [], false⟩,
  ⟨(some 31), none, .mov (.tmp 30), [], false⟩,
  ⟨(some 32), (some (31, false)), .load true 6 (.tmp 1), [], false⟩,
  ⟨(some 33), (some (31, false)), .call 20 [(.tmp 32)], [], false⟩,
  ⟨(some 34), (some (31, false)), .mov (.tmp 33), [], false⟩,
  ⟨(some 35), (some (34, true)), .fld 0 (.tmp 1), [], false⟩,
  ⟨(some 36), (some (34, true)), .load false 1 (.tmp 35), [], false⟩,
  ⟨(some 37), (some (34, true)), .bin .gtr (.tmp 36) (.const (.int .i64 200)), [], false⟩,
  ⟨(some 38), (some (31, false)), .pick (.tmp 34) (.tmp 37) (.const (.bool false)), [], false⟩,
  ⟨(some 39), none, .pick (.tmp 31) (.const (.bool true)) (.tmp 38), [], false⟩,
  ⟨(some 2), none, .mov (.tmp 39), [], false⟩] [2]
def c14_2 : SCode := .seq c14_1 .ret
def c14_3 : SCode := .seq c14_0 c14_2
@[simp] def rs14 : List SRes := [.tmp 2]
theorem law14 (cs : List CV) (r : CV) (hl : cs.length ≤ 40) (h : STri Try.prog 40 c14_3 (initT 0 cs) [] (retQ rs14 r)) : SC Try.prog 14 cs r :=
  sc_of Try.func14 rfl Try.ntmps14 (by kernel_rfl) (by kernel_rfl) hl h

-- turret/turretlaw06.known
def c15_0 : SCode := .reg [⟨(some 0), none, .mov (.const (.bool false)), [], false⟩] []
def c15_1 : SCode := .reg [⟨(some 18), none, .call 45 [], [], false⟩,
  ⟨(some 19), none, .call 18 [(.tmp 18)], [], false⟩,
  ⟨(some 17), none, .mov (.tmp 19), [], false⟩,
  ⟨(some 20), none, .ext (.tmp 17) 0, [], false⟩,
  ⟨(some 21), none, .ext (.tmp 17) 1, [], false⟩,
  ⟨(some 1), none, .mov (.tmp 20), [], false⟩,
  ⟨(some 2), none, .mov (.tmp 21), [], false⟩] [1, 2]
def c15_2 : SCode := .reg [⟨(some 23), none, .call 45 [], [], false⟩,
  ⟨(some 24), none, .call 22 [(.tmp 23), (.const (.int .i64 0)), (.const (.int .i64 0)), (.const (.int .i64 0))], [], false⟩,
  ⟨(some 22), none, .mov (.tmp 24), [], false⟩,
  ⟨(some 25), none, .ext (.tmp 22) 0, [], false⟩,
  ⟨(some 26), none, .ext (.tmp 22) 1, [], false⟩,
  ⟨(some 3), none, .mov (.tmp 25), [], false⟩,
  ⟨(some 4), none, .mov (.tmp 26), [], false⟩] [1, 2, 3, 4]
def c15_3 : SCode := .reg [⟨(some 28), none, .call 45 [], [], false⟩,
  ⟨(some 29), none, .buildSl 3 1 [(.int .i64 0)] 4 [(0, (.const (.int .i64 0))), (1, (.const (.int .i64 1))), (2, (.const (.int .i64 2))), (3, (.const (.int .i64 0)))], [], false⟩,
  ⟨(some 30), none, .call 28 [(.tmp 28), (.const (.int .i64 0)), (.const (.int .i64 0)), (.tmp 29)], [], false⟩,
  ⟨(some 27), none, .mov (.tmp 30), [], false⟩,
  ⟨(some 31), none, .ext (.tmp 27) 0, [], false⟩,
  ⟨(some 32), none, .ext (.tmp 27) 1, [], false⟩,
  ⟨(some 5), none, .mov (.tmp 31), [], false⟩,
  ⟨(some 6), none, .mov (.tmp 32), [], false⟩] [1, 2, 3, 4, 5, 6]
def c15_4 : SCode := .reg [⟨(some 34), none, .call 45 [], [], false⟩,
  ⟨(some 35), none, .call 23 [(.tmp 34), (.const (.int .i64 0)), (.const (.int .i64 2)), (.const (.int .i64 1))], [], false⟩,
  ⟨(some 33), none, .mov (.tmp 35), [], false⟩,
  ⟨(some 36), none, .ext (.tmp 33) 0, [], false⟩,
  ⟨(some 37), none, .ext (.tmp 33) 1, [], false⟩,
  ⟨(some 38), none, .ext (.tmp 33) 2, [], false⟩,
  ⟨(some 7), none, .mov (.tmp 36), [], false⟩,
  ⟨(some 8), none, .mov (.tmp 37), [], false⟩,
  ⟨(some 9), none, .mov (.tmp 38), [], false⟩] [1, 2, 3, 4, 5, 6, 7, 8, 9]
def c15_5 : SCode := .reg [⟨(some 40), none, .call 46 [], [], false⟩,
  ⟨(some 41), none, .call 32 [(.tmp 40), (.const (.int .i64 3))], [], false⟩,
  ⟨(some 39), none, .mov (.tmp 41), [], false⟩,
  ⟨(some 42), none, .ext (.tmp 39) 0, [], false⟩,
  ⟨(some 43), none, .ext (.tmp 39) 1, [], false⟩,
  ⟨(some 44), none, .ext (.tmp 39) 2, [], false⟩,
  ⟨(some 10), none, .mov (.tmp 42), [], false⟩,
  ⟨(some 11), none, .mov (.tmp 43), [], false⟩,
  ⟨(some 12), none, .mov (.tmp 44), [], false⟩] [1, 2, 3, 4, 5, 6, 7, 8, 9, 10, 11, 12]
def c15_6 : SCode := .reg [⟨(some 46), none, .call 46 [], [], false⟩,
  ⟨(some 47), none, .call 46 [], [], false⟩,
  ⟨(some 48), none, .buildSl 56 2 [(.int .i64 0), (.slice none 0 0)] 2 [(0, (.tmp 46)), (1, (.tmp 47))], [], false⟩,
  ⟨(some 49), none, .call 38 [(.tmp 48), (.const (.int .i64 3))], [], false⟩,
  ⟨(some 45), none, .mov (.tmp 49), [], false⟩,
  ⟨(some 50), none, .ext (.tmp 45) 0, [], false⟩,
  ⟨(some 51), none, .ext (.tmp 45) 1, [], false⟩,
  ⟨(some 13), none, .alloc 26 [(.int .i64 0), (.int .i64 0), (.slice none 0 0), (.int .i64 0), (.slice none 0 0), (.slice none 0 0)], [], false⟩,
  ⟨none, none, .store 6 (.tmp 13) (.tmp 50), [], false⟩,
  ⟨(some 14), none, .mov (.tmp 51), [], false⟩] [1, 2, 3, 4, 5, 6, 7, 8, 9, 10, 11, 12, 13, 14]
def c15_7 : SCode := .reg [⟨(some 53), none, .build [(.int .i64 0), (.int .i64 0)] [(0, 1, (.const (.int .i64 0))), (1, 1, (.const (.int .i64 1)))], [], false⟩,
  ⟨(some 54), none, .build [(.int .i64 0), (.int .i64 0), (.int .i64 0)] [(0, 1, (.const (.int .i64 4))), (1, 2, (.tmp 53))], [], false⟩,
  ⟨(some 55), none, .build [(.int .i64 0), (.int .i64 0)] [(0, 1, (.const (.int .i64 3))), (1, 1, (.const (.int .i64 3)))], [], false⟩,
  ⟨(some 56), none, .build [(.int .i64 0), (.int .i64 0), (.int .i64 0)] [(0, 1, (.const (.int .i64 6))), (1, 2, (.tmp 55))], [], false⟩,
  ⟨(some 57), none, .buildSl 80 3 [(.int .i64 0), (.int .i64 0), (.int .i64 0)] 2 [(0, (.tmp 54)), (1, (.tmp 56))], [], false⟩,
  ⟨(some 58), none, .call 40 [(.tmp 57), (.const (.int .i64 0))], [], false⟩,
  ⟨(some 52), none, .mov (.tmp 58), [], false⟩,
  ⟨(some 59), none, .ext (.tmp 52) 0, [], false⟩,
  ⟨(some 60), none, .ext (.tmp 52) 1, [], false⟩,
  ⟨(some 15), none, .mov (.tmp 59), [], false⟩,
  ⟨(some 16), none, .mov (.tmp 60), [], false⟩] [1, 2, 3, 4, 5, 6, 7, 8, 9, 10, 11, 12, 13, 14, 15, 16]
def c15_8 : SCode := .reg [⟨(some 61), none, .mov (.tmp 2), [], false⟩,
  ⟨(some 62), none, .bin .neq (.tmp 61) (.const (.int .i64 0)), [], false⟩,
  ⟨(some 63), none, .mov (.tmp 62), [], false⟩,
  ⟨(some 64), (some (63, false)), .mov (.tmp 4), [], false⟩,
  ⟨(some 65), (some (63, false)), .bin .neq (.tmp 64) (.const (.int .i64 0)), [], false⟩,
  ⟨(some 66), none, .pick (.tmp 63) (.const (.bool true)) (.tmp 65), [], false⟩,
  ⟨(some 67), none, .mov (.tmp 66), [], false⟩,
  ⟨(some 68), (some (67, false)), .mov (.tmp 6), [], false⟩,
  ⟨(some 69), (some (67, false)), .bin .neq (.tmp 68) (.const (.int .i64 0)), [], false⟩,
  ⟨(some 70), none, .pick (.tmp 67) (.const (.bool true)) (.tmp 69), [], false⟩,
  ⟨(some 71), none, .mov (.tmp 70), [], false⟩,
  ⟨(some 72), (some (71, false)), .mov (.tmp 9), [], false⟩,
  ⟨(some 73), (some (71, false)), .bin .neq (.tmp 72) (.const (.int .i64 0)), [], false⟩,
  ⟨(some 74), none, .pick (.tmp 71) (.const (.bool true)) (.tmp 73), [], false⟩,
  ⟨(some 75), none, .mov (.tmp 74), [], false⟩,
  ⟨(some 76), (some (75, false)), .mov (.tmp 12), [], false⟩,
  ⟨(some 77), (some (75, false)), .bin .neq (.tmp 76) (.const (.int .i64 0)), [], false⟩,
  ⟨(some 78), none, .pick (.tmp 75) (.const (.bool true)) (.tmp 77), [], false⟩,
  ⟨(some 79), none, .mov (.tmp 78), [], false⟩,
  ⟨(some 80), (some (79, false)), .mov (.tmp 14), [], false⟩,
  ⟨(some 81), (some (79, false)), .bin .neq (.tmp 80) (.const (.int .i64 0)), [], false⟩,
  ⟨(some 82), none, .pick (.tmp 79) (.const (.bool true)) (.tmp 81), [], false⟩,
  ⟨(some 83), none, .mov (.tmp 82), [], false⟩,
  ⟨(some 84), (some (83, false)), .mov (.tmp 16), [], false⟩,
  ⟨(some 85), (some (83, false)), .bin .neq (.tmp 84) (.const (.int .i64 0)), [], false⟩,
  ⟨(some 86), none, .pick (.tmp 83) (.const (.bool true)) (.tmp 85), [], false⟩,
  ⟨(some 87), none, .mov (.tmp 86), [], false⟩,
  ⟨(some 88), (some (87, false)), .mov (.tmp 1), [], false⟩,
  ⟨(some 89), (some (87, false)), .len (.tmp 88), [], false⟩,
  ⟨(some 90), (some (87, false)), .bin .lss (.tmp 89) (.const (.int .i64 2)), [], false⟩,
  ⟨(some 91), none, .pick (.tmp 87) (.const (.bool true)) (.tmp 90), [], false⟩,
  ⟨(some 92), none, .mov (.tmp 91), [], false⟩,
  ⟨(some 93), (some (92, false)), .mov (.tmp 3), [], false⟩,
  ⟨(some 94), (some (92, false)), .len (.tmp 93), [], false⟩,
  ⟨(some 95), (some (92, false)), .bin .neq (.tmp 94) (.const (.int .i64 4)), [], false⟩,
  ⟨(some 96), none, .pick (.tmp 92) (.const (.bool true)) (.tmp 95), [], false⟩,
  ⟨(some 97), none, .mov (.tmp 96), [], false⟩,
  ⟨(some 98), (some (97, false)), .mov (.tmp 5), [], false⟩,
  ⟨(some 99), (some (97, false)), .len (.tmp 98), [], false⟩,
  ⟨(some 100), (some (97, false)), .bin .neq (.tmp 99) (.const (.int .i64 2)), [], false⟩,
  ⟨(some 101), none, .pick (.tmp 97) (.const (.bool true)) (.tmp 100), [], false⟩,
  ⟨(some 102), none, .mov (.tmp 101), [], false⟩,
  ⟨(some 103), (some (102, false)), .mov (.tmp 10), [], false⟩,
  ⟨(some 104), (some (102, false)), .len (.tmp 103), [], false⟩,
  ⟨(some 105), (some (102, false)), .bin .neq (.tmp 104) (.const (.int .i64 3)), [], false⟩,
  ⟨(some 106), none, .pick (.tmp 102) (.const (.bool true)) (.tmp 105), [], false⟩,
  ⟨(some 107), none, .mov (.tmp 106), [], false⟩,
  ⟨(some 108), (some (107, false)), .mov (.tmp 11), [], false⟩,
  ⟨(some 109), (some (107, false)), .len (.tmp 108), [], false⟩,
  ⟨(some 110), (some (107, false)), .bin .neq (.tmp 109) (.const (.int .i64 5)), [], false⟩,
  ⟨(some 111), none, .pick (.tmp 107) (.const (.bool true)) (.tmp 110), [], false⟩,
  ⟨(some 112), none, .mov (.tmp 111), [], false⟩,
  ⟨(some 113), (some (112, false)), .fld 5 (.tmp 13), [], false⟩,
  ⟨(some 114), (some (112, false)), .load false 1 (.tmp 113), [], false⟩,
  ⟨(some 115), (some (112, false)), .len (.tmp 114), [], false⟩,
  ⟨(some 116), (some (112, false)), .bin .neq (.tmp 115) (.const (.int .i64 10)), [], false⟩,
  ⟨(some 117), none, .pick (.tmp 112) (.const (.bool true)) (.tmp 116), [], false⟩] [1, 3, 5, 7, 8, 11, 13, 15, 117]
def c15_9 : SCode := .reg [⟨(some 0), none, .mov (.const (.bool false)), [], false⟩] [0]
def c15_10 : SCode := .seq c15_9 .ret
def c15_11 : SCode := .cond (.tmp 117) c15_10 .skip
def c15_12 : SCode := .seq c15_8 c15_11
def c15_13 : SCode := .reg [⟨(some 118), none, .mov (.tmp 1), [], false⟩,
  ⟨(some 119), none, .idxS 2 (.tmp 118) (.const (.int .i64 0)), [], false⟩,
  ⟨(some 120), none, .load true 2 (.tmp 119), [], false⟩,
  ⟨(some 121), none, .build [(.int .i64 0), (.int .i64 0)] [(0, 1, (.const (.int .i64 0))), (1, 1, (.const (.int .i64 19)))], [], false⟩,
  ⟨(some 122), none, .eqC false [true, true] (.tmp 120) (.tmp 121), [], false⟩,
  ⟨(some 123), none, .mov (.tmp 122), [], false⟩,
  ⟨(some 124), (some (123, true)), .mov (.tmp 3), [], false⟩,
  ⟨(some 125), (some (123, true)), .idxS 2 (.tmp 124) (.const (.int .i64 3)), [], false⟩,
  ⟨(some 126), (some (123, true)), .load true 2 (.tmp 125), [], false⟩,
  ⟨(some 127), (some (123, true)), .build [(.int .i64 0), (.int .i64 0)] [(0, 1, (.const (.int .i64 3))), (1, 1, (.const (.int .i64 0)))], [], false⟩,
  ⟨(some 128), (some (123, true)), .eqC false [true, true] (.tmp 126) (.tmp 127), [], false⟩,
  ⟨(some 129), none, .pick (.tmp 123) (.tmp 128) (.const (.bool false)), [], false⟩,
  ⟨(some 130), none, .mov (.tmp 129), [], false⟩,
  ⟨(some 131), (some (130, true)), .mov (.tmp 5), [], false⟩,
  ⟨(some 132), (some (130, true)), .idxS 1 (.tmp 131) (.const (.int .i64 1)), [], false⟩,
  ⟨(some 133), (some (130, true)), .load false 1 (.tmp 132), [], false⟩,
  ⟨(some 134), (some (130, true)), .bin .eql (.tmp 133) (.const (.int .i64 4)), [], false⟩,
  ⟨(some 135), none, .pick (.tmp 130) (.tmp 134) (.const (.bool false)), [], false⟩,
  ⟨(some 136), none, .mov (.tmp 135), [], false⟩,
  ⟨(some 137), (some (136, true)), .mov (.tmp 7), [], false⟩,
  ⟨(some 138), (some (136, true)), .bin .eql (.tmp 137) (.const (.int .i64 2)), [], false⟩,
  ⟨(some 139), none, .pick (.tmp 136) (.tmp 138) (.const (.bool false)), [], false⟩,
  ⟨(some 140), none, .mov (.tmp 139), [], false⟩,
  ⟨(some 141), (some (140, true)), .mov (.tmp 8), [], false⟩,
  ⟨(some 142), (some (140, true)), .bin .eql (.tmp 141) (.const (.int .i64 8)), [], false⟩,
  ⟨(some 143), none, .pick (.tmp 140) (.tmp 142) (.const (.bool false)), [], false⟩,
  ⟨(some 144), none, .mov (.tmp 143), [], false⟩,
  ⟨(some 145), (some (144, true)), .mov (.tmp 11), [], false⟩,
  ⟨(some 146), (some (144, true)), .idxS 1 (.tmp 145) (.const (.int .i64 3)), [], false⟩,
  ⟨(some 147), (some (144, true)), .load false 1 (.tmp 146), [], false⟩,
  ⟨(some 148), (some (144, true)), .bin .eql (.tmp 147) (.const (.int .i64 1)), [], false⟩,
  ⟨(some 149), none, .pick (.tmp 144) (.tmp 148) (.const (.bool false)), [], false⟩,
  ⟨(some 150), none, .mov (.tmp 149), [], false⟩,
  ⟨(some 151), (some (150, true)), .mov (.tmp 11), [], false⟩,
  ⟨(some 152), (some (150, true)), .idxS 1 (.tmp 151) (.const (.int .i64 4)), [], false⟩,
  ⟨(some 153), (some (150, true)), .load false 1 (.tmp 152), [], false⟩,
  ⟨(some 154), (some (150, true)), .bin .eql (.tmp 153) (.const (.int .i64 2)), [], false⟩,
  ⟨(some 155), none, .pick (.tmp 150) (.tmp 154) (.const (.bool false)), [], false⟩,
  ⟨(some 156), none, .mov (.tmp 155), [], false⟩,
  ⟨(some 157), (some (156, true)), .fld 5 (.tmp 13), [], false⟩,
  ⟨(some 158), (some (156, true)), .load false 1 (.tmp 157), [], false⟩,
  ⟨(some 159), (some (156, true)), .idxS 2 (.tmp 158) (.const (.int .i64 9)), [], false⟩,
  ⟨(some 160), (some (156, true)), .load true 2 (.tmp 159), [], false⟩,
  ⟨(some 161), (some (156, true)), .build [(.int .i64 0), (.int .i64 0)] [(0, 1, (.const (.int .i64 5))), (1, 1, (.const (.int .i64 8)))], [], false⟩,
  ⟨(some 162), (some (156, true)), .eqC false [true, true] (.tmp 160) (.tmp 161), [], false⟩,
  ⟨(some 163), none, .pick (.tmp 156) (.tmp 162) (.const (.bool false)), [], false⟩,
  ⟨(some 164), none, .mov (.tmp 163), [], false⟩,
  ⟨(some 165), (some (164, true)), .mov (.tmp 15), [], false⟩,
  ⟨(some 166), (some (164, true)), .bin .eql (.tmp 165) (.const (.int .i64 9)), [], false⟩,
  ⟨(some 167), none, .pick (.tmp 164) (.tmp 166) (.const (.bool false)), [], false⟩,
  ⟨(some 0), none, .mov (.tmp 167), [], false⟩] [0]
def c15_14 : SCode := .seq c15_13 .ret
def c15_15 : SCode := .seq c15_12 c15_14
def c15_16 : SCode := .seq c15_7 c15_15
def c15_17 : SCode := .seq c15_6 c15_16
def c15_18 : SCode := .seq c15_5 c15_17
def c15_19 : SCode := .seq c15_4 c15_18
def c15_20 : SCode := .seq c15_3 c15_19
def c15_21 : SCode := .seq c15_2 c15_20
def c15_22 : SCode := .seq c15_1 c15_21
def c15_23 : SCode := .seq c15_0 c15_22
@[simp] def rs15 : List SRes := [.tmp 0]
theorem law15 (cs : List CV) (r : CV) (hl : cs.length ≤ 168) (h : STri Try.prog 168 c15_23 (initT 0 cs) [] (retQ rs15 r)) : SC Try.prog 15 cs r :=
  sc_of Try.func15 rfl Try.ntmps15 (by kernel_rfl) (by kernel_rfl) hl h

-- turret/turretlaw06.works
def c16_0 : SCode := .reg [⟨(some 1), none, .box 26 (.tmp 0), [], false⟩,
  ⟨(some 2), none, .alloc 26 [(.int .i64 0), (.int .i64 0), (.slice none 0 0), (.int .i64 0), (.slice none 0 0), (.slice none 0 0)], [], false⟩] [1, 2]
def c16_1 : SCode := .reg [⟨(some 3), none, .buildSl 3 1 [(.int .i64 0)] 0 [], [], true⟩,
  ⟨(some 4), none, .fld 2 (.tmp 1), [0], true⟩,
  ⟨(some 5), none, .load false 1 (.tmp 4), [0], true⟩,
  ⟨(some 6), none, .append 3 1 8 (.tmp 3) (.tmp 5), [], true⟩,
  ⟨(some 7), none, .buildSl 91 2 [(.int .i64 0), (.int .i64 0)] 0 [], [1, 2, 3], true⟩,
  ⟨(some 8), none, .fld 4 (.tmp 1), [0, 3, 4], true⟩,
  ⟨(some 9), none, .load false 1 (.tmp 8), [0, 3, 4], true⟩,
  ⟨(some 10), none, .append 91 2 16 (.tmp 7) (.tmp 9), [], true⟩,
  ⟨(some 11), none, .buildSl 89 2 [(.int .i64 0), (.int .i64 0)] 0 [], [1, 2, 3, 5, 6, 7], true⟩,
  ⟨(some 12), none, .fld 5 (.tmp 1), [0, 3, 4, 7, 8], false⟩,
  ⟨(some 13), none, .load false 1 (.tmp 12), [0, 3, 4, 7, 8], false⟩,
  ⟨(some 14), none, .append 89 2 16 (.tmp 11) (.tmp 13), [], true⟩,
  ⟨(some 15), none, .fld 2 (.tmp 1), [4, 7, 8, 11], false⟩,
  ⟨none, none, .store 1 (.tmp 15) (.tmp 6), [], false⟩,
  ⟨(some 16), none, .fld 4 (.tmp 1), [], false⟩,
  ⟨none, none, .store 1 (.tmp 16) (.tmp 10), [], false⟩,
  ⟨(some 17), none, .fld 5 (.tmp 1), [], false⟩,
  ⟨none, none, .store 1 (.tmp 17) (.tmp 14), [], false⟩] [1, 2]
def c16_2 : SCode := .reg [⟨(some 18), none, .load true 6 (.tmp 1), [], false⟩,
  ⟨none, none, .store 6 (.tmp 2) (.tmp 18), [], false⟩] [2]
def c16_3 : SCode := .seq c16_2 .ret
def c16_4 : SCode := .seq c16_1 c16_3
def c16_5 : SCode := .seq c16_0 c16_4
@[simp] def rs16 : List SRes := [.cell 2 true 6]
theorem law16 (cs : List CV) (r : CV) (hl : cs.length ≤ 19) (h : STri Try.prog 19 c16_5 (initT 0 cs) [] (retQ rs16 r)) : SC Try.prog 16 cs r :=
  sc_of Try.func16 rfl Try.ntmps16 (by kernel_rfl) (by kernel_rfl) hl h

-- turret/turretlaw06.tune
def c31_0 : SCode := .reg [⟨(some 1), none, .box 56 (.tmp 0), [], false⟩,
  ⟨(some 2), none, .alloc 56 [(.int .i64 0), (.slice none 0 0)], [], false⟩] [1, 2]
def c31_1 : SCode := .reg [⟨(some 3), none, .buildSl 66 2 [(.int .i64 0), (.int .i64 0)] 0 [], [], false⟩,
  ⟨(some 4), none, .fld 1 (.tmp 1), [], false⟩,
  ⟨(some 5), none, .load false 1 (.tmp 4), [], false⟩,
  ⟨(some 6), none, .append 66 2 16 (.tmp 3) (.tmp 5), [], false⟩,
  ⟨(some 7), none, .fld 1 (.tmp 1), [], false⟩,
  ⟨none, none, .store 1 (.tmp 7) (.tmp 6), [], false⟩] [1, 2]
def c31_2 : SCode := .reg [⟨(some 8), none, .load true 2 (.tmp 1), [], false⟩,
  ⟨none, none, .store 2 (.tmp 2) (.tmp 8), [], false⟩] [2]
def c31_3 : SCode := .seq c31_2 .ret
def c31_4 : SCode := .seq c31_1 c31_3
def c31_5 : SCode := .seq c31_0 c31_4
@[simp] def rs31 : List SRes := [.cell 2 true 2]
theorem law31 (cs : List CV) (r : CV) (hl : cs.length ≤ 9) (h : STri Try.prog 9 c31_5 (initT 0 cs) [] (retQ rs31 r)) : SC Try.prog 31 cs r :=
  sc_of Try.func31 rfl Try.ntmps31 (by kernel_rfl) (by kernel_rfl) hl h

-- turret/turretlaw06.twenty
def c45_0 : SCode := .reg [⟨(some 0), none, .alloc 26 [(.int .i64 0), (.int .i64 0), (.slice none 0 0), (.int .i64 0), (.slice none 0 0), (.slice none 0 0)], [], false⟩] [0]
def c45_1 : SCode := .reg [⟨(some 4), none, .buildSl 3 1 [(.int .i64 0)] 4 [(0, (.const (.int .i64 1))), (1, (.const (.int .i64 2))), (2, (.const (.int .i64 3))), (3, (.const (.int .i64 4)))], [], false⟩,
  ⟨(some 5), none, .build [(.int .i64 0), (.int .i64 0), (.slice none 0 0), (.int .i64 0), (.slice none 0 0), (.slice none 0 0)] [(0, 1, (.const (.int .i64 20))), (1, 1, (.const (.int .i64 5))), (2, 1, (.tmp 4)), (3, 1, (.const (.int .i64 1)))], [], false⟩,
  ⟨(some 1), none, .alloc 26 [(.int .i64 0), (.int .i64 0), (.slice none 0 0), (.int .i64 0), (.slice none 0 0), (.slice none 0 0)], [], false⟩,
  ⟨none, none, .store 6 (.tmp 1) (.tmp 5), [], false⟩] [0, 1]
def c45_2 : SCode := .reg [⟨(some 2), none, .mov (.const (.int .i64 0)), [], false⟩] [0, 1, 2]
def c45_3 : SCode := .reg [⟨(some 6), none, .mov (.tmp 2), [], false⟩,
  ⟨(some 7), none, .bin .lss (.tmp 6) (.const (.int .i64 4)), [], false⟩] [0, 1, 2, 7]
def c45_4 : SCode := .cond (.tmp 7) .skip (.exit 0)
def c45_5 : SCode := .seq c45_3 c45_4
def c45_6 : SCode := .reg [⟨(some 10), none, .fld 4 (.tmp 1), [], false⟩,
  ⟨(some 11), none, .load false 1 (.tmp 10), [], false⟩,
  ⟨(some 12), none, .mov (.tmp 2), [], false⟩,
  ⟨(some 13), none, .build [(.int .i64 0), (.int .i64 0)] [(0, 1, (.tmp 12)), (1, 1, (.const (.int .i64 3)))], [], false⟩,
  ⟨(some 14), none, .buildSl 91 2 [(.int .i64 0), (.int .i64 0)] 1 [(0, (.tmp 13))], [], false⟩,
  ⟨(some 15), none, .append 91 2 16 (.tmp 11) (.tmp 14), [], false⟩,
  ⟨(some 16), none, .fld 4 (.tmp 1), [], false⟩,
  ⟨none, none, .store 1 (.tmp 16) (.tmp 15), [], false⟩] [0, 1, 2]
def c45_7 : SCode := .block 1 c45_6
def c45_8 : SCode := .reg [⟨(some 8), none, .mov (.tmp 2), [], false⟩,
  ⟨(some 9), none, .bin .add (.tmp 8) (.const (.int .i64 1)), [], false⟩,
  ⟨(some 2), none, .mov (.tmp 9), [], false⟩] [0, 1, 2]
def c45_9 : SCode := .seq c45_7 c45_8
def c45_10 : SCode := .seq c45_5 c45_9
def c45_11 : SCode := .loop c45_10
def c45_12 : SCode := .block 0 c45_11
def c45_13 : SCode := .seq c45_2 c45_12
def c45_14 : SCode := .reg [⟨(some 3), none, .mov (.const (.int .i64 0)), [], false⟩] [0, 1, 3]
def c45_15 : SCode := .reg [⟨(some 17), none, .mov (.tmp 3), [], false⟩,
  ⟨(some 18), none, .bin .lss (.tmp 17) (.const (.int .i64 5)), [], false⟩] [0, 1, 3, 18]
def c45_16 : SCode := .cond (.tmp 18) .skip (.exit 2)
def c45_17 : SCode := .seq c45_15 c45_16
def c45_18 : SCode := .reg [⟨(some 21), none, .fld 5 (.tmp 1), [], false⟩,
  ⟨(some 22), none, .load false 1 (.tmp 21), [], false⟩,
  ⟨(some 23), none, .mov (.tmp 3), [], false⟩,
  ⟨(some 24), none, .bin .mul (.const (.int .i64 4)) (.tmp 23), [], false⟩,
  ⟨(some 25), none, .build [(.int .i64 0), (.int .i64 0)] [(0, 1, (.const (.int .i64 0))), (1, 1, (.tmp 24))], [], false⟩,
  ⟨(some 26), none, .mov (.tmp 3), [], false⟩,
  ⟨(some 27), none, .bin .mul (.const (.int .i64 4)) (.tmp 26), [], false⟩,
  ⟨(some 28), none, .bin .add (.tmp 27) (.const (.int .i64 1)), [], false⟩,
  ⟨(some 29), none, .build [(.int .i64 0), (.int .i64 0)] [(0, 1, (.const (.int .i64 1))), (1, 1, (.tmp 28))], [], false⟩,
  ⟨(some 30), none, .mov (.tmp 3), [], false⟩,
  ⟨(some 31), none, .bin .mul (.const (.int .i64 4)) (.tmp 30), [], false⟩,
  ⟨(some 32), none, .bin .add (.tmp 31) (.const (.int .i64 2)), [], false⟩,
  ⟨(some 33), none, .build [(.int .i64 0), (.int .i64 0)] [(0, 1, (.const (.int .i64 2))), (1, 1, (.tmp 32))], [], false⟩,
  ⟨(some 34), none, .mov (.tmp 3), [], false⟩,
  ⟨(some 35), none, .bin .rem (.tmp 34) (.const (.int .i64 4)), [], false⟩,
  ⟨(some 36), none, .mov (.tmp 3), [], false⟩,
  ⟨(some 37), none, .bin .mul (.const (.int .i64 4)) (.tmp 36), [], false⟩,
  ⟨(some 38), none, .bin .add (.tmp 37) (.const (.int .i64 3)), [], false⟩,
  ⟨(some 39), none, .build [(.int .i64 0), (.int .i64 0)] [(0, 1, (.tmp 35)), (1, 1, (.tmp 38))], [], false⟩,
  ⟨(some 40), none, .buildSl 89 2 [(.int .i64 0), (.int .i64 0)] 4 [(0, (.tmp 25)), (1, (.tmp 29)), (2, (.tmp 33)), (3, (.tmp 39))], [], false⟩,
  ⟨(some 41), none, .append 89 2 16 (.tmp 22) (.tmp 40), [], false⟩,
  ⟨(some 42), none, .fld 5 (.tmp 1), [], false⟩,
  ⟨none, none, .store 1 (.tmp 42) (.tmp 41), [], false⟩] [0, 1, 3]
def c45_19 : SCode := .block 3 c45_18
def c45_20 : SCode := .reg [⟨(some 19), none, .mov (.tmp 3), [], false⟩,
  ⟨(some 20), none, .bin .add (.tmp 19) (.const (.int .i64 1)), [], false⟩,
  ⟨(some 3), none, .mov (.tmp 20), [], false⟩] [0, 1, 3]
def c45_21 : SCode := .seq c45_19 c45_20
def c45_22 : SCode := .seq c45_17 c45_21
def c45_23 : SCode := .loop c45_22
def c45_24 : SCode := .block 2 c45_23
def c45_25 : SCode := .seq c45_14 c45_24
def c45_26 : SCode := .reg [⟨(some 43), none, .load true 6 (.tmp 1), [], false⟩,
  ⟨none, none, .store 6 (.tmp 0) (.tmp 43), [], false⟩] [0]
def c45_27 : SCode := .seq c45_26 .ret
def c45_28 : SCode := .seq c45_25 c45_27
def c45_29 : SCode := .seq c45_13 c45_28
def c45_30 : SCode := .seq c45_1 c45_29
def c45_31 : SCode := .seq c45_0 c45_30
@[simp] def rs45 : List SRes := [.cell 0 true 6]
theorem law45 (cs : List CV) (r : CV) (hl : cs.length ≤ 44) (h : STri Try.prog 44 c45_31 (initT 0 cs) [] (retQ rs45 r)) : SC Try.prog 45 cs r :=
  sc_of Try.func45 rfl Try.ntmps45 (by kernel_rfl) (by kernel_rfl) hl h

-- turret/turretlaw06.five
def c46_0 : SCode := .reg [⟨(some 0), none, .alloc 56 [(.int .i64 0), (.slice none 0 0)], [], false⟩] [0]
def c46_1 : SCode := .reg [⟨(some 3), none, .build [(.int .i64 0), (.slice none 0 0)] [(0, 1, (.const (.int .i64 10)))], [], false⟩,
  ⟨(some 1), none, .alloc 56 [(.int .i64 0), (.slice none 0 0)], [], false⟩,
  ⟨none, none, .store 2 (.tmp 1) (.tmp 3), [], false⟩] [0, 1]
def c46_2 : SCode := .reg [⟨(some 2), none, .mov (.const (.int .i64 0)), [], false⟩] [0, 1, 2]
def c46_3 : SCode := .reg [⟨(some 4), none, .mov (.tmp 2), [], false⟩,
  ⟨(some 5), none, .bin .lss (.tmp 4) (.const (.int .i64 5)), [], false⟩] [0, 1, 2, 5]
def c46_4 : SCode := .cond (.tmp 5) .skip (.exit 0)
def c46_5 : SCode := .seq c46_3 c46_4
def c46_6 : SCode := .reg [⟨(some 8), none, .fld 1 (.tmp 1), [], false⟩,
  ⟨(some 9), none, .load false 1 (.tmp 8), [], false⟩,
  ⟨(some 10), none, .mov (.tmp 2), [], false⟩,
  ⟨(some 11), none, .bin .mul (.const (.int .i64 2)) (.tmp 10), [], false⟩,
  ⟨(some 12), none, .build [(.int .i64 0), (.int .i64 0)] [(0, 1, (.tmp 11)), (1, 1, (.const (.int .i64 5)))], [], false⟩,
  ⟨(some 13), none, .buildSl 66 2 [(.int .i64 0), (.int .i64 0)] 1 [(0, (.tmp 12))], [], false⟩,
  ⟨(some 14), none, .append 66 2 16 (.tmp 9) (.tmp 13), [], false⟩,
  ⟨(some 15), none, .fld 1 (.tmp 1), [], false⟩,
  ⟨none, none, .store 1 (.tmp 15) (.tmp 14), [], false⟩] [0, 1, 2]
def c46_7 : SCode := .block 1 c46_6
def c46_8 : SCode := .reg [⟨(some 6), none, .mov (.tmp 2), [], false⟩,
  ⟨(some 7), none, .bin .add (.tmp 6) (.const (.int .i64 1)), [], false⟩,
  ⟨(some 2), none, .mov (.tmp 7), [], false⟩] [0, 1, 2]
def c46_9 : SCode := .seq c46_7 c46_8
def c46_10 : SCode := .seq c46_5 c46_9
def c46_11 : SCode := .loop c46_10
def c46_12 : SCode := .block 0 c46_11
def c46_13 : SCode := .seq c46_2 c46_12
def c46_14 : SCode := .reg [⟨(some 16), none, .load true 2 (.tmp 1), [], false⟩,
  ⟨none, none, .store 2 (.tmp 0) (.tmp 16), [], false⟩] [0]
def c46_15 : SCode := .seq c46_14 .ret
def c46_16 : SCode := .seq c46_13 c46_15
def c46_17 : SCode := .seq c46_1 c46_16
def c46_18 : SCode := .seq c46_0 c46_17
@[simp] def rs46 : List SRes := [.cell 0 true 2]
theorem law46 (cs : List CV) (r : CV) (hl : cs.length ≤ 17) (h : STri Try.prog 17 c46_18 (initT 0 cs) [] (retQ rs46 r)) : SC Try.prog 46 cs r :=
  sc_of Try.func46 rfl Try.ntmps46 (by kernel_rfl) (by kernel_rfl) hl h

-- turret/chime.Pin
def c38_0 : SCode := .reg [⟨(some 4), none, .alloc 26 [(.int .i64 0), (.int .i64 0), (.slice none 0 0), (.int .i64 0), (.slice none 0 0), (.slice none 0 0)], [], false⟩,
  ⟨(some 5), none, .mov (.const (.int .i64 0)), [], false⟩] [0, 1, 4]
def c38_1 : SCode := .reg [⟨(some 21), none, .mov (.tmp 0), [], false⟩,
  ⟨(some 22), none, .len (.tmp 21), [], false⟩,
  ⟨(some 23), none, .bin .eql (.tmp 22) (.const (.int .i64 0)), [], false⟩,
  ⟨(some 20), none, .mov (.tmp 23), [], false⟩] [0, 1, 4, 20]
def c38_2 : SCode := .reg [⟨(some 24), none, .load true 6 (.tmp 4), [], false⟩,
  ⟨none, none, .store 6 (.tmp 4) (.tmp 24), [], false⟩,
  ⟨(some 5), none, .mov (.const (.int .i64 7)), [], false⟩] [4, 5]
def c38_3 : SCode := .seq c38_2 .ret
def c38_4 : SCode := .reg [⟨(some 26), none, .mov (.tmp 0), [], false⟩,
  ⟨(some 27), none, .len (.tmp 26), [], false⟩,
  ⟨(some 28), none, .bin .gtr (.tmp 27) (.const (.int .i64 8)), [], false⟩,
  ⟨(some 25), none, .mov (.tmp 28), [], false⟩] [0, 1, 4, 25]
def c38_5 : SCode := .reg [⟨(some 29), none, .load true 6 (.tmp 4), [], false⟩,
  ⟨none, none, .store 6 (.tmp 4) (.tmp 29), [], false⟩,
  ⟨(some 5), none, .mov (.const (.int .i64 5)), [], false⟩] [4, 5]
def c38_6 : SCode := .seq c38_5 .ret
def c38_7 : SCode := .cond (.tmp 25) c38_6 .skip
def c38_8 : SCode := .seq c38_4 c38_7
def c38_9 : SCode := .cond (.tmp 20) c38_3 c38_8
def c38_10 : SCode := .seq c38_1 c38_9
def c38_11 : SCode := .block 0 c38_10
def c38_12 : SCode := .reg [⟨(some 6), none, .alloc 135 [(.int .i64 0), (.int .i64 0), (.int .i64 0), (.int .i64 0), (.int .i64 0), (.int .i64 0), (.int .i64 0), (.int .i64 0), (.int .i64 0), (.int .i64 0), (.int .i64 0), (.int .i64 0), (.int .i64 0), (.int .i64 0), (.int .i64 0), (.int .i64 0)], [], false⟩] [0, 1, 4, 6]
def c38_13 : SCode := .reg [⟨(some 7), none, .mov (.const (.slice none 0 0)), [], false⟩] [0, 1, 4, 6, 7]
def c38_14 : SCode := .reg [⟨(some 30), none, .mov (.tmp 0), [], false⟩,
  ⟨(some 31), none, .len (.tmp 30), [], false⟩,
  ⟨(some 32), none, .mov (.const (.int .i64 0)), [], false⟩] [0, 1, 4, 6, 7, 30, 31, 32]
def c38_15 : SCode := .reg [⟨(some 33), none, .bin .lss (.tmp 32) (.tmp 31), [], false⟩] [0, 1, 4, 6, 7, 30, 31, 32, 33]
def c38_16 : SCode := .cond (.tmp 33) .skip (.exit 1)
def c38_17 : SCode := .reg [⟨(some 34), none, .idxS 2 (.tmp 30) (.tmp 32), [], false⟩,
  ⟨(some 35), none, .load true 2 (.tmp 34), [], false⟩,
  ⟨(some 9), none, .alloc 56 [(.int .i64 0), (.slice none 0 0)], [], false⟩,
  ⟨none, none, .store 2 (.tmp 9) (.tmp 35), [], false⟩] [0, 1, 4, 6, 7, 9, 30, 31, 32]
def c38_18 : SCode := .reg [⟨(some 36), none, .load true 2 (.tmp 9), [], false⟩,
  ⟨(some 37), none, .mov (.tmp 1), [], false⟩,
  ⟨(some 38), none, .build [(.int .i64 0), (.slice none 0 0), (.int .i64 0)] [(0, 2, (.tmp 36)), (2, 1, (.tmp 37))], [], false⟩,
  ⟨(some 10), none, .alloc 132 [(.int .i64 0), (.slice none 0 0), (.int .i64 0)], [], false⟩,
  ⟨none, none, .store 3 (.tmp 10) (.tmp 38), [], false⟩] [0, 1, 4, 6, 7, 9, 10, 30, 31, 32]
def c38_19 : SCode := .reg [⟨(some 39), none, .load true 3 (.tmp 10), [], false⟩,
  ⟨(some 40), none, .call 68 [(.tmp 39)], [], false⟩,
  ⟨(some 11), none, .mov (.tmp 40), [], false⟩] [0, 1, 4, 6, 7, 9, 10, 11, 30, 31, 32]
def c38_20 : SCode := .reg [⟨(some 42), none, .mov (.tmp 11), [], false⟩,
  ⟨(some 43), none, .bin .neq (.tmp 42) (.const (.int .i64 0)), [], false⟩,
  ⟨(some 41), none, .mov (.tmp 43), [], false⟩] [0, 1, 4, 6, 7, 9, 10, 11, 30, 31, 32, 41]
def c38_21 : SCode := .reg [⟨(some 44), none, .load true 6 (.tmp 4), [], false⟩,
  ⟨(some 45), none, .mov (.tmp 11), [], false⟩,
  ⟨none, none, .store 6 (.tmp 4) (.tmp 44), [], false⟩,
  ⟨(some 5), none, .mov (.tmp 45), [], false⟩] [4, 5]
def c38_22 : SCode := .seq c38_21 .ret
def c38_23 : SCode := .reg [⟨(some 47), none, .fld 0 (.tmp 9), [], false⟩,
  ⟨(some 48), none, .load false 1 (.tmp 47), [], false⟩,
  ⟨(some 49), none, .mov (.tmp 0), [], false⟩,
  ⟨(some 50), none, .idxS 2 (.tmp 49) (.const (.int .i64 0)), [], false⟩,
  ⟨(some 51), none, .fld 0 (.tmp 50), [], false⟩,
  ⟨(some 52), none, .load false 1 (.tmp 51), [], false⟩,
  ⟨(some 53), none, .bin .neq (.tmp 48) (.tmp 52), [], false⟩,
  ⟨(some 46), none, .mov (.tmp 53), [], false⟩] [0, 1, 4, 6, 7, 10, 30, 31, 32, 46]
def c38_24 : SCode := .reg [⟨(some 54), none, .load true 6 (.tmp 4), [], false⟩,
  ⟨none, none, .store 6 (.tmp 4) (.tmp 54), [], false⟩,
  ⟨(some 5), none, .mov (.const (.int .i64 4)), [], false⟩] [4, 5]
def c38_25 : SCode := .seq c38_24 .ret
def c38_26 : SCode := .cond (.tmp 46) c38_25 .skip
def c38_27 : SCode := .seq c38_23 c38_26
def c38_28 : SCode := .cond (.tmp 41) c38_22 c38_27
def c38_29 : SCode := .seq c38_20 c38_28
def c38_30 : SCode := .block 3 c38_29
def c38_31 : SCode := .seq c38_19 c38_30
def c38_32 : SCode := .reg [⟨(some 56), none, .load true 3 (.tmp 10), [], false⟩,
  ⟨(some 57), none, .call 69 [(.tmp 56)], [], false⟩,
  ⟨(some 55), none, .mov (.tmp 57), [], false⟩,
  ⟨(some 58), none, .ext (.tmp 55) 0, [], false⟩,
  ⟨(some 59), none, .ext (.tmp 55) 1, [], false⟩,
  ⟨(some 12), none, .alloc 61 [(.int .i64 0), (.int .i64 0), (.int .i64 0), (.int .i64 0), (.int .i64 0), (.int .i64 0), (.int .i64 0), (.int .i64 0), (.int .i64 0), (.int .i64 0), (.int .i64 0), (.int .i64 0), (.int .i64 0), (.int .i64 0), (.int .i64 0), (.int .i64 0)], [], false⟩,
  ⟨none, none, .store 16 (.tmp 12) (.tmp 58), [], false⟩,
  ⟨(some 13), none, .mov (.tmp 59), [], false⟩] [0, 1, 4, 6, 7, 12, 13, 30, 31, 32]
def c38_33 : SCode := .reg [⟨(some 60), none, .load true 16 (.tmp 12), [], false⟩,
  ⟨(some 61), none, .mov (.const (.int .i64 0)), [], false⟩] [0, 1, 4, 6, 7, 13, 30, 31, 32, 60, 61]
def c38_34 : SCode := .reg [⟨(some 62), none, .bin .lss (.tmp 61) (.const (.int .i64 16)), [], false⟩] [0, 1, 4, 6, 7, 13, 30, 31, 32, 60, 61, 62]
def c38_35 : SCode := .cond (.tmp 62) .skip (.exit 4)
def c38_36 : SCode := .reg [⟨(some 63), none, .mov (.tmp 61), [], false⟩,
  ⟨(some 64), none, .index 16 1 false (.tmp 60) (.tmp 61), [], false⟩,
  ⟨(some 14), none, .mov (.tmp 63), [], false⟩,
  ⟨(some 15), none, .mov (.tmp 64), [], false⟩] [0, 1, 4, 6, 7, 13, 14, 15, 30, 31, 32, 60, 61]
def c38_37 : SCode := .reg [⟨(some 65), none, .mov (.tmp 14), [], false⟩,
  ⟨(some 66), none, .mov (.tmp 14), [], false⟩,
  ⟨(some 67), none, .idxA 16 1 (.tmp 6) (.tmp 66), [], false⟩,
  ⟨(some 68), none, .load false 1 (.tmp 67), [], false⟩,
  ⟨(some 69), none, .mov (.tmp 15), [], false⟩,
  ⟨(some 70), none, .max [(.tmp 68), (.tmp 69)], [], false⟩,
  ⟨(some 71), none, .idxA 16 1 (.tmp 6) (.tmp 65), [], false⟩,
  ⟨none, none, .store 1 (.tmp 71) (.tmp 70), [], false⟩] [0, 1, 4, 6, 7, 13, 30, 31, 32, 60, 61]
def c38_38 : SCode := .seq c38_36 c38_37
def c38_39 : SCode := .block 5 c38_38
def c38_40 : SCode := .reg [⟨(some 72), none, .bin .add (.tmp 61) (.const (.int .i64 1)), [], false⟩,
  ⟨(some 61), none, .mov (.tmp 72), [], false⟩] [0, 1, 4, 6, 7, 13, 30, 31, 32, 60, 61]
def c38_41 : SCode := .seq c38_39 c38_40
def c38_42 : SCode := .seq c38_35 c38_41
def c38_43 : SCode := .seq c38_34 c38_42
def c38_44 : SCode := .loop c38_43
def c38_45 : SCode := .block 4 c38_44
def c38_46 : SCode := .seq c38_33 c38_45
def c38_47 : SCode := .reg [⟨(some 73), none, .mov (.tmp 7), [], false⟩,
  ⟨(some 74), none, .mov (.tmp 13), [], false⟩,
  ⟨(some 75), none, .buildSl 22 1 [(.slice none 0 0)] 1 [(0, (.tmp 74))], [], false⟩,
  ⟨(some 76), none, .append 22 1 24 (.tmp 73) (.tmp 75), [], false⟩,
  ⟨(some 7), none, .mov (.tmp 76), [], false⟩] [0, 1, 4, 6, 7, 30, 31, 32]
def c38_48 : SCode := .seq c38_46 c38_47
def c38_49 : SCode := .seq c38_32 c38_48
def c38_50 : SCode := .seq c38_31 c38_49
def c38_51 : SCode := .seq c38_18 c38_50
def c38_52 : SCode := .seq c38_17 c38_51
def c38_53 : SCode := .block 2 c38_52
def c38_54 : SCode := .reg [⟨(some 77), none, .bin .add (.tmp 32) (.const (.int .i64 1)), [], false⟩,
  ⟨(some 32), none, .mov (.tmp 77), [], false⟩] [0, 1, 4, 6, 7, 30, 31, 32]
def c38_55 : SCode := .seq c38_53 c38_54
def c38_56 : SCode := .seq c38_16 c38_55
def c38_57 : SCode := .seq c38_15 c38_56
def c38_58 : SCode := .loop c38_57
def c38_59 : SCode := .block 1 c38_58
def c38_60 : SCode := .seq c38_14 c38_59
def c38_61 : SCode := .reg [⟨(some 78), none, .mov (.tmp 0), [], false⟩,
  ⟨(some 79), none, .idxS 2 (.tmp 78) (.const (.int .i64 0)), [], true⟩,
  ⟨(some 80), none, .fld 0 (.tmp 79), [], true⟩,
  ⟨(some 81), none, .load false 1 (.tmp 80), [], true⟩,
  ⟨(some 82), none, .buildSl 3 1 [(.int .i64 0)] 1 [(0, (.const (.int .i64 1)))], [1, 2, 3], true⟩,
  ⟨(some 83), none, .mov (.tmp 0), [], false⟩,
  ⟨(some 84), none, .len (.tmp 83), [4], false⟩,
  ⟨(some 85), none, .load true 16 (.tmp 6), [4], false⟩,
  ⟨(some 86), none, .mov (.tmp 1), [], false⟩,
  ⟨(some 87), none, .call 71 [(.tmp 85), (.tmp 86)], [4], false⟩,
  ⟨(some 88), none, .build [(.int .i64 0), (.int .i64 0), (.slice none 0 0), (.int .i64 0), (.slice none 0 0), (.slice none 0 0)] [(0, 1, (.tmp 81)), (1, 1, (.const (.int .i64 1))), (2, 1, (.tmp 82)), (3, 1, (.tmp 84)), (4, 1, (.tmp 87))], [], false⟩,
  ⟨none, none, .store 6 (.tmp 4) (.tmp 88), [], false⟩] [0, 4, 6, 7]
def c38_62 : SCode := .reg [⟨(some 89), none, .mov (.tmp 0), [], false⟩,
  ⟨(some 90), none, .len (.tmp 89), [], false⟩,
  ⟨(some 91), none, .mov (.const (.int .i64 0)), [], false⟩] [0, 4, 6, 7, 89, 90, 91]
def c38_63 : SCode := .reg [⟨(some 92), none, .bin .lss (.tmp 91) (.tmp 90), [], false⟩] [0, 4, 6, 7, 89, 90, 91, 92]
def c38_64 : SCode := .cond (.tmp 92) .skip (.exit 6)
def c38_65 : SCode := .reg [⟨(some 93), none, .mov (.tmp 91), [], false⟩,
  ⟨(some 94), none, .idxS 2 (.tmp 89) (.tmp 91), [], false⟩,
  ⟨(some 95), none, .load true 2 (.tmp 94), [], false⟩,
  ⟨(some 17), none, .alloc 56 [(.int .i64 0), (.slice none 0 0)], [], false⟩,
  ⟨(some 16), none, .mov (.tmp 93), [], false⟩,
  ⟨none, none, .store 2 (.tmp 17) (.tmp 95), [], false⟩] [0, 4, 6, 7, 16, 17, 89, 90, 91]
def c38_66 : SCode := .reg [⟨(some 96), none, .fld 1 (.tmp 17), [], false⟩,
  ⟨(some 97), none, .load false 1 (.tmp 96), [], false⟩,
  ⟨(some 98), none, .len (.tmp 97), [], false⟩,
  ⟨(some 99), none, .mov (.const (.int .i64 0)), [], false⟩] [0, 4, 6, 7, 16, 89, 90, 91, 97, 98, 99]
def c38_67 : SCode := .reg [⟨(some 100), none, .bin .lss (.tmp 99) (.tmp 98), [], false⟩] [0, 4, 6, 7, 16, 89, 90, 91, 97, 98, 99, 100]
def c38_68 : SCode := .cond (.tmp 100) .skip (.exit 8)
def c38_69 : SCode := .reg [⟨(some 101), none, .mov (.tmp 99), [], false⟩,
  ⟨(some 102), none, .idxS 2 (.tmp 97) (.tmp 99), [], false⟩,
  ⟨(some 103), none, .load true 2 (.tmp 102), [], false⟩,
  ⟨(some 19), none, .alloc 66 [(.int .i64 0), (.int .i64 0)], [], false⟩,
  ⟨(some 18), none, .mov (.tmp 101), [], false⟩,
  ⟨none, none, .store 2 (.tmp 19) (.tmp 103), [], false⟩] [0, 4, 6, 7, 16, 18, 19, 89, 90, 91, 97, 98, 99]
def c38_70 : SCode := .reg [⟨(some 104), none, .fld 5 (.tmp 4), [], true⟩,
  ⟨(some 105), none, .load false 1 (.tmp 104), [], true⟩,
  ⟨(some 106), none, .load true 16 (.tmp 6), [], false⟩,
  ⟨(some 107), none, .fld 1 (.tmp 19), [], false⟩,
  ⟨(some 108), none, .load false 1 (.tmp 107), [], false⟩,
  ⟨(some 109), none, .mov (.tmp 7), [], false⟩,
  ⟨(some 110), none, .mov (.tmp 16), [], false⟩,
  ⟨(some 111), none, .idxS 1 (.tmp 109) (.tmp 110), [], false⟩,
  ⟨(some 112), none, .load false 1 (.tmp 111), [], false⟩,
  ⟨(some 113), none, .mov (.tmp 18), [], false⟩,
  ⟨(some 114), none, .idxS 1 (.tmp 112) (.tmp 113), [], false⟩,
  ⟨(some 115), none, .load false 1 (.tmp 114), [], false⟩,
  ⟨(some 116), none, .call 70 [(.tmp 106), (.tmp 108), (.tmp 115)], [], false⟩,
  ⟨(some 117), none, .mov (.tmp 0), [], false⟩,
  ⟨(some 118), none, .len (.tmp 117), [], false⟩,
  ⟨(some 119), none, .bin .mul (.tmp 116) (.tmp 118), [], false⟩,
  ⟨(some 120), none, .mov (.tmp 16), [], false⟩,
  ⟨(some 121), none, .bin .add (.tmp 119) (.tmp 120), [], false⟩,
  ⟨(some 122), none, .fld 0 (.tmp 19), [], false⟩,
  ⟨(some 123), none, .load false 1 (.tmp 122), [], false⟩,
  ⟨(some 124), none, .build [(.int .i64 0), (.int .i64 0)] [(0, 1, (.tmp 121)), (1, 1, (.tmp 123))], [], false⟩,
  ⟨(some 125), none, .buildSl 89 2 [(.int .i64 0), (.int .i64 0)] 1 [(0, (.tmp 124))], [0, 1], false⟩,
  ⟨(some 126), none, .append 89 2 16 (.tmp 105) (.tmp 125), [], false⟩,
  ⟨(some 127), none, .fld 5 (.tmp 4), [], false⟩,
  ⟨none, none, .store 1 (.tmp 127) (.tmp 126), [], false⟩] [0, 4, 6, 7, 16, 89, 90, 91, 97, 98, 99]
def c38_71 : SCode := .seq c38_69 c38_70
def c38_72 : SCode := .block 9 c38_71
def c38_73 : SCode := .reg [⟨(some 128), none, .bin .add (.tmp 99) (.const (.int .i64 1)), [], false⟩,
  ⟨(some 99), none, .mov (.tmp 128), [], false⟩] [0, 4, 6, 7, 16, 89, 90, 91, 97, 98, 99]
def c38_74 : SCode := .seq c38_72 c38_73
def c38_75 : SCode := .seq c38_68 c38_74
def c38_76 : SCode := .seq c38_67 c38_75
def c38_77 : SCode := .loop c38_76
def c38_78 : SCode := .block 8 c38_77
def c38_79 : SCode := .seq c38_66 c38_78
def c38_80 : SCode := .seq c38_65 c38_79
def c38_81 : SCode := .block 7 c38_80
def c38_82 : SCode := .reg [⟨(some 129), none, .bin .add (.tmp 91) (.const (.int .i64 1)), [], false⟩,
  ⟨(some 91), none, .mov (.tmp 129), [], false⟩] [0, 4, 6, 7, 89, 90, 91]
def c38_83 : SCode := .seq c38_81 c38_82
def c38_84 : SCode := .seq c38_64 c38_83
def c38_85 : SCode := .seq c38_63 c38_84
def c38_86 : SCode := .loop c38_85
def c38_87 : SCode := .block 6 c38_86
def c38_88 : SCode := .seq c38_62 c38_87
def c38_89 : SCode := .reg [⟨(some 130), none, .fld 4 (.tmp 4), [], false⟩,
  ⟨(some 131), none, .load false 1 (.tmp 130), [], false⟩,
  ⟨(some 132), none, .len (.tmp 131), [], false⟩,
  ⟨(some 133), none, .buildSl 3 1 [(.int .i64 0)] 1 [(0, (.tmp 132))], [], false⟩,
  ⟨(some 134), none, .call 52 [(.const (.int .i64 1)), (.const (.int .i64 40)), (.tmp 133)], [], false⟩,
  ⟨(some 135), none, .un .not (.tmp 134), [], false⟩,
  ⟨(some 136), none, .mov (.tmp 135), [], false⟩,
  ⟨(some 137), (some (136, false)), .fld 5 (.tmp 4), [], false⟩,
  ⟨(some 138), (some (136, false)), .load false 1 (.tmp 137), [], false⟩,
  ⟨(some 139), (some (136, false)), .len (.tmp 138), [], false⟩,
  ⟨(some 140), (some (136, false)), .bin .gtr (.tmp 139) (.const (.int .i64 400)), [], false⟩,
  ⟨(some 141), none, .pick (.tmp 136) (.const (.bool true)) (.tmp 140), [], false⟩] [4, 141]
def c38_90 : SCode := .reg [⟨(some 142), none, .build [(.int .i64 0), (.int .i64 0), (.slice none 0 0), (.int .i64 0), (.slice none 0 0), (.slice none 0 0)] [], [], false⟩,
  ⟨none, none, .store 6 (.tmp 4) (.tmp 142), [], false⟩,
  ⟨(some 5), none, .mov (.const (.int .i64 8)), [], false⟩] [4, 5]
def c38_91 : SCode := .seq c38_90 .ret
def c38_92 : SCode := .cond (.tmp 141) c38_91 .skip
def c38_93 : SCode := .seq c38_89 c38_92
def c38_94 : SCode := .reg [⟨(some 143), none, .load true 6 (.tmp 4), [], false⟩,
  ⟨none, none, .store 6 (.tmp 4) (.tmp 143), [], false⟩,
  ⟨(some 5), none, .mov (.const (.int .i64 0)), [], false⟩] [4, 5]
def c38_95 : SCode := .seq c38_94 .ret
def c38_96 : SCode := .seq c38_93 c38_95
def c38_97 : SCode := .seq c38_88 c38_96
def c38_98 : SCode := .seq c38_61 c38_97
def c38_99 : SCode := .seq c38_60 c38_98
def c38_100 : SCode := .seq c38_13 c38_99
def c38_101 : SCode := .seq c38_12 c38_100
def c38_102 : SCode := .seq c38_11 c38_101
def c38_103 : SCode := .seq c38_0 c38_102
@[simp] def rs38 : List SRes := [.cell 4 true 6, .tmp 5]
theorem law38 (cs : List CV) (r : CV) (hl : cs.length ≤ 144) (h : STri Try.prog 144 c38_103 (initT 0 cs) [] (retQ rs38 r)) : SC Try.prog 38 cs r :=
  sc_of Try.func38 rfl Try.ntmps38 (by kernel_rfl) (by kernel_rfl) hl h

-- turret/turretlaw06.apart
def c43_0 : SCode := .reg [⟨(some 6), none, .mov (.const (.int .i64 0)), [], false⟩] [0, 1, 2]
def c43_1 : SCode := .reg [⟨(some 8), none, .mov (.tmp 0), [], false⟩,
  ⟨(some 9), none, .mov (.tmp 1), [], false⟩,
  ⟨(some 10), none, .bin .sub (.tmp 8) (.tmp 9), [], false⟩,
  ⟨(some 11), none, .mov (.tmp 2), [], false⟩,
  ⟨(some 12), none, .bin .add (.tmp 10) (.tmp 11), [], false⟩,
  ⟨(some 13), none, .mov (.tmp 2), [], false⟩,
  ⟨(some 14), none, .bin .rem (.tmp 12) (.tmp 13), [], false⟩,
  ⟨(some 7), none, .mov (.tmp 14), [], false⟩] [2, 7]
def c43_2 : SCode := .reg [⟨(some 15), none, .mov (.tmp 7), [], false⟩,
  ⟨(some 16), none, .mov (.tmp 2), [], false⟩,
  ⟨(some 17), none, .mov (.tmp 7), [], false⟩,
  ⟨(some 18), none, .bin .sub (.tmp 16) (.tmp 17), [], false⟩,
  ⟨(some 19), none, .min [(.tmp 15), (.tmp 18)], [], false⟩,
  ⟨(some 6), none, .mov (.tmp 19), [], false⟩] [6]
def c43_3 : SCode := .seq c43_2 .ret
def c43_4 : SCode := .seq c43_1 c43_3
def c43_5 : SCode := .seq c43_0 c43_4
@[simp] def rs43 : List SRes := [.tmp 6]
theorem law43 (cs : List CV) (r : CV) (hl : cs.length ≤ 20) (h : STri Try.prog 20 c43_5 (initT 0 cs) [] (retQ rs43 r)) : SC Try.prog 43 cs r :=
  sc_of Try.func43 rfl Try.ntmps43 (by kernel_rfl) (by kernel_rfl) hl h

end Go.Proofs.Ytdgplebmlggmcaa
