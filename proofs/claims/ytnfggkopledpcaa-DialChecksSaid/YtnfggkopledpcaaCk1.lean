/- It is proved that the statement named by the theorem at the end of this text holds, for every input, with no condition beyond the given ones. -/
import Derived.Test.YtnfggkopledpcaaJ3
import Derived.Test.YtnfggkopledpcaaJ4
import Derived.Test.YtnfggkopledpcaaJ5
set_option linter.unusedSimpArgs false
set_option linter.unusedVariables false
/- The shadow code of functions, as the kit's translation has them. -/
namespace Go.Proofs.Ytnfggkopledpcaa
open Go.RowKit

-- turret/turretref04.Look (17)
def c_turretref04_Look_0 : SCode := .reg [⟨(some 4), none, .box 26 (.tmp 0), [], false⟩,
  ⟨(some 7), none, .box 23 (.tmp 3), [], false⟩,
  ⟨(some 8), none, .mov (.const (.int .i64 0)), [], false⟩] [1, 2, 4, 7]
def c_turretref04_Look_1 : SCode := .reg [⟨(some 10), none, .load true 4 (.tmp 4), [], false⟩,
  ⟨(some 11), none, .call 40 [(.tmp 10)], [], false⟩,
  ⟨(some 12), none, .un .not (.tmp 11), [], false⟩,
  ⟨(some 9), none, .mov (.tmp 12), [], false⟩] [1, 2, 4, 7, 9]
def c_turretref04_Look_2 : SCode := .reg [⟨(some 8), none, .mov (.const (.int .i64 2)), [], false⟩] [8]
def c_turretref04_Look_3 : SCode := .seq c_turretref04_Look_2 .ret
def c_turretref04_Look_4 : SCode := .reg [⟨(some 14), none, .mov (.tmp 1), [], false⟩,
  ⟨(some 15), none, .fld 3 (.tmp 4), [], false⟩,
  ⟨(some 16), none, .load false 1 (.tmp 15), [], false⟩,
  ⟨(some 17), none, .len (.tmp 16), [], false⟩,
  ⟨(some 18), none, .bin .sub (.tmp 17) (.const (.int .i64 1)), [], false⟩,
  ⟨(some 19), none, .call 51 [(.tmp 14), (.const (.int .i64 0)), (.tmp 18)], [], false⟩,
  ⟨(some 20), none, .un .not (.tmp 19), [], false⟩,
  ⟨(some 13), none, .mov (.tmp 20), [], false⟩] [2, 7, 13]
def c_turretref04_Look_5 : SCode := .reg [⟨(some 8), none, .mov (.const (.int .i64 7)), [], false⟩] [8]
def c_turretref04_Look_6 : SCode := .seq c_turretref04_Look_5 .ret
def c_turretref04_Look_7 : SCode := .reg [⟨(some 22), none, .mov (.tmp 2), [], false⟩,
  ⟨(some 23), none, .call 51 [(.tmp 22), (.const (.int .i64 0)), (.const (.int .i64 3155760000))], [], false⟩,
  ⟨(some 24), none, .un .not (.tmp 23), [], false⟩,
  ⟨(some 21), none, .mov (.tmp 24), [], false⟩] [7, 21]
def c_turretref04_Look_8 : SCode := .reg [⟨(some 8), none, .mov (.const (.int .i64 3)), [], false⟩] [8]
def c_turretref04_Look_9 : SCode := .seq c_turretref04_Look_8 .ret
def c_turretref04_Look_10 : SCode := .reg [⟨(some 26), none, .load true 2 (.tmp 7), [], false⟩,
  ⟨(some 27), none, .call 52 [(.tmp 26)], [], false⟩,
  ⟨(some 28), none, .un .not (.tmp 27), [], false⟩,
  ⟨(some 25), none, .mov (.tmp 28), [], false⟩] [25]
def c_turretref04_Look_11 : SCode := .reg [⟨(some 8), none, .mov (.const (.int .i64 2)), [], false⟩] [8]
def c_turretref04_Look_12 : SCode := .seq c_turretref04_Look_11 .ret
def c_turretref04_Look_13 : SCode := .cond (.tmp 25) c_turretref04_Look_12 .skip
def c_turretref04_Look_14 : SCode := .seq c_turretref04_Look_10 c_turretref04_Look_13
def c_turretref04_Look_15 : SCode := .cond (.tmp 21) c_turretref04_Look_9 c_turretref04_Look_14
def c_turretref04_Look_16 : SCode := .seq c_turretref04_Look_7 c_turretref04_Look_15
def c_turretref04_Look_17 : SCode := .cond (.tmp 13) c_turretref04_Look_6 c_turretref04_Look_16
def c_turretref04_Look_18 : SCode := .seq c_turretref04_Look_4 c_turretref04_Look_17
def c_turretref04_Look_19 : SCode := .cond (.tmp 9) c_turretref04_Look_3 c_turretref04_Look_18
def c_turretref04_Look_20 : SCode := .seq c_turretref04_Look_1 c_turretref04_Look_19
def c_turretref04_Look_21 : SCode := .block 0 c_turretref04_Look_20
def c_turretref04_Look_22 : SCode := .reg [⟨(some 8), none, .mov (.const (.int .i64 0)), [], false⟩] [8]
def c_turretref04_Look_23 : SCode := .seq c_turretref04_Look_22 .ret
def c_turretref04_Look_24 : SCode := .seq c_turretref04_Look_21 c_turretref04_Look_23
def c_turretref04_Look_25 : SCode := .seq c_turretref04_Look_0 c_turretref04_Look_24
@[simp] def rs_turretref04_Look : List SRes := [.tmp 8]
theorem law_turretref04_Look (cs : List CV) (r : CV) (hl : cs.length ≤ 29) (h : STri (cfF Try.prog [] 29) c_turretref04_Look_25 (initT 0 cs) [] (retQ rs_turretref04_Look r)) : SC Try.prog 17 cs r :=
  sc_of [] follows Try.func17 rfl Try.ntmps17 (by decide) (by kernel_rfl) (by kernel_rfl) hl h

-- turret/turretref04.Poise (39)
def c_turretref04_Poise_0 : SCode := .reg [⟨(some 2), none, .box 80 (.tmp 0), [], false⟩,
  ⟨(some 3), none, .box 23 (.tmp 1), [], false⟩,
  ⟨(some 4), none, .mov (.const (.int .i64 0)), [], false⟩,
  ⟨(some 5), none, .mov (.const (.int .i64 0)), [], false⟩,
  ⟨(some 6), none, .mov (.const (.int .i64 0)), [], false⟩] [2, 3]
def c_turretref04_Poise_1 : SCode := .reg [⟨(some 9), none, .load true 5 (.tmp 2), [], false⟩,
  ⟨(some 10), none, .call 41 [(.tmp 9)], [], false⟩,
  ⟨(some 11), none, .un .not (.tmp 10), [], false⟩,
  ⟨(some 12), none, .mov (.tmp 11), [], false⟩,
  ⟨(some 13), (some (12, false)), .load true 2 (.tmp 3), [], false⟩,
  ⟨(some 14), (some (12, false)), .call 52 [(.tmp 13)], [], false⟩,
  ⟨(some 15), (some (12, false)), .un .not (.tmp 14), [], false⟩,
  ⟨(some 16), none, .pick (.tmp 12) (.const (.bool true)) (.tmp 15), [], false⟩] [2, 3, 16]
def c_turretref04_Poise_2 : SCode := .reg [⟨(some 4), none, .mov (.const (.int .i64 0)), [], false⟩,
  ⟨(some 5), none, .mov (.const (.int .i64 0)), [], false⟩,
  ⟨(some 6), none, .mov (.const (.int .i64 2)), [], false⟩] [4, 5, 6]
def c_turretref04_Poise_3 : SCode := .seq c_turretref04_Poise_2 .ret
def c_turretref04_Poise_4 : SCode := .cond (.tmp 16) c_turretref04_Poise_3 .skip
def c_turretref04_Poise_5 : SCode := .seq c_turretref04_Poise_1 c_turretref04_Poise_4
def c_turretref04_Poise_6 : SCode := .reg [⟨(some 7), none, .mov (.const (.int .i64 0)), [], false⟩] [2, 3, 7]
def c_turretref04_Poise_7 : SCode := .reg [⟨(some 17), none, .mov (.tmp 7), [], false⟩,
  ⟨(some 18), none, .bin .leq (.tmp 17) (.const (.int .i64 10000)), [], false⟩,
  ⟨(some 19), none, .mov (.tmp 18), [], false⟩,
  ⟨(some 20), (some (19, true)), .load true 5 (.tmp 2), [], false⟩,
  ⟨(some 21), (some (19, true)), .mov (.tmp 7), [], false⟩,
  ⟨(some 22), (some (19, true)), .load true 2 (.tmp 3), [], false⟩,
  ⟨(some 23), (some (19, true)), .call 71 [(.tmp 20), (.tmp 21), (.tmp 22), (.const (.bool true))], [], false⟩,
  ⟨(some 24), (some (19, true)), .un .not (.tmp 23), [], false⟩,
  ⟨(some 25), none, .pick (.tmp 19) (.tmp 24) (.const (.bool false)), [], false⟩] [2, 3, 7, 25]
def c_turretref04_Poise_8 : SCode := .cond (.tmp 25) .skip (.exit 0)
def c_turretref04_Poise_9 : SCode := .seq c_turretref04_Poise_7 c_turretref04_Poise_8
def c_turretref04_Poise_10 : SCode := .reg [⟨(some 26), none, .mov (.tmp 7), [], false⟩,
  ⟨(some 27), none, .bin .add (.tmp 26) (.const (.int .i64 1)), [], false⟩,
  ⟨(some 7), none, .mov (.tmp 27), [], false⟩] [2, 3, 7]
def c_turretref04_Poise_11 : SCode := .block 1 c_turretref04_Poise_10
def c_turretref04_Poise_12 : SCode := .seq c_turretref04_Poise_9 c_turretref04_Poise_11
def c_turretref04_Poise_13 : SCode := .loop c_turretref04_Poise_12
def c_turretref04_Poise_14 : SCode := .block 0 c_turretref04_Poise_13
def c_turretref04_Poise_15 : SCode := .reg [⟨(some 8), none, .mov (.const (.int .i64 0)), [], false⟩] [2, 3, 7, 8]
def c_turretref04_Poise_16 : SCode := .reg [⟨(some 28), none, .mov (.tmp 8), [], false⟩,
  ⟨(some 29), none, .bin .geq (.tmp 28) (.const (.int .i64 (-10000))), [], false⟩,
  ⟨(some 30), none, .mov (.tmp 29), [], false⟩,
  ⟨(some 31), (some (30, true)), .load true 5 (.tmp 2), [], false⟩,
  ⟨(some 32), (some (30, true)), .mov (.tmp 8), [], false⟩,
  ⟨(some 33), (some (30, true)), .load true 2 (.tmp 3), [], false⟩,
  ⟨(some 34), (some (30, true)), .call 71 [(.tmp 31), (.tmp 32), (.tmp 33), (.const (.bool false))], [], false⟩,
  ⟨(some 35), (some (30, true)), .un .not (.tmp 34), [], false⟩,
  ⟨(some 36), none, .pick (.tmp 30) (.tmp 35) (.const (.bool false)), [], false⟩] [2, 3, 7, 8, 36]
def c_turretref04_Poise_17 : SCode := .cond (.tmp 36) .skip (.exit 2)
def c_turretref04_Poise_18 : SCode := .seq c_turretref04_Poise_16 c_turretref04_Poise_17
def c_turretref04_Poise_19 : SCode := .reg [⟨(some 37), none, .mov (.tmp 8), [], false⟩,
  ⟨(some 38), none, .bin .sub (.tmp 37) (.const (.int .i64 1)), [], false⟩,
  ⟨(some 8), none, .mov (.tmp 38), [], false⟩] [2, 3, 7, 8]
def c_turretref04_Poise_20 : SCode := .block 3 c_turretref04_Poise_19
def c_turretref04_Poise_21 : SCode := .seq c_turretref04_Poise_18 c_turretref04_Poise_20
def c_turretref04_Poise_22 : SCode := .loop c_turretref04_Poise_21
def c_turretref04_Poise_23 : SCode := .block 2 c_turretref04_Poise_22
def c_turretref04_Poise_24 : SCode := .reg [⟨(some 39), none, .mov (.tmp 7), [], false⟩,
  ⟨(some 40), none, .bin .gtr (.tmp 39) (.const (.int .i64 10000)), [], false⟩,
  ⟨(some 41), none, .mov (.tmp 40), [], false⟩,
  ⟨(some 42), (some (41, false)), .mov (.tmp 8), [], false⟩,
  ⟨(some 43), (some (41, false)), .bin .lss (.tmp 42) (.const (.int .i64 (-10000))), [], false⟩,
  ⟨(some 44), none, .pick (.tmp 41) (.const (.bool true)) (.tmp 43), [], false⟩] [7, 8, 44]
def c_turretref04_Poise_25 : SCode := .reg [⟨(some 4), none, .mov (.const (.int .i64 0)), [], false⟩,
  ⟨(some 5), none, .mov (.const (.int .i64 0)), [], false⟩,
  ⟨(some 6), none, .mov (.const (.int .i64 7)), [], false⟩] [4, 5, 6]
def c_turretref04_Poise_26 : SCode := .seq c_turretref04_Poise_25 .ret
def c_turretref04_Poise_27 : SCode := .cond (.tmp 44) c_turretref04_Poise_26 .skip
def c_turretref04_Poise_28 : SCode := .seq c_turretref04_Poise_24 c_turretref04_Poise_27
def c_turretref04_Poise_29 : SCode := .reg [⟨(some 45), none, .mov (.tmp 7), [], false⟩,
  ⟨(some 46), none, .mov (.tmp 8), [], false⟩,
  ⟨(some 4), none, .mov (.tmp 45), [], false⟩,
  ⟨(some 5), none, .mov (.tmp 46), [], false⟩,
  ⟨(some 6), none, .mov (.const (.int .i64 0)), [], false⟩] [4, 5, 6]
def c_turretref04_Poise_30 : SCode := .seq c_turretref04_Poise_29 .ret
def c_turretref04_Poise_31 : SCode := .seq c_turretref04_Poise_28 c_turretref04_Poise_30
def c_turretref04_Poise_32 : SCode := .seq c_turretref04_Poise_23 c_turretref04_Poise_31
def c_turretref04_Poise_33 : SCode := .seq c_turretref04_Poise_15 c_turretref04_Poise_32
def c_turretref04_Poise_34 : SCode := .seq c_turretref04_Poise_14 c_turretref04_Poise_33
def c_turretref04_Poise_35 : SCode := .seq c_turretref04_Poise_6 c_turretref04_Poise_34
def c_turretref04_Poise_36 : SCode := .seq c_turretref04_Poise_5 c_turretref04_Poise_35
def c_turretref04_Poise_37 : SCode := .seq c_turretref04_Poise_0 c_turretref04_Poise_36
@[simp] def rs_turretref04_Poise : List SRes := [.tmp 4, .tmp 5, .tmp 6]
theorem law_turretref04_Poise (cs : List CV) (r : CV) (hl : cs.length ≤ 47) (h : STri (cfF Try.prog [] 47) c_turretref04_Poise_37 (initT 0 cs) [] (retQ rs_turretref04_Poise r)) : SC Try.prog 39 cs r :=
  sc_of [] follows Try.func39 rfl Try.ntmps39 (by decide) (by kernel_rfl) (by kernel_rfl) hl h

-- turret/turretref04.Works (40)
def c_turretref04_Works_0 : SCode := .reg [⟨(some 1), none, .box 26 (.tmp 0), [], false⟩,
  ⟨(some 2), none, .mov (.const (.bool false)), [], false⟩] [1]
def c_turretref04_Works_1 : SCode := .reg [⟨(some 3), none, .mov (.const (.int .i64 0)), [], false⟩] [1, 3]
def c_turretref04_Works_2 : SCode := .reg [⟨(some 4), none, .mov (.tmp 3), [], false⟩,
  ⟨(some 5), none, .fld 3 (.tmp 1), [], false⟩,
  ⟨(some 6), none, .load false 1 (.tmp 5), [], false⟩,
  ⟨(some 7), none, .len (.tmp 6), [], false⟩,
  ⟨(some 8), none, .bin .lss (.tmp 4) (.tmp 7), [], false⟩] [1, 3, 8]
def c_turretref04_Works_3 : SCode := .cond (.tmp 8) .skip (.exit 0)
def c_turretref04_Works_4 : SCode := .seq c_turretref04_Works_2 c_turretref04_Works_3
def c_turretref04_Works_5 : SCode := .reg [⟨(some 11), none, .fld 3 (.tmp 1), [], false⟩,
  ⟨(some 12), none, .load false 1 (.tmp 11), [], false⟩,
  ⟨(some 13), none, .mov (.tmp 3), [], false⟩,
  ⟨(some 14), none, .idxS 5 (.tmp 12) (.tmp 13), [], false⟩,
  ⟨(some 15), none, .load true 5 (.tmp 14), [], false⟩,
  ⟨(some 16), none, .call 41 [(.tmp 15)], [], false⟩,
  ⟨(some 17), none, .un .not (.tmp 16), [], false⟩] [1, 3, 17]
def c_turretref04_Works_6 : SCode := .reg [⟨(some 2), none, .mov (.const (.bool false)), [], false⟩] [2]
def c_turretref04_Works_7 : SCode := .seq c_turretref04_Works_6 .ret
def c_turretref04_Works_8 : SCode := .cond (.tmp 17) c_turretref04_Works_7 .skip
def c_turretref04_Works_9 : SCode := .seq c_turretref04_Works_5 c_turretref04_Works_8
def c_turretref04_Works_10 : SCode := .block 1 c_turretref04_Works_9
def c_turretref04_Works_11 : SCode := .reg [⟨(some 9), none, .mov (.tmp 3), [], false⟩,
  ⟨(some 10), none, .bin .add (.tmp 9) (.const (.int .i64 1)), [], false⟩,
  ⟨(some 3), none, .mov (.tmp 10), [], false⟩] [1, 3]
def c_turretref04_Works_12 : SCode := .seq c_turretref04_Works_10 c_turretref04_Works_11
def c_turretref04_Works_13 : SCode := .seq c_turretref04_Works_4 c_turretref04_Works_12
def c_turretref04_Works_14 : SCode := .loop c_turretref04_Works_13
def c_turretref04_Works_15 : SCode := .block 0 c_turretref04_Works_14
def c_turretref04_Works_16 : SCode := .seq c_turretref04_Works_1 c_turretref04_Works_15
def c_turretref04_Works_17 : SCode := .reg [⟨(some 18), none, .fld 0 (.tmp 1), [], false⟩,
  ⟨(some 19), none, .load false 1 (.tmp 18), [], false⟩,
  ⟨(some 20), none, .call 51 [(.tmp 19), (.const (.int .i64 1)), (.const (.int .i64 3600))], [], false⟩,
  ⟨(some 21), none, .mov (.tmp 20), [], false⟩,
  ⟨(some 22), (some (21, true)), .fld 0 (.tmp 1), [], false⟩,
  ⟨(some 23), (some (21, true)), .load false 1 (.tmp 22), [], false⟩,
  ⟨(some 24), (some (21, true)), .bin .rem (.const (.int .i64 3600)) (.tmp 23), [], false⟩,
  ⟨(some 25), (some (21, true)), .bin .eql (.tmp 24) (.const (.int .i64 0)), [], false⟩,
  ⟨(some 26), none, .pick (.tmp 21) (.tmp 25) (.const (.bool false)), [], false⟩,
  ⟨(some 27), none, .mov (.tmp 26), [], false⟩,
  ⟨(some 28), (some (27, true)), .fld 1 (.tmp 1), [], false⟩,
  ⟨(some 29), (some (27, true)), .load true 2 (.tmp 28), [], false⟩,
  ⟨(some 30), (some (27, true)), .call 72 [(.tmp 29), (.const (.int .i64 (-3600))), (.const (.int .i64 3600))], [], false⟩,
  ⟨(some 31), none, .pick (.tmp 27) (.tmp 30) (.const (.bool false)), [], false⟩,
  ⟨(some 32), none, .mov (.tmp 31), [], false⟩,
  ⟨(some 33), (some (32, true)), .fld 3 (.tmp 1), [], false⟩,
  ⟨(some 34), (some (32, true)), .load false 1 (.tmp 33), [], false⟩,
  ⟨(some 35), (some (32, true)), .len (.tmp 34), [], false⟩,
  ⟨(some 36), (some (32, true)), .call 51 [(.tmp 35), (.const (.int .i64 1)), (.const (.int .i64 8))], [], false⟩,
  ⟨(some 37), none, .pick (.tmp 32) (.tmp 36) (.const (.bool false)), [], false⟩,
  ⟨(some 2), none, .mov (.tmp 37), [], false⟩] [2]
def c_turretref04_Works_18 : SCode := .seq c_turretref04_Works_17 .ret
def c_turretref04_Works_19 : SCode := .seq c_turretref04_Works_16 c_turretref04_Works_18
def c_turretref04_Works_20 : SCode := .seq c_turretref04_Works_0 c_turretref04_Works_19
@[simp] def rs_turretref04_Works : List SRes := [.tmp 2]
theorem law_turretref04_Works (cs : List CV) (r : CV) (hl : cs.length ≤ 38) (h : STri (cfF Try.prog [] 38) c_turretref04_Works_20 (initT 0 cs) [] (retQ rs_turretref04_Works r)) : SC Try.prog 40 cs r :=
  sc_of [] follows Try.func40 rfl Try.ntmps40 (by decide) (by kernel_rfl) (by kernel_rfl) hl h

-- turret/turretref04.Face (41)
def c_turretref04_Face_0 : SCode := .reg [⟨(some 1), none, .box 80 (.tmp 0), [], false⟩,
  ⟨(some 2), none, .mov (.const (.bool false)), [], false⟩] [1]
def c_turretref04_Face_1 : SCode := .reg [⟨(some 5), none, .fld 0 (.tmp 1), [], false⟩,
  ⟨(some 6), none, .load true 2 (.tmp 5), [], false⟩,
  ⟨(some 7), none, .call 72 [(.tmp 6), (.const (.int .i64 (-3600))), (.const (.int .i64 3600))], [], false⟩,
  ⟨(some 8), none, .un .not (.tmp 7), [], false⟩,
  ⟨(some 9), none, .mov (.tmp 8), [], false⟩,
  ⟨(some 10), (some (9, false)), .fld 2 (.tmp 1), [], false⟩,
  ⟨(some 11), (some (9, false)), .load false 1 (.tmp 10), [], false⟩,
  ⟨(some 12), (some (9, false)), .len (.tmp 11), [], false⟩,
  ⟨(some 13), (some (9, false)), .bin .gtr (.tmp 12) (.const (.int .i64 4)), [], false⟩,
  ⟨(some 14), none, .pick (.tmp 9) (.const (.bool true)) (.tmp 13), [], false⟩,
  ⟨(some 15), none, .mov (.tmp 14), [], false⟩,
  ⟨(some 16), (some (15, false)), .fld 3 (.tmp 1), [], false⟩,
  ⟨(some 17), (some (15, false)), .load false 1 (.tmp 16), [], false⟩,
  ⟨(some 18), (some (15, false)), .call 51 [(.tmp 17), (.const (.int .i64 (-10000))), (.const (.int .i64 10000))], [], false⟩,
  ⟨(some 19), (some (15, false)), .un .not (.tmp 18), [], false⟩,
  ⟨(some 20), none, .pick (.tmp 15) (.const (.bool true)) (.tmp 19), [], false⟩,
  ⟨(some 21), none, .mov (.tmp 20), [], false⟩,
  ⟨(some 22), (some (21, false)), .fld 4 (.tmp 1), [], false⟩,
  ⟨(some 23), (some (21, false)), .load false 1 (.tmp 22), [], false⟩,
  ⟨(some 24), (some (21, false)), .call 51 [(.tmp 23), (.const (.int .i64 0)), (.const (.int .i64 10000))], [], false⟩,
  ⟨(some 25), (some (21, false)), .un .not (.tmp 24), [], false⟩,
  ⟨(some 26), none, .pick (.tmp 21) (.const (.bool true)) (.tmp 25), [], false⟩] [1, 26]
def c_turretref04_Face_2 : SCode := .reg [⟨(some 2), none, .mov (.const (.bool false)), [], false⟩] [2]
def c_turretref04_Face_3 : SCode := .seq c_turretref04_Face_2 .ret
def c_turretref04_Face_4 : SCode := .cond (.tmp 26) c_turretref04_Face_3 .skip
def c_turretref04_Face_5 : SCode := .seq c_turretref04_Face_1 c_turretref04_Face_4
def c_turretref04_Face_6 : SCode := .reg [⟨(some 3), none, .mov (.const (.int .i64 0)), [], false⟩] [1, 3]
def c_turretref04_Face_7 : SCode := .reg [⟨(some 27), none, .mov (.tmp 3), [], false⟩,
  ⟨(some 28), none, .fld 2 (.tmp 1), [], false⟩,
  ⟨(some 29), none, .load false 1 (.tmp 28), [], false⟩,
  ⟨(some 30), none, .len (.tmp 29), [], false⟩,
  ⟨(some 31), none, .bin .lss (.tmp 27) (.tmp 30), [], false⟩] [1, 3, 31]
def c_turretref04_Face_8 : SCode := .cond (.tmp 31) .skip (.exit 0)
def c_turretref04_Face_9 : SCode := .seq c_turretref04_Face_7 c_turretref04_Face_8
def c_turretref04_Face_10 : SCode := .reg [⟨(some 34), none, .fld 2 (.tmp 1), [], false⟩,
  ⟨(some 35), none, .load false 1 (.tmp 34), [], false⟩,
  ⟨(some 36), none, .mov (.tmp 3), [], false⟩,
  ⟨(some 37), none, .idxS 3 (.tmp 35) (.tmp 36), [], false⟩,
  ⟨(some 38), none, .load true 3 (.tmp 37), [], false⟩,
  ⟨(some 4), none, .alloc 101 [(.int .i64 0), (.int .i64 0), (.int .i64 0)], [], false⟩,
  ⟨none, none, .store 3 (.tmp 4) (.tmp 38), [], false⟩] [1, 3, 4]
def c_turretref04_Face_11 : SCode := .reg [⟨(some 39), none, .fld 0 (.tmp 4), [], false⟩,
  ⟨(some 40), none, .load false 1 (.tmp 39), [], false⟩,
  ⟨(some 41), none, .call 51 [(.tmp 40), (.const (.int .i64 0)), (.const (.int .i64 1000))], [], false⟩,
  ⟨(some 42), none, .un .not (.tmp 41), [], false⟩,
  ⟨(some 43), none, .mov (.tmp 42), [], false⟩,
  ⟨(some 44), (some (43, false)), .fld 1 (.tmp 4), [], false⟩,
  ⟨(some 45), (some (43, false)), .fld 0 (.tmp 44), [], false⟩,
  ⟨(some 46), (some (43, false)), .load false 1 (.tmp 45), [], false⟩,
  ⟨(some 47), (some (43, false)), .call 51 [(.tmp 46), (.const (.int .i64 1)), (.const (.int .i64 200))], [], false⟩,
  ⟨(some 48), (some (43, false)), .un .not (.tmp 47), [], false⟩,
  ⟨(some 49), none, .pick (.tmp 43) (.const (.bool true)) (.tmp 48), [], false⟩,
  ⟨(some 50), none, .mov (.tmp 49), [], false⟩,
  ⟨(some 51), (some (50, false)), .fld 1 (.tmp 4), [], false⟩,
  ⟨(some 52), (some (50, false)), .fld 1 (.tmp 51), [], false⟩,
  ⟨(some 53), (some (50, false)), .load false 1 (.tmp 52), [], false⟩,
  ⟨(some 54), (some (50, false)), .call 51 [(.tmp 53), (.const (.int .i64 1)), (.const (.int .i64 200))], [], false⟩,
  ⟨(some 55), (some (50, false)), .un .not (.tmp 54), [], false⟩,
  ⟨(some 56), none, .pick (.tmp 50) (.const (.bool true)) (.tmp 55), [], false⟩] [1, 3, 56]
def c_turretref04_Face_12 : SCode := .reg [⟨(some 2), none, .mov (.const (.bool false)), [], false⟩] [2]
def c_turretref04_Face_13 : SCode := .seq c_turretref04_Face_12 .ret
def c_turretref04_Face_14 : SCode := .cond (.tmp 56) c_turretref04_Face_13 .skip
def c_turretref04_Face_15 : SCode := .seq c_turretref04_Face_11 c_turretref04_Face_14
def c_turretref04_Face_16 : SCode := .seq c_turretref04_Face_10 c_turretref04_Face_15
def c_turretref04_Face_17 : SCode := .block 1 c_turretref04_Face_16
def c_turretref04_Face_18 : SCode := .reg [⟨(some 32), none, .mov (.tmp 3), [], false⟩,
  ⟨(some 33), none, .bin .add (.tmp 32) (.const (.int .i64 1)), [], false⟩,
  ⟨(some 3), none, .mov (.tmp 33), [], false⟩] [1, 3]
def c_turretref04_Face_19 : SCode := .seq c_turretref04_Face_17 c_turretref04_Face_18
def c_turretref04_Face_20 : SCode := .seq c_turretref04_Face_9 c_turretref04_Face_19
def c_turretref04_Face_21 : SCode := .loop c_turretref04_Face_20
def c_turretref04_Face_22 : SCode := .block 0 c_turretref04_Face_21
def c_turretref04_Face_23 : SCode := .seq c_turretref04_Face_6 c_turretref04_Face_22
def c_turretref04_Face_24 : SCode := .reg [⟨(some 57), none, .fld 2 (.tmp 1), [], false⟩,
  ⟨(some 58), none, .load false 1 (.tmp 57), [], false⟩,
  ⟨(some 59), none, .call 42 [(.tmp 58)], [], false⟩,
  ⟨(some 60), none, .bin .leq (.tmp 59) (.const (.int .i64 3600)), [], false⟩,
  ⟨(some 2), none, .mov (.tmp 60), [], false⟩] [2]
def c_turretref04_Face_25 : SCode := .seq c_turretref04_Face_24 .ret
def c_turretref04_Face_26 : SCode := .seq c_turretref04_Face_23 c_turretref04_Face_25
def c_turretref04_Face_27 : SCode := .seq c_turretref04_Face_5 c_turretref04_Face_26
def c_turretref04_Face_28 : SCode := .seq c_turretref04_Face_0 c_turretref04_Face_27
@[simp] def rs_turretref04_Face : List SRes := [.tmp 2]
theorem law_turretref04_Face (cs : List CV) (r : CV) (hl : cs.length ≤ 61) (h : STri (cfF Try.prog [] 61) c_turretref04_Face_28 (initT 0 cs) [] (retQ rs_turretref04_Face r)) : SC Try.prog 41 cs r :=
  sc_of [] follows Try.func41 rfl Try.ntmps41 (by decide) (by kernel_rfl) (by kernel_rfl) hl h

-- turret/turretref04.Slack (42)
def c_turretref04_Slack_0 : SCode := .reg [⟨(some 2), none, .mov (.const (.int .i64 0)), [], false⟩] [0]
def c_turretref04_Slack_1 : SCode := .reg [⟨(some 3), none, .mov (.const (.int .i64 1)), [], false⟩,
  ⟨(some 4), none, .mov (.const (.int .i64 0)), [], false⟩] [0, 3, 4]
def c_turretref04_Slack_2 : SCode := .reg [⟨(some 5), none, .mov (.const (.int .i64 0)), [], false⟩] [0, 3, 4, 5]
def c_turretref04_Slack_3 : SCode := .reg [⟨(some 7), none, .mov (.tmp 5), [], false⟩,
  ⟨(some 8), none, .mov (.tmp 0), [], false⟩,
  ⟨(some 9), none, .len (.tmp 8), [], false⟩,
  ⟨(some 10), none, .bin .lss (.tmp 7) (.tmp 9), [], false⟩] [0, 3, 4, 5, 10]
def c_turretref04_Slack_4 : SCode := .cond (.tmp 10) .skip (.exit 0)
def c_turretref04_Slack_5 : SCode := .seq c_turretref04_Slack_3 c_turretref04_Slack_4
def c_turretref04_Slack_6 : SCode := .reg [⟨(some 13), none, .mov (.tmp 3), [], false⟩,
  ⟨(some 14), none, .mov (.tmp 0), [], false⟩,
  ⟨(some 15), none, .mov (.tmp 5), [], false⟩,
  ⟨(some 16), none, .idxS 3 (.tmp 14) (.tmp 15), [], false⟩,
  ⟨(some 17), none, .fld 1 (.tmp 16), [], false⟩,
  ⟨(some 18), none, .fld 0 (.tmp 17), [], false⟩,
  ⟨(some 19), none, .load false 1 (.tmp 18), [], false⟩,
  ⟨(some 20), none, .bin .mul (.tmp 13) (.tmp 19), [], false⟩,
  ⟨(some 3), none, .mov (.tmp 20), [], false⟩] [0, 3, 4, 5]
def c_turretref04_Slack_7 : SCode := .block 1 c_turretref04_Slack_6
def c_turretref04_Slack_8 : SCode := .reg [⟨(some 11), none, .mov (.tmp 5), [], false⟩,
  ⟨(some 12), none, .bin .add (.tmp 11) (.const (.int .i64 1)), [], false⟩,
  ⟨(some 5), none, .mov (.tmp 12), [], false⟩] [0, 3, 4, 5]
def c_turretref04_Slack_9 : SCode := .seq c_turretref04_Slack_7 c_turretref04_Slack_8
def c_turretref04_Slack_10 : SCode := .seq c_turretref04_Slack_5 c_turretref04_Slack_9
def c_turretref04_Slack_11 : SCode := .loop c_turretref04_Slack_10
def c_turretref04_Slack_12 : SCode := .block 0 c_turretref04_Slack_11
def c_turretref04_Slack_13 : SCode := .seq c_turretref04_Slack_2 c_turretref04_Slack_12
def c_turretref04_Slack_14 : SCode := .reg [⟨(some 6), none, .mov (.const (.int .i64 0)), [], false⟩] [0, 3, 4, 6]
def c_turretref04_Slack_15 : SCode := .reg [⟨(some 21), none, .mov (.tmp 6), [], false⟩,
  ⟨(some 22), none, .mov (.tmp 0), [], false⟩,
  ⟨(some 23), none, .len (.tmp 22), [], false⟩,
  ⟨(some 24), none, .bin .lss (.tmp 21) (.tmp 23), [], false⟩] [0, 3, 4, 6, 24]
def c_turretref04_Slack_16 : SCode := .cond (.tmp 24) .skip (.exit 2)
def c_turretref04_Slack_17 : SCode := .seq c_turretref04_Slack_15 c_turretref04_Slack_16
def c_turretref04_Slack_18 : SCode := .reg [⟨(some 27), none, .mov (.tmp 4), [], false⟩,
  ⟨(some 28), none, .mov (.tmp 0), [], false⟩,
  ⟨(some 29), none, .mov (.tmp 6), [], false⟩,
  ⟨(some 30), none, .idxS 3 (.tmp 28) (.tmp 29), [], false⟩,
  ⟨(some 31), none, .fld 0 (.tmp 30), [], false⟩,
  ⟨(some 32), none, .load false 1 (.tmp 31), [], false⟩,
  ⟨(some 33), none, .bin .mul (.tmp 32) (.const (.int .i64 3600)), [], false⟩,
  ⟨(some 34), none, .mov (.tmp 0), [], false⟩,
  ⟨(some 35), none, .mov (.tmp 6), [], false⟩,
  ⟨(some 36), none, .idxS 3 (.tmp 34) (.tmp 35), [], false⟩,
  ⟨(some 37), none, .fld 1 (.tmp 36), [], false⟩,
  ⟨(some 38), none, .fld 1 (.tmp 37), [], false⟩,
  ⟨(some 39), none, .load false 1 (.tmp 38), [], false⟩,
  ⟨(some 40), none, .bin .mul (.tmp 33) (.tmp 39), [], false⟩,
  ⟨(some 41), none, .mov (.tmp 3), [], false⟩,
  ⟨(some 42), none, .mov (.tmp 0), [], false⟩,
  ⟨(some 43), none, .mov (.tmp 6), [], false⟩,
  ⟨(some 44), none, .idxS 3 (.tmp 42) (.tmp 43), [], false⟩,
  ⟨(some 45), none, .fld 1 (.tmp 44), [], false⟩,
  ⟨(some 46), none, .fld 0 (.tmp 45), [], false⟩,
  ⟨(some 47), none, .load false 1 (.tmp 46), [], false⟩,
  ⟨(some 48), none, .bin .quo (.tmp 41) (.tmp 47), [], false⟩,
  ⟨(some 49), none, .bin .mul (.tmp 40) (.tmp 48), [], false⟩,
  ⟨(some 50), none, .bin .add (.tmp 27) (.tmp 49), [], false⟩,
  ⟨(some 4), none, .mov (.tmp 50), [], false⟩] [0, 3, 4, 6]
def c_turretref04_Slack_19 : SCode := .block 3 c_turretref04_Slack_18
def c_turretref04_Slack_20 : SCode := .reg [⟨(some 25), none, .mov (.tmp 6), [], false⟩,
  ⟨(some 26), none, .bin .add (.tmp 25) (.const (.int .i64 1)), [], false⟩,
  ⟨(some 6), none, .mov (.tmp 26), [], false⟩] [0, 3, 4, 6]
def c_turretref04_Slack_21 : SCode := .seq c_turretref04_Slack_19 c_turretref04_Slack_20
def c_turretref04_Slack_22 : SCode := .seq c_turretref04_Slack_17 c_turretref04_Slack_21
def c_turretref04_Slack_23 : SCode := .loop c_turretref04_Slack_22
def c_turretref04_Slack_24 : SCode := .block 2 c_turretref04_Slack_23
def c_turretref04_Slack_25 : SCode := .seq c_turretref04_Slack_14 c_turretref04_Slack_24
def c_turretref04_Slack_26 : SCode := .reg [⟨(some 51), none, .mov (.tmp 3), [], false⟩,
  ⟨(some 52), none, .bin .mul (.tmp 51) (.const (.int .i64 1000)), [], false⟩,
  ⟨(some 3), none, .mov (.tmp 52), [], false⟩] [3, 4]
def c_turretref04_Slack_27 : SCode := .reg [⟨(some 53), none, .mov (.tmp 4), [], false⟩,
  ⟨(some 54), none, .mov (.tmp 3), [], false⟩,
  ⟨(some 55), none, .bin .rem (.tmp 53) (.tmp 54), [], false⟩,
  ⟨(some 56), none, .bin .gtr (.tmp 55) (.const (.int .i64 0)), [], false⟩] [3, 4, 56]
def c_turretref04_Slack_28 : SCode := .reg [⟨(some 57), none, .mov (.tmp 4), [], false⟩,
  ⟨(some 58), none, .mov (.tmp 3), [], false⟩,
  ⟨(some 59), none, .bin .quo (.tmp 57) (.tmp 58), [], false⟩,
  ⟨(some 60), none, .bin .add (.tmp 59) (.const (.int .i64 1)), [], false⟩,
  ⟨(some 2), none, .mov (.tmp 60), [], false⟩] [2]
def c_turretref04_Slack_29 : SCode := .seq c_turretref04_Slack_28 .ret
def c_turretref04_Slack_30 : SCode := .cond (.tmp 56) c_turretref04_Slack_29 .skip
def c_turretref04_Slack_31 : SCode := .seq c_turretref04_Slack_27 c_turretref04_Slack_30
def c_turretref04_Slack_32 : SCode := .reg [⟨(some 61), none, .mov (.tmp 4), [], false⟩,
  ⟨(some 62), none, .mov (.tmp 3), [], false⟩,
  ⟨(some 63), none, .bin .quo (.tmp 61) (.tmp 62), [], false⟩,
  ⟨(some 2), none, .mov (.tmp 63), [], false⟩] [2]
def c_turretref04_Slack_33 : SCode := .seq c_turretref04_Slack_32 .ret
def c_turretref04_Slack_34 : SCode := .seq c_turretref04_Slack_31 c_turretref04_Slack_33
def c_turretref04_Slack_35 : SCode := .seq c_turretref04_Slack_26 c_turretref04_Slack_34
def c_turretref04_Slack_36 : SCode := .seq c_turretref04_Slack_25 c_turretref04_Slack_35
def c_turretref04_Slack_37 : SCode := .seq c_turretref04_Slack_13 c_turretref04_Slack_36
def c_turretref04_Slack_38 : SCode := .seq c_turretref04_Slack_1 c_turretref04_Slack_37
def c_turretref04_Slack_39 : SCode := .seq c_turretref04_Slack_0 c_turretref04_Slack_38
@[simp] def rs_turretref04_Slack : List SRes := [.tmp 2]
theorem law_turretref04_Slack (cs : List CV) (r : CV) (hl : cs.length ≤ 64) (h : STri (cfF Try.prog [] 64) c_turretref04_Slack_39 (initT 0 cs) [] (retQ rs_turretref04_Slack r)) : SC Try.prog 42 cs r :=
  sc_of [] follows Try.func42 rfl Try.ntmps42 (by decide) (by kernel_rfl) (by kernel_rfl) hl h

-- turret/turretref04.In (51)
def c_turretref04_In_0 : SCode := .reg [⟨(some 6), none, .mov (.const (.bool false)), [], false⟩] [0, 1, 2]
def c_turretref04_In_1 : SCode := .reg [⟨(some 7), none, .mov (.tmp 0), [], false⟩,
  ⟨(some 8), none, .mov (.tmp 1), [], false⟩,
  ⟨(some 9), none, .bin .geq (.tmp 7) (.tmp 8), [], false⟩,
  ⟨(some 10), none, .mov (.tmp 9), [], false⟩,
  ⟨(some 11), (some (10, true)), .mov (.tmp 0), [], false⟩,
  ⟨(some 12), (some (10, true)), .mov (.tmp 2), [], false⟩,
  ⟨(some 13), (some (10, true)), .bin .leq (.tmp 11) (.tmp 12), [], false⟩,
  ⟨(some 14), none, .pick (.tmp 10) (.tmp 13) (.const (.bool false)), [], false⟩,
  ⟨(some 6), none, .mov (.tmp 14), [], false⟩] [6]
def c_turretref04_In_2 : SCode := .seq c_turretref04_In_1 .ret
def c_turretref04_In_3 : SCode := .seq c_turretref04_In_0 c_turretref04_In_2
@[simp] def rs_turretref04_In : List SRes := [.tmp 6]
theorem law_turretref04_In (cs : List CV) (r : CV) (hl : cs.length ≤ 15) (h : STri (cfF Try.prog [] 15) c_turretref04_In_3 (initT 0 cs) [] (retQ rs_turretref04_In r)) : SC Try.prog 51 cs r :=
  sc_of [] follows Try.func51 rfl Try.ntmps51 (by decide) (by kernel_rfl) (by kernel_rfl) hl h

-- turret/turretref04.Wind (52)
def c_turretref04_Wind_0 : SCode := .reg [⟨(some 1), none, .box 23 (.tmp 0), [], false⟩,
  ⟨(some 2), none, .mov (.const (.bool false)), [], false⟩] [1]
def c_turretref04_Wind_1 : SCode := .reg [⟨(some 3), none, .load true 2 (.tmp 1), [], false⟩,
  ⟨(some 4), none, .call 72 [(.tmp 3), (.const (.int .i64 (-10000))), (.const (.int .i64 10000))], [], false⟩,
  ⟨(some 2), none, .mov (.tmp 4), [], false⟩] [2]
def c_turretref04_Wind_2 : SCode := .seq c_turretref04_Wind_1 .ret
def c_turretref04_Wind_3 : SCode := .seq c_turretref04_Wind_0 c_turretref04_Wind_2
@[simp] def rs_turretref04_Wind : List SRes := [.tmp 2]
theorem law_turretref04_Wind (cs : List CV) (r : CV) (hl : cs.length ≤ 5) (h : STri (cfF Try.prog [] 5) c_turretref04_Wind_3 (initT 0 cs) [] (retQ rs_turretref04_Wind r)) : SC Try.prog 52 cs r :=
  sc_of [] follows Try.func52 rfl Try.ntmps52 (by decide) (by kernel_rfl) (by kernel_rfl) hl h

-- turret/turretref04.Hands (53)
def c_turretref04_Hands_0 : SCode := .reg [⟨(some 5), none, .box 26 (.tmp 0), [], false⟩,
  ⟨(some 6), none, .box 80 (.tmp 1), [], false⟩,
  ⟨(some 9), none, .box 23 (.tmp 4), [], false⟩,
  ⟨(some 10), none, .alloc 23 [(.int .i64 0), (.int .i64 0)], [], false⟩] [2, 3, 5, 6, 9, 10]
def c_turretref04_Hands_1 : SCode := .reg [⟨(some 13), none, .load true 4 (.tmp 5), [], false⟩,
  ⟨(some 14), none, .mov (.tmp 2), [], false⟩,
  ⟨(some 15), none, .mov (.tmp 3), [], false⟩,
  ⟨(some 16), none, .call 54 [(.tmp 13), (.tmp 14), (.tmp 15)], [], false⟩,
  ⟨(some 11), none, .mov (.tmp 16), [], false⟩] [6, 9, 10, 11]
def c_turretref04_Hands_2 : SCode := .reg [⟨(some 17), none, .load true 5 (.tmp 6), [], false⟩,
  ⟨(some 18), none, .mov (.tmp 11), [], false⟩,
  ⟨(some 19), none, .load true 2 (.tmp 9), [], false⟩,
  ⟨(some 20), none, .call 55 [(.tmp 17), (.tmp 18), (.tmp 19)], [], false⟩,
  ⟨(some 12), none, .alloc 23 [(.int .i64 0), (.int .i64 0)], [], false⟩,
  ⟨none, none, .store 2 (.tmp 12) (.tmp 20), [], false⟩] [6, 10, 11, 12]
def c_turretref04_Hands_3 : SCode := .reg [⟨(some 21), none, .mov (.tmp 11), [], false⟩,
  ⟨(some 22), none, .fld 0 (.tmp 6), [], false⟩,
  ⟨(some 23), none, .fld 0 (.tmp 22), [], false⟩,
  ⟨(some 24), none, .load false 1 (.tmp 23), [], false⟩,
  ⟨(some 25), none, .bin .add (.tmp 21) (.tmp 24), [], false⟩,
  ⟨(some 26), none, .fld 1 (.tmp 12), [], false⟩,
  ⟨(some 27), none, .load false 1 (.tmp 26), [], false⟩,
  ⟨(some 28), none, .bin .sub (.tmp 25) (.tmp 27), [], false⟩,
  ⟨(some 29), none, .mov (.tmp 11), [], false⟩,
  ⟨(some 30), none, .fld 0 (.tmp 6), [], false⟩,
  ⟨(some 31), none, .fld 1 (.tmp 30), [], false⟩,
  ⟨(some 32), none, .load false 1 (.tmp 31), [], false⟩,
  ⟨(some 33), none, .bin .add (.tmp 29) (.tmp 32), [], false⟩,
  ⟨(some 34), none, .fld 0 (.tmp 12), [], false⟩,
  ⟨(some 35), none, .load false 1 (.tmp 34), [], false⟩,
  ⟨(some 36), none, .bin .sub (.tmp 33) (.tmp 35), [], false⟩,
  ⟨(some 37), none, .build [(.int .i64 0), (.int .i64 0)] [(0, 1, (.tmp 28)), (1, 1, (.tmp 36))], [], false⟩,
  ⟨none, none, .store 2 (.tmp 10) (.tmp 37), [], false⟩] [10]
def c_turretref04_Hands_4 : SCode := .seq c_turretref04_Hands_3 .ret
def c_turretref04_Hands_5 : SCode := .seq c_turretref04_Hands_2 c_turretref04_Hands_4
def c_turretref04_Hands_6 : SCode := .seq c_turretref04_Hands_1 c_turretref04_Hands_5
def c_turretref04_Hands_7 : SCode := .seq c_turretref04_Hands_0 c_turretref04_Hands_6
@[simp] def rs_turretref04_Hands : List SRes := [.cell 10 true 2]
theorem law_turretref04_Hands (cs : List CV) (r : CV) (hl : cs.length ≤ 38) (h : STri (cfF Try.prog [] 38) c_turretref04_Hands_7 (initT 0 cs) [] (retQ rs_turretref04_Hands r)) : SC Try.prog 53 cs r :=
  sc_of [] follows Try.func53 rfl Try.ntmps53 (by decide) (by kernel_rfl) (by kernel_rfl) hl h

-- turret/turretref04.Driven (54)
def c_turretref04_Driven_0 : SCode := .reg [⟨(some 3), none, .box 26 (.tmp 0), [], false⟩,
  ⟨(some 6), none, .mov (.const (.int .i64 0)), [], false⟩] [1, 2, 3]
def c_turretref04_Driven_1 : SCode := .reg [⟨(some 7), none, .mov (.tmp 1), [], false⟩,
  ⟨(some 8), none, .mov (.tmp 2), [], false⟩,
  ⟨(some 9), none, .bin .add (.tmp 7) (.tmp 8), [], false⟩,
  ⟨(some 10), none, .mov (.tmp 1), [], false⟩,
  ⟨(some 11), none, .mov (.tmp 2), [], false⟩,
  ⟨(some 12), none, .bin .add (.tmp 10) (.tmp 11), [], false⟩,
  ⟨(some 13), none, .fld 0 (.tmp 3), [], false⟩,
  ⟨(some 14), none, .load false 1 (.tmp 13), [], false⟩,
  ⟨(some 15), none, .call 60 [(.tmp 12), (.tmp 14)], [], false⟩,
  ⟨(some 16), none, .bin .sub (.tmp 9) (.tmp 15), [], false⟩,
  ⟨(some 6), none, .mov (.tmp 16), [], false⟩] [6]
def c_turretref04_Driven_2 : SCode := .seq c_turretref04_Driven_1 .ret
def c_turretref04_Driven_3 : SCode := .seq c_turretref04_Driven_0 c_turretref04_Driven_2
@[simp] def rs_turretref04_Driven : List SRes := [.tmp 6]
theorem law_turretref04_Driven (cs : List CV) (r : CV) (hl : cs.length ≤ 17) (h : STri (cfF Try.prog [] 17) c_turretref04_Driven_3 (initT 0 cs) [] (retQ rs_turretref04_Driven r)) : SC Try.prog 54 cs r :=
  sc_of [] follows Try.func54 rfl Try.ntmps54 (by decide) (by kernel_rfl) (by kernel_rfl) hl h

-- turret/turretref04.Lags (55)
def c_turretref04_Lags_0 : SCode := .reg [⟨(some 3), none, .box 80 (.tmp 0), [], false⟩,
  ⟨(some 5), none, .box 23 (.tmp 2), [], false⟩,
  ⟨(some 6), none, .alloc 23 [(.int .i64 0), (.int .i64 0)], [], false⟩] [1, 3, 5, 6]
def c_turretref04_Lags_1 : SCode := .reg [⟨(some 8), none, .fld 2 (.tmp 3), [], false⟩,
  ⟨(some 9), none, .load false 1 (.tmp 8), [], false⟩,
  ⟨(some 10), none, .call 42 [(.tmp 9)], [], false⟩,
  ⟨(some 7), none, .mov (.tmp 10), [], false⟩] [1, 3, 5, 6, 7]
def c_turretref04_Lags_2 : SCode := .reg [⟨(some 11), none, .load true 5 (.tmp 3), [], false⟩,
  ⟨(some 12), none, .mov (.tmp 1), [], false⟩,
  ⟨(some 13), none, .fld 0 (.tmp 5), [], false⟩,
  ⟨(some 14), none, .load false 1 (.tmp 13), [], false⟩,
  ⟨(some 15), none, .call 79 [(.tmp 11), (.tmp 12), (.tmp 14)], [], false⟩,
  ⟨(some 16), none, .fld 4 (.tmp 3), [], false⟩,
  ⟨(some 17), none, .load false 1 (.tmp 16), [], false⟩,
  ⟨(some 18), none, .bin .gtr (.tmp 15) (.tmp 17), [], false⟩] [1, 3, 5, 6, 7, 18]
def c_turretref04_Lags_3 : SCode := .reg [⟨(some 19), none, .build [(.int .i64 0), (.int .i64 0)] [], [], false⟩,
  ⟨none, none, .store 2 (.tmp 6) (.tmp 19), [], false⟩] [6]
def c_turretref04_Lags_4 : SCode := .seq c_turretref04_Lags_3 .ret
def c_turretref04_Lags_5 : SCode := .cond (.tmp 18) c_turretref04_Lags_4 .skip
def c_turretref04_Lags_6 : SCode := .seq c_turretref04_Lags_2 c_turretref04_Lags_5
def c_turretref04_Lags_7 : SCode := .reg [⟨(some 20), none, .load true 5 (.tmp 3), [], false⟩,
  ⟨(some 21), none, .mov (.tmp 1), [], false⟩,
  ⟨(some 22), none, .fld 1 (.tmp 5), [], false⟩,
  ⟨(some 23), none, .load false 1 (.tmp 22), [], false⟩,
  ⟨(some 24), none, .call 79 [(.tmp 20), (.tmp 21), (.tmp 23)], [], false⟩,
  ⟨(some 25), none, .fld 4 (.tmp 3), [], false⟩,
  ⟨(some 26), none, .load false 1 (.tmp 25), [], false⟩,
  ⟨(some 27), none, .un .neg (.tmp 26), [], false⟩,
  ⟨(some 28), none, .bin .lss (.tmp 24) (.tmp 27), [], false⟩] [6, 7, 28]
def c_turretref04_Lags_8 : SCode := .reg [⟨(some 29), none, .mov (.tmp 7), [], false⟩,
  ⟨(some 30), none, .mov (.tmp 7), [], false⟩,
  ⟨(some 31), none, .build [(.int .i64 0), (.int .i64 0)] [(0, 1, (.tmp 29)), (1, 1, (.tmp 30))], [], false⟩,
  ⟨none, none, .store 2 (.tmp 6) (.tmp 31), [], false⟩] [6]
def c_turretref04_Lags_9 : SCode := .seq c_turretref04_Lags_8 .ret
def c_turretref04_Lags_10 : SCode := .cond (.tmp 28) c_turretref04_Lags_9 .skip
def c_turretref04_Lags_11 : SCode := .seq c_turretref04_Lags_7 c_turretref04_Lags_10
def c_turretref04_Lags_12 : SCode := .reg [⟨(some 32), none, .mov (.tmp 7), [], false⟩,
  ⟨(some 33), none, .build [(.int .i64 0), (.int .i64 0)] [(1, 1, (.tmp 32))], [], false⟩,
  ⟨none, none, .store 2 (.tmp 6) (.tmp 33), [], false⟩] [6]
def c_turretref04_Lags_13 : SCode := .seq c_turretref04_Lags_12 .ret
def c_turretref04_Lags_14 : SCode := .seq c_turretref04_Lags_11 c_turretref04_Lags_13
def c_turretref04_Lags_15 : SCode := .seq c_turretref04_Lags_6 c_turretref04_Lags_14
def c_turretref04_Lags_16 : SCode := .seq c_turretref04_Lags_1 c_turretref04_Lags_15
def c_turretref04_Lags_17 : SCode := .seq c_turretref04_Lags_0 c_turretref04_Lags_16
@[simp] def rs_turretref04_Lags : List SRes := [.cell 6 true 2]
theorem law_turretref04_Lags (cs : List CV) (r : CV) (hl : cs.length ≤ 34) (h : STri (cfF Try.prog [] 34) c_turretref04_Lags_17 (initT 0 cs) [] (retQ rs_turretref04_Lags r)) : SC Try.prog 55 cs r :=
  sc_of [] follows Try.func55 rfl Try.ntmps55 (by decide) (by kernel_rfl) (by kernel_rfl) hl h

-- turret/turretref04.Hangs (56)
def c_turretref04_Hangs_0 : SCode := .reg [⟨(some 4), none, .box 80 (.tmp 0), [], false⟩,
  ⟨(some 8), none, .mov (.const (.bool false)), [], false⟩] [1, 2, 3, 4]
def c_turretref04_Hangs_1 : SCode := .reg [⟨(some 10), none, .load true 5 (.tmp 4), [], false⟩,
  ⟨(some 11), none, .mov (.tmp 1), [], false⟩,
  ⟨(some 12), none, .mov (.tmp 2), [], false⟩,
  ⟨(some 13), none, .call 79 [(.tmp 10), (.tmp 11), (.tmp 12)], [], false⟩,
  ⟨(some 9), none, .mov (.tmp 13), [], false⟩] [3, 4, 9]
def c_turretref04_Hangs_2 : SCode := .reg [⟨(some 15), none, .mov (.tmp 9), [], false⟩,
  ⟨(some 16), none, .fld 4 (.tmp 4), [], false⟩,
  ⟨(some 17), none, .load false 1 (.tmp 16), [], false⟩,
  ⟨(some 18), none, .bin .gtr (.tmp 15) (.tmp 17), [], false⟩,
  ⟨(some 14), none, .mov (.tmp 18), [], false⟩] [3, 4, 9, 14]
def c_turretref04_Hangs_3 : SCode := .reg [⟨(some 19), none, .mov (.tmp 3), [], false⟩,
  ⟨(some 20), none, .bin .eql (.tmp 19) (.const (.int .i64 0)), [], false⟩,
  ⟨(some 8), none, .mov (.tmp 20), [], false⟩] [8]
def c_turretref04_Hangs_4 : SCode := .seq c_turretref04_Hangs_3 .ret
def c_turretref04_Hangs_5 : SCode := .reg [⟨(some 22), none, .mov (.tmp 9), [], false⟩,
  ⟨(some 23), none, .fld 4 (.tmp 4), [], false⟩,
  ⟨(some 24), none, .load false 1 (.tmp 23), [], false⟩,
  ⟨(some 25), none, .un .neg (.tmp 24), [], false⟩,
  ⟨(some 26), none, .bin .lss (.tmp 22) (.tmp 25), [], false⟩,
  ⟨(some 21), none, .mov (.tmp 26), [], false⟩] [3, 4, 21]
def c_turretref04_Hangs_6 : SCode := .reg [⟨(some 27), none, .mov (.tmp 3), [], false⟩,
  ⟨(some 28), none, .fld 2 (.tmp 4), [], false⟩,
  ⟨(some 29), none, .load false 1 (.tmp 28), [], false⟩,
  ⟨(some 30), none, .call 42 [(.tmp 29)], [], false⟩,
  ⟨(some 31), none, .bin .eql (.tmp 27) (.tmp 30), [], false⟩,
  ⟨(some 8), none, .mov (.tmp 31), [], false⟩] [8]
def c_turretref04_Hangs_7 : SCode := .seq c_turretref04_Hangs_6 .ret
def c_turretref04_Hangs_8 : SCode := .cond (.tmp 21) c_turretref04_Hangs_7 .skip
def c_turretref04_Hangs_9 : SCode := .seq c_turretref04_Hangs_5 c_turretref04_Hangs_8
def c_turretref04_Hangs_10 : SCode := .cond (.tmp 14) c_turretref04_Hangs_4 c_turretref04_Hangs_9
def c_turretref04_Hangs_11 : SCode := .seq c_turretref04_Hangs_2 c_turretref04_Hangs_10
def c_turretref04_Hangs_12 : SCode := .block 0 c_turretref04_Hangs_11
def c_turretref04_Hangs_13 : SCode := .reg [⟨(some 32), none, .mov (.tmp 3), [], false⟩,
  ⟨(some 33), none, .fld 2 (.tmp 4), [], false⟩,
  ⟨(some 34), none, .load false 1 (.tmp 33), [], false⟩,
  ⟨(some 35), none, .call 42 [(.tmp 34)], [], false⟩,
  ⟨(some 36), none, .call 51 [(.tmp 32), (.const (.int .i64 0)), (.tmp 35)], [], false⟩,
  ⟨(some 8), none, .mov (.tmp 36), [], false⟩] [8]
def c_turretref04_Hangs_14 : SCode := .seq c_turretref04_Hangs_13 .ret
def c_turretref04_Hangs_15 : SCode := .seq c_turretref04_Hangs_12 c_turretref04_Hangs_14
def c_turretref04_Hangs_16 : SCode := .seq c_turretref04_Hangs_1 c_turretref04_Hangs_15
def c_turretref04_Hangs_17 : SCode := .seq c_turretref04_Hangs_0 c_turretref04_Hangs_16
@[simp] def rs_turretref04_Hangs : List SRes := [.tmp 8]
theorem law_turretref04_Hangs (cs : List CV) (r : CV) (hl : cs.length ≤ 37) (h : STri (cfF Try.prog [] 37) c_turretref04_Hangs_17 (initT 0 cs) [] (retQ rs_turretref04_Hangs r)) : SC Try.prog 56 cs r :=
  sc_of [] follows Try.func56 rfl Try.ntmps56 (by decide) (by kernel_rfl) (by kernel_rfl) hl h

-- turret/turretref04.Mod (60)
def c_turretref04_Mod_0 : SCode := .reg [⟨(some 4), none, .mov (.const (.int .i64 0)), [], false⟩] [0, 1]
def c_turretref04_Mod_1 : SCode := .reg [⟨(some 6), none, .mov (.tmp 0), [], false⟩,
  ⟨(some 7), none, .mov (.tmp 1), [], false⟩,
  ⟨(some 8), none, .bin .rem (.tmp 6) (.tmp 7), [], false⟩,
  ⟨(some 5), none, .mov (.tmp 8), [], false⟩] [1, 5]
def c_turretref04_Mod_2 : SCode := .reg [⟨(some 9), none, .mov (.tmp 5), [], false⟩,
  ⟨(some 10), none, .bin .lss (.tmp 9) (.const (.int .i64 0)), [], false⟩] [1, 5, 10]
def c_turretref04_Mod_3 : SCode := .reg [⟨(some 11), none, .mov (.tmp 5), [], false⟩,
  ⟨(some 12), none, .mov (.tmp 1), [], false⟩,
  ⟨(some 13), none, .bin .add (.tmp 11) (.tmp 12), [], false⟩,
  ⟨(some 5), none, .mov (.tmp 13), [], false⟩] [5]
def c_turretref04_Mod_4 : SCode := .cond (.tmp 10) c_turretref04_Mod_3 .skip
def c_turretref04_Mod_5 : SCode := .seq c_turretref04_Mod_2 c_turretref04_Mod_4
def c_turretref04_Mod_6 : SCode := .reg [⟨(some 14), none, .mov (.tmp 5), [], false⟩,
  ⟨(some 4), none, .mov (.tmp 14), [], false⟩] [4]
def c_turretref04_Mod_7 : SCode := .seq c_turretref04_Mod_6 .ret
def c_turretref04_Mod_8 : SCode := .seq c_turretref04_Mod_5 c_turretref04_Mod_7
def c_turretref04_Mod_9 : SCode := .seq c_turretref04_Mod_1 c_turretref04_Mod_8
def c_turretref04_Mod_10 : SCode := .seq c_turretref04_Mod_0 c_turretref04_Mod_9
@[simp] def rs_turretref04_Mod : List SRes := [.tmp 4]
theorem law_turretref04_Mod (cs : List CV) (r : CV) (hl : cs.length ≤ 15) (h : STri (cfF Try.prog [] 15) c_turretref04_Mod_10 (initT 0 cs) [] (retQ rs_turretref04_Mod r)) : SC Try.prog 60 cs r :=
  sc_of [] follows Try.func60 rfl Try.ntmps60 (by decide) (by kernel_rfl) (by kernel_rfl) hl h

-- turret/turretref04.Steady (71)
def c_turretref04_Steady_0 : SCode := .reg [⟨(some 4), none, .box 80 (.tmp 0), [], false⟩,
  ⟨(some 6), none, .box 23 (.tmp 2), [], false⟩,
  ⟨(some 8), none, .mov (.const (.bool false)), [], false⟩] [1, 3, 4, 6]
def c_turretref04_Steady_1 : SCode := .reg [⟨(some 9), none, .mov (.tmp 3), [], false⟩] [1, 4, 6, 9]
def c_turretref04_Steady_2 : SCode := .reg [⟨(some 10), none, .fld 0 (.tmp 6), [], false⟩,
  ⟨(some 11), none, .load false 1 (.tmp 10), [], false⟩,
  ⟨(some 12), none, .mov (.tmp 1), [], false⟩,
  ⟨(some 13), none, .bin .add (.tmp 11) (.tmp 12), [], false⟩,
  ⟨(some 14), none, .fld 4 (.tmp 4), [], false⟩,
  ⟨(some 15), none, .load false 1 (.tmp 14), [], false⟩,
  ⟨(some 16), none, .bin .gtr (.tmp 13) (.tmp 15), [], false⟩,
  ⟨(some 17), none, .mov (.tmp 16), [], false⟩,
  ⟨(some 18), (some (17, true)), .fld 1 (.tmp 6), [], false⟩,
  ⟨(some 19), (some (17, true)), .load false 1 (.tmp 18), [], false⟩,
  ⟨(some 20), (some (17, true)), .mov (.tmp 1), [], false⟩,
  ⟨(some 21), (some (17, true)), .bin .sub (.tmp 19) (.tmp 20), [], false⟩,
  ⟨(some 22), (some (17, true)), .fld 4 (.tmp 4), [], false⟩,
  ⟨(some 23), (some (17, true)), .load false 1 (.tmp 22), [], false⟩,
  ⟨(some 24), (some (17, true)), .un .neg (.tmp 23), [], false⟩,
  ⟨(some 25), (some (17, true)), .bin .lss (.tmp 21) (.tmp 24), [], false⟩,
  ⟨(some 26), none, .pick (.tmp 17) (.tmp 25) (.const (.bool false)), [], false⟩,
  ⟨(some 8), none, .mov (.tmp 26), [], false⟩] [8]
def c_turretref04_Steady_3 : SCode := .seq c_turretref04_Steady_2 .ret
def c_turretref04_Steady_4 : SCode := .cond (.tmp 9) c_turretref04_Steady_3 .skip
def c_turretref04_Steady_5 : SCode := .seq c_turretref04_Steady_1 c_turretref04_Steady_4
def c_turretref04_Steady_6 : SCode := .reg [⟨(some 27), none, .fld 1 (.tmp 6), [], false⟩,
  ⟨(some 28), none, .load false 1 (.tmp 27), [], false⟩,
  ⟨(some 29), none, .mov (.tmp 1), [], false⟩,
  ⟨(some 30), none, .bin .add (.tmp 28) (.tmp 29), [], false⟩,
  ⟨(some 31), none, .fld 4 (.tmp 4), [], false⟩,
  ⟨(some 32), none, .load false 1 (.tmp 31), [], false⟩,
  ⟨(some 33), none, .un .neg (.tmp 32), [], false⟩,
  ⟨(some 34), none, .bin .lss (.tmp 30) (.tmp 33), [], false⟩,
  ⟨(some 35), none, .mov (.tmp 34), [], false⟩,
  ⟨(some 36), (some (35, true)), .fld 0 (.tmp 6), [], false⟩,
  ⟨(some 37), (some (35, true)), .load false 1 (.tmp 36), [], false⟩,
  ⟨(some 38), (some (35, true)), .mov (.tmp 1), [], false⟩,
  ⟨(some 39), (some (35, true)), .bin .sub (.tmp 37) (.tmp 38), [], false⟩,
  ⟨(some 40), (some (35, true)), .fld 4 (.tmp 4), [], false⟩,
  ⟨(some 41), (some (35, true)), .load false 1 (.tmp 40), [], false⟩,
  ⟨(some 42), (some (35, true)), .bin .gtr (.tmp 39) (.tmp 41), [], false⟩,
  ⟨(some 43), none, .pick (.tmp 35) (.tmp 42) (.const (.bool false)), [], false⟩,
  ⟨(some 8), none, .mov (.tmp 43), [], false⟩] [8]
def c_turretref04_Steady_7 : SCode := .seq c_turretref04_Steady_6 .ret
def c_turretref04_Steady_8 : SCode := .seq c_turretref04_Steady_5 c_turretref04_Steady_7
def c_turretref04_Steady_9 : SCode := .seq c_turretref04_Steady_0 c_turretref04_Steady_8
@[simp] def rs_turretref04_Steady : List SRes := [.tmp 8]
theorem law_turretref04_Steady (cs : List CV) (r : CV) (hl : cs.length ≤ 44) (h : STri (cfF Try.prog [] 44) c_turretref04_Steady_9 (initT 0 cs) [] (retQ rs_turretref04_Steady r)) : SC Try.prog 71 cs r :=
  sc_of [] follows Try.func71 rfl Try.ntmps71 (by decide) (by kernel_rfl) (by kernel_rfl) hl h

-- turret/turretref04.Span (72)
def c_turretref04_Span_0 : SCode := .reg [⟨(some 3), none, .box 23 (.tmp 0), [], false⟩,
  ⟨(some 6), none, .mov (.const (.bool false)), [], false⟩] [1, 2, 3]
def c_turretref04_Span_1 : SCode := .reg [⟨(some 7), none, .fld 0 (.tmp 3), [], false⟩,
  ⟨(some 8), none, .load false 1 (.tmp 7), [], false⟩,
  ⟨(some 9), none, .mov (.tmp 1), [], false⟩,
  ⟨(some 10), none, .fld 1 (.tmp 3), [], false⟩,
  ⟨(some 11), none, .load false 1 (.tmp 10), [], false⟩,
  ⟨(some 12), none, .call 51 [(.tmp 8), (.tmp 9), (.tmp 11)], [], false⟩,
  ⟨(some 13), none, .mov (.tmp 12), [], false⟩,
  ⟨(some 14), (some (13, true)), .fld 1 (.tmp 3), [], false⟩,
  ⟨(some 15), (some (13, true)), .load false 1 (.tmp 14), [], false⟩,
  ⟨(some 16), (some (13, true)), .mov (.tmp 2), [], false⟩,
  ⟨(some 17), (some (13, true)), .bin .leq (.tmp 15) (.tmp 16), [], false⟩,
  ⟨(some 18), none, .pick (.tmp 13) (.tmp 17) (.const (.bool false)), [], false⟩,
  ⟨(some 6), none, .mov (.tmp 18), [], false⟩] [6]
def c_turretref04_Span_2 : SCode := .seq c_turretref04_Span_1 .ret
def c_turretref04_Span_3 : SCode := .seq c_turretref04_Span_0 c_turretref04_Span_2
@[simp] def rs_turretref04_Span : List SRes := [.tmp 6]
theorem law_turretref04_Span (cs : List CV) (r : CV) (hl : cs.length ≤ 19) (h : STri (cfF Try.prog [] 19) c_turretref04_Span_3 (initT 0 cs) [] (retQ rs_turretref04_Span r)) : SC Try.prog 72 cs r :=
  sc_of [] follows Try.func72 rfl Try.ntmps72 (by decide) (by kernel_rfl) (by kernel_rfl) hl h

-- turret/turretref04.Force (79)
def c_turretref04_Force_0 : SCode := .reg [⟨(some 3), none, .box 80 (.tmp 0), [], false⟩,
  ⟨(some 6), none, .mov (.const (.int .i64 0)), [], false⟩] [1, 2, 3]
def c_turretref04_Force_1 : SCode := .reg [⟨(some 7), none, .mov (.tmp 1), [], false⟩,
  ⟨(some 8), none, .call 60 [(.tmp 7), (.const (.int .i64 3600))], [], false⟩,
  ⟨(some 9), none, .bin .lss (.tmp 8) (.const (.int .i64 1800)), [], false⟩] [2, 3, 9]
def c_turretref04_Force_2 : SCode := .reg [⟨(some 10), none, .mov (.tmp 2), [], false⟩,
  ⟨(some 11), none, .fld 3 (.tmp 3), [], false⟩,
  ⟨(some 12), none, .load false 1 (.tmp 11), [], false⟩,
  ⟨(some 13), none, .bin .add (.tmp 10) (.tmp 12), [], false⟩,
  ⟨(some 6), none, .mov (.tmp 13), [], false⟩] [6]
def c_turretref04_Force_3 : SCode := .seq c_turretref04_Force_2 .ret
def c_turretref04_Force_4 : SCode := .cond (.tmp 9) c_turretref04_Force_3 .skip
def c_turretref04_Force_5 : SCode := .seq c_turretref04_Force_1 c_turretref04_Force_4
def c_turretref04_Force_6 : SCode := .reg [⟨(some 14), none, .mov (.tmp 2), [], false⟩,
  ⟨(some 15), none, .fld 3 (.tmp 3), [], false⟩,
  ⟨(some 16), none, .load false 1 (.tmp 15), [], false⟩,
  ⟨(some 17), none, .bin .sub (.tmp 14) (.tmp 16), [], false⟩,
  ⟨(some 6), none, .mov (.tmp 17), [], false⟩] [6]
def c_turretref04_Force_7 : SCode := .seq c_turretref04_Force_6 .ret
def c_turretref04_Force_8 : SCode := .seq c_turretref04_Force_5 c_turretref04_Force_7
def c_turretref04_Force_9 : SCode := .seq c_turretref04_Force_0 c_turretref04_Force_8
@[simp] def rs_turretref04_Force : List SRes := [.tmp 6]
theorem law_turretref04_Force (cs : List CV) (r : CV) (hl : cs.length ≤ 18) (h : STri (cfF Try.prog [] 18) c_turretref04_Force_9 (initT 0 cs) [] (retQ rs_turretref04_Force r)) : SC Try.prog 79 cs r :=
  sc_of [] follows Try.func79 rfl Try.ntmps79 (by decide) (by kernel_rfl) (by kernel_rfl) hl h

end Go.Proofs.Ytnfggkopledpcaa
/- The shadow code of functions, as the kit's translation has them. -/
namespace Go.Proofs.Ytnfggkopledpcaa
open Go.RowKit

-- turret/turretlaw04.DialChecks (10)
def c_turretlaw04_DialChecks_0 : SCode := .reg [⟨(some 3), none, .box 26 (.tmp 0), [], false⟩,
  ⟨(some 4), none, .box 80 (.tmp 1), [], false⟩,
  ⟨(some 5), none, .box 23 (.tmp 2), [], false⟩,
  ⟨(some 6), none, .mov (.const (.bool false)), [], false⟩] [3, 4, 5]
def c_turretlaw04_DialChecks_1 : SCode := .reg [⟨(some 18), none, .load true 4 (.tmp 3), [], false⟩,
  ⟨(some 19), none, .call 11 [(.tmp 18)], [], false⟩,
  ⟨(some 20), none, .mov (.tmp 19), [], false⟩,
  ⟨(some 21), (some (20, false)), .fld 2 (.tmp 4), [], false⟩,
  ⟨(some 22), (some (20, false)), .load false 1 (.tmp 21), [], false⟩,
  ⟨(some 23), (some (20, false)), .len (.tmp 22), [], false⟩,
  ⟨(some 24), (some (20, false)), .bin .gtr (.tmp 23) (.const (.int .i64 10)), [], false⟩,
  ⟨(some 25), none, .pick (.tmp 20) (.const (.bool true)) (.tmp 24), [], false⟩] [3, 4, 5, 25]
def c_turretlaw04_DialChecks_2 : SCode := .reg [⟨(some 26), none, .call 12 [], [], false⟩,
  ⟨(some 6), none, .mov (.tmp 26), [], false⟩] [6]
def c_turretlaw04_DialChecks_3 : SCode := .seq c_turretlaw04_DialChecks_2 .ret
def c_turretlaw04_DialChecks_4 : SCode := .cond (.tmp 25) c_turretlaw04_DialChecks_3 .skip
def c_turretlaw04_DialChecks_5 : SCode := .seq c_turretlaw04_DialChecks_1 c_turretlaw04_DialChecks_4
def c_turretlaw04_DialChecks_6 : SCode := .reg [⟨(some 27), none, .load true 4 (.tmp 3), [], true⟩,
  ⟨(some 28), none, .call 13 [(.tmp 27)], [], true⟩,
  ⟨(some 29), none, .load true 5 (.tmp 4), [], true⟩,
  ⟨(some 30), none, .call 35 [(.tmp 29)], [], true⟩,
  ⟨(some 7), none, .alloc 26 [(.int .i64 0), (.int .i64 0), (.int .i64 0), (.slice none 0 0)], [0, 1, 2, 3], false⟩,
  ⟨(some 8), none, .alloc 80 [(.int .i64 0), (.int .i64 0), (.slice none 0 0), (.int .i64 0), (.int .i64 0)], [0, 1, 2, 3], false⟩,
  ⟨none, none, .store 4 (.tmp 7) (.tmp 28), [], false⟩,
  ⟨none, none, .store 5 (.tmp 8) (.tmp 30), [], false⟩] [3, 4, 5, 7, 8]
def c_turretlaw04_DialChecks_7 : SCode := .reg [⟨(some 31), none, .load true 4 (.tmp 7), [], false⟩,
  ⟨(some 32), none, .call 38 [(.tmp 31)], [], false⟩,
  ⟨(some 9), none, .mov (.tmp 32), [], false⟩] [3, 4, 5, 7, 8, 9]
def c_turretlaw04_DialChecks_8 : SCode := .reg [⟨(some 34), none, .load true 5 (.tmp 8), [], false⟩,
  ⟨(some 35), none, .call 34 [(.tmp 34)], [], false⟩,
  ⟨(some 33), none, .mov (.tmp 35), [], false⟩,
  ⟨(some 36), none, .ext (.tmp 33) 0, [], false⟩,
  ⟨(some 37), none, .ext (.tmp 33) 1, [], false⟩,
  ⟨(some 10), none, .mov (.tmp 36), [], false⟩,
  ⟨(some 11), none, .mov (.tmp 37), [], false⟩] [3, 4, 5, 7, 8, 9, 10, 11]
def c_turretlaw04_DialChecks_9 : SCode := .reg [⟨(some 39), none, .load true 5 (.tmp 8), [], false⟩,
  ⟨(some 40), none, .load true 2 (.tmp 5), [], false⟩,
  ⟨(some 41), none, .call 37 [(.tmp 39), (.tmp 40)], [], false⟩,
  ⟨(some 38), none, .mov (.tmp 41), [], false⟩,
  ⟨(some 42), none, .ext (.tmp 38) 0, [], false⟩,
  ⟨(some 43), none, .ext (.tmp 38) 1, [], false⟩,
  ⟨(some 44), none, .ext (.tmp 38) 2, [], false⟩,
  ⟨(some 12), none, .mov (.tmp 42), [], false⟩,
  ⟨(some 13), none, .mov (.tmp 43), [], false⟩,
  ⟨(some 14), none, .mov (.tmp 44), [], false⟩] [3, 4, 5, 7, 8, 9, 10, 11, 12, 13, 14]
def c_turretlaw04_DialChecks_10 : SCode := .reg [⟨(some 46), none, .load true 5 (.tmp 4), [], false⟩,
  ⟨(some 47), none, .load true 2 (.tmp 5), [], false⟩,
  ⟨(some 48), none, .call 39 [(.tmp 46), (.tmp 47)], [], false⟩,
  ⟨(some 45), none, .mov (.tmp 48), [], false⟩,
  ⟨(some 49), none, .ext (.tmp 45) 0, [], false⟩,
  ⟨(some 50), none, .ext (.tmp 45) 1, [], false⟩,
  ⟨(some 51), none, .ext (.tmp 45) 2, [], false⟩,
  ⟨(some 15), none, .mov (.tmp 49), [], false⟩,
  ⟨(some 16), none, .mov (.tmp 50), [], false⟩,
  ⟨(some 17), none, .mov (.tmp 51), [], false⟩] [3, 4, 7, 8, 9, 10, 11, 12, 13, 14, 15, 16, 17]
def c_turretlaw04_DialChecks_11 : SCode := .reg [⟨(some 52), none, .load true 4 (.tmp 7), [], false⟩,
  ⟨(some 53), none, .load true 4 (.tmp 3), [], false⟩,
  ⟨(some 54), none, .call 16 [(.tmp 52), (.tmp 53)], [], false⟩,
  ⟨(some 55), none, .un .not (.tmp 54), [], false⟩,
  ⟨(some 56), none, .mov (.tmp 55), [], false⟩,
  ⟨(some 57), (some (56, false)), .load true 5 (.tmp 8), [], false⟩,
  ⟨(some 58), (some (56, false)), .buildSl 80 5 [(.int .i64 0), (.int .i64 0), (.slice none 0 0), (.int .i64 0), (.int .i64 0)] 1 [(0, (.tmp 57))], [], false⟩,
  ⟨(some 59), (some (56, false)), .build [(.int .i64 0), (.int .i64 0), (.int .i64 0), (.slice none 0 0)] [(3, 1, (.tmp 58))], [], false⟩,
  ⟨(some 60), (some (56, false)), .load true 5 (.tmp 4), [], false⟩,
  ⟨(some 61), (some (56, false)), .buildSl 80 5 [(.int .i64 0), (.int .i64 0), (.slice none 0 0), (.int .i64 0), (.int .i64 0)] 1 [(0, (.tmp 60))], [], false⟩,
  ⟨(some 62), (some (56, false)), .build [(.int .i64 0), (.int .i64 0), (.int .i64 0), (.slice none 0 0)] [(3, 1, (.tmp 61))], [], false⟩,
  ⟨(some 63), (some (56, false)), .call 16 [(.tmp 59), (.tmp 62)], [], false⟩,
  ⟨(some 64), (some (56, false)), .un .not (.tmp 63), [], false⟩,
  ⟨(some 65), none, .pick (.tmp 56) (.const (.bool true)) (.tmp 64), [], false⟩,
  ⟨(some 66), none, .mov (.tmp 65), [], false⟩,
  ⟨(some 67), (some (66, false)), .mov (.tmp 9), [], false⟩,
  ⟨(some 68), (some (66, false)), .bin .eql (.tmp 67) (.const (.int .i64 0)), [], false⟩,
  ⟨(some 69), (some (66, false)), .load true 4 (.tmp 3), [], false⟩,
  ⟨(some 70), (some (66, false)), .call 40 [(.tmp 69)], [], false⟩,
  ⟨(some 71), (some (66, false)), .binB true (.tmp 68) (.tmp 70), [], false⟩,
  ⟨(some 72), none, .pick (.tmp 66) (.const (.bool true)) (.tmp 71), [], false⟩,
  ⟨(some 73), none, .mov (.tmp 72), [], false⟩,
  ⟨(some 74), (some (73, false)), .mov (.tmp 9), [], false⟩,
  ⟨(some 75), (some (73, false)), .bin .neq (.tmp 74) (.const (.int .i64 0)), [], false⟩,
  ⟨(some 76), (some (73, false)), .mov (.tmp 75), [], false⟩,
  ⟨(some 77), (some (76, true)), .mov (.tmp 9), [], false⟩,
  ⟨(some 78), (some (76, true)), .bin .neq (.tmp 77) (.const (.int .i64 2)), [], false⟩,
  ⟨(some 79), (some (73, false)), .pick (.tmp 76) (.tmp 78) (.const (.bool false)), [], false⟩,
  ⟨(some 80), none, .pick (.tmp 73) (.const (.bool true)) (.tmp 79), [], false⟩,
  ⟨(some 81), none, .mov (.tmp 80), [], false⟩,
  ⟨(some 82), (some (81, false)), .mov (.tmp 12), [], false⟩,
  ⟨(some 83), (some (81, false)), .mov (.tmp 15), [], false⟩,
  ⟨(some 84), (some (81, false)), .bin .neq (.tmp 82) (.tmp 83), [], false⟩,
  ⟨(some 85), none, .pick (.tmp 81) (.const (.bool true)) (.tmp 84), [], false⟩,
  ⟨(some 86), none, .mov (.tmp 85), [], false⟩,
  ⟨(some 87), (some (86, false)), .mov (.tmp 13), [], false⟩,
  ⟨(some 88), (some (86, false)), .mov (.tmp 16), [], false⟩,
  ⟨(some 89), (some (86, false)), .bin .neq (.tmp 87) (.tmp 88), [], false⟩,
  ⟨(some 90), none, .pick (.tmp 86) (.const (.bool true)) (.tmp 89), [], false⟩,
  ⟨(some 91), none, .mov (.tmp 90), [], false⟩,
  ⟨(some 92), (some (91, false)), .mov (.tmp 14), [], false⟩,
  ⟨(some 93), (some (91, false)), .mov (.tmp 17), [], false⟩,
  ⟨(some 94), (some (91, false)), .bin .neq (.tmp 92) (.tmp 93), [], false⟩,
  ⟨(some 95), none, .pick (.tmp 91) (.const (.bool true)) (.tmp 94), [], false⟩] [4, 10, 11, 95]
def c_turretlaw04_DialChecks_12 : SCode := .reg [⟨(some 6), none, .mov (.const (.bool false)), [], false⟩] [6]
def c_turretlaw04_DialChecks_13 : SCode := .seq c_turretlaw04_DialChecks_12 .ret
def c_turretlaw04_DialChecks_14 : SCode := .cond (.tmp 95) c_turretlaw04_DialChecks_13 .skip
def c_turretlaw04_DialChecks_15 : SCode := .seq c_turretlaw04_DialChecks_11 c_turretlaw04_DialChecks_14
def c_turretlaw04_DialChecks_16 : SCode := .reg [⟨(some 96), none, .load true 5 (.tmp 4), [], false⟩,
  ⟨(some 97), none, .call 41 [(.tmp 96)], [], false⟩,
  ⟨(some 98), none, .un .not (.tmp 97), [], false⟩] [4, 10, 11, 98]
def c_turretlaw04_DialChecks_17 : SCode := .reg [⟨(some 99), none, .mov (.tmp 11), [], false⟩,
  ⟨(some 100), none, .bin .eql (.tmp 99) (.const (.int .i64 2)), [], false⟩,
  ⟨(some 101), none, .mov (.tmp 100), [], false⟩,
  ⟨(some 102), (some (101, true)), .mov (.tmp 10), [], false⟩,
  ⟨(some 103), (some (101, true)), .bin .eql (.tmp 102) (.const (.int .i64 0)), [], false⟩,
  ⟨(some 104), none, .pick (.tmp 101) (.tmp 103) (.const (.bool false)), [], false⟩,
  ⟨(some 105), none, .mov (.tmp 104), [], false⟩,
  ⟨(some 106), (some (105, true)), .call 12 [], [], false⟩,
  ⟨(some 107), none, .pick (.tmp 105) (.tmp 106) (.const (.bool false)), [], false⟩,
  ⟨(some 6), none, .mov (.tmp 107), [], false⟩] [6]
def c_turretlaw04_DialChecks_18 : SCode := .seq c_turretlaw04_DialChecks_17 .ret
def c_turretlaw04_DialChecks_19 : SCode := .cond (.tmp 98) c_turretlaw04_DialChecks_18 .skip
def c_turretlaw04_DialChecks_20 : SCode := .seq c_turretlaw04_DialChecks_16 c_turretlaw04_DialChecks_19
def c_turretlaw04_DialChecks_21 : SCode := .reg [⟨(some 108), none, .mov (.tmp 11), [], false⟩,
  ⟨(some 109), none, .bin .eql (.tmp 108) (.const (.int .i64 0)), [], false⟩,
  ⟨(some 110), none, .mov (.tmp 109), [], false⟩,
  ⟨(some 111), (some (110, true)), .mov (.tmp 10), [], false⟩,
  ⟨(some 112), (some (110, true)), .fld 2 (.tmp 4), [], false⟩,
  ⟨(some 113), (some (110, true)), .load false 1 (.tmp 112), [], false⟩,
  ⟨(some 114), (some (110, true)), .call 42 [(.tmp 113)], [], false⟩,
  ⟨(some 115), (some (110, true)), .bin .eql (.tmp 111) (.tmp 114), [], false⟩,
  ⟨(some 116), none, .pick (.tmp 110) (.tmp 115) (.const (.bool false)), [], false⟩,
  ⟨(some 117), none, .mov (.tmp 116), [], false⟩,
  ⟨(some 118), (some (117, true)), .call 12 [], [], false⟩,
  ⟨(some 119), none, .pick (.tmp 117) (.tmp 118) (.const (.bool false)), [], false⟩,
  ⟨(some 6), none, .mov (.tmp 119), [], false⟩] [6]
def c_turretlaw04_DialChecks_22 : SCode := .seq c_turretlaw04_DialChecks_21 .ret
def c_turretlaw04_DialChecks_23 : SCode := .seq c_turretlaw04_DialChecks_20 c_turretlaw04_DialChecks_22
def c_turretlaw04_DialChecks_24 : SCode := .seq c_turretlaw04_DialChecks_15 c_turretlaw04_DialChecks_23
def c_turretlaw04_DialChecks_25 : SCode := .seq c_turretlaw04_DialChecks_10 c_turretlaw04_DialChecks_24
def c_turretlaw04_DialChecks_26 : SCode := .seq c_turretlaw04_DialChecks_9 c_turretlaw04_DialChecks_25
def c_turretlaw04_DialChecks_27 : SCode := .seq c_turretlaw04_DialChecks_8 c_turretlaw04_DialChecks_26
def c_turretlaw04_DialChecks_28 : SCode := .seq c_turretlaw04_DialChecks_7 c_turretlaw04_DialChecks_27
def c_turretlaw04_DialChecks_29 : SCode := .seq c_turretlaw04_DialChecks_6 c_turretlaw04_DialChecks_28
def c_turretlaw04_DialChecks_30 : SCode := .seq c_turretlaw04_DialChecks_5 c_turretlaw04_DialChecks_29
def c_turretlaw04_DialChecks_31 : SCode := .seq c_turretlaw04_DialChecks_0 c_turretlaw04_DialChecks_30
@[simp] def rs_turretlaw04_DialChecks : List SRes := [.tmp 6]
theorem law_turretlaw04_DialChecks (cs : List CV) (r : CV) (hl : cs.length ≤ 120) (h : STri (cfF Try.prog [] 120) c_turretlaw04_DialChecks_31 (initT 0 cs) [] (retQ rs_turretlaw04_DialChecks r)) : SC Try.prog 10 cs r :=
  sc_of [] follows Try.func10 rfl Try.ntmps10 (by decide) (by kernel_rfl) (by kernel_rfl) hl h

-- turret/turretlaw04.large (11)
def c_turretlaw04_large_0 : SCode := .reg [⟨(some 1), none, .box 26 (.tmp 0), [], false⟩,
  ⟨(some 2), none, .mov (.const (.bool false)), [], false⟩] [1]
def c_turretlaw04_large_1 : SCode := .reg [⟨(some 3), none, .mov (.const (.int .i64 0)), [], false⟩] [1, 3]
def c_turretlaw04_large_2 : SCode := .reg [⟨(some 4), none, .mov (.tmp 3), [], false⟩,
  ⟨(some 5), none, .fld 3 (.tmp 1), [], false⟩,
  ⟨(some 6), none, .load false 1 (.tmp 5), [], false⟩,
  ⟨(some 7), none, .len (.tmp 6), [], false⟩,
  ⟨(some 8), none, .bin .lss (.tmp 4) (.tmp 7), [], false⟩] [1, 3, 8]
def c_turretlaw04_large_3 : SCode := .cond (.tmp 8) .skip (.exit 0)
def c_turretlaw04_large_4 : SCode := .seq c_turretlaw04_large_2 c_turretlaw04_large_3
def c_turretlaw04_large_5 : SCode := .reg [⟨(some 11), none, .fld 3 (.tmp 1), [], false⟩,
  ⟨(some 12), none, .load false 1 (.tmp 11), [], false⟩,
  ⟨(some 13), none, .mov (.tmp 3), [], false⟩,
  ⟨(some 14), none, .idxS 5 (.tmp 12) (.tmp 13), [], false⟩,
  ⟨(some 15), none, .fld 2 (.tmp 14), [], false⟩,
  ⟨(some 16), none, .load false 1 (.tmp 15), [], false⟩,
  ⟨(some 17), none, .len (.tmp 16), [], false⟩,
  ⟨(some 18), none, .bin .gtr (.tmp 17) (.const (.int .i64 10)), [], false⟩] [1, 3, 18]
def c_turretlaw04_large_6 : SCode := .reg [⟨(some 2), none, .mov (.const (.bool true)), [], false⟩] [2]
def c_turretlaw04_large_7 : SCode := .seq c_turretlaw04_large_6 .ret
def c_turretlaw04_large_8 : SCode := .cond (.tmp 18) c_turretlaw04_large_7 .skip
def c_turretlaw04_large_9 : SCode := .seq c_turretlaw04_large_5 c_turretlaw04_large_8
def c_turretlaw04_large_10 : SCode := .block 1 c_turretlaw04_large_9
def c_turretlaw04_large_11 : SCode := .reg [⟨(some 9), none, .mov (.tmp 3), [], false⟩,
  ⟨(some 10), none, .bin .add (.tmp 9) (.const (.int .i64 1)), [], false⟩,
  ⟨(some 3), none, .mov (.tmp 10), [], false⟩] [1, 3]
def c_turretlaw04_large_12 : SCode := .seq c_turretlaw04_large_10 c_turretlaw04_large_11
def c_turretlaw04_large_13 : SCode := .seq c_turretlaw04_large_4 c_turretlaw04_large_12
def c_turretlaw04_large_14 : SCode := .loop c_turretlaw04_large_13
def c_turretlaw04_large_15 : SCode := .block 0 c_turretlaw04_large_14
def c_turretlaw04_large_16 : SCode := .seq c_turretlaw04_large_1 c_turretlaw04_large_15
def c_turretlaw04_large_17 : SCode := .reg [⟨(some 19), none, .fld 3 (.tmp 1), [], false⟩,
  ⟨(some 20), none, .load false 1 (.tmp 19), [], false⟩,
  ⟨(some 21), none, .len (.tmp 20), [], false⟩,
  ⟨(some 22), none, .bin .gtr (.tmp 21) (.const (.int .i64 12)), [], false⟩,
  ⟨(some 2), none, .mov (.tmp 22), [], false⟩] [2]
def c_turretlaw04_large_18 : SCode := .seq c_turretlaw04_large_17 .ret
def c_turretlaw04_large_19 : SCode := .seq c_turretlaw04_large_16 c_turretlaw04_large_18
def c_turretlaw04_large_20 : SCode := .seq c_turretlaw04_large_0 c_turretlaw04_large_19
@[simp] def rs_turretlaw04_large : List SRes := [.tmp 2]
theorem law_turretlaw04_large (cs : List CV) (r : CV) (hl : cs.length ≤ 23) (h : STri (cfF Try.prog [] 23) c_turretlaw04_large_20 (initT 0 cs) [] (retQ rs_turretlaw04_large r)) : SC Try.prog 11 cs r :=
  sc_of [] follows Try.func11 rfl Try.ntmps11 (by decide) (by kernel_rfl) (by kernel_rfl) hl h

-- turret/turretlaw04.works (13)
def c_turretlaw04_works_0 : SCode := .reg [⟨(some 1), none, .box 26 (.tmp 0), [], false⟩,
  ⟨(some 2), none, .alloc 26 [(.int .i64 0), (.int .i64 0), (.int .i64 0), (.slice none 0 0)], [], false⟩] [1, 2]
def c_turretlaw04_works_1 : SCode := .reg [⟨(some 5), none, .load true 4 (.tmp 1), [], false⟩,
  ⟨(some 3), none, .alloc 26 [(.int .i64 0), (.int .i64 0), (.int .i64 0), (.slice none 0 0)], [], false⟩,
  ⟨none, none, .store 4 (.tmp 3) (.tmp 5), [], false⟩] [1, 2, 3]
def c_turretlaw04_works_2 : SCode := .reg [⟨(some 6), none, .fld 3 (.tmp 3), [], false⟩,
  ⟨none, none, .store 1 (.tmp 6) (.const (.slice none 0 0)), [], false⟩] [1, 2, 3]
def c_turretlaw04_works_3 : SCode := .reg [⟨(some 4), none, .mov (.const (.int .i64 0)), [], false⟩] [1, 2, 3, 4]
def c_turretlaw04_works_4 : SCode := .reg [⟨(some 7), none, .mov (.tmp 4), [], false⟩,
  ⟨(some 8), none, .fld 3 (.tmp 1), [], false⟩,
  ⟨(some 9), none, .load false 1 (.tmp 8), [], false⟩,
  ⟨(some 10), none, .len (.tmp 9), [], false⟩,
  ⟨(some 11), none, .bin .lss (.tmp 7) (.tmp 10), [], false⟩] [1, 2, 3, 4, 11]
def c_turretlaw04_works_5 : SCode := .cond (.tmp 11) .skip (.exit 0)
def c_turretlaw04_works_6 : SCode := .seq c_turretlaw04_works_4 c_turretlaw04_works_5
def c_turretlaw04_works_7 : SCode := .reg [⟨(some 14), none, .fld 3 (.tmp 3), [], true⟩,
  ⟨(some 15), none, .load false 1 (.tmp 14), [], true⟩,
  ⟨(some 16), none, .fld 3 (.tmp 1), [], false⟩,
  ⟨(some 17), none, .load false 1 (.tmp 16), [], false⟩,
  ⟨(some 18), none, .mov (.tmp 4), [], false⟩,
  ⟨(some 19), none, .idxS 5 (.tmp 17) (.tmp 18), [], false⟩,
  ⟨(some 20), none, .load true 5 (.tmp 19), [], false⟩,
  ⟨(some 21), none, .call 35 [(.tmp 20)], [], false⟩,
  ⟨(some 22), none, .buildSl 80 5 [(.int .i64 0), (.int .i64 0), (.slice none 0 0), (.int .i64 0), (.int .i64 0)] 1 [(0, (.tmp 21))], [0, 1], false⟩,
  ⟨(some 23), none, .append 80 5 56 (.tmp 15) (.tmp 22), [], false⟩,
  ⟨(some 24), none, .fld 3 (.tmp 3), [], false⟩,
  ⟨none, none, .store 1 (.tmp 24) (.tmp 23), [], false⟩] [1, 2, 3, 4]
def c_turretlaw04_works_8 : SCode := .block 1 c_turretlaw04_works_7
def c_turretlaw04_works_9 : SCode := .reg [⟨(some 12), none, .mov (.tmp 4), [], false⟩,
  ⟨(some 13), none, .bin .add (.tmp 12) (.const (.int .i64 1)), [], false⟩,
  ⟨(some 4), none, .mov (.tmp 13), [], false⟩] [1, 2, 3, 4]
def c_turretlaw04_works_10 : SCode := .seq c_turretlaw04_works_8 c_turretlaw04_works_9
def c_turretlaw04_works_11 : SCode := .seq c_turretlaw04_works_6 c_turretlaw04_works_10
def c_turretlaw04_works_12 : SCode := .loop c_turretlaw04_works_11
def c_turretlaw04_works_13 : SCode := .block 0 c_turretlaw04_works_12
def c_turretlaw04_works_14 : SCode := .seq c_turretlaw04_works_3 c_turretlaw04_works_13
def c_turretlaw04_works_15 : SCode := .reg [⟨(some 25), none, .load true 4 (.tmp 3), [], false⟩,
  ⟨none, none, .store 4 (.tmp 2) (.tmp 25), [], false⟩] [2]
def c_turretlaw04_works_16 : SCode := .seq c_turretlaw04_works_15 .ret
def c_turretlaw04_works_17 : SCode := .seq c_turretlaw04_works_14 c_turretlaw04_works_16
def c_turretlaw04_works_18 : SCode := .seq c_turretlaw04_works_2 c_turretlaw04_works_17
def c_turretlaw04_works_19 : SCode := .seq c_turretlaw04_works_1 c_turretlaw04_works_18
def c_turretlaw04_works_20 : SCode := .seq c_turretlaw04_works_0 c_turretlaw04_works_19
@[simp] def rs_turretlaw04_works : List SRes := [.cell 2 true 4]
theorem law_turretlaw04_works (cs : List CV) (r : CV) (hl : cs.length ≤ 26) (h : STri (cfF Try.prog [] 26) c_turretlaw04_works_20 (initT 0 cs) [] (retQ rs_turretlaw04_works r)) : SC Try.prog 13 cs r :=
  sc_of [] follows Try.func13 rfl Try.ntmps13 (by decide) (by kernel_rfl) (by kernel_rfl) hl h

-- turret/turretlaw04.unchanged (16)
def c_turretlaw04_unchanged_0 : SCode := .reg [⟨(some 2), none, .box 26 (.tmp 0), [], false⟩,
  ⟨(some 3), none, .box 26 (.tmp 1), [], false⟩,
  ⟨(some 4), none, .mov (.const (.bool false)), [], false⟩] [2, 3]
def c_turretlaw04_unchanged_1 : SCode := .reg [⟨(some 9), none, .fld 0 (.tmp 2), [], false⟩,
  ⟨(some 10), none, .load false 1 (.tmp 9), [], false⟩,
  ⟨(some 11), none, .fld 0 (.tmp 3), [], false⟩,
  ⟨(some 12), none, .load false 1 (.tmp 11), [], false⟩,
  ⟨(some 13), none, .bin .neq (.tmp 10) (.tmp 12), [], false⟩,
  ⟨(some 14), none, .mov (.tmp 13), [], false⟩,
  ⟨(some 15), (some (14, false)), .fld 1 (.tmp 2), [], false⟩,
  ⟨(some 16), (some (14, false)), .load true 2 (.tmp 15), [], false⟩,
  ⟨(some 17), (some (14, false)), .fld 1 (.tmp 3), [], false⟩,
  ⟨(some 18), (some (14, false)), .load true 2 (.tmp 17), [], false⟩,
  ⟨(some 19), (some (14, false)), .eqC true [true, true] (.tmp 16) (.tmp 18), [], false⟩,
  ⟨(some 20), none, .pick (.tmp 14) (.const (.bool true)) (.tmp 19), [], false⟩,
  ⟨(some 21), none, .mov (.tmp 20), [], false⟩,
  ⟨(some 22), (some (21, false)), .fld 3 (.tmp 2), [], false⟩,
  ⟨(some 23), (some (21, false)), .load false 1 (.tmp 22), [], false⟩,
  ⟨(some 24), (some (21, false)), .len (.tmp 23), [], false⟩,
  ⟨(some 25), (some (21, false)), .fld 3 (.tmp 3), [], false⟩,
  ⟨(some 26), (some (21, false)), .load false 1 (.tmp 25), [], false⟩,
  ⟨(some 27), (some (21, false)), .len (.tmp 26), [], false⟩,
  ⟨(some 28), (some (21, false)), .bin .neq (.tmp 24) (.tmp 27), [], false⟩,
  ⟨(some 29), none, .pick (.tmp 21) (.const (.bool true)) (.tmp 28), [], false⟩] [2, 3, 29]
def c_turretlaw04_unchanged_2 : SCode := .reg [⟨(some 4), none, .mov (.const (.bool false)), [], false⟩] [4]
def c_turretlaw04_unchanged_3 : SCode := .seq c_turretlaw04_unchanged_2 .ret
def c_turretlaw04_unchanged_4 : SCode := .cond (.tmp 29) c_turretlaw04_unchanged_3 .skip
def c_turretlaw04_unchanged_5 : SCode := .seq c_turretlaw04_unchanged_1 c_turretlaw04_unchanged_4
def c_turretlaw04_unchanged_6 : SCode := .reg [⟨(some 5), none, .mov (.const (.int .i64 0)), [], false⟩] [2, 3, 5]
def c_turretlaw04_unchanged_7 : SCode := .reg [⟨(some 30), none, .mov (.tmp 5), [], false⟩,
  ⟨(some 31), none, .fld 3 (.tmp 2), [], false⟩,
  ⟨(some 32), none, .load false 1 (.tmp 31), [], false⟩,
  ⟨(some 33), none, .len (.tmp 32), [], false⟩,
  ⟨(some 34), none, .bin .lss (.tmp 30) (.tmp 33), [], false⟩] [2, 3, 5, 34]
def c_turretlaw04_unchanged_8 : SCode := .cond (.tmp 34) .skip (.exit 0)
def c_turretlaw04_unchanged_9 : SCode := .seq c_turretlaw04_unchanged_7 c_turretlaw04_unchanged_8
def c_turretlaw04_unchanged_10 : SCode := .reg [⟨(some 37), none, .fld 3 (.tmp 2), [], true⟩,
  ⟨(some 38), none, .load false 1 (.tmp 37), [], true⟩,
  ⟨(some 39), none, .mov (.tmp 5), [], false⟩,
  ⟨(some 40), none, .idxS 5 (.tmp 38) (.tmp 39), [], true⟩,
  ⟨(some 41), none, .load true 5 (.tmp 40), [], true⟩,
  ⟨(some 42), none, .fld 3 (.tmp 3), [], true⟩,
  ⟨(some 43), none, .load false 1 (.tmp 42), [], true⟩,
  ⟨(some 44), none, .mov (.tmp 5), [], false⟩,
  ⟨(some 45), none, .idxS 5 (.tmp 43) (.tmp 44), [], true⟩,
  ⟨(some 46), none, .load true 5 (.tmp 45), [], true⟩,
  ⟨(some 6), none, .alloc 80 [(.int .i64 0), (.int .i64 0), (.slice none 0 0), (.int .i64 0), (.int .i64 0)], [0, 1, 3, 4, 5, 6, 8, 9], false⟩,
  ⟨(some 7), none, .alloc 80 [(.int .i64 0), (.int .i64 0), (.slice none 0 0), (.int .i64 0), (.int .i64 0)], [0, 1, 3, 4, 5, 6, 8, 9], false⟩,
  ⟨none, none, .store 5 (.tmp 6) (.tmp 41), [5, 6, 8, 9], false⟩,
  ⟨none, none, .store 5 (.tmp 7) (.tmp 46), [], false⟩] [2, 3, 5, 6, 7]
def c_turretlaw04_unchanged_11 : SCode := .reg [⟨(some 47), none, .fld 0 (.tmp 6), [], false⟩,
  ⟨(some 48), none, .load true 2 (.tmp 47), [], false⟩,
  ⟨(some 49), none, .fld 0 (.tmp 7), [], false⟩,
  ⟨(some 50), none, .load true 2 (.tmp 49), [], false⟩,
  ⟨(some 51), none, .eqC true [true, true] (.tmp 48) (.tmp 50), [], false⟩,
  ⟨(some 52), none, .mov (.tmp 51), [], false⟩,
  ⟨(some 53), (some (52, false)), .fld 3 (.tmp 6), [], false⟩,
  ⟨(some 54), (some (52, false)), .load false 1 (.tmp 53), [], false⟩,
  ⟨(some 55), (some (52, false)), .fld 3 (.tmp 7), [], false⟩,
  ⟨(some 56), (some (52, false)), .load false 1 (.tmp 55), [], false⟩,
  ⟨(some 57), (some (52, false)), .bin .neq (.tmp 54) (.tmp 56), [], false⟩,
  ⟨(some 58), none, .pick (.tmp 52) (.const (.bool true)) (.tmp 57), [], false⟩,
  ⟨(some 59), none, .mov (.tmp 58), [], false⟩,
  ⟨(some 60), (some (59, false)), .fld 4 (.tmp 6), [], false⟩,
  ⟨(some 61), (some (59, false)), .load false 1 (.tmp 60), [], false⟩,
  ⟨(some 62), (some (59, false)), .fld 4 (.tmp 7), [], false⟩,
  ⟨(some 63), (some (59, false)), .load false 1 (.tmp 62), [], false⟩,
  ⟨(some 64), (some (59, false)), .bin .neq (.tmp 61) (.tmp 63), [], false⟩,
  ⟨(some 65), none, .pick (.tmp 59) (.const (.bool true)) (.tmp 64), [], false⟩,
  ⟨(some 66), none, .mov (.tmp 65), [], false⟩,
  ⟨(some 67), (some (66, false)), .fld 2 (.tmp 6), [], false⟩,
  ⟨(some 68), (some (66, false)), .load false 1 (.tmp 67), [], false⟩,
  ⟨(some 69), (some (66, false)), .len (.tmp 68), [], false⟩,
  ⟨(some 70), (some (66, false)), .fld 2 (.tmp 7), [], false⟩,
  ⟨(some 71), (some (66, false)), .load false 1 (.tmp 70), [], false⟩,
  ⟨(some 72), (some (66, false)), .len (.tmp 71), [], false⟩,
  ⟨(some 73), (some (66, false)), .bin .neq (.tmp 69) (.tmp 72), [], false⟩,
  ⟨(some 74), none, .pick (.tmp 66) (.const (.bool true)) (.tmp 73), [], false⟩] [2, 3, 5, 6, 7, 74]
def c_turretlaw04_unchanged_12 : SCode := .reg [⟨(some 4), none, .mov (.const (.bool false)), [], false⟩] [4]
def c_turretlaw04_unchanged_13 : SCode := .seq c_turretlaw04_unchanged_12 .ret
def c_turretlaw04_unchanged_14 : SCode := .cond (.tmp 74) c_turretlaw04_unchanged_13 .skip
def c_turretlaw04_unchanged_15 : SCode := .seq c_turretlaw04_unchanged_11 c_turretlaw04_unchanged_14
def c_turretlaw04_unchanged_16 : SCode := .reg [⟨(some 8), none, .mov (.const (.int .i64 0)), [], false⟩] [2, 3, 5, 6, 7, 8]
def c_turretlaw04_unchanged_17 : SCode := .reg [⟨(some 75), none, .mov (.tmp 8), [], false⟩,
  ⟨(some 76), none, .fld 2 (.tmp 6), [], false⟩,
  ⟨(some 77), none, .load false 1 (.tmp 76), [], false⟩,
  ⟨(some 78), none, .len (.tmp 77), [], false⟩,
  ⟨(some 79), none, .bin .lss (.tmp 75) (.tmp 78), [], false⟩] [2, 3, 5, 6, 7, 8, 79]
def c_turretlaw04_unchanged_18 : SCode := .cond (.tmp 79) .skip (.exit 2)
def c_turretlaw04_unchanged_19 : SCode := .seq c_turretlaw04_unchanged_17 c_turretlaw04_unchanged_18
def c_turretlaw04_unchanged_20 : SCode := .reg [⟨(some 82), none, .fld 2 (.tmp 6), [], false⟩,
  ⟨(some 83), none, .load false 1 (.tmp 82), [], false⟩,
  ⟨(some 84), none, .mov (.tmp 8), [], false⟩,
  ⟨(some 85), none, .idxS 3 (.tmp 83) (.tmp 84), [], false⟩,
  ⟨(some 86), none, .load true 3 (.tmp 85), [], false⟩,
  ⟨(some 87), none, .fld 2 (.tmp 7), [], false⟩,
  ⟨(some 88), none, .load false 1 (.tmp 87), [], false⟩,
  ⟨(some 89), none, .mov (.tmp 8), [], false⟩,
  ⟨(some 90), none, .idxS 3 (.tmp 88) (.tmp 89), [], false⟩,
  ⟨(some 91), none, .load true 3 (.tmp 90), [], false⟩,
  ⟨(some 92), none, .eqC true [true, true, true] (.tmp 86) (.tmp 91), [], false⟩] [2, 3, 5, 6, 7, 8, 92]
def c_turretlaw04_unchanged_21 : SCode := .reg [⟨(some 4), none, .mov (.const (.bool false)), [], false⟩] [4]
def c_turretlaw04_unchanged_22 : SCode := .seq c_turretlaw04_unchanged_21 .ret
def c_turretlaw04_unchanged_23 : SCode := .cond (.tmp 92) c_turretlaw04_unchanged_22 .skip
def c_turretlaw04_unchanged_24 : SCode := .seq c_turretlaw04_unchanged_20 c_turretlaw04_unchanged_23
def c_turretlaw04_unchanged_25 : SCode := .block 3 c_turretlaw04_unchanged_24
def c_turretlaw04_unchanged_26 : SCode := .reg [⟨(some 80), none, .mov (.tmp 8), [], false⟩,
  ⟨(some 81), none, .bin .add (.tmp 80) (.const (.int .i64 1)), [], false⟩,
  ⟨(some 8), none, .mov (.tmp 81), [], false⟩] [2, 3, 5, 6, 7, 8]
def c_turretlaw04_unchanged_27 : SCode := .seq c_turretlaw04_unchanged_25 c_turretlaw04_unchanged_26
def c_turretlaw04_unchanged_28 : SCode := .seq c_turretlaw04_unchanged_19 c_turretlaw04_unchanged_27
def c_turretlaw04_unchanged_29 : SCode := .loop c_turretlaw04_unchanged_28
def c_turretlaw04_unchanged_30 : SCode := .block 2 c_turretlaw04_unchanged_29
def c_turretlaw04_unchanged_31 : SCode := .seq c_turretlaw04_unchanged_16 c_turretlaw04_unchanged_30
def c_turretlaw04_unchanged_32 : SCode := .seq c_turretlaw04_unchanged_15 c_turretlaw04_unchanged_31
def c_turretlaw04_unchanged_33 : SCode := .seq c_turretlaw04_unchanged_10 c_turretlaw04_unchanged_32
def c_turretlaw04_unchanged_34 : SCode := .block 1 c_turretlaw04_unchanged_33
def c_turretlaw04_unchanged_35 : SCode := .reg [⟨(some 35), none, .mov (.tmp 5), [], false⟩,
  ⟨(some 36), none, .bin .add (.tmp 35) (.const (.int .i64 1)), [], false⟩,
  ⟨(some 5), none, .mov (.tmp 36), [], false⟩] [2, 3, 5]
def c_turretlaw04_unchanged_36 : SCode := .seq c_turretlaw04_unchanged_34 c_turretlaw04_unchanged_35
def c_turretlaw04_unchanged_37 : SCode := .seq c_turretlaw04_unchanged_9 c_turretlaw04_unchanged_36
def c_turretlaw04_unchanged_38 : SCode := .loop c_turretlaw04_unchanged_37
def c_turretlaw04_unchanged_39 : SCode := .block 0 c_turretlaw04_unchanged_38
def c_turretlaw04_unchanged_40 : SCode := .seq c_turretlaw04_unchanged_6 c_turretlaw04_unchanged_39
def c_turretlaw04_unchanged_41 : SCode := .reg [⟨(some 4), none, .mov (.const (.bool true)), [], false⟩] [4]
def c_turretlaw04_unchanged_42 : SCode := .seq c_turretlaw04_unchanged_41 .ret
def c_turretlaw04_unchanged_43 : SCode := .seq c_turretlaw04_unchanged_40 c_turretlaw04_unchanged_42
def c_turretlaw04_unchanged_44 : SCode := .seq c_turretlaw04_unchanged_5 c_turretlaw04_unchanged_43
def c_turretlaw04_unchanged_45 : SCode := .seq c_turretlaw04_unchanged_0 c_turretlaw04_unchanged_44
@[simp] def rs_turretlaw04_unchanged : List SRes := [.tmp 4]
theorem law_turretlaw04_unchanged (cs : List CV) (r : CV) (hl : cs.length ≤ 93) (h : STri (cfF Try.prog [] 93) c_turretlaw04_unchanged_45 (initT 0 cs) [] (retQ rs_turretlaw04_unchanged r)) : SC Try.prog 16 cs r :=
  sc_of [] follows Try.func16 rfl Try.ntmps16 (by decide) (by kernel_rfl) (by kernel_rfl) hl h

-- turret/turretlaw04.readings (32)
def c_turretlaw04_readings_0 : SCode := .reg [⟨(some 2), none, .mov (.const (.slice none 0 0)), [], false⟩] [0]
def c_turretlaw04_readings_1 : SCode := .reg [⟨(some 3), none, .buildSl 70 2 [(.int .i64 0), (.int .i64 0)] 0 [], [], false⟩,
  ⟨(some 4), none, .mov (.tmp 0), [], false⟩,
  ⟨(some 5), none, .append 70 2 16 (.tmp 3) (.tmp 4), [], false⟩,
  ⟨(some 2), none, .mov (.tmp 5), [], false⟩] [2]
def c_turretlaw04_readings_2 : SCode := .seq c_turretlaw04_readings_1 .ret
def c_turretlaw04_readings_3 : SCode := .seq c_turretlaw04_readings_0 c_turretlaw04_readings_2
@[simp] def rs_turretlaw04_readings : List SRes := [.tmp 2]
theorem law_turretlaw04_readings (cs : List CV) (r : CV) (hl : cs.length ≤ 6) (h : STri (cfF Try.prog [] 6) c_turretlaw04_readings_3 (initT 0 cs) [] (retQ rs_turretlaw04_readings r)) : SC Try.prog 32 cs r :=
  sc_of [] follows Try.func32 rfl Try.ntmps32 (by decide) (by kernel_rfl) (by kernel_rfl) hl h

-- turret/turretlaw04.face (35)
def c_turretlaw04_face_0 : SCode := .reg [⟨(some 1), none, .box 80 (.tmp 0), [], false⟩,
  ⟨(some 2), none, .alloc 80 [(.int .i64 0), (.int .i64 0), (.slice none 0 0), (.int .i64 0), (.int .i64 0)], [], false⟩] [1, 2]
def c_turretlaw04_face_1 : SCode := .reg [⟨(some 3), none, .buildSl 101 3 [(.int .i64 0), (.int .i64 0), (.int .i64 0)] 0 [], [], false⟩,
  ⟨(some 4), none, .fld 2 (.tmp 1), [], false⟩,
  ⟨(some 5), none, .load false 1 (.tmp 4), [], false⟩,
  ⟨(some 6), none, .append 101 3 24 (.tmp 3) (.tmp 5), [], false⟩,
  ⟨(some 7), none, .fld 2 (.tmp 1), [], false⟩,
  ⟨none, none, .store 1 (.tmp 7) (.tmp 6), [], false⟩] [1, 2]
def c_turretlaw04_face_2 : SCode := .reg [⟨(some 8), none, .load true 5 (.tmp 1), [], false⟩,
  ⟨none, none, .store 5 (.tmp 2) (.tmp 8), [], false⟩] [2]
def c_turretlaw04_face_3 : SCode := .seq c_turretlaw04_face_2 .ret
def c_turretlaw04_face_4 : SCode := .seq c_turretlaw04_face_1 c_turretlaw04_face_3
def c_turretlaw04_face_5 : SCode := .seq c_turretlaw04_face_0 c_turretlaw04_face_4
@[simp] def rs_turretlaw04_face : List SRes := [.cell 2 true 5]
theorem law_turretlaw04_face (cs : List CV) (r : CV) (hl : cs.length ≤ 9) (h : STri (cfF Try.prog [] 9) c_turretlaw04_face_5 (initT 0 cs) [] (retQ rs_turretlaw04_face r)) : SC Try.prog 35 cs r :=
  sc_of [] follows Try.func35 rfl Try.ntmps35 (by decide) (by kernel_rfl) (by kernel_rfl) hl h

end Go.Proofs.Ytnfggkopledpcaa
/- Dial's references, I. -/
namespace Go.Proofs.Ytnfggkopledpcaa
open Go.RowKit

theorem rIn (n lo hi : Int) : SC Try.prog 51 [I n, I lo, I hi] (B (inB lo hi n)) := by
  refine law_turretref04_In _ _ (by simp) ?_
  (repeat' (first | ((first | with_reducible refine st_skip ?_ | with_reducible refine st_exit ?_); (try simp only [seqQ, blockQ, loopQ, forQ, whileQ, reduceIte, Nat.reduceEqDiff])) | (with_reducible refine st_ret ?_; ((try simp only [seqQ, blockQ, loopQ, forQ, whileQ]); first | (with_reducible refine retM_ret ?_) | refine retQ_ret ?_; simp)) | refine st_seq ?_ | refine st_block ?_ | ((first | refine st_reg ?_ | refine buildP_own ?_) <;> (simp -dsimp; (repeat (simp -dsimp (disch := (first | omega | assumption | (refine Bool.eq_false_iff.1 ?_; assumption))) only [wrap_in, if_pos, if_neg]; (try simp -dsimp))))) | ((first | refine guardP_of (fun hc => ?_) (fun hc => ?_) | refine st_cond rfl (fun hc => ?_) (fun hc => ?_)) <;> (try simp only [decide_eq_true_eq, decide_eq_false_iff_not, Bool.true_eq_false, Bool.false_eq_true, bne_iff_ne, ne_eq, bne_eq_false_iff_eq, beq_iff_eq, beq_eq_false_iff_ne, Bool.not_eq_true, Bool.not_eq_false, Bool.not_eq_eq_eq_not, Bool.not_true, Bool.not_false, Decidable.not_not] at hc) <;> (try (exfalso; first | omega | exact bool_tf hc (by assumption) | exact bool_ft hc (by assumption) | exact absurd (by assumption) hc)) <;> (first | with_reducible show STri _ _ _ _ _ _ | (simp -dsimp [hc]; (repeat (simp -dsimp (disch := (first | omega | assumption | (refine Bool.eq_false_iff.1 ?_; assumption))) only [wrap_in, if_pos, if_neg]; (try simp -dsimp [hc]))))))))
  all_goals (refine CLe.bool ?_; unfold inB; rw [Bool.eq_iff_iff]; simp; try omega)

theorem rSpan (lo hi least most : Int) : SC Try.prog 72 [cS lo hi, I least, I most] (B (spanB least most lo hi)) := by
  refine law_turretref04_Span _ _ (by simp) ?_
  (repeat' (first | ((first | with_reducible refine st_skip ?_ | with_reducible refine st_exit ?_); (try simp only [seqQ, blockQ, loopQ, forQ, whileQ, reduceIte, Nat.reduceEqDiff])) | (with_reducible refine st_ret ?_; ((try simp only [seqQ, blockQ, loopQ, forQ, whileQ]); first | (with_reducible refine retM_ret ?_) | refine retQ_ret ?_; simp)) | refine st_seq ?_ | refine st_block ?_ | ((first | refine st_reg ?_ | refine buildP_own ?_ | refine callP_b (rIn lo least hi) rfl ?_) <;> (simp -dsimp; (repeat (simp -dsimp (disch := (first | omega | assumption | (refine Bool.eq_false_iff.1 ?_; assumption))) only [wrap_in, if_pos, if_neg]; (try simp -dsimp))))) | ((first | refine guardP_of (fun hc => ?_) (fun hc => ?_) | refine st_cond rfl (fun hc => ?_) (fun hc => ?_)) <;> (try simp only [decide_eq_true_eq, decide_eq_false_iff_not, Bool.true_eq_false, Bool.false_eq_true, bne_iff_ne, ne_eq, bne_eq_false_iff_eq, beq_iff_eq, beq_eq_false_iff_ne, Bool.not_eq_true, Bool.not_eq_false, Bool.not_eq_eq_eq_not, Bool.not_true, Bool.not_false, Decidable.not_not] at hc) <;> (try (exfalso; first | omega | exact bool_tf hc (by assumption) | exact bool_ft hc (by assumption) | exact absurd (by assumption) hc)) <;> (first | with_reducible show STri _ _ _ _ _ _ | (simp -dsimp [hc]; (repeat (simp -dsimp (disch := (first | omega | assumption | (refine Bool.eq_false_iff.1 ?_; assumption))) only [wrap_in, if_pos, if_neg]; (try simp -dsimp [hc]))))))))
  all_goals (refine CLe.bool ?_; unfold spanB; simp only [inB, Bool.and_eq_true, Bool.and_eq_false_iff, decide_eq_true_eq, decide_eq_false_iff_not] at *; rw [Bool.eq_iff_iff]; simp; try omega)

theorem rWind (lo hi : Int) : SC Try.prog 52 [cS lo hi] (B (spanB (-10000) 10000 lo hi)) := by
  refine law_turretref04_Wind _ _ (by simp) ?_
  (repeat' (first | ((first | with_reducible refine st_skip ?_ | with_reducible refine st_exit ?_); (try simp only [seqQ, blockQ, loopQ, forQ, whileQ, reduceIte, Nat.reduceEqDiff])) | (with_reducible refine st_ret ?_; ((try simp only [seqQ, blockQ, loopQ, forQ, whileQ]); first | (with_reducible refine retM_ret ?_) | refine retQ_ret ?_; simp)) | refine st_seq ?_ | refine st_block ?_ | ((first | refine st_reg ?_ | refine buildP_own ?_ | refine callP_b (rSpan lo hi (-10000) 10000) rfl ?_) <;> (simp -dsimp; (repeat (simp -dsimp (disch := (first | omega | assumption | (refine Bool.eq_false_iff.1 ?_; assumption))) only [wrap_in, if_pos, if_neg]; (try simp -dsimp))))) | ((first | refine guardP_of (fun hc => ?_) (fun hc => ?_) | refine st_cond rfl (fun hc => ?_) (fun hc => ?_)) <;> (try simp only [decide_eq_true_eq, decide_eq_false_iff_not, Bool.true_eq_false, Bool.false_eq_true, bne_iff_ne, ne_eq, bne_eq_false_iff_eq, beq_iff_eq, beq_eq_false_iff_ne, Bool.not_eq_true, Bool.not_eq_false, Bool.not_eq_eq_eq_not, Bool.not_true, Bool.not_false, Decidable.not_not] at hc) <;> (try (exfalso; first | omega | exact bool_tf hc (by assumption) | exact bool_ft hc (by assumption) | exact absurd (by assumption) hc)) <;> (first | with_reducible show STri _ _ _ _ _ _ | (simp -dsimp [hc]; (repeat (simp -dsimp (disch := (first | omega | assumption | (refine Bool.eq_false_iff.1 ?_; assumption))) only [wrap_in, if_pos, if_neg]; (try simp -dsimp [hc]))))))))
  all_goals exact .refl _

theorem rMod (n b : Int) (h3 : 0 < b) (h4 : b ≤ 1000000000000) : SC Try.prog 60 [I n, I b] (I (n % b)) := by
  refine law_turretref04_Mod _ _ (by simp) ?_
  have hne : ¬ b = 0 := by omega
  obtain ⟨t1, t2⟩ := tmod_lt n b h3
  have h0 := Int.emod_nonneg n hne
  have h1 := Int.emod_lt_of_pos n h3
  have e : n.tmod b = n % b ∨ n.tmod b = n % b - b := by
    rw [Int.tmod_eq_emod]
    split
    · left; omega
    · right; omega
  (repeat' (first | ((first | with_reducible refine st_skip ?_ | with_reducible refine st_exit ?_); (try simp only [seqQ, blockQ, loopQ, forQ, whileQ, reduceIte, Nat.reduceEqDiff])) | (with_reducible refine st_ret ?_; ((try simp only [seqQ, blockQ, loopQ, forQ, whileQ]); first | (with_reducible refine retM_ret ?_) | refine retQ_ret ?_; simp [hne])) | refine st_seq ?_ | refine st_block ?_ | ((first | refine st_reg ?_ | refine buildP_own ?_) <;> (simp -dsimp [hne]; (repeat (simp -dsimp (disch := (first | omega | assumption | (refine Bool.eq_false_iff.1 ?_; assumption))) only [wrap_in, if_pos, if_neg]; (try simp -dsimp [hne]))))) | ((first | refine guardP_of (fun hc => ?_) (fun hc => ?_) | refine st_cond rfl (fun hc => ?_) (fun hc => ?_)) <;> (try simp only [decide_eq_true_eq, decide_eq_false_iff_not, Bool.true_eq_false, Bool.false_eq_true, bne_iff_ne, ne_eq, bne_eq_false_iff_eq, beq_iff_eq, beq_eq_false_iff_ne, Bool.not_eq_true, Bool.not_eq_false, Bool.not_eq_eq_eq_not, Bool.not_true, Bool.not_false, Decidable.not_not] at hc) <;> (try (exfalso; first | omega | exact bool_tf hc (by assumption) | exact bool_ft hc (by assumption) | exact absurd (by assumption) hc)) <;> (first | with_reducible show STri _ _ _ _ _ _ | (simp -dsimp [hne, hc]; (repeat (simp -dsimp (disch := (first | omega | assumption | (refine Bool.eq_false_iff.1 ?_; assumption))) only [wrap_in, if_pos, if_neg]; (try simp -dsimp [hne, hc]))))))))
  all_goals (refine CLe.int ?_; omega)

def refD (ls : List Lk) (k : Nat) : Int := (ls.take k).foldl (fun d l => d * l.num) 1
def refN (ls : List Lk) (k : Nat) : Int := (ls.take k).foldl (stepN (refD ls ls.length)) 0
def ceilI (n d : Int) : Int := if n.tmod d > 0 then n.tdiv d + 1 else n.tdiv d
def refSlackI (ls : List Lk) : Int := ceilI (refN ls ls.length) (refD ls ls.length * 1000)

theorem refD_succ {ls : List Lk} {k : Nat} (hlt : k < ls.length) : refD ls (k + 1) = refD ls k * ls[k].num := by
  unfold refD
  rw [List.take_succ_eq_append_getElem hlt, List.foldl_append]; rfl
theorem refN_succ {ls : List Lk} {k : Nat} (hlt : k < ls.length) : refN ls (k + 1) = stepN (refD ls ls.length) (refN ls k) ls[k] := by
  unfold refN
  rw [List.take_succ_eq_append_getElem hlt, List.foldl_append]; rfl

theorem refD_pow {ls : List Lk} (h : LkTo ls ls.length) : ∀ {k : Nat}, k ≤ ls.length → 1 ≤ refD ls k ∧ refD ls k ≤ 200 ^ k
  | 0, _ => by simp [refD]
  | k + 1, hk => by
    have hlt : k < ls.length := by omega
    obtain ⟨d1, d2⟩ := refD_pow h (k := k) (by omega)
    obtain ⟨_, ⟨h1, h2⟩, _⟩ := lk_spec (h ls[k] (by rw [List.take_length]; exact List.getElem_mem hlt))
    rw [refD_succ hlt, Int.pow_succ]
    refine ⟨?_, Int.mul_le_mul d2 h2 (by omega) (by omega)⟩
    have := Int.mul_le_mul d1 h1 (by omega) (by omega)
    simpa using this

theorem refD_le {ls : List Lk} (h : LkTo ls ls.length) (h4 : ls.length ≤ 4) {k : Nat} (hk : k ≤ ls.length) : 1 ≤ refD ls k ∧ refD ls k ≤ 1600000000 := by
  obtain ⟨h1, h2⟩ := refD_pow h hk
  refine ⟨h1, Int.le_trans h2 ?_⟩
  have : k = 0 ∨ k = 1 ∨ k = 2 ∨ k = 3 ∨ k = 4 := by omega
  rcases this with rfl | rfl | rfl | rfl | rfl <;> decide

theorem refN_le {ls : List Lk} (h : LkTo ls ls.length) (h4 : ls.length ≤ 4) : ∀ {k : Nat}, k ≤ ls.length → 0 ≤ refN ls k ∧ refN ls k ≤ k * 1152000000000000000
  | 0, _ => by simp [refN]
  | k + 1, hk => by
    have hlt : k < ls.length := by omega
    obtain ⟨D1, D2⟩ := refD_le h h4 (Nat.le_refl _)
    obtain ⟨d1, d2⟩ := refN_le h h4 (k := k) (by omega)
    obtain ⟨_, _, _, p1, p2⟩ := part_le D1 D2 (h ls[k] (by rw [List.take_length]; exact List.getElem_mem hlt))
    rw [refN_succ hlt]
    unfold stepN
    generalize ls[k].slack * 3600 * ls[k].den * (refD ls ls.length).tdiv ls[k].num = z at *
    constructor
    · omega
    · push_cast; omega

theorem rSlack' (ls : List Lk) (h4 : ls.length ≤ 4) (h : LkTo ls ls.length) : SC Try.prog 42 [slL ls] (I (refSlackI ls)) := by
  refine law_turretref04_Slack _ _ (by simp) ?_
  obtain ⟨D1, D2⟩ := refD_le h h4 (Nat.le_refl _)
  (repeat' (first | ((first | with_reducible refine st_skip ?_ | with_reducible refine st_exit ?_); (try simp only [seqQ, blockQ, loopQ, forQ, whileQ, reduceIte, Nat.reduceEqDiff])) | (with_reducible refine st_ret ?_; ((try simp only [seqQ, blockQ, loopQ, forQ, whileQ]); first | (with_reducible refine retM_ret ?_) | refine retQ_ret ?_; simp)) | refine st_seq ?_ | refine st_block ?_ | ((first | refine st_reg ?_ | refine buildP_own ?_) <;> (simp -dsimp; (repeat (simp -dsimp (disch := (first | omega | assumption | (refine Bool.eq_false_iff.1 ?_; assumption))) only [wrap_in, if_pos, if_neg]; (try simp -dsimp))))) | ((first | refine guardP_of (fun hc => ?_) (fun hc => ?_) | refine st_cond rfl (fun hc => ?_) (fun hc => ?_)) <;> (try simp only [decide_eq_true_eq, decide_eq_false_iff_not, Bool.true_eq_false, Bool.false_eq_true, bne_iff_ne, ne_eq, bne_eq_false_iff_eq, beq_iff_eq, beq_eq_false_iff_ne, Bool.not_eq_true, Bool.not_eq_false, Bool.not_eq_eq_eq_not, Bool.not_true, Bool.not_false, Decidable.not_not] at hc) <;> (try (exfalso; first | omega | exact bool_tf hc (by assumption) | exact bool_ft hc (by assumption) | exact absurd (by assumption) hc)) <;> (first | with_reducible show STri _ _ _ _ _ _ | (simp -dsimp [hc]; (repeat (simp -dsimp (disch := (first | omega | assumption | (refine Bool.eq_false_iff.1 ?_; assumption))) only [wrap_in, if_pos, if_neg]; (try simp -dsimp [hc]))))))))
  refine st_for [] ls.length (fun k T H => T = [(0, .c (.sl 3 (ls.map rowL))), (3, .c (I (refD ls k))), (4, .c (I 0)), (5, .c (I k))] ∧ H = []) (by simp) ⟨by simp [refD], rfl⟩ ?_
  rintro k T H hk ⟨rfl, rfl⟩
  by_cases hlt : k < ls.length
  · obtain ⟨s1, s2⟩ := refD_le h h4 (show k + 1 ≤ ls.length by omega)
    have hw : IntKind.i64.wrap (refD ls k * ls[k].num) = refD ls (k + 1) := by
      rw [← refD_succ hlt]; exact wrap_in _ (by omega) (by omega)
    (repeat' (first | ((first | with_reducible refine st_skip ?_ | with_reducible refine st_exit ?_); (try simp only [seqQ, blockQ, loopQ, forQ, whileQ, reduceIte, Nat.reduceEqDiff])) | (with_reducible refine st_ret ?_; ((try simp only [seqQ, blockQ, loopQ, forQ, whileQ]); first | (with_reducible refine retM_ret ?_) | refine retQ_ret ?_; simp [hlt, hw])) | refine st_seq ?_ | refine st_block ?_ | ((first | refine st_reg ?_ | refine buildP_own ?_) <;> (simp -dsimp [hlt, hw]; (repeat (simp -dsimp (disch := (first | omega | assumption | (refine Bool.eq_false_iff.1 ?_; assumption))) only [wrap_in, if_pos, if_neg]; (try simp -dsimp [hlt, hw]))))) | ((first | refine guardP_of (fun hc => ?_) (fun hc => ?_) | refine st_cond rfl (fun hc => ?_) (fun hc => ?_)) <;> (try simp only [decide_eq_true_eq, decide_eq_false_iff_not, Bool.true_eq_false, Bool.false_eq_true, bne_iff_ne, ne_eq, bne_eq_false_iff_eq, beq_iff_eq, beq_eq_false_iff_ne, Bool.not_eq_true, Bool.not_eq_false, Bool.not_eq_eq_eq_not, Bool.not_true, Bool.not_false, Decidable.not_not] at hc) <;> (try (exfalso; first | omega | exact bool_tf hc (by assumption) | exact bool_ft hc (by assumption) | exact absurd (by assumption) hc)) <;> (first | with_reducible show STri _ _ _ _ _ _ | (simp -dsimp [hlt, hw, hc]; (repeat (simp -dsimp (disch := (first | omega | assumption | (refine Bool.eq_false_iff.1 ?_; assumption))) only [wrap_in, if_pos, if_neg]; (try simp -dsimp [hlt, hw, hc]))))))))
    exact ⟨hlt, by simp, by simp, rfl⟩
  · have : k = ls.length := by omega
    subst this
    (repeat' (first | ((first | with_reducible refine st_skip ?_ | with_reducible refine st_exit ?_); (try simp only [seqQ, blockQ, loopQ, forQ, whileQ, reduceIte, Nat.reduceEqDiff])) | (with_reducible refine st_ret ?_; ((try simp only [seqQ, blockQ, loopQ, forQ, whileQ]); first | (with_reducible refine retM_ret ?_) | refine retQ_ret ?_; simp)) | refine st_seq ?_ | refine st_block ?_ | ((first | refine st_reg ?_ | refine buildP_own ?_) <;> (simp -dsimp; (repeat (simp -dsimp (disch := (first | omega | assumption | (refine Bool.eq_false_iff.1 ?_; assumption))) only [wrap_in, if_pos, if_neg]; (try simp -dsimp))))) | ((first | refine guardP_of (fun hc => ?_) (fun hc => ?_) | refine st_cond rfl (fun hc => ?_) (fun hc => ?_)) <;> (try simp only [decide_eq_true_eq, decide_eq_false_iff_not, Bool.true_eq_false, Bool.false_eq_true, bne_iff_ne, ne_eq, bne_eq_false_iff_eq, beq_iff_eq, beq_eq_false_iff_ne, Bool.not_eq_true, Bool.not_eq_false, Bool.not_eq_eq_eq_not, Bool.not_true, Bool.not_false, Decidable.not_not] at hc) <;> (try (exfalso; first | omega | exact bool_tf hc (by assumption) | exact bool_ft hc (by assumption) | exact absurd (by assumption) hc)) <;> (first | with_reducible show STri _ _ _ _ _ _ | (simp -dsimp [hc]; (repeat (simp -dsimp (disch := (first | omega | assumption | (refine Bool.eq_false_iff.1 ?_; assumption))) only [wrap_in, if_pos, if_neg]; (try simp -dsimp [hc]))))))))
    refine st_for [] ls.length (fun k T H => T = [(0, .c (.sl 3 (ls.map rowL))), (3, .c (I (refD ls ls.length))), (4, .c (I (refN ls k))), (6, .c (I k))] ∧ H = []) (by simp) ⟨by simp [refN], rfl⟩ ?_
    rintro k T H hk ⟨rfl, rfl⟩
    by_cases hlt : k < ls.length
    · have hv : lkB ls[k] = true := h _ (by rw [List.take_length]; exact List.getElem_mem hlt)
      obtain ⟨_, ⟨n1, n2⟩, _⟩ := lk_spec hv
      obtain ⟨⟨p1, p2⟩, ⟨p3, p4⟩, ⟨p5, p6⟩, p7, p8⟩ := part_le D1 D2 hv
      obtain ⟨m1, m2⟩ := refN_le h h4 hk
      have hm : (k : Int) ≤ 3 := by omega
      have hne : ¬ ls[k].num = 0 := by omega
      have hw1 : IntKind.i64.wrap (ls[k].slack * 3600) = ls[k].slack * 3600 := wrap_in _ (by omega) (by omega)
      have hw2 : IntKind.i64.wrap (ls[k].slack * 3600 * ls[k].den) = ls[k].slack * 3600 * ls[k].den := wrap_in _ (by omega) (by omega)
      have hw3 : IntKind.i64.wrap ((refD ls ls.length).tdiv ls[k].num) = (refD ls ls.length).tdiv ls[k].num := wrap_in _ (by omega) (by omega)
      have hw4 : IntKind.i64.wrap (ls[k].slack * 3600 * ls[k].den * (refD ls ls.length).tdiv ls[k].num) = ls[k].slack * 3600 * ls[k].den * (refD ls ls.length).tdiv ls[k].num := wrap_in _ (by omega) (by omega)
      have hw5 : IntKind.i64.wrap (refN ls k + ls[k].slack * 3600 * ls[k].den * (refD ls ls.length).tdiv ls[k].num) = refN ls (k + 1) := by
        rw [refN_succ hlt]; exact wrap_in _ (by omega) (by omega)
      (repeat' (first | ((first | with_reducible refine st_skip ?_ | with_reducible refine st_exit ?_); (try simp only [seqQ, blockQ, loopQ, forQ, whileQ, reduceIte, Nat.reduceEqDiff])) | (with_reducible refine st_ret ?_; ((try simp only [seqQ, blockQ, loopQ, forQ, whileQ]); first | (with_reducible refine retM_ret ?_) | refine retQ_ret ?_; simp [hlt, hne, hw1, hw2, hw3, hw4, hw5])) | refine st_seq ?_ | refine st_block ?_ | ((first | refine st_reg ?_ | refine buildP_own ?_) <;> (simp -dsimp [hlt, hne, hw1, hw2, hw3, hw4, hw5]; (repeat (simp -dsimp (disch := (first | omega | assumption | (refine Bool.eq_false_iff.1 ?_; assumption))) only [wrap_in, if_pos, if_neg]; (try simp -dsimp [hlt, hne, hw1, hw2, hw3, hw4, hw5]))))) | ((first | refine guardP_of (fun hc => ?_) (fun hc => ?_) | refine st_cond rfl (fun hc => ?_) (fun hc => ?_)) <;> (try simp only [decide_eq_true_eq, decide_eq_false_iff_not, Bool.true_eq_false, Bool.false_eq_true, bne_iff_ne, ne_eq, bne_eq_false_iff_eq, beq_iff_eq, beq_eq_false_iff_ne, Bool.not_eq_true, Bool.not_eq_false, Bool.not_eq_eq_eq_not, Bool.not_true, Bool.not_false, Decidable.not_not] at hc) <;> (try (exfalso; first | omega | exact bool_tf hc (by assumption) | exact bool_ft hc (by assumption) | exact absurd (by assumption) hc)) <;> (first | with_reducible show STri _ _ _ _ _ _ | (simp -dsimp [hlt, hne, hw1, hw2, hw3, hw4, hw5, hc]; (repeat (simp -dsimp (disch := (first | omega | assumption | (refine Bool.eq_false_iff.1 ?_; assumption))) only [wrap_in, if_pos, if_neg]; (try simp -dsimp [hlt, hne, hw1, hw2, hw3, hw4, hw5, hc]))))))))
      exact ⟨hlt, by simp, by simp, rfl⟩
    · have : k = ls.length := by omega
      subst this
      obtain ⟨m1, m2⟩ := refN_le h h4 (Nat.le_refl _)
      have hm : (ls.length : Int) ≤ 4 := by omega
      have hne : ¬ refD ls ls.length * 1000 = 0 := by omega
      have hq := Int.natAbs_tdiv_le_natAbs (refN ls ls.length) (refD ls ls.length * 1000)
      have hw6 : IntKind.i64.wrap ((refN ls ls.length).tdiv (refD ls ls.length * 1000)) = (refN ls ls.length).tdiv (refD ls ls.length * 1000) := wrap_in _ (by omega) (by omega)
      have hw7 : IntKind.i64.wrap ((refN ls ls.length).tdiv (refD ls ls.length * 1000) + 1) = (refN ls ls.length).tdiv (refD ls ls.length * 1000) + 1 := wrap_in _ (by omega) (by omega)
      (repeat' (first | ((first | with_reducible refine st_skip ?_ | with_reducible refine st_exit ?_); (try simp only [seqQ, blockQ, loopQ, forQ, whileQ, reduceIte, Nat.reduceEqDiff])) | (with_reducible refine st_ret ?_; ((try simp only [seqQ, blockQ, loopQ, forQ, whileQ]); first | (with_reducible refine retM_ret ?_) | refine retQ_ret ?_; simp [hne, hw6, hw7])) | refine st_seq ?_ | refine st_block ?_ | ((first | refine st_reg ?_ | refine buildP_own ?_) <;> (simp -dsimp [hne, hw6, hw7]; (repeat (simp -dsimp (disch := (first | omega | assumption | (refine Bool.eq_false_iff.1 ?_; assumption))) only [wrap_in, if_pos, if_neg]; (try simp -dsimp [hne, hw6, hw7]))))) | ((first | refine guardP_of (fun hc => ?_) (fun hc => ?_) | refine st_cond rfl (fun hc => ?_) (fun hc => ?_)) <;> (try simp only [decide_eq_true_eq, decide_eq_false_iff_not, Bool.true_eq_false, Bool.false_eq_true, bne_iff_ne, ne_eq, bne_eq_false_iff_eq, beq_iff_eq, beq_eq_false_iff_ne, Bool.not_eq_true, Bool.not_eq_false, Bool.not_eq_eq_eq_not, Bool.not_true, Bool.not_false, Decidable.not_not] at hc) <;> (try (exfalso; first | omega | exact bool_tf hc (by assumption) | exact bool_ft hc (by assumption) | exact absurd (by assumption) hc)) <;> (first | with_reducible show STri _ _ _ _ _ _ | (simp -dsimp [hne, hw6, hw7, hc]; (repeat (simp -dsimp (disch := (first | omega | assumption | (refine Bool.eq_false_iff.1 ?_; assumption))) only [wrap_in, if_pos, if_neg]; (try simp -dsimp [hne, hw6, hw7, hc]))))))))
      all_goals (refine CLe.int ?_; unfold refSlackI ceilI; split <;> first | rfl | (exfalso; omega))

end Go.Proofs.Ytnfggkopledpcaa
/- Dial's references, II: the slack is the reference's. -/
namespace Go.Proofs.Ytnfggkopledpcaa
open Go.RowKit

theorem den_ref {ls : List Lk} (h : LkTo ls ls.length) (h4 : ls.length ≤ 4) : ∀ {k : Nat}, k ≤ ls.length → (∃ c : Int, 1 ≤ c ∧ refD ls k = denK ls k * c) ∧ ∀ (j : Nat) (hj : j < k) (hj2 : j < ls.length), ls[j].num ∣ denK ls k
  | 0, _ => ⟨⟨1, by omega, by simp [refD, denK]⟩, fun j hj => by omega⟩
  | k + 1, hk => by
    have hlt : k < ls.length := by omega
    obtain ⟨⟨c, c1, c2⟩, hd⟩ := den_ref h h4 (k := k) (by omega)
    obtain ⟨_, ⟨n1, n2⟩, _⟩ := lk_spec (h ls[k] (by rw [List.take_length]; exact List.getElem_mem hlt))
    have hg := gcd_pos' (d := denK ls k) n1
    obtain ⟨q, hq⟩ : (Int.gcd (denK ls k) ls[k].num : Int) ∣ denK ls k := Int.gcd_dvd_left ..
    obtain ⟨r, hr⟩ : (Int.gcd (denK ls k) ls[k].num : Int) ∣ ls[k].num := Int.gcd_dvd_right ..
    have e : (denK ls k).tdiv (Int.gcd (denK ls k) ls[k].num) = q := by
      have : ∀ g x y : Int, 0 < g → x = g * y → x.tdiv g = y := fun g x y h0 h1 => by
        rw [h1]; exact Int.mul_tdiv_cancel_left y (by omega)
      exact this _ _ _ hg hq
    have e2 : denK ls (k + 1) = q * ls[k].num := by rw [denK_succ hlt]; unfold stepD; rw [e]
    refine ⟨⟨Int.gcd (denK ls k) ls[k].num * c, ?_, ?_⟩, fun j hj hj2 => ?_⟩
    · have := Int.mul_le_mul (show (1 : Int) ≤ Int.gcd (denK ls k) ls[k].num by omega) c1 (by omega) (by omega)
      simpa using this
    · rw [refD_succ hlt, c2, e2]
      generalize (Int.gcd (denK ls k) ls[k].num : Int) = g at *
      conv => lhs; rw [hq]
      simp only [Int.mul_assoc, Int.mul_comm, Int.mul_left_comm]
    · rw [e2]
      by_cases hjk : j = k
      · subst hjk; exact Int.dvd_mul_left _ _
      · have h1 := hd j (by omega) hj2
        have h2 : denK ls k ∣ q * ls[k].num := ⟨r, by
          generalize (Int.gcd (denK ls k) ls[k].num : Int) = g at *
          rw [hr, hq]
          simp only [Int.mul_assoc, Int.mul_comm, Int.mul_left_comm]⟩
        exact Int.dvd_trans h1 h2

theorem num_ref {ls : List Lk} (h : LkTo ls ls.length) (h4 : ls.length ≤ 4) {c : Int} (hc : refD ls ls.length = denK ls ls.length * c) (hd : ∀ (j : Nat) (hj : j < ls.length) (hj2 : j < ls.length), ls[j].num ∣ denK ls ls.length) : ∀ {k : Nat}, k ≤ ls.length → refN ls k = c * numK ls k
  | 0, _ => by simp [refN, numK]
  | k + 1, hk => by
    have hlt : k < ls.length := by omega
    have ih := num_ref h h4 hc hd (k := k) (by omega)
    obtain ⟨_, ⟨n1, n2⟩, _⟩ := lk_spec (h ls[k] (by rw [List.take_length]; exact List.getElem_mem hlt))
    obtain ⟨r, hr⟩ := hd k hlt hlt
    have e1 : (denK ls ls.length).tdiv ls[k].num = r := by rw [hr]; exact Int.mul_tdiv_cancel_left r (by omega)
    have e2 : (refD ls ls.length).tdiv ls[k].num = r * c := by rw [hc, hr, Int.mul_assoc]; exact Int.mul_tdiv_cancel_left (r * c) (by omega)
    rw [refN_succ hlt, numK_succ hlt, ih]
    unfold stepN
    rw [e1, e2, Int.mul_add]
    congr 1
    simp only [Int.mul_assoc, Int.mul_comm, Int.mul_left_comm]

theorem ceil_eq {n M c : Int} (hn : 0 ≤ n) (hM : 1 ≤ M) (hc : 1 ≤ c) : ceilI (c * n) (c * M) = overI n M := by
  have hcn : 0 ≤ c * n := Int.mul_nonneg (by omega) hn
  have hr0 := Int.emod_nonneg n (show M ≠ 0 by omega)
  have hr1 := Int.emod_lt_of_pos n (show 0 < M by omega)
  have hdm := Int.emod_add_mul_ediv n M
  have em : (c * n).tmod (c * M) = c * (n % M) := by
    rw [Int.tmod_eq_emod_of_nonneg hcn, Int.mul_emod_mul_of_pos _ _ (by omega)]
  have ed : (c * n).tdiv (c * M) = n / M := by
    rw [Int.tdiv_eq_ediv_of_nonneg hcn, Int.mul_ediv_mul_of_pos _ _ (by omega)]
  unfold ceilI overI
  rw [em, ed, Int.tdiv_eq_ediv_of_nonneg (by omega)]
  by_cases h0 : n % M = 0
  · rw [h0, Int.mul_zero, if_neg (by omega)]
    have e : n + M - 1 = (M - 1) + (n / M) * M := by rw [Int.mul_comm]; omega
    rw [e, Int.add_mul_ediv_right _ _ (by omega), Int.ediv_eq_zero_of_lt (a := M - 1) (b := M) (by omega) (by omega)]; omega
  · have hp : 0 < c * (n % M) := Int.mul_pos (by omega) (by omega)
    rw [if_pos hp]
    have e : n + M - 1 = (n % M - 1) + (n / M + 1) * M := by rw [Int.add_mul, Int.mul_comm (n / M)]; omega
    rw [e, Int.add_mul_ediv_right _ _ (by omega), Int.ediv_eq_zero_of_lt (a := n % M - 1) (b := M) (by omega) (by omega)]; omega

theorem slack_ref {ls : List Lk} (h : LkTo ls ls.length) (h4 : ls.length ≤ 4) : refSlackI ls = slackI ls := by
  obtain ⟨⟨c, c1, c2⟩, hd⟩ := den_ref h h4 (Nat.le_refl _)
  obtain ⟨D1, D2⟩ := den_le h4 (Nat.le_refl _) h
  obtain ⟨m1, _⟩ := numK_le h D1 D2 (Nat.le_refl _)
  unfold refSlackI slackI
  rw [num_ref h h4 c2 (fun j hj hj2 => hd j hj hj2) (Nat.le_refl _), c2, ← ceil_eq m1 (by omega) c1]
  congr 1
  rw [Int.mul_comm (denK ls ls.length) c, Int.mul_assoc, Int.mul_comm (denK ls ls.length)]

end Go.Proofs.Ytnfggkopledpcaa
/- Dial's references, III: faces, works. -/
namespace Go.Proofs.Ytnfggkopledpcaa
open Go.RowKit

theorem not_allLk {ls : List Lk} {k : Nat} (hlt : k < ls.length) (h : lkB ls[k] = false) : ls.all lkB = false := by
  rw [Bool.eq_false_iff]
  intro h2
  rw [List.all_eq_true] at h2
  rw [h2 _ (List.getElem_mem hlt)] at h; cases h

theorem fc_no {f : Fc} (h : fcB f = false) : CLe (B false) (B (fcOK f)) := CLe.bool (by simp [fcOK, h])

theorem rFace (f : Fc) (hl : f.links.length ≤ 1000000) : SC Try.prog 41 [cF f] (B (fcOK f)) := by
  refine law_turretref04_Face _ _ (by simp) ?_
  by_cases hsp : spanB (-3600) 3600 f.lo f.hi = true
  · by_cases h4 : f.links.length ≤ 4
    · have h4' : ¬ (f.links.length : Int) > 4 := by omega
      by_cases hw : inB (-10000) 10000 f.weight = true
      · by_cases hf : inB 0 10000 f.friction = true
        · (repeat' (first | ((first | with_reducible refine st_skip ?_ | with_reducible refine st_exit ?_); (try simp only [seqQ, blockQ, loopQ, forQ, whileQ, reduceIte, Nat.reduceEqDiff])) | (with_reducible refine st_ret ?_; ((try simp only [seqQ, blockQ, loopQ, forQ, whileQ]); first | (with_reducible refine retM_ret ?_) | refine retQ_ret ?_; simp [hsp, h4', hw, hf])) | refine st_seq ?_ | refine st_block ?_ | ((first | refine st_reg ?_ | refine buildP_own ?_ | refine callP_b (rSpan f.lo f.hi (-3600) 3600) rfl ?_ | refine callP_b (rIn f.weight (-10000) 10000) rfl ?_ | refine callP_b (rIn f.friction 0 10000) rfl ?_) <;> (simp -dsimp [hsp, h4', hw, hf]; (repeat (simp -dsimp (disch := (first | omega | assumption | (refine Bool.eq_false_iff.1 ?_; assumption))) only [wrap_in, if_pos, if_neg]; (try simp -dsimp [hsp, h4', hw, hf]))))) | ((first | refine guardP_of (fun hc => ?_) (fun hc => ?_) | refine st_cond rfl (fun hc => ?_) (fun hc => ?_)) <;> (try simp only [decide_eq_true_eq, decide_eq_false_iff_not, Bool.true_eq_false, Bool.false_eq_true, bne_iff_ne, ne_eq, bne_eq_false_iff_eq, beq_iff_eq, beq_eq_false_iff_ne, Bool.not_eq_true, Bool.not_eq_false, Bool.not_eq_eq_eq_not, Bool.not_true, Bool.not_false, Decidable.not_not] at hc) <;> (try (exfalso; first | omega | exact bool_tf hc (by assumption) | exact bool_ft hc (by assumption) | exact absurd (by assumption) hc)) <;> (first | with_reducible show STri _ _ _ _ _ _ | (simp -dsimp [hsp, h4', hw, hf, hc]; (repeat (simp -dsimp (disch := (first | omega | assumption | (refine Bool.eq_false_iff.1 ?_; assumption))) only [wrap_in, if_pos, if_neg]; (try simp -dsimp [hsp, h4', hw, hf, hc]))))))))
          refine st_for [1] f.links.length (fun k T H => LkTo f.links k ∧ T = [(1, .ptr 1 0), (3, .c (I k))] ∧ H = [(1, .box 80 [.c (I f.lo), .c (I f.hi), .c (.sl 3 (f.links.map rowL)), .c (I f.weight), .c (I f.friction)])]) (by simp) ⟨by simp [LkTo], by simp, by simp⟩ ?_
          rintro k T H hk ⟨ht, rfl, rfl⟩
          by_cases hlt : k < f.links.length
          · by_cases v1 : inB 0 1000 f.links[k].slack = true
            · by_cases v2 : inB 1 200 f.links[k].num = true
              · by_cases v3 : inB 1 200 f.links[k].den = true
                · (repeat' (first | ((first | with_reducible refine st_skip ?_ | with_reducible refine st_exit ?_); (try simp only [seqQ, blockQ, loopQ, forQ, whileQ, reduceIte, Nat.reduceEqDiff])) | (with_reducible refine st_ret ?_; ((try simp only [seqQ, blockQ, loopQ, forQ, whileQ]); first | (with_reducible refine retM_ret ?_) | refine retQ_ret ?_; simp [hlt, v1, v2, v3])) | refine st_seq ?_ | refine st_block ?_ | ((first | refine st_reg ?_ | refine buildP_own ?_ | refine callP_b (rIn f.links[k].slack 0 1000) rfl ?_ | refine callP_b (rIn f.links[k].num 1 200) rfl ?_ | refine callP_b (rIn f.links[k].den 1 200) rfl ?_) <;> (simp -dsimp [hlt, v1, v2, v3]; (repeat (simp -dsimp (disch := (first | omega | assumption | (refine Bool.eq_false_iff.1 ?_; assumption))) only [wrap_in, if_pos, if_neg]; (try simp -dsimp [hlt, v1, v2, v3]))))) | ((first | refine guardP_of (fun hc => ?_) (fun hc => ?_) | refine st_cond rfl (fun hc => ?_) (fun hc => ?_)) <;> (try simp only [decide_eq_true_eq, decide_eq_false_iff_not, Bool.true_eq_false, Bool.false_eq_true, bne_iff_ne, ne_eq, bne_eq_false_iff_eq, beq_iff_eq, beq_eq_false_iff_ne, Bool.not_eq_true, Bool.not_eq_false, Bool.not_eq_eq_eq_not, Bool.not_true, Bool.not_false, Decidable.not_not] at hc) <;> (try (exfalso; first | omega | exact bool_tf hc (by assumption) | exact bool_ft hc (by assumption) | exact absurd (by assumption) hc)) <;> (first | with_reducible show STri _ _ _ _ _ _ | (simp -dsimp [hlt, v1, v2, v3, hc]; (repeat (simp -dsimp (disch := (first | omega | assumption | (refine Bool.eq_false_iff.1 ?_; assumption))) only [wrap_in, if_pos, if_neg]; (try simp -dsimp [hlt, v1, v2, v3, hc]))))))))
                  exact ⟨hlt, by simp, lk_succ hlt ht (by simp [lkB, v1, v2, v3]), by simp, by simp⟩
                · (repeat' (first | ((first | with_reducible refine st_skip ?_ | with_reducible refine st_exit ?_); (try simp only [seqQ, blockQ, loopQ, forQ, whileQ, reduceIte, Nat.reduceEqDiff])) | (with_reducible refine st_ret ?_; ((try simp only [seqQ, blockQ, loopQ, forQ, whileQ]); first | (with_reducible refine retM_ret ?_) | refine retQ_ret ?_; simp [hlt, v1, v2, v3])) | refine st_seq ?_ | refine st_block ?_ | ((first | refine st_reg ?_ | refine buildP_own ?_ | refine callP_b (rIn f.links[k].slack 0 1000) rfl ?_ | refine callP_b (rIn f.links[k].num 1 200) rfl ?_ | refine callP_b (rIn f.links[k].den 1 200) rfl ?_) <;> (simp -dsimp [hlt, v1, v2, v3]; (repeat (simp -dsimp (disch := (first | omega | assumption | (refine Bool.eq_false_iff.1 ?_; assumption))) only [wrap_in, if_pos, if_neg]; (try simp -dsimp [hlt, v1, v2, v3]))))) | ((first | refine guardP_of (fun hc => ?_) (fun hc => ?_) | refine st_cond rfl (fun hc => ?_) (fun hc => ?_)) <;> (try simp only [decide_eq_true_eq, decide_eq_false_iff_not, Bool.true_eq_false, Bool.false_eq_true, bne_iff_ne, ne_eq, bne_eq_false_iff_eq, beq_iff_eq, beq_eq_false_iff_ne, Bool.not_eq_true, Bool.not_eq_false, Bool.not_eq_eq_eq_not, Bool.not_true, Bool.not_false, Decidable.not_not] at hc) <;> (try (exfalso; first | omega | exact bool_tf hc (by assumption) | exact bool_ft hc (by assumption) | exact absurd (by assumption) hc)) <;> (first | with_reducible show STri _ _ _ _ _ _ | (simp -dsimp [hlt, v1, v2, v3, hc]; (repeat (simp -dsimp (disch := (first | omega | assumption | (refine Bool.eq_false_iff.1 ?_; assumption))) only [wrap_in, if_pos, if_neg]; (try simp -dsimp [hlt, v1, v2, v3, hc]))))))))
                  all_goals exact fc_no (by have := not_allLk hlt (show lkB f.links[k] = false by simp [lkB, v3]); simp [fcB, this])
              · (repeat' (first | ((first | with_reducible refine st_skip ?_ | with_reducible refine st_exit ?_); (try simp only [seqQ, blockQ, loopQ, forQ, whileQ, reduceIte, Nat.reduceEqDiff])) | (with_reducible refine st_ret ?_; ((try simp only [seqQ, blockQ, loopQ, forQ, whileQ]); first | (with_reducible refine retM_ret ?_) | refine retQ_ret ?_; simp [hlt, v1, v2])) | refine st_seq ?_ | refine st_block ?_ | ((first | refine st_reg ?_ | refine buildP_own ?_ | refine callP_b (rIn f.links[k].slack 0 1000) rfl ?_ | refine callP_b (rIn f.links[k].num 1 200) rfl ?_) <;> (simp -dsimp [hlt, v1, v2]; (repeat (simp -dsimp (disch := (first | omega | assumption | (refine Bool.eq_false_iff.1 ?_; assumption))) only [wrap_in, if_pos, if_neg]; (try simp -dsimp [hlt, v1, v2]))))) | ((first | refine guardP_of (fun hc => ?_) (fun hc => ?_) | refine st_cond rfl (fun hc => ?_) (fun hc => ?_)) <;> (try simp only [decide_eq_true_eq, decide_eq_false_iff_not, Bool.true_eq_false, Bool.false_eq_true, bne_iff_ne, ne_eq, bne_eq_false_iff_eq, beq_iff_eq, beq_eq_false_iff_ne, Bool.not_eq_true, Bool.not_eq_false, Bool.not_eq_eq_eq_not, Bool.not_true, Bool.not_false, Decidable.not_not] at hc) <;> (try (exfalso; first | omega | exact bool_tf hc (by assumption) | exact bool_ft hc (by assumption) | exact absurd (by assumption) hc)) <;> (first | with_reducible show STri _ _ _ _ _ _ | (simp -dsimp [hlt, v1, v2, hc]; (repeat (simp -dsimp (disch := (first | omega | assumption | (refine Bool.eq_false_iff.1 ?_; assumption))) only [wrap_in, if_pos, if_neg]; (try simp -dsimp [hlt, v1, v2, hc]))))))))
                all_goals exact fc_no (by have := not_allLk hlt (show lkB f.links[k] = false by simp [lkB, v2]); simp [fcB, this])
            · (repeat' (first | ((first | with_reducible refine st_skip ?_ | with_reducible refine st_exit ?_); (try simp only [seqQ, blockQ, loopQ, forQ, whileQ, reduceIte, Nat.reduceEqDiff])) | (with_reducible refine st_ret ?_; ((try simp only [seqQ, blockQ, loopQ, forQ, whileQ]); first | (with_reducible refine retM_ret ?_) | refine retQ_ret ?_; simp [hlt, v1])) | refine st_seq ?_ | refine st_block ?_ | ((first | refine st_reg ?_ | refine buildP_own ?_ | refine callP_b (rIn f.links[k].slack 0 1000) rfl ?_) <;> (simp -dsimp [hlt, v1]; (repeat (simp -dsimp (disch := (first | omega | assumption | (refine Bool.eq_false_iff.1 ?_; assumption))) only [wrap_in, if_pos, if_neg]; (try simp -dsimp [hlt, v1]))))) | ((first | refine guardP_of (fun hc => ?_) (fun hc => ?_) | refine st_cond rfl (fun hc => ?_) (fun hc => ?_)) <;> (try simp only [decide_eq_true_eq, decide_eq_false_iff_not, Bool.true_eq_false, Bool.false_eq_true, bne_iff_ne, ne_eq, bne_eq_false_iff_eq, beq_iff_eq, beq_eq_false_iff_ne, Bool.not_eq_true, Bool.not_eq_false, Bool.not_eq_eq_eq_not, Bool.not_true, Bool.not_false, Decidable.not_not] at hc) <;> (try (exfalso; first | omega | exact bool_tf hc (by assumption) | exact bool_ft hc (by assumption) | exact absurd (by assumption) hc)) <;> (first | with_reducible show STri _ _ _ _ _ _ | (simp -dsimp [hlt, v1, hc]; (repeat (simp -dsimp (disch := (first | omega | assumption | (refine Bool.eq_false_iff.1 ?_; assumption))) only [wrap_in, if_pos, if_neg]; (try simp -dsimp [hlt, v1, hc]))))))))
              all_goals exact fc_no (by have := not_allLk hlt (show lkB f.links[k] = false by simp [lkB, v1]); simp [fcB, this])
          · have : k = f.links.length := by omega
            subst this
            have sr := rSlack' f.links h4 ht
            rw [slack_ref ht h4] at sr
            (repeat' (first | ((first | with_reducible refine st_skip ?_ | with_reducible refine st_exit ?_); (try simp only [seqQ, blockQ, loopQ, forQ, whileQ, reduceIte, Nat.reduceEqDiff])) | (with_reducible refine st_ret ?_; ((try simp only [seqQ, blockQ, loopQ, forQ, whileQ]); first | (with_reducible refine retM_ret ?_) | refine retQ_ret ?_; simp [hlt])) | refine st_seq ?_ | refine st_block ?_ | ((first | refine st_reg ?_ | refine buildP_own ?_ | refine callP_b (sr) rfl ?_) <;> (simp -dsimp [hlt]; (repeat (simp -dsimp (disch := (first | omega | assumption | (refine Bool.eq_false_iff.1 ?_; assumption))) only [wrap_in, if_pos, if_neg]; (try simp -dsimp [hlt]))))) | ((first | refine guardP_of (fun hc => ?_) (fun hc => ?_) | refine st_cond rfl (fun hc => ?_) (fun hc => ?_)) <;> (try simp only [decide_eq_true_eq, decide_eq_false_iff_not, Bool.true_eq_false, Bool.false_eq_true, bne_iff_ne, ne_eq, bne_eq_false_iff_eq, beq_iff_eq, beq_eq_false_iff_ne, Bool.not_eq_true, Bool.not_eq_false, Bool.not_eq_eq_eq_not, Bool.not_true, Bool.not_false, Decidable.not_not] at hc) <;> (try (exfalso; first | omega | exact bool_tf hc (by assumption) | exact bool_ft hc (by assumption) | exact absurd (by assumption) hc)) <;> (first | with_reducible show STri _ _ _ _ _ _ | (simp -dsimp [hlt, hc]; (repeat (simp -dsimp (disch := (first | omega | assumption | (refine Bool.eq_false_iff.1 ?_; assumption))) only [wrap_in, if_pos, if_neg]; (try simp -dsimp [hlt, hc]))))))))
            all_goals (refine CLe.bool ?_; simp [fcOK, fcB, hsp, h4, hw, hf, lkto_all ht])
        · (repeat' (first | ((first | with_reducible refine st_skip ?_ | with_reducible refine st_exit ?_); (try simp only [seqQ, blockQ, loopQ, forQ, whileQ, reduceIte, Nat.reduceEqDiff])) | (with_reducible refine st_ret ?_; ((try simp only [seqQ, blockQ, loopQ, forQ, whileQ]); first | (with_reducible refine retM_ret ?_) | refine retQ_ret ?_; simp [hsp, h4', hw, hf])) | refine st_seq ?_ | refine st_block ?_ | ((first | refine st_reg ?_ | refine buildP_own ?_ | refine callP_b (rSpan f.lo f.hi (-3600) 3600) rfl ?_ | refine callP_b (rIn f.weight (-10000) 10000) rfl ?_ | refine callP_b (rIn f.friction 0 10000) rfl ?_) <;> (simp -dsimp [hsp, h4', hw, hf]; (repeat (simp -dsimp (disch := (first | omega | assumption | (refine Bool.eq_false_iff.1 ?_; assumption))) only [wrap_in, if_pos, if_neg]; (try simp -dsimp [hsp, h4', hw, hf]))))) | ((first | refine guardP_of (fun hc => ?_) (fun hc => ?_) | refine st_cond rfl (fun hc => ?_) (fun hc => ?_)) <;> (try simp only [decide_eq_true_eq, decide_eq_false_iff_not, Bool.true_eq_false, Bool.false_eq_true, bne_iff_ne, ne_eq, bne_eq_false_iff_eq, beq_iff_eq, beq_eq_false_iff_ne, Bool.not_eq_true, Bool.not_eq_false, Bool.not_eq_eq_eq_not, Bool.not_true, Bool.not_false, Decidable.not_not] at hc) <;> (try (exfalso; first | omega | exact bool_tf hc (by assumption) | exact bool_ft hc (by assumption) | exact absurd (by assumption) hc)) <;> (first | with_reducible show STri _ _ _ _ _ _ | (simp -dsimp [hsp, h4', hw, hf, hc]; (repeat (simp -dsimp (disch := (first | omega | assumption | (refine Bool.eq_false_iff.1 ?_; assumption))) only [wrap_in, if_pos, if_neg]; (try simp -dsimp [hsp, h4', hw, hf, hc]))))))))
          all_goals exact fc_no (by simp [fcB, hf])
      · (repeat' (first | ((first | with_reducible refine st_skip ?_ | with_reducible refine st_exit ?_); (try simp only [seqQ, blockQ, loopQ, forQ, whileQ, reduceIte, Nat.reduceEqDiff])) | (with_reducible refine st_ret ?_; ((try simp only [seqQ, blockQ, loopQ, forQ, whileQ]); first | (with_reducible refine retM_ret ?_) | refine retQ_ret ?_; simp [hsp, h4', hw])) | refine st_seq ?_ | refine st_block ?_ | ((first | refine st_reg ?_ | refine buildP_own ?_ | refine callP_b (rSpan f.lo f.hi (-3600) 3600) rfl ?_ | refine callP_b (rIn f.weight (-10000) 10000) rfl ?_) <;> (simp -dsimp [hsp, h4', hw]; (repeat (simp -dsimp (disch := (first | omega | assumption | (refine Bool.eq_false_iff.1 ?_; assumption))) only [wrap_in, if_pos, if_neg]; (try simp -dsimp [hsp, h4', hw]))))) | ((first | refine guardP_of (fun hc => ?_) (fun hc => ?_) | refine st_cond rfl (fun hc => ?_) (fun hc => ?_)) <;> (try simp only [decide_eq_true_eq, decide_eq_false_iff_not, Bool.true_eq_false, Bool.false_eq_true, bne_iff_ne, ne_eq, bne_eq_false_iff_eq, beq_iff_eq, beq_eq_false_iff_ne, Bool.not_eq_true, Bool.not_eq_false, Bool.not_eq_eq_eq_not, Bool.not_true, Bool.not_false, Decidable.not_not] at hc) <;> (try (exfalso; first | omega | exact bool_tf hc (by assumption) | exact bool_ft hc (by assumption) | exact absurd (by assumption) hc)) <;> (first | with_reducible show STri _ _ _ _ _ _ | (simp -dsimp [hsp, h4', hw, hc]; (repeat (simp -dsimp (disch := (first | omega | assumption | (refine Bool.eq_false_iff.1 ?_; assumption))) only [wrap_in, if_pos, if_neg]; (try simp -dsimp [hsp, h4', hw, hc]))))))))
        all_goals exact fc_no (by simp [fcB, hw])
    · have h4' : (f.links.length : Int) > 4 := by omega
      (repeat' (first | ((first | with_reducible refine st_skip ?_ | with_reducible refine st_exit ?_); (try simp only [seqQ, blockQ, loopQ, forQ, whileQ, reduceIte, Nat.reduceEqDiff])) | (with_reducible refine st_ret ?_; ((try simp only [seqQ, blockQ, loopQ, forQ, whileQ]); first | (with_reducible refine retM_ret ?_) | refine retQ_ret ?_; simp [hsp, h4'])) | refine st_seq ?_ | refine st_block ?_ | ((first | refine st_reg ?_ | refine buildP_own ?_ | refine callP_b (rSpan f.lo f.hi (-3600) 3600) rfl ?_) <;> (simp -dsimp [hsp, h4']; (repeat (simp -dsimp (disch := (first | omega | assumption | (refine Bool.eq_false_iff.1 ?_; assumption))) only [wrap_in, if_pos, if_neg]; (try simp -dsimp [hsp, h4']))))) | ((first | refine guardP_of (fun hc => ?_) (fun hc => ?_) | refine st_cond rfl (fun hc => ?_) (fun hc => ?_)) <;> (try simp only [decide_eq_true_eq, decide_eq_false_iff_not, Bool.true_eq_false, Bool.false_eq_true, bne_iff_ne, ne_eq, bne_eq_false_iff_eq, beq_iff_eq, beq_eq_false_iff_ne, Bool.not_eq_true, Bool.not_eq_false, Bool.not_eq_eq_eq_not, Bool.not_true, Bool.not_false, Decidable.not_not] at hc) <;> (try (exfalso; first | omega | exact bool_tf hc (by assumption) | exact bool_ft hc (by assumption) | exact absurd (by assumption) hc)) <;> (first | with_reducible show STri _ _ _ _ _ _ | (simp -dsimp [hsp, h4', hc]; (repeat (simp -dsimp (disch := (first | omega | assumption | (refine Bool.eq_false_iff.1 ?_; assumption))) only [wrap_in, if_pos, if_neg]; (try simp -dsimp [hsp, h4', hc]))))))))
      all_goals exact fc_no (by simp [fcB, h4])
  · (repeat' (first | ((first | with_reducible refine st_skip ?_ | with_reducible refine st_exit ?_); (try simp only [seqQ, blockQ, loopQ, forQ, whileQ, reduceIte, Nat.reduceEqDiff])) | (with_reducible refine st_ret ?_; ((try simp only [seqQ, blockQ, loopQ, forQ, whileQ]); first | (with_reducible refine retM_ret ?_) | refine retQ_ret ?_; simp [hsp])) | refine st_seq ?_ | refine st_block ?_ | ((first | refine st_reg ?_ | refine buildP_own ?_ | refine callP_b (rSpan f.lo f.hi (-3600) 3600) rfl ?_) <;> (simp -dsimp [hsp]; (repeat (simp -dsimp (disch := (first | omega | assumption | (refine Bool.eq_false_iff.1 ?_; assumption))) only [wrap_in, if_pos, if_neg]; (try simp -dsimp [hsp]))))) | ((first | refine guardP_of (fun hc => ?_) (fun hc => ?_) | refine st_cond rfl (fun hc => ?_) (fun hc => ?_)) <;> (try simp only [decide_eq_true_eq, decide_eq_false_iff_not, Bool.true_eq_false, Bool.false_eq_true, bne_iff_ne, ne_eq, bne_eq_false_iff_eq, beq_iff_eq, beq_eq_false_iff_ne, Bool.not_eq_true, Bool.not_eq_false, Bool.not_eq_eq_eq_not, Bool.not_true, Bool.not_false, Decidable.not_not] at hc) <;> (try (exfalso; first | omega | exact bool_tf hc (by assumption) | exact bool_ft hc (by assumption) | exact absurd (by assumption) hc)) <;> (first | with_reducible show STri _ _ _ _ _ _ | (simp -dsimp [hsp, hc]; (repeat (simp -dsimp (disch := (first | omega | assumption | (refine Bool.eq_false_iff.1 ?_; assumption))) only [wrap_in, if_pos, if_neg]; (try simp -dsimp [hsp, hc]))))))))
    all_goals exact fc_no (by simp [fcB, hsp])

theorem rWorks' (w : Dw) (hw : DwLen w) : SC Try.prog 40 [cDw w] (B (dwB w)) := by
  refine law_turretref04_Works _ _ (by simp) ?_
  have hn := hw.n
  (repeat' (first | ((first | with_reducible refine st_skip ?_ | with_reducible refine st_exit ?_); (try simp only [seqQ, blockQ, loopQ, forQ, whileQ, reduceIte, Nat.reduceEqDiff])) | (with_reducible refine st_ret ?_; ((try simp only [seqQ, blockQ, loopQ, forQ, whileQ]); first | (with_reducible refine retM_ret ?_) | refine retQ_ret ?_; simp)) | refine st_seq ?_ | refine st_block ?_ | ((first | refine st_reg ?_ | refine buildP_own ?_) <;> (simp -dsimp; (repeat (simp -dsimp (disch := (first | omega | assumption | (refine Bool.eq_false_iff.1 ?_; assumption))) only [wrap_in, if_pos, if_neg]; (try simp -dsimp))))) | ((first | refine guardP_of (fun hc => ?_) (fun hc => ?_) | refine st_cond rfl (fun hc => ?_) (fun hc => ?_)) <;> (try simp only [decide_eq_true_eq, decide_eq_false_iff_not, Bool.true_eq_false, Bool.false_eq_true, bne_iff_ne, ne_eq, bne_eq_false_iff_eq, beq_iff_eq, beq_eq_false_iff_ne, Bool.not_eq_true, Bool.not_eq_false, Bool.not_eq_eq_eq_not, Bool.not_true, Bool.not_false, Decidable.not_not] at hc) <;> (try (exfalso; first | omega | exact bool_tf hc (by assumption) | exact bool_ft hc (by assumption) | exact absurd (by assumption) hc)) <;> (first | with_reducible show STri _ _ _ _ _ _ | (simp -dsimp [hc]; (repeat (simp -dsimp (disch := (first | omega | assumption | (refine Bool.eq_false_iff.1 ?_; assumption))) only [wrap_in, if_pos, if_neg]; (try simp -dsimp [hc]))))))))
  refine st_for [1] w.faces.length (fun k T H => FcTo w.faces k ∧ T = [(1, .ptr 1 0), (3, .c (I k))] ∧ H = [(1, .box 26 [.c (I w.jump), .c (I w.elo), .c (I w.ehi), .c (slF w.faces)])]) (by simp) ⟨by simp [FcTo], by simp, by simp⟩ ?_
  rintro k T H hk ⟨ht, rfl, rfl⟩
  by_cases hlt : k < w.faces.length
  · have hll := hw.l w.faces[k] (List.getElem_mem hlt)
    by_cases hv : fcOK w.faces[k] = true
    · (repeat' (first | ((first | with_reducible refine st_skip ?_ | with_reducible refine st_exit ?_); (try simp only [seqQ, blockQ, loopQ, forQ, whileQ, reduceIte, Nat.reduceEqDiff])) | (with_reducible refine st_ret ?_; ((try simp only [seqQ, blockQ, loopQ, forQ, whileQ]); first | (with_reducible refine retM_ret ?_) | refine retQ_ret ?_; simp [hlt, hv])) | refine st_seq ?_ | refine st_block ?_ | ((first | refine st_reg ?_ | refine buildP_own ?_ | refine callP_b (rFace w.faces[k] hll) rfl ?_) <;> (simp -dsimp [hlt, hv]; (repeat (simp -dsimp (disch := (first | omega | assumption | (refine Bool.eq_false_iff.1 ?_; assumption))) only [wrap_in, if_pos, if_neg]; (try simp -dsimp [hlt, hv]))))) | ((first | refine guardP_of (fun hc => ?_) (fun hc => ?_) | refine st_cond rfl (fun hc => ?_) (fun hc => ?_)) <;> (try simp only [decide_eq_true_eq, decide_eq_false_iff_not, Bool.true_eq_false, Bool.false_eq_true, bne_iff_ne, ne_eq, bne_eq_false_iff_eq, beq_iff_eq, beq_eq_false_iff_ne, Bool.not_eq_true, Bool.not_eq_false, Bool.not_eq_eq_eq_not, Bool.not_true, Bool.not_false, Decidable.not_not] at hc) <;> (try (exfalso; first | omega | exact bool_tf hc (by assumption) | exact bool_ft hc (by assumption) | exact absurd (by assumption) hc)) <;> (first | with_reducible show STri _ _ _ _ _ _ | (simp -dsimp [hlt, hv, hc]; (repeat (simp -dsimp (disch := (first | omega | assumption | (refine Bool.eq_false_iff.1 ?_; assumption))) only [wrap_in, if_pos, if_neg]; (try simp -dsimp [hlt, hv, hc]))))))))
      exact ⟨hlt, by simp, fc_succ hlt ht hv, by simp, by simp⟩
    · (repeat' (first | ((first | with_reducible refine st_skip ?_ | with_reducible refine st_exit ?_); (try simp only [seqQ, blockQ, loopQ, forQ, whileQ, reduceIte, Nat.reduceEqDiff])) | (with_reducible refine st_ret ?_; ((try simp only [seqQ, blockQ, loopQ, forQ, whileQ]); first | (with_reducible refine retM_ret ?_) | refine retQ_ret ?_; simp [hlt, hv])) | refine st_seq ?_ | refine st_block ?_ | ((first | refine st_reg ?_ | refine buildP_own ?_ | refine callP_b (rFace w.faces[k] hll) rfl ?_) <;> (simp -dsimp [hlt, hv]; (repeat (simp -dsimp (disch := (first | omega | assumption | (refine Bool.eq_false_iff.1 ?_; assumption))) only [wrap_in, if_pos, if_neg]; (try simp -dsimp [hlt, hv]))))) | ((first | refine guardP_of (fun hc => ?_) (fun hc => ?_) | refine st_cond rfl (fun hc => ?_) (fun hc => ?_)) <;> (try simp only [decide_eq_true_eq, decide_eq_false_iff_not, Bool.true_eq_false, Bool.false_eq_true, bne_iff_ne, ne_eq, bne_eq_false_iff_eq, beq_iff_eq, beq_eq_false_iff_ne, Bool.not_eq_true, Bool.not_eq_false, Bool.not_eq_eq_eq_not, Bool.not_true, Bool.not_false, Decidable.not_not] at hc) <;> (try (exfalso; first | omega | exact bool_tf hc (by assumption) | exact bool_ft hc (by assumption) | exact absurd (by assumption) hc)) <;> (first | with_reducible show STri _ _ _ _ _ _ | (simp -dsimp [hlt, hv, hc]; (repeat (simp -dsimp (disch := (first | omega | assumption | (refine Bool.eq_false_iff.1 ?_; assumption))) only [wrap_in, if_pos, if_neg]; (try simp -dsimp [hlt, hv, hc]))))))))
      all_goals (refine CLe.bool ?_; have := not_allOK hlt (by simpa using hv); simp [dwB, this])
  · have : k = w.faces.length := by omega
    subst this
    have hall : w.faces.all fcOK = true := by
      rw [List.all_eq_true]
      intro x hx
      exact ht x (by rw [List.take_length]; exact hx)
    by_cases hj : inB 1 3600 w.jump = true
    · have hj2 := hj
      simp only [inB, Bool.and_eq_true, decide_eq_true_eq] at hj2
      obtain ⟨j1, j2⟩ := hj2
      have hne : ¬ w.jump = 0 := by omega
      have htm : (3600 : Int).tmod w.jump = 3600 % w.jump := Int.tmod_eq_emod_of_nonneg (by omega)
      (repeat' (first | ((first | with_reducible refine st_skip ?_ | with_reducible refine st_exit ?_); (try simp only [seqQ, blockQ, loopQ, forQ, whileQ, reduceIte, Nat.reduceEqDiff])) | (with_reducible refine st_ret ?_; ((try simp only [seqQ, blockQ, loopQ, forQ, whileQ]); first | (with_reducible refine retM_ret ?_) | refine retQ_ret ?_; simp [hlt, hj, hne, htm])) | refine st_seq ?_ | refine st_block ?_ | ((first | refine st_reg ?_ | refine buildP_own ?_ | refine callP_b (rIn w.jump 1 3600) rfl ?_ | refine callP_b (rSpan w.elo w.ehi (-3600) 3600) rfl ?_ | refine callP_b (rIn w.faces.length 1 8) rfl ?_) <;> (simp -dsimp [hlt, hj, hne, htm]; (repeat (simp -dsimp (disch := (first | omega | assumption | (refine Bool.eq_false_iff.1 ?_; assumption))) only [wrap_in, if_pos, if_neg]; (try simp -dsimp [hlt, hj, hne, htm]))))) | ((first | refine guardP_of (fun hc => ?_) (fun hc => ?_) | refine st_cond rfl (fun hc => ?_) (fun hc => ?_)) <;> (try simp only [decide_eq_true_eq, decide_eq_false_iff_not, Bool.true_eq_false, Bool.false_eq_true, bne_iff_ne, ne_eq, bne_eq_false_iff_eq, beq_iff_eq, beq_eq_false_iff_ne, Bool.not_eq_true, Bool.not_eq_false, Bool.not_eq_eq_eq_not, Bool.not_true, Bool.not_false, Decidable.not_not] at hc) <;> (try (exfalso; first | omega | exact bool_tf hc (by assumption) | exact bool_ft hc (by assumption) | exact absurd (by assumption) hc)) <;> (first | with_reducible show STri _ _ _ _ _ _ | (simp -dsimp [hlt, hj, hne, htm, hc]; (repeat (simp -dsimp (disch := (first | omega | assumption | (refine Bool.eq_false_iff.1 ?_; assumption))) only [wrap_in, if_pos, if_neg]; (try simp -dsimp [hlt, hj, hne, htm, hc]))))))))
      all_goals (refine CLe.bool ?_; simp [dwB, *])
    · (repeat' (first | ((first | with_reducible refine st_skip ?_ | with_reducible refine st_exit ?_); (try simp only [seqQ, blockQ, loopQ, forQ, whileQ, reduceIte, Nat.reduceEqDiff])) | (with_reducible refine st_ret ?_; ((try simp only [seqQ, blockQ, loopQ, forQ, whileQ]); first | (with_reducible refine retM_ret ?_) | refine retQ_ret ?_; simp [hlt, hj])) | refine st_seq ?_ | refine st_block ?_ | ((first | refine st_reg ?_ | refine buildP_own ?_ | refine callP_b (rIn w.jump 1 3600) rfl ?_) <;> (simp -dsimp [hlt, hj]; (repeat (simp -dsimp (disch := (first | omega | assumption | (refine Bool.eq_false_iff.1 ?_; assumption))) only [wrap_in, if_pos, if_neg]; (try simp -dsimp [hlt, hj]))))) | ((first | refine guardP_of (fun hc => ?_) (fun hc => ?_) | refine st_cond rfl (fun hc => ?_) (fun hc => ?_)) <;> (try simp only [decide_eq_true_eq, decide_eq_false_iff_not, Bool.true_eq_false, Bool.false_eq_true, bne_iff_ne, ne_eq, bne_eq_false_iff_eq, beq_iff_eq, beq_eq_false_iff_ne, Bool.not_eq_true, Bool.not_eq_false, Bool.not_eq_eq_eq_not, Bool.not_true, Bool.not_false, Decidable.not_not] at hc) <;> (try (exfalso; first | omega | exact bool_tf hc (by assumption) | exact bool_ft hc (by assumption) | exact absurd (by assumption) hc)) <;> (first | with_reducible show STri _ _ _ _ _ _ | (simp -dsimp [hlt, hj, hc]; (repeat (simp -dsimp (disch := (first | omega | assumption | (refine Bool.eq_false_iff.1 ?_; assumption))) only [wrap_in, if_pos, if_neg]; (try simp -dsimp [hlt, hj, hc]))))))))
      all_goals (refine CLe.bool ?_; simp [dwB, hj])

end Go.Proofs.Ytnfggkopledpcaa
/- Dial's references, IV: hands. -/
namespace Go.Proofs.Ytnfggkopledpcaa
open Go.RowKit

theorem rDriven (w : Dw) (at' e : Int) (h1 : 1 ≤ w.jump) (h2 : w.jump ≤ 3600) (a1 : -1000000000000 ≤ at') (a2 : at' ≤ 1000000000000) (e1 : -1000000 ≤ e) (e2 : e ≤ 1000000) : SC Try.prog 54 [cDw w, I at', I e] (I (downI (at' + e) w.jump)) := by
  refine law_turretref04_Driven _ _ (by simp) ?_
  have h5 := Int.emod_nonneg (at' + e) (show w.jump ≠ 0 by omega)
  have h6 := Int.emod_lt_of_pos (at' + e) (show 0 < w.jump by omega)
  (repeat' (first | ((first | with_reducible refine st_skip ?_ | with_reducible refine st_exit ?_); (try simp only [seqQ, blockQ, loopQ, forQ, whileQ, reduceIte, Nat.reduceEqDiff])) | (with_reducible refine st_ret ?_; ((try simp only [seqQ, blockQ, loopQ, forQ, whileQ]); first | (with_reducible refine retM_ret ?_) | refine retQ_ret ?_; simp)) | refine st_seq ?_ | refine st_block ?_ | ((first | refine st_reg ?_ | refine buildP_own ?_ | refine callP_b (rMod (at' + e) w.jump (by omega) (by omega)) rfl ?_) <;> (simp -dsimp; (repeat (simp -dsimp (disch := (first | omega | assumption | (refine Bool.eq_false_iff.1 ?_; assumption))) only [wrap_in, if_pos, if_neg]; (try simp -dsimp))))) | ((first | refine guardP_of (fun hc => ?_) (fun hc => ?_) | refine st_cond rfl (fun hc => ?_) (fun hc => ?_)) <;> (try simp only [decide_eq_true_eq, decide_eq_false_iff_not, Bool.true_eq_false, Bool.false_eq_true, bne_iff_ne, ne_eq, bne_eq_false_iff_eq, beq_iff_eq, beq_eq_false_iff_ne, Bool.not_eq_true, Bool.not_eq_false, Bool.not_eq_eq_eq_not, Bool.not_true, Bool.not_false, Decidable.not_not] at hc) <;> (try (exfalso; first | omega | exact bool_tf hc (by assumption) | exact bool_ft hc (by assumption) | exact absurd (by assumption) hc)) <;> (first | with_reducible show STri _ _ _ _ _ _ | (simp -dsimp [hc]; (repeat (simp -dsimp (disch := (first | omega | assumption | (refine Bool.eq_false_iff.1 ?_; assumption))) only [wrap_in, if_pos, if_neg]; (try simp -dsimp [hc]))))))))
  all_goals exact .refl _

theorem rForce (f : Fc) (d n : Int) (h1 : -10000 ≤ f.weight) (h2 : f.weight ≤ 10000) (h3 : -1000000 ≤ n) (h4 : n ≤ 1000000) : SC Try.prog 79 [cF f, I d, I n] (I (n + forceI f d)) := by
  refine law_turretref04_Force _ _ (by simp) ?_
  (repeat' (first | ((first | with_reducible refine st_skip ?_ | with_reducible refine st_exit ?_); (try simp only [seqQ, blockQ, loopQ, forQ, whileQ, reduceIte, Nat.reduceEqDiff])) | (with_reducible refine st_ret ?_; ((try simp only [seqQ, blockQ, loopQ, forQ, whileQ]); first | (with_reducible refine retM_ret ?_) | refine retQ_ret ?_; simp)) | refine st_seq ?_ | refine st_block ?_ | ((first | refine st_reg ?_ | refine buildP_own ?_ | refine callP_b (rMod d 3600 (by omega) (by omega)) rfl ?_) <;> (simp -dsimp; (repeat (simp -dsimp (disch := (first | omega | assumption | (refine Bool.eq_false_iff.1 ?_; assumption))) only [wrap_in, if_pos, if_neg]; (try simp -dsimp))))) | ((first | refine guardP_of (fun hc => ?_) (fun hc => ?_) | refine st_cond rfl (fun hc => ?_) (fun hc => ?_)) <;> (try simp only [decide_eq_true_eq, decide_eq_false_iff_not, Bool.true_eq_false, Bool.false_eq_true, bne_iff_ne, ne_eq, bne_eq_false_iff_eq, beq_iff_eq, beq_eq_false_iff_ne, Bool.not_eq_true, Bool.not_eq_false, Bool.not_eq_eq_eq_not, Bool.not_true, Bool.not_false, Decidable.not_not] at hc) <;> (try (exfalso; first | omega | exact bool_tf hc (by assumption) | exact bool_ft hc (by assumption) | exact absurd (by assumption) hc)) <;> (first | with_reducible show STri _ _ _ _ _ _ | (simp -dsimp [hc]; (repeat (simp -dsimp (disch := (first | omega | assumption | (refine Bool.eq_false_iff.1 ?_; assumption))) only [wrap_in, if_pos, if_neg]; (try simp -dsimp [hc]))))))))
  all_goals (refine CLe.int ?_; unfold forceI; split <;> omega)

/-- A face's reference slack. -/
theorem rSlackF {f : Fc} (h : fcOK f = true) : SC Try.prog 42 [slL f.links] (I (slackI f.links)) := by
  unfold fcOK fcB at h
  simp only [Bool.and_eq_true, decide_eq_true_eq] at h
  obtain ⟨⟨⟨⟨⟨_, h4⟩, _⟩, _⟩, hl⟩, _⟩ := h
  have ht : LkTo f.links f.links.length := fun x hx => by
    rw [List.take_length] at hx
    exact List.all_eq_true.1 hl x hx
  have := rSlack' f.links h4 ht
  rwa [slack_ref ht h4] at this

theorem rLags (f : Fc) (hf : fcOK f = true) (d wlo whi : Int) (h5 : -1000000 ≤ wlo) (h6 : wlo ≤ 1000000) (h7 : -1000000 ≤ whi) (h8 : whi ≤ 1000000) :
    SC Try.prog 55 [cF f, I d, cS wlo whi] (cS (lagLo f (slackI f.links) d whi wlo) (lagHi f (slackI f.links) d wlo)) := by
  refine law_turretref04_Lags _ _ (by simp) ?_
  have hs := fc_sm hf
  have f1 := hs.h
  have f2 := hs.i
  obtain ⟨g1, g2⟩ := force_le f d hs.e hs.g
  have sf := rSlackF hf
  (repeat' (first | ((first | with_reducible refine st_skip ?_ | with_reducible refine st_exit ?_); (try simp only [seqQ, blockQ, loopQ, forQ, whileQ, reduceIte, Nat.reduceEqDiff])) | (with_reducible refine st_ret ?_; ((try simp only [seqQ, blockQ, loopQ, forQ, whileQ]); first | (with_reducible refine retM_ret ?_) | refine retQ_ret ?_; simp)) | refine st_seq ?_ | refine st_block ?_ | ((first | refine st_reg ?_ | refine buildP_own ?_ | refine callP_b (sf) rfl ?_ | refine callP_b (rForce f d wlo hs.e hs.g h5 h6) rfl ?_ | refine callP_b (rForce f d whi hs.e hs.g h7 h8) rfl ?_) <;> (simp -dsimp; (repeat (simp -dsimp (disch := (first | omega | assumption | (refine Bool.eq_false_iff.1 ?_; assumption))) only [wrap_in, if_pos, if_neg]; (try simp -dsimp))))) | ((first | refine guardP_of (fun hc => ?_) (fun hc => ?_) | refine st_cond rfl (fun hc => ?_) (fun hc => ?_)) <;> (try simp only [decide_eq_true_eq, decide_eq_false_iff_not, Bool.true_eq_false, Bool.false_eq_true, bne_iff_ne, ne_eq, bne_eq_false_iff_eq, beq_iff_eq, beq_eq_false_iff_ne, Bool.not_eq_true, Bool.not_eq_false, Bool.not_eq_eq_eq_not, Bool.not_true, Bool.not_false, Decidable.not_not] at hc) <;> (try (exfalso; first | omega | exact bool_tf hc (by assumption) | exact bool_ft hc (by assumption) | exact absurd (by assumption) hc)) <;> (first | with_reducible show STri _ _ _ _ _ _ | (simp -dsimp [hc]; (repeat (simp -dsimp (disch := (first | omega | assumption | (refine Bool.eq_false_iff.1 ?_; assumption))) only [wrap_in, if_pos, if_neg]; (try simp -dsimp [hc]))))))))
  all_goals (refine CLe.of_eq ?_; unfold lagLo lagHi; (repeat' split) <;> first | rfl | (exfalso; omega))

theorem rHands (w : Dw) (f : Fc) (hf : fcOK f = true) (at' e wlo whi : Int) (h1 : 1 ≤ w.jump) (h2 : w.jump ≤ 3600) (a1 : -1000000000000 ≤ at') (a2 : at' ≤ 1000000000000) (e1 : -1000000 ≤ e) (e2 : e ≤ 1000000) (h5 : -1000000 ≤ wlo) (h6 : wlo ≤ 1000000) (h7 : -1000000 ≤ whi) (h8 : whi ≤ 1000000) :
    SC Try.prog 53 [cDw w, cF f, I at', I e, cS wlo whi] (cS (handLo f (slackI f.links) (downI (at' + e) w.jump) wlo) (handHi f (slackI f.links) (downI (at' + e) w.jump) wlo whi)) := by
  refine law_turretref04_Hands _ _ (by simp) ?_
  have hs := fc_sm hf
  have f1 := hs.a
  have f2 := hs.b
  have f3 := hs.c
  have f4 := hs.d
  have f5 := hs.k
  obtain ⟨g1, g2, g3, g4⟩ := lag_le f (slackI f.links) (downI (at' + e) w.jump) wlo whi hs.j
  obtain ⟨d1, d2⟩ := down_le (n := at' + e) (b := w.jump) (by omega)
  (repeat' (first | ((first | with_reducible refine st_skip ?_ | with_reducible refine st_exit ?_); (try simp only [seqQ, blockQ, loopQ, forQ, whileQ, reduceIte, Nat.reduceEqDiff])) | (with_reducible refine st_ret ?_; ((try simp only [seqQ, blockQ, loopQ, forQ, whileQ]); first | (with_reducible refine retM_ret ?_) | refine retQ_ret ?_; simp)) | refine st_seq ?_ | refine st_block ?_ | ((first | refine st_reg ?_ | refine buildP_own ?_ | refine callP_b (rDriven w at' e h1 h2 a1 a2 e1 e2) rfl ?_ | refine callP_b (rLags f hf (downI (at' + e) w.jump) wlo whi h5 h6 h7 h8) rfl ?_) <;> (simp -dsimp; (repeat (simp -dsimp (disch := (first | omega | assumption | (refine Bool.eq_false_iff.1 ?_; assumption))) only [wrap_in, if_pos, if_neg]; (try simp -dsimp))))) | ((first | refine guardP_of (fun hc => ?_) (fun hc => ?_) | refine st_cond rfl (fun hc => ?_) (fun hc => ?_)) <;> (try simp only [decide_eq_true_eq, decide_eq_false_iff_not, Bool.true_eq_false, Bool.false_eq_true, bne_iff_ne, ne_eq, bne_eq_false_iff_eq, beq_iff_eq, beq_eq_false_iff_ne, Bool.not_eq_true, Bool.not_eq_false, Bool.not_eq_eq_eq_not, Bool.not_true, Bool.not_false, Decidable.not_not] at hc) <;> (try (exfalso; first | omega | exact bool_tf hc (by assumption) | exact bool_ft hc (by assumption) | exact absurd (by assumption) hc)) <;> (first | with_reducible show STri _ _ _ _ _ _ | (simp -dsimp [hc]; (repeat (simp -dsimp (disch := (first | omega | assumption | (refine Bool.eq_false_iff.1 ?_; assumption))) only [wrap_in, if_pos, if_neg]; (try simp -dsimp [hc]))))))))
  all_goals exact CLe.of_eq rfl

theorem rLook' (w : Dw) (hw : DwLen w) (n at' wlo whi : Int) : SC Try.prog 17 [cDw w, I n, I at', cS wlo whi] (I (lookErr w n at' wlo whi)) := by
  refine law_turretref04_Look _ _ (by simp) ?_
  have hn := hw.n
  (repeat' (first | ((first | with_reducible refine st_skip ?_ | with_reducible refine st_exit ?_); (try simp only [seqQ, blockQ, loopQ, forQ, whileQ, reduceIte, Nat.reduceEqDiff])) | (with_reducible refine st_ret ?_; ((try simp only [seqQ, blockQ, loopQ, forQ, whileQ]); first | (with_reducible refine retM_ret ?_) | refine retQ_ret ?_; simp)) | refine st_seq ?_ | refine st_block ?_ | ((first | refine st_reg ?_ | refine buildP_own ?_ | refine callP_b (rWorks' w hw) rfl ?_ | refine callP_b (rIn n 0 (w.faces.length - 1)) rfl ?_ | refine callP_b (rIn at' 0 3155760000) rfl ?_ | refine callP_b (rWind wlo whi) rfl ?_) <;> (simp -dsimp; (repeat (simp -dsimp (disch := (first | omega | assumption | (refine Bool.eq_false_iff.1 ?_; assumption))) only [wrap_in, if_pos, if_neg]; (try simp -dsimp))))) | ((first | refine guardP_of (fun hc => ?_) (fun hc => ?_) | refine st_cond rfl (fun hc => ?_) (fun hc => ?_)) <;> (try simp only [decide_eq_true_eq, decide_eq_false_iff_not, Bool.true_eq_false, Bool.false_eq_true, bne_iff_ne, ne_eq, bne_eq_false_iff_eq, beq_iff_eq, beq_eq_false_iff_ne, Bool.not_eq_true, Bool.not_eq_false, Bool.not_eq_eq_eq_not, Bool.not_true, Bool.not_false, Decidable.not_not] at hc) <;> (try (exfalso; first | omega | exact bool_tf hc (by assumption) | exact bool_ft hc (by assumption) | exact absurd (by assumption) hc)) <;> (first | with_reducible show STri _ _ _ _ _ _ | (simp -dsimp [hc]; (repeat (simp -dsimp (disch := (first | omega | assumption | (refine Bool.eq_false_iff.1 ?_; assumption))) only [wrap_in, if_pos, if_neg]; (try simp -dsimp [hc]))))))))
  all_goals (refine CLe.int ?_; simp [lookErr, *])

theorem rHangs (f : Fc) (hf : fcOK f = true) (d n lag : Int) (h5 : -1000000 ≤ n) (h6 : n ≤ 1000000) : SC Try.prog 56 [cF f, I d, I n, I lag] (B (gustP f (slackI f.links) d lag n)) := by
  refine law_turretref04_Hangs _ _ (by simp) ?_
  have hs := fc_sm hf
  have f1 := hs.h
  have f2 := hs.i
  have f3 := hs.j
  obtain ⟨g1, g2⟩ := force_le f d hs.e hs.g
  have sf := rSlackF hf
  (repeat' (first | ((first | with_reducible refine st_skip ?_ | with_reducible refine st_exit ?_); (try simp only [seqQ, blockQ, loopQ, forQ, whileQ, reduceIte, Nat.reduceEqDiff])) | (with_reducible refine st_ret ?_; ((try simp only [seqQ, blockQ, loopQ, forQ, whileQ]); first | (with_reducible refine retM_ret ?_) | refine retQ_ret ?_; simp)) | refine st_seq ?_ | refine st_block ?_ | ((first | refine st_reg ?_ | refine buildP_own ?_ | refine callP_b (sf) rfl ?_ | refine callP_b (rForce f d n hs.e hs.g h5 h6) rfl ?_ | refine callP_b (rIn lag 0 (slackI f.links)) rfl ?_) <;> (simp -dsimp; (repeat (simp -dsimp (disch := (first | omega | assumption | (refine Bool.eq_false_iff.1 ?_; assumption))) only [wrap_in, if_pos, if_neg]; (try simp -dsimp))))) | ((first | refine guardP_of (fun hc => ?_) (fun hc => ?_) | refine st_cond rfl (fun hc => ?_) (fun hc => ?_)) <;> (try simp only [decide_eq_true_eq, decide_eq_false_iff_not, Bool.true_eq_false, Bool.false_eq_true, bne_iff_ne, ne_eq, bne_eq_false_iff_eq, beq_iff_eq, beq_eq_false_iff_ne, Bool.not_eq_true, Bool.not_eq_false, Bool.not_eq_eq_eq_not, Bool.not_true, Bool.not_false, Decidable.not_not] at hc) <;> (try (exfalso; first | omega | exact bool_tf hc (by assumption) | exact bool_ft hc (by assumption) | exact absurd (by assumption) hc)) <;> (first | with_reducible show STri _ _ _ _ _ _ | (simp -dsimp [hc]; (repeat (simp -dsimp (disch := (first | omega | assumption | (refine Bool.eq_false_iff.1 ?_; assumption))) only [wrap_in, if_pos, if_neg]; (try simp -dsimp [hc]))))))))
  all_goals (refine CLe.bool ?_; unfold gustP lagLo lagHi inB; rw [Bool.eq_iff_iff]; simp only [Bool.and_eq_true, decide_eq_true_eq, beq_iff_eq]; (repeat' split) <;> omega)

end Go.Proofs.Ytnfggkopledpcaa
/- Dial's laws: copies, and what they are compared with. -/
namespace Go.Proofs.Ytnfggkopledpcaa
open Go.RowKit

def largeB (w : Dw) : Bool := w.faces.any (fun f => decide (f.links.length > 10)) || decide (w.faces.length > 12)

/-- So far no face is large. -/
def SmTo (fs : List Fc) (k : Nat) : Prop := ∀ f ∈ fs.take k, f.links.length ≤ 10
theorem sm_succ {fs : List Fc} {k : Nat} (hlt : k < fs.length) (h : SmTo fs k) (hc : fs[k].links.length ≤ 10) : SmTo fs (k + 1) := fun x hx => by
  rw [List.take_succ_eq_append_getElem hlt, List.mem_append] at hx
  rcases hx with hx | hx
  · exact h x hx
  · simp at hx; subst hx; exact hc
theorem sm_all {fs : List Fc} (h : SmTo fs fs.length) : fs.any (fun f => decide (f.links.length > 10)) = false := by
  rw [List.any_eq_false]
  intro f hf
  have := h f (by rw [List.take_length]; exact hf)
  simp; omega

theorem dw_len {w : Dw} (h : ¬ largeB w = true) : DwLen w := by
  unfold largeB at h
  simp only [Bool.or_eq_true, List.any_eq_true, decide_eq_true_eq, not_or, not_exists, not_and] at h
  exact ⟨by omega, fun f hf => by have := h.1 f hf; omega⟩

theorem lLarge (w : Dw) (hw : DwMax w) : SC Try.prog 11 [cDw w] (B (largeB w)) := by
  refine law_turretlaw04_large _ _ (by simp) ?_
  have hn := hw.n
  (repeat' (first | ((first | with_reducible refine st_skip ?_ | with_reducible refine st_exit ?_); (try simp only [seqQ, blockQ, loopQ, forQ, whileQ, reduceIte, Nat.reduceEqDiff])) | (with_reducible refine st_ret ?_; ((try simp only [seqQ, blockQ, loopQ, forQ, whileQ]); first | (with_reducible refine retM_ret ?_) | refine retQ_ret ?_; simp)) | refine st_seq ?_ | refine st_block ?_ | ((first | refine st_reg ?_ | refine buildP_own ?_) <;> (simp -dsimp; (repeat (simp -dsimp (disch := (first | omega | assumption | (refine Bool.eq_false_iff.1 ?_; assumption))) only [wrap_in, if_pos, if_neg]; (try simp -dsimp))))) | ((first | refine guardP_of (fun hc => ?_) (fun hc => ?_) | refine st_cond rfl (fun hc => ?_) (fun hc => ?_)) <;> (try simp only [decide_eq_true_eq, decide_eq_false_iff_not, Bool.true_eq_false, Bool.false_eq_true, bne_iff_ne, ne_eq, bne_eq_false_iff_eq, beq_iff_eq, beq_eq_false_iff_ne, Bool.not_eq_true, Bool.not_eq_false, Bool.not_eq_eq_eq_not, Bool.not_true, Bool.not_false, Decidable.not_not] at hc) <;> (try (exfalso; first | omega | exact bool_tf hc (by assumption) | exact bool_ft hc (by assumption) | exact absurd (by assumption) hc)) <;> (first | with_reducible show STri _ _ _ _ _ _ | (simp -dsimp [hc]; (repeat (simp -dsimp (disch := (first | omega | assumption | (refine Bool.eq_false_iff.1 ?_; assumption))) only [wrap_in, if_pos, if_neg]; (try simp -dsimp [hc]))))))))
  refine st_for [1] w.faces.length (fun k T H => SmTo w.faces k ∧ T = [(1, .ptr 1 0), (3, .c (I k))] ∧ H = [(1, .box 26 [.c (I w.jump), .c (I w.elo), .c (I w.ehi), .c (slF w.faces)])]) (by simp) ⟨fun f hf => by simp at hf, by simp, by simp⟩ ?_
  rintro k T H hk ⟨ht, rfl, rfl⟩
  by_cases hlt : k < w.faces.length
  · have hl := hw.l _ (List.getElem_mem hlt)
    (repeat' (first | ((first | with_reducible refine st_skip ?_ | with_reducible refine st_exit ?_); (try simp only [seqQ, blockQ, loopQ, forQ, whileQ, reduceIte, Nat.reduceEqDiff])) | (with_reducible refine st_ret ?_; ((try simp only [seqQ, blockQ, loopQ, forQ, whileQ]); first | (with_reducible refine retM_ret ?_) | refine retQ_ret ?_; simp [hlt])) | refine st_seq ?_ | refine st_block ?_ | ((first | refine st_reg ?_ | refine buildP_own ?_) <;> (simp -dsimp [hlt]; (repeat (simp -dsimp (disch := (first | omega | assumption | (refine Bool.eq_false_iff.1 ?_; assumption))) only [wrap_in, if_pos, if_neg]; (try simp -dsimp [hlt]))))) | ((first | refine guardP_of (fun hc => ?_) (fun hc => ?_) | refine st_cond rfl (fun hc => ?_) (fun hc => ?_)) <;> (try simp only [decide_eq_true_eq, decide_eq_false_iff_not, Bool.true_eq_false, Bool.false_eq_true, bne_iff_ne, ne_eq, bne_eq_false_iff_eq, beq_iff_eq, beq_eq_false_iff_ne, Bool.not_eq_true, Bool.not_eq_false, Bool.not_eq_eq_eq_not, Bool.not_true, Bool.not_false, Decidable.not_not] at hc) <;> (try (exfalso; first | omega | exact bool_tf hc (by assumption) | exact bool_ft hc (by assumption) | exact absurd (by assumption) hc)) <;> (first | with_reducible show STri _ _ _ _ _ _ | (simp -dsimp [hlt, hc]; (repeat (simp -dsimp (disch := (first | omega | assumption | (refine Bool.eq_false_iff.1 ?_; assumption))) only [wrap_in, if_pos, if_neg]; (try simp -dsimp [hlt, hc]))))))))
    · refine CLe.bool ?_
      have : w.faces.any (fun f => decide (f.links.length > 10)) = true := List.any_eq_true.2 ⟨_, List.getElem_mem hlt, by simp; omega⟩
      simp [largeB, this]
    · exact ⟨hlt, by simp, sm_succ hlt ht (by omega), by simp, by simp⟩
  · have hke : k = w.faces.length := by omega
    subst hke
    (repeat' (first | ((first | with_reducible refine st_skip ?_ | with_reducible refine st_exit ?_); (try simp only [seqQ, blockQ, loopQ, forQ, whileQ, reduceIte, Nat.reduceEqDiff])) | (with_reducible refine st_ret ?_; ((try simp only [seqQ, blockQ, loopQ, forQ, whileQ]); first | (with_reducible refine retM_ret ?_) | refine retQ_ret ?_; simp)) | refine st_seq ?_ | refine st_block ?_ | ((first | refine st_reg ?_ | refine buildP_own ?_) <;> (simp -dsimp; (repeat (simp -dsimp (disch := (first | omega | assumption | (refine Bool.eq_false_iff.1 ?_; assumption))) only [wrap_in, if_pos, if_neg]; (try simp -dsimp))))) | ((first | refine guardP_of (fun hc => ?_) (fun hc => ?_) | refine st_cond rfl (fun hc => ?_) (fun hc => ?_)) <;> (try simp only [decide_eq_true_eq, decide_eq_false_iff_not, Bool.true_eq_false, Bool.false_eq_true, bne_iff_ne, ne_eq, bne_eq_false_iff_eq, beq_iff_eq, beq_eq_false_iff_ne, Bool.not_eq_true, Bool.not_eq_false, Bool.not_eq_eq_eq_not, Bool.not_true, Bool.not_false, Decidable.not_not] at hc) <;> (try (exfalso; first | omega | exact bool_tf hc (by assumption) | exact bool_ft hc (by assumption) | exact absurd (by assumption) hc)) <;> (first | with_reducible show STri _ _ _ _ _ _ | (simp -dsimp [hc]; (repeat (simp -dsimp (disch := (first | omega | assumption | (refine Bool.eq_false_iff.1 ?_; assumption))) only [wrap_in, if_pos, if_neg]; (try simp -dsimp [hc]))))))))
    all_goals (refine CLe.bool ?_; rw [largeB, sm_all ht, Bool.false_or, decide_eq_decide]; omega)

theorem lFace (f : Fc) (hl : f.links.length ≤ 1000000) : SC Try.prog 35 [cF f] (cF f) := by
  refine law_turretlaw04_face _ _ (by simp) ?_
  have hA : f.links.length ≤ 9223372036854775807 := by omega
  have hB : f.links.length * 24 ≤ 140737488355328 := by omega
  (repeat' (first | ((first | with_reducible refine st_skip ?_ | with_reducible refine st_exit ?_); (try simp only [seqQ, blockQ, loopQ, forQ, whileQ, reduceIte, Nat.reduceEqDiff])) | (with_reducible refine st_ret ?_; ((try simp only [seqQ, blockQ, loopQ, forQ, whileQ]); first | (with_reducible refine retM_ret ?_) | refine retQ_ret ?_; simp [hA, hB])) | refine st_seq ?_ | refine st_block ?_ | ((first | refine st_reg ?_ | refine buildP_own ?_) <;> (simp -dsimp [hA, hB]; (repeat (simp -dsimp (disch := (first | omega | assumption | (refine Bool.eq_false_iff.1 ?_; assumption))) only [wrap_in, if_pos, if_neg]; (try simp -dsimp [hA, hB]))))) | ((first | refine guardP_of (fun hc => ?_) (fun hc => ?_) | refine st_cond rfl (fun hc => ?_) (fun hc => ?_)) <;> (try simp only [decide_eq_true_eq, decide_eq_false_iff_not, Bool.true_eq_false, Bool.false_eq_true, bne_iff_ne, ne_eq, bne_eq_false_iff_eq, beq_iff_eq, beq_eq_false_iff_ne, Bool.not_eq_true, Bool.not_eq_false, Bool.not_eq_eq_eq_not, Bool.not_true, Bool.not_false, Decidable.not_not] at hc) <;> (try (exfalso; first | omega | exact bool_tf hc (by assumption) | exact bool_ft hc (by assumption) | exact absurd (by assumption) hc)) <;> (first | with_reducible show STri _ _ _ _ _ _ | (simp -dsimp [hA, hB, hc]; (repeat (simp -dsimp (disch := (first | omega | assumption | (refine Bool.eq_false_iff.1 ?_; assumption))) only [wrap_in, if_pos, if_neg]; (try simp -dsimp [hA, hB, hc]))))))))
  all_goals exact .refl _

theorem lReadings (l : List (Int × Int)) (hl : l.length ≤ 1000000) : SC Try.prog 32 [slS l] (slS l) := by
  refine law_turretlaw04_readings _ _ (by simp) ?_
  have hA : l.length ≤ 9223372036854775807 := by omega
  have hB : l.length * 16 ≤ 140737488355328 := by omega
  (repeat' (first | ((first | with_reducible refine st_skip ?_ | with_reducible refine st_exit ?_); (try simp only [seqQ, blockQ, loopQ, forQ, whileQ, reduceIte, Nat.reduceEqDiff])) | (with_reducible refine st_ret ?_; ((try simp only [seqQ, blockQ, loopQ, forQ, whileQ]); first | (with_reducible refine retM_ret ?_) | refine retQ_ret ?_; simp [hA, hB])) | refine st_seq ?_ | refine st_block ?_ | ((first | refine st_reg ?_ | refine buildP_own ?_) <;> (simp -dsimp [hA, hB]; (repeat (simp -dsimp (disch := (first | omega | assumption | (refine Bool.eq_false_iff.1 ?_; assumption))) only [wrap_in, if_pos, if_neg]; (try simp -dsimp [hA, hB]))))) | ((first | refine guardP_of (fun hc => ?_) (fun hc => ?_) | refine st_cond rfl (fun hc => ?_) (fun hc => ?_)) <;> (try simp only [decide_eq_true_eq, decide_eq_false_iff_not, Bool.true_eq_false, Bool.false_eq_true, bne_iff_ne, ne_eq, bne_eq_false_iff_eq, beq_iff_eq, beq_eq_false_iff_ne, Bool.not_eq_true, Bool.not_eq_false, Bool.not_eq_eq_eq_not, Bool.not_true, Bool.not_false, Decidable.not_not] at hc) <;> (try (exfalso; first | omega | exact bool_tf hc (by assumption) | exact bool_ft hc (by assumption) | exact absurd (by assumption) hc)) <;> (first | with_reducible show STri _ _ _ _ _ _ | (simp -dsimp [hA, hB, hc]; (repeat (simp -dsimp (disch := (first | omega | assumption | (refine Bool.eq_false_iff.1 ?_; assumption))) only [wrap_in, if_pos, if_neg]; (try simp -dsimp [hA, hB, hc]))))))))
  all_goals exact .refl _

def rowsF (fs : List Fc) (k : Nat) : List (List CV) := (fs.take k).map rowF
theorem rowsF_len {fs : List Fc} {k : Nat} (h : k ≤ fs.length) : (rowsF fs k).length = k := by simp [rowsF]; omega
theorem rowsF_succ {fs : List Fc} {k : Nat} (h : k < fs.length) : rowsF fs (k + 1) = rowsF fs k ++ [rowF fs[k]] := by
  unfold rowsF; rw [List.take_succ_eq_append_getElem h, List.map_append]; rfl

theorem lWorks (w : Dw) (hw : DwLen w) : SC Try.prog 13 [cDw w] (cDw w) := by
  refine law_turretlaw04_works _ _ (by simp) ?_
  have hn := hw.n
  (repeat' (first | ((first | with_reducible refine st_skip ?_ | with_reducible refine st_exit ?_); (try simp only [seqQ, blockQ, loopQ, forQ, whileQ, reduceIte, Nat.reduceEqDiff])) | (with_reducible refine st_ret ?_; ((try simp only [seqQ, blockQ, loopQ, forQ, whileQ]); first | (with_reducible refine retM_ret ?_) | refine retQ_ret ?_; simp)) | refine st_seq ?_ | refine st_block ?_ | ((first | refine st_reg ?_ | refine buildP_own ?_) <;> (simp -dsimp; (repeat (simp -dsimp (disch := (first | omega | assumption | (refine Bool.eq_false_iff.1 ?_; assumption))) only [wrap_in, if_pos, if_neg]; (try simp -dsimp))))) | ((first | refine guardP_of (fun hc => ?_) (fun hc => ?_) | refine st_cond rfl (fun hc => ?_) (fun hc => ?_)) <;> (try simp only [decide_eq_true_eq, decide_eq_false_iff_not, Bool.true_eq_false, Bool.false_eq_true, bne_iff_ne, ne_eq, bne_eq_false_iff_eq, beq_iff_eq, beq_eq_false_iff_ne, Bool.not_eq_true, Bool.not_eq_false, Bool.not_eq_eq_eq_not, Bool.not_true, Bool.not_false, Decidable.not_not] at hc) <;> (try (exfalso; first | omega | exact bool_tf hc (by assumption) | exact bool_ft hc (by assumption) | exact absurd (by assumption) hc)) <;> (first | with_reducible show STri _ _ _ _ _ _ | (simp -dsimp [hc]; (repeat (simp -dsimp (disch := (first | omega | assumption | (refine Bool.eq_false_iff.1 ?_; assumption))) only [wrap_in, if_pos, if_neg]; (try simp -dsimp [hc]))))))))
  refine st_nilB 3 3 200 80 5 rfl (by simp) rfl (by simp [newOK]) ?_
  refine st_for [1, 2, 3, 200] w.faces.length (fun k T H => T = [(1, .ptr 1 0), (2, .ptr 2 0), (3, .ptr 3 0), (4, .c (I k))] ∧ H = [(1, .box 26 [.c (I w.jump), .c (I w.elo), .c (I w.ehi), .c (slF w.faces)]), (2, .box 26 [.c (I 0), .c (I 0), .c (I 0), .c (.val (.slice none 0 0))]),
    (3, .box 26 [.c (I w.jump), .c (I w.elo), .c (I w.ehi), .own 200 k]), (200, .arr 80 5 (rowsF w.faces k))]) (by simp) ⟨by simp, by simp [rowsF]⟩ ?_
  rintro k T H hk ⟨rfl, rfl⟩
  have hlen := rowsF_len hk
  by_cases hlt : k < w.faces.length
  · have hf := lFace w.faces[k] (hw.l _ (List.getElem_mem hlt))
    have hs := rowsF_succ hlt
    have hA : k + 1 ≤ 9223372036854775807 := by omega
    have hB : (k + 1) * 56 ≤ 140737488355328 := by omega
    (repeat' (first | ((first | with_reducible refine st_skip ?_ | with_reducible refine st_exit ?_); (try simp only [seqQ, blockQ, loopQ, forQ, whileQ, reduceIte, Nat.reduceEqDiff])) | (with_reducible refine st_ret ?_; ((try simp only [seqQ, blockQ, loopQ, forQ, whileQ]); first | (with_reducible refine retM_ret ?_) | refine retQ_ret ?_; simp [hlt, hlen, hA, hB])) | refine st_seq ?_ | refine st_block ?_ | ((first | refine st_reg ?_ | refine buildP_own ?_ | refine callP_b (hf) rfl ?_) <;> (simp -dsimp [hlt, hlen, hA, hB]; (repeat (simp -dsimp (disch := (first | omega | assumption | (refine Bool.eq_false_iff.1 ?_; assumption))) only [wrap_in, if_pos, if_neg]; (try simp -dsimp [hlt, hlen, hA, hB]))))) | ((first | refine guardP_of (fun hc => ?_) (fun hc => ?_) | refine st_cond rfl (fun hc => ?_) (fun hc => ?_)) <;> (try simp only [decide_eq_true_eq, decide_eq_false_iff_not, Bool.true_eq_false, Bool.false_eq_true, bne_iff_ne, ne_eq, bne_eq_false_iff_eq, beq_iff_eq, beq_eq_false_iff_ne, Bool.not_eq_true, Bool.not_eq_false, Bool.not_eq_eq_eq_not, Bool.not_true, Bool.not_false, Decidable.not_not] at hc) <;> (try (exfalso; first | omega | exact bool_tf hc (by assumption) | exact bool_ft hc (by assumption) | exact absurd (by assumption) hc)) <;> (first | with_reducible show STri _ _ _ _ _ _ | (simp -dsimp [hlt, hlen, hA, hB, hc]; (repeat (simp -dsimp (disch := (first | omega | assumption | (refine Bool.eq_false_iff.1 ?_; assumption))) only [wrap_in, if_pos, if_neg]; (try simp -dsimp [hlt, hlen, hA, hB, hc]))))))))
    all_goals exact ⟨hlt, by simp, by simp, by simp [hs]⟩
  · have hke : k = w.faces.length := by omega
    subst hke
    have hall : rowsF w.faces w.faces.length = w.faces.map rowF := by simp [rowsF]
    (repeat' (first | ((first | with_reducible refine st_skip ?_ | with_reducible refine st_exit ?_); (try simp only [seqQ, blockQ, loopQ, forQ, whileQ, reduceIte, Nat.reduceEqDiff])) | (with_reducible refine st_ret ?_; ((try simp only [seqQ, blockQ, loopQ, forQ, whileQ]); first | (with_reducible refine retM_ret ?_) | refine retQ_ret ?_; simp [hlen])) | refine st_seq ?_ | refine st_block ?_ | ((first | refine st_reg ?_ | refine buildP_own ?_) <;> (simp -dsimp [hlen]; (repeat (simp -dsimp (disch := (first | omega | assumption | (refine Bool.eq_false_iff.1 ?_; assumption))) only [wrap_in, if_pos, if_neg]; (try simp -dsimp [hlen]))))) | ((first | refine guardP_of (fun hc => ?_) (fun hc => ?_) | refine st_cond rfl (fun hc => ?_) (fun hc => ?_)) <;> (try simp only [decide_eq_true_eq, decide_eq_false_iff_not, Bool.true_eq_false, Bool.false_eq_true, bne_iff_ne, ne_eq, bne_eq_false_iff_eq, beq_iff_eq, beq_eq_false_iff_ne, Bool.not_eq_true, Bool.not_eq_false, Bool.not_eq_eq_eq_not, Bool.not_true, Bool.not_false, Decidable.not_not] at hc) <;> (try (exfalso; first | omega | exact bool_tf hc (by assumption) | exact bool_ft hc (by assumption) | exact absurd (by assumption) hc)) <;> (first | with_reducible show STri _ _ _ _ _ _ | (simp -dsimp [hlen, hc]; (repeat (simp -dsimp (disch := (first | omega | assumption | (refine Bool.eq_false_iff.1 ?_; assumption))) only [wrap_in, if_pos, if_neg]; (try simp -dsimp [hlen, hc]))))))))
    rw [hall]
    exact .refl _

def bxW (w : Dw) : Blk := .box 26 [.c (I w.jump), .c (I w.elo), .c (I w.ehi), .c (slF w.faces)]
def bxF (f : Fc) : Blk := .box 80 [.c (I f.lo), .c (I f.hi), .c (slL f.links), .c (I f.weight), .c (I f.friction)]
attribute [simp] bxW bxF

theorem lUnchanged (w : Dw) (hw : DwLen w) : SC Try.prog 16 [cDw w, cDw w] (B true) := by
  refine law_turretlaw04_unchanged _ _ (by simp) ?_
  have hn := hw.n
  (repeat' (first | ((first | with_reducible refine st_skip ?_ | with_reducible refine st_exit ?_); (try simp only [seqQ, blockQ, loopQ, forQ, whileQ, reduceIte, Nat.reduceEqDiff])) | (with_reducible refine st_ret ?_; ((try simp only [seqQ, blockQ, loopQ, forQ, whileQ]); first | (with_reducible refine retM_ret ?_) | refine retQ_ret ?_; simp)) | refine st_seq ?_ | refine st_block ?_ | ((first | refine st_reg ?_ | refine buildP_own ?_) <;> (simp -dsimp; (repeat (simp -dsimp (disch := (first | omega | assumption | (refine Bool.eq_false_iff.1 ?_; assumption))) only [wrap_in, if_pos, if_neg]; (try simp -dsimp))))) | ((first | refine guardP_of (fun hc => ?_) (fun hc => ?_) | refine st_cond rfl (fun hc => ?_) (fun hc => ?_)) <;> (try simp only [decide_eq_true_eq, decide_eq_false_iff_not, Bool.true_eq_false, Bool.false_eq_true, bne_iff_ne, ne_eq, bne_eq_false_iff_eq, beq_iff_eq, beq_eq_false_iff_ne, Bool.not_eq_true, Bool.not_eq_false, Bool.not_eq_eq_eq_not, Bool.not_true, Bool.not_false, Decidable.not_not] at hc) <;> (try (exfalso; first | omega | exact bool_tf hc (by assumption) | exact bool_ft hc (by assumption) | exact absurd (by assumption) hc)) <;> (first | with_reducible show STri _ _ _ _ _ _ | (simp -dsimp [hc]; (repeat (simp -dsimp (disch := (first | omega | assumption | (refine Bool.eq_false_iff.1 ?_; assumption))) only [wrap_in, if_pos, if_neg]; (try simp -dsimp [hc]))))))))
  refine st_for [2, 3] w.faces.length (fun k T H => T = [(2, .ptr 2 0), (3, .ptr 3 0), (5, .c (I k))] ∧ H = [(2, bxW w), (3, bxW w)]) (by simp) ⟨by simp, by simp⟩ ?_
  rintro k T H hk ⟨rfl, rfl⟩
  by_cases hlt : k < w.faces.length
  · have hl := hw.l _ (List.getElem_mem hlt)
    (repeat' (first | ((first | with_reducible refine st_skip ?_ | with_reducible refine st_exit ?_); (try simp only [seqQ, blockQ, loopQ, forQ, whileQ, reduceIte, Nat.reduceEqDiff])) | (with_reducible refine st_ret ?_; ((try simp only [seqQ, blockQ, loopQ, forQ, whileQ]); first | (with_reducible refine retM_ret ?_) | refine retQ_ret ?_; simp [hlt])) | refine st_seq ?_ | refine st_block ?_ | ((first | refine st_reg ?_ | refine buildP_own ?_) <;> (simp -dsimp [hlt]; (repeat (simp -dsimp (disch := (first | omega | assumption | (refine Bool.eq_false_iff.1 ?_; assumption))) only [wrap_in, if_pos, if_neg]; (try simp -dsimp [hlt]))))) | ((first | refine guardP_of (fun hc => ?_) (fun hc => ?_) | refine st_cond rfl (fun hc => ?_) (fun hc => ?_)) <;> (try simp only [decide_eq_true_eq, decide_eq_false_iff_not, Bool.true_eq_false, Bool.false_eq_true, bne_iff_ne, ne_eq, bne_eq_false_iff_eq, beq_iff_eq, beq_eq_false_iff_ne, Bool.not_eq_true, Bool.not_eq_false, Bool.not_eq_eq_eq_not, Bool.not_true, Bool.not_false, Decidable.not_not] at hc) <;> (try (exfalso; first | omega | exact bool_tf hc (by assumption) | exact bool_ft hc (by assumption) | exact absurd (by assumption) hc)) <;> (first | with_reducible show STri _ _ _ _ _ _ | (simp -dsimp [hlt, hc]; (repeat (simp -dsimp (disch := (first | omega | assumption | (refine Bool.eq_false_iff.1 ?_; assumption))) only [wrap_in, if_pos, if_neg]; (try simp -dsimp [hlt, hc]))))))))
    refine st_for [2, 3, 6, 7] w.faces[k].links.length (fun j T H => T = [(2, .ptr 2 0), (3, .ptr 3 0), (5, .c (I k)), (6, .ptr 6 0), (7, .ptr 7 0), (8, .c (I j))] ∧ H = [(2, bxW w), (3, bxW w), (6, bxF w.faces[k]), (7, bxF w.faces[k])]) (by simp) ⟨by simp, by simp⟩ ?_
    rintro j T H hj ⟨rfl, rfl⟩
    by_cases hlt2 : j < w.faces[k].links.length
    · (repeat' (first | ((first | with_reducible refine st_skip ?_ | with_reducible refine st_exit ?_); (try simp only [seqQ, blockQ, loopQ, forQ, whileQ, reduceIte, Nat.reduceEqDiff])) | (with_reducible refine st_ret ?_; ((try simp only [seqQ, blockQ, loopQ, forQ, whileQ]); first | (with_reducible refine retM_ret ?_) | refine retQ_ret ?_; simp [hlt, hlt2])) | refine st_seq ?_ | refine st_block ?_ | ((first | refine st_reg ?_ | refine buildP_own ?_) <;> (simp -dsimp [hlt, hlt2]; (repeat (simp -dsimp (disch := (first | omega | assumption | (refine Bool.eq_false_iff.1 ?_; assumption))) only [wrap_in, if_pos, if_neg]; (try simp -dsimp [hlt, hlt2]))))) | ((first | refine guardP_of (fun hc => ?_) (fun hc => ?_) | refine st_cond rfl (fun hc => ?_) (fun hc => ?_)) <;> (try simp only [decide_eq_true_eq, decide_eq_false_iff_not, Bool.true_eq_false, Bool.false_eq_true, bne_iff_ne, ne_eq, bne_eq_false_iff_eq, beq_iff_eq, beq_eq_false_iff_ne, Bool.not_eq_true, Bool.not_eq_false, Bool.not_eq_eq_eq_not, Bool.not_true, Bool.not_false, Decidable.not_not] at hc) <;> (try (exfalso; first | omega | exact bool_tf hc (by assumption) | exact bool_ft hc (by assumption) | exact absurd (by assumption) hc)) <;> (first | with_reducible show STri _ _ _ _ _ _ | (simp -dsimp [hlt, hlt2, hc]; (repeat (simp -dsimp (disch := (first | omega | assumption | (refine Bool.eq_false_iff.1 ?_; assumption))) only [wrap_in, if_pos, if_neg]; (try simp -dsimp [hlt, hlt2, hc]))))))))
      all_goals exact ⟨hlt2, by simp, by simp, by simp⟩
    · (repeat' (first | ((first | with_reducible refine st_skip ?_ | with_reducible refine st_exit ?_); (try simp only [seqQ, blockQ, loopQ, forQ, whileQ, reduceIte, Nat.reduceEqDiff])) | (with_reducible refine st_ret ?_; ((try simp only [seqQ, blockQ, loopQ, forQ, whileQ]); first | (with_reducible refine retM_ret ?_) | refine retQ_ret ?_; simp [hlt2])) | refine st_seq ?_ | refine st_block ?_ | ((first | refine st_reg ?_ | refine buildP_own ?_) <;> (simp -dsimp [hlt2]; (repeat (simp -dsimp (disch := (first | omega | assumption | (refine Bool.eq_false_iff.1 ?_; assumption))) only [wrap_in, if_pos, if_neg]; (try simp -dsimp [hlt2]))))) | ((first | refine guardP_of (fun hc => ?_) (fun hc => ?_) | refine st_cond rfl (fun hc => ?_) (fun hc => ?_)) <;> (try simp only [decide_eq_true_eq, decide_eq_false_iff_not, Bool.true_eq_false, Bool.false_eq_true, bne_iff_ne, ne_eq, bne_eq_false_iff_eq, beq_iff_eq, beq_eq_false_iff_ne, Bool.not_eq_true, Bool.not_eq_false, Bool.not_eq_eq_eq_not, Bool.not_true, Bool.not_false, Decidable.not_not] at hc) <;> (try (exfalso; first | omega | exact bool_tf hc (by assumption) | exact bool_ft hc (by assumption) | exact absurd (by assumption) hc)) <;> (first | with_reducible show STri _ _ _ _ _ _ | (simp -dsimp [hlt2, hc]; (repeat (simp -dsimp (disch := (first | omega | assumption | (refine Bool.eq_false_iff.1 ?_; assumption))) only [wrap_in, if_pos, if_neg]; (try simp -dsimp [hlt2, hc]))))))))
      all_goals exact ⟨hlt, by simp, by simp, by simp⟩
  · (repeat' (first | ((first | with_reducible refine st_skip ?_ | with_reducible refine st_exit ?_); (try simp only [seqQ, blockQ, loopQ, forQ, whileQ, reduceIte, Nat.reduceEqDiff])) | (with_reducible refine st_ret ?_; ((try simp only [seqQ, blockQ, loopQ, forQ, whileQ]); first | (with_reducible refine retM_ret ?_) | refine retQ_ret ?_; simp [hlt])) | refine st_seq ?_ | refine st_block ?_ | ((first | refine st_reg ?_ | refine buildP_own ?_) <;> (simp -dsimp [hlt]; (repeat (simp -dsimp (disch := (first | omega | assumption | (refine Bool.eq_false_iff.1 ?_; assumption))) only [wrap_in, if_pos, if_neg]; (try simp -dsimp [hlt]))))) | ((first | refine guardP_of (fun hc => ?_) (fun hc => ?_) | refine st_cond rfl (fun hc => ?_) (fun hc => ?_)) <;> (try simp only [decide_eq_true_eq, decide_eq_false_iff_not, Bool.true_eq_false, Bool.false_eq_true, bne_iff_ne, ne_eq, bne_eq_false_iff_eq, beq_iff_eq, beq_eq_false_iff_ne, Bool.not_eq_true, Bool.not_eq_false, Bool.not_eq_eq_eq_not, Bool.not_true, Bool.not_false, Decidable.not_not] at hc) <;> (try (exfalso; first | omega | exact bool_tf hc (by assumption) | exact bool_ft hc (by assumption) | exact absurd (by assumption) hc)) <;> (first | with_reducible show STri _ _ _ _ _ _ | (simp -dsimp [hlt, hc]; (repeat (simp -dsimp (disch := (first | omega | assumption | (refine Bool.eq_false_iff.1 ?_; assumption))) only [wrap_in, if_pos, if_neg]; (try simp -dsimp [hlt, hc]))))))))
    all_goals exact .refl _

end Go.Proofs.Ytnfggkopledpcaa
/- Dial's references: Steady and Poise. -/
namespace Go.Proofs.Ytnfggkopledpcaa
open Go.RowKit

def steadyB (f : Fc) (n wlo whi : Int) (heavy : Bool) : Bool := if heavy then decide (wlo + n > f.friction) && decide (whi - n < -f.friction) else decide (whi + n < -f.friction) && decide (wlo - n > f.friction)

theorem rSteady (f : Fc) (n wlo whi : Int) (m : Bool) (h1 : 0 ≤ f.friction) (h2 : f.friction ≤ 10000) (h3 : -1000000 ≤ n) (h4 : n ≤ 1000000) (h5 : -1000000 ≤ wlo) (h6 : wlo ≤ 1000000) (h7 : -1000000 ≤ whi) (h8 : whi ≤ 1000000) :
    SC Try.prog 71 [cF f, I n, cS wlo whi, B m] (B (steadyB f n wlo whi m)) := by
  refine law_turretref04_Steady _ _ (by simp) ?_
  cases m
  · by_cases hc1 : whi + n < -f.friction
    · (repeat' (first | ((first | with_reducible refine st_skip ?_ | with_reducible refine st_exit ?_); (try simp only [seqQ, blockQ, loopQ, forQ, whileQ, reduceIte, Nat.reduceEqDiff])) | (with_reducible refine st_ret ?_; ((try simp only [seqQ, blockQ, loopQ, forQ, whileQ]); first | (with_reducible refine retM_ret ?_) | refine retQ_ret ?_; simp [hc1])) | refine st_seq ?_ | refine st_block ?_ | ((first | refine st_reg ?_ | refine buildP_own ?_) <;> (simp -dsimp [hc1]; (repeat (simp -dsimp (disch := (first | omega | assumption | (refine Bool.eq_false_iff.1 ?_; assumption))) only [wrap_in, if_pos, if_neg]; (try simp -dsimp [hc1]))))) | ((first | refine guardP_of (fun hc => ?_) (fun hc => ?_) | refine st_cond rfl (fun hc => ?_) (fun hc => ?_)) <;> (try simp only [decide_eq_true_eq, decide_eq_false_iff_not, Bool.true_eq_false, Bool.false_eq_true, bne_iff_ne, ne_eq, bne_eq_false_iff_eq, beq_iff_eq, beq_eq_false_iff_ne, Bool.not_eq_true, Bool.not_eq_false, Bool.not_eq_eq_eq_not, Bool.not_true, Bool.not_false, Decidable.not_not] at hc) <;> (try (exfalso; first | omega | exact bool_tf hc (by assumption) | exact bool_ft hc (by assumption) | exact absurd (by assumption) hc)) <;> (first | with_reducible show STri _ _ _ _ _ _ | (simp -dsimp [hc1, hc]; (repeat (simp -dsimp (disch := (first | omega | assumption | (refine Bool.eq_false_iff.1 ?_; assumption))) only [wrap_in, if_pos, if_neg]; (try simp -dsimp [hc1, hc]))))))))
      all_goals (refine CLe.bool ?_; simp [steadyB, hc1])
    · (repeat' (first | ((first | with_reducible refine st_skip ?_ | with_reducible refine st_exit ?_); (try simp only [seqQ, blockQ, loopQ, forQ, whileQ, reduceIte, Nat.reduceEqDiff])) | (with_reducible refine st_ret ?_; ((try simp only [seqQ, blockQ, loopQ, forQ, whileQ]); first | (with_reducible refine retM_ret ?_) | refine retQ_ret ?_; simp [hc1])) | refine st_seq ?_ | refine st_block ?_ | ((first | refine st_reg ?_ | refine buildP_own ?_) <;> (simp -dsimp [hc1]; (repeat (simp -dsimp (disch := (first | omega | assumption | (refine Bool.eq_false_iff.1 ?_; assumption))) only [wrap_in, if_pos, if_neg]; (try simp -dsimp [hc1]))))) | ((first | refine guardP_of (fun hc => ?_) (fun hc => ?_) | refine st_cond rfl (fun hc => ?_) (fun hc => ?_)) <;> (try simp only [decide_eq_true_eq, decide_eq_false_iff_not, Bool.true_eq_false, Bool.false_eq_true, bne_iff_ne, ne_eq, bne_eq_false_iff_eq, beq_iff_eq, beq_eq_false_iff_ne, Bool.not_eq_true, Bool.not_eq_false, Bool.not_eq_eq_eq_not, Bool.not_true, Bool.not_false, Decidable.not_not] at hc) <;> (try (exfalso; first | omega | exact bool_tf hc (by assumption) | exact bool_ft hc (by assumption) | exact absurd (by assumption) hc)) <;> (first | with_reducible show STri _ _ _ _ _ _ | (simp -dsimp [hc1, hc]; (repeat (simp -dsimp (disch := (first | omega | assumption | (refine Bool.eq_false_iff.1 ?_; assumption))) only [wrap_in, if_pos, if_neg]; (try simp -dsimp [hc1, hc]))))))))
      all_goals (refine CLe.bool ?_; simp [steadyB, hc1])
  · by_cases hc1 : f.friction < wlo + n
    · (repeat' (first | ((first | with_reducible refine st_skip ?_ | with_reducible refine st_exit ?_); (try simp only [seqQ, blockQ, loopQ, forQ, whileQ, reduceIte, Nat.reduceEqDiff])) | (with_reducible refine st_ret ?_; ((try simp only [seqQ, blockQ, loopQ, forQ, whileQ]); first | (with_reducible refine retM_ret ?_) | refine retQ_ret ?_; simp [hc1])) | refine st_seq ?_ | refine st_block ?_ | ((first | refine st_reg ?_ | refine buildP_own ?_) <;> (simp -dsimp [hc1]; (repeat (simp -dsimp (disch := (first | omega | assumption | (refine Bool.eq_false_iff.1 ?_; assumption))) only [wrap_in, if_pos, if_neg]; (try simp -dsimp [hc1]))))) | ((first | refine guardP_of (fun hc => ?_) (fun hc => ?_) | refine st_cond rfl (fun hc => ?_) (fun hc => ?_)) <;> (try simp only [decide_eq_true_eq, decide_eq_false_iff_not, Bool.true_eq_false, Bool.false_eq_true, bne_iff_ne, ne_eq, bne_eq_false_iff_eq, beq_iff_eq, beq_eq_false_iff_ne, Bool.not_eq_true, Bool.not_eq_false, Bool.not_eq_eq_eq_not, Bool.not_true, Bool.not_false, Decidable.not_not] at hc) <;> (try (exfalso; first | omega | exact bool_tf hc (by assumption) | exact bool_ft hc (by assumption) | exact absurd (by assumption) hc)) <;> (first | with_reducible show STri _ _ _ _ _ _ | (simp -dsimp [hc1, hc]; (repeat (simp -dsimp (disch := (first | omega | assumption | (refine Bool.eq_false_iff.1 ?_; assumption))) only [wrap_in, if_pos, if_neg]; (try simp -dsimp [hc1, hc]))))))))
      all_goals (refine CLe.bool ?_; simp [steadyB, hc1])
    · (repeat' (first | ((first | with_reducible refine st_skip ?_ | with_reducible refine st_exit ?_); (try simp only [seqQ, blockQ, loopQ, forQ, whileQ, reduceIte, Nat.reduceEqDiff])) | (with_reducible refine st_ret ?_; ((try simp only [seqQ, blockQ, loopQ, forQ, whileQ]); first | (with_reducible refine retM_ret ?_) | refine retQ_ret ?_; simp [hc1])) | refine st_seq ?_ | refine st_block ?_ | ((first | refine st_reg ?_ | refine buildP_own ?_) <;> (simp -dsimp [hc1]; (repeat (simp -dsimp (disch := (first | omega | assumption | (refine Bool.eq_false_iff.1 ?_; assumption))) only [wrap_in, if_pos, if_neg]; (try simp -dsimp [hc1]))))) | ((first | refine guardP_of (fun hc => ?_) (fun hc => ?_) | refine st_cond rfl (fun hc => ?_) (fun hc => ?_)) <;> (try simp only [decide_eq_true_eq, decide_eq_false_iff_not, Bool.true_eq_false, Bool.false_eq_true, bne_iff_ne, ne_eq, bne_eq_false_iff_eq, beq_iff_eq, beq_eq_false_iff_ne, Bool.not_eq_true, Bool.not_eq_false, Bool.not_eq_eq_eq_not, Bool.not_true, Bool.not_false, Decidable.not_not] at hc) <;> (try (exfalso; first | omega | exact bool_tf hc (by assumption) | exact bool_ft hc (by assumption) | exact absurd (by assumption) hc)) <;> (first | with_reducible show STri _ _ _ _ _ _ | (simp -dsimp [hc1, hc]; (repeat (simp -dsimp (disch := (first | omega | assumption | (refine Bool.eq_false_iff.1 ?_; assumption))) only [wrap_in, if_pos, if_neg]; (try simp -dsimp [hc1, hc]))))))))
      all_goals (refine CLe.bool ?_; simp [steadyB, hc1])

theorem heavy_le {f : Fc} {wlo whi : Int} (hf : fcOK f = true) (hw : spanB (-10000) 10000 wlo whi = true) : (0 ≤ f.friction ∧ f.friction ≤ 10000) ∧ (-10000 ≤ wlo ∧ wlo ≤ whi ∧ whi ≤ 10000) ∧ 1 ≤ heavyI f wlo whi ∧ heavyI f wlo whi ≤ 20001 := by
  have hs := fc_sm hf
  have h1 := hs.h
  have h2 := hs.i
  simp only [spanB, Bool.and_eq_true, decide_eq_true_eq] at hw
  refine ⟨⟨h1, h2⟩, ⟨by omega, by omega, by omega⟩, ?_⟩
  unfold heavyI
  split <;> omega

theorem steady_heavy {f : Fc} {wlo whi : Int} (hw : wlo ≤ whi) (n : Int) : steadyB f n wlo whi true = decide (heavyI f wlo whi ≤ n) := by
  unfold steadyB heavyI
  rw [if_pos rfl, Bool.eq_iff_iff]
  simp only [Bool.and_eq_true, decide_eq_true_eq]
  split <;> omega
theorem steady_tail {f : Fc} {wlo whi : Int} (hw : wlo ≤ whi) (n : Int) : steadyB f n wlo whi false = decide (n ≤ -heavyI f wlo whi) := by
  unfold steadyB heavyI
  rw [if_neg (by decide), Bool.eq_iff_iff]
  simp only [Bool.and_eq_true, decide_eq_true_eq]
  split <;> omega

/-- Where the search ends. -/
def endH (h : Int) : Nat := if h ≤ 10000 then h.toNat else 10001

theorem poise2 (f : Fc) (wlo whi : Int) (f1 : 0 ≤ f.friction) (f2 : f.friction ≤ 10000) (w1 : -10000 ≤ wlo) (w2 : wlo ≤ whi) (w3 : whi ≤ 10000) {h : Int} (hH : heavyI f wlo whi = h) (g1 : 1 ≤ h) (g2 : h ≤ 20001) (e : Nat) (hend : (e : Int) = if h ≤ 10000 then h else 10001)
    (hf : fcOK f = true) (hw : spanB (-10000) 10000 wlo whi = true) :
    STri (cfF Try.prog [] 47) c_turretref04_Poise_22 [(2, .ptr 2 0), (3, .ptr 3 0), (7, .c (I e)), (8, .c (I 0))] [(2, .box 80 [.c (I f.lo), .c (I f.hi), .c (slL f.links), .c (I f.weight), .c (I f.friction)]), (3, .box 23 [.c (I wlo), .c (I whi)])]
      (blockQ 2 (seqQ (cfF Try.prog [] 47) c_turretref04_Poise_31 (retQ rs_turretref04_Poise (rPoise f wlo whi)))) := by
  refine st_for [2, 3] e (fun k T H => T = [(2, .ptr 2 0), (3, .ptr 3 0), (7, .c (I e)), (8, .c (I (-(k : Int))))] ∧ H = [(2, .box 80 [.c (I f.lo), .c (I f.hi), .c (slL f.links), .c (I f.weight), .c (I f.friction)]), (3, .box 23 [.c (I wlo), .c (I whi)])]) (by simp) ⟨by simp, by simp⟩ ?_
  rintro k T H hk ⟨rfl, rfl⟩
  have ss := rSteady f (-(k : Int)) wlo whi false f1 f2 (by split at hend <;> omega) (by omega) (by omega) (by omega) (by omega) (by omega)
  rw [steady_tail w2, hH] at ss
  by_cases hlt : k < e
  · have hk1 : -10000 ≤ -(k : Int) := by split at hend <;> omega
    have hk2 : ¬ -(k : Int) ≤ -h := by split at hend <;> omega
    have hk3 : -(k : Int) - 1 = -((k : Int) + 1) := by omega
    (repeat' (first | ((first | with_reducible refine st_skip ?_ | with_reducible refine st_exit ?_); (try simp only [seqQ, blockQ, loopQ, forQ, whileQ, reduceIte, Nat.reduceEqDiff])) | (with_reducible refine st_ret ?_; ((try simp only [seqQ, blockQ, loopQ, forQ, whileQ]); first | (with_reducible refine retM_ret ?_) | refine retQ_ret ?_; simp [hk1, hk2, hk3])) | refine st_seq ?_ | refine st_block ?_ | ((first | refine st_reg ?_ | refine buildP_own ?_ | refine callP_b (ss) rfl ?_) <;> (simp -dsimp [hk1, hk2, hk3]; (repeat (simp -dsimp (disch := (first | omega | assumption | (refine Bool.eq_false_iff.1 ?_; assumption))) only [wrap_in, if_pos, if_neg]; (try simp -dsimp [hk1, hk2, hk3]))))) | ((first | refine guardP_of (fun hc => ?_) (fun hc => ?_) | refine st_cond rfl (fun hc => ?_) (fun hc => ?_)) <;> (try simp only [decide_eq_true_eq, decide_eq_false_iff_not, Bool.true_eq_false, Bool.false_eq_true, bne_iff_ne, ne_eq, bne_eq_false_iff_eq, beq_iff_eq, beq_eq_false_iff_ne, Bool.not_eq_true, Bool.not_eq_false, Bool.not_eq_eq_eq_not, Bool.not_true, Bool.not_false, Decidable.not_not] at hc) <;> (try (exfalso; first | omega | exact bool_tf hc (by assumption) | exact bool_ft hc (by assumption) | exact absurd (by assumption) hc)) <;> (first | with_reducible show STri _ _ _ _ _ _ | (simp -dsimp [hk1, hk2, hk3, hc]; (repeat (simp -dsimp (disch := (first | omega | assumption | (refine Bool.eq_false_iff.1 ?_; assumption))) only [wrap_in, if_pos, if_neg]; (try simp -dsimp [hk1, hk2, hk3, hc]))))))))
    all_goals exact ⟨hlt, by simp, by simp, by simp⟩
  · have hke : k = e := by omega
    subst hke
    by_cases h4 : h ≤ 10000
    · rw [if_pos h4] at hend
      have hk1 : -10000 ≤ -(k : Int) := by omega
      have hk2 : -(k : Int) ≤ -h := by omega
      have hk4 : (k : Int) ≤ 10000 := by omega
      (repeat' (first | ((first | with_reducible refine st_skip ?_ | with_reducible refine st_exit ?_); (try simp only [seqQ, blockQ, loopQ, forQ, whileQ, reduceIte, Nat.reduceEqDiff])) | (with_reducible refine st_ret ?_; ((try simp only [seqQ, blockQ, loopQ, forQ, whileQ]); first | (with_reducible refine retM_ret ?_) | refine retQ_ret ?_; simp [hk1, hk2, hk4])) | refine st_seq ?_ | refine st_block ?_ | ((first | refine st_reg ?_ | refine buildP_own ?_ | refine callP_b (ss) rfl ?_) <;> (simp -dsimp [hk1, hk2, hk4]; (repeat (simp -dsimp (disch := (first | omega | assumption | (refine Bool.eq_false_iff.1 ?_; assumption))) only [wrap_in, if_pos, if_neg]; (try simp -dsimp [hk1, hk2, hk4]))))) | ((first | refine guardP_of (fun hc => ?_) (fun hc => ?_) | refine st_cond rfl (fun hc => ?_) (fun hc => ?_)) <;> (try simp only [decide_eq_true_eq, decide_eq_false_iff_not, Bool.true_eq_false, Bool.false_eq_true, bne_iff_ne, ne_eq, bne_eq_false_iff_eq, beq_iff_eq, beq_eq_false_iff_ne, Bool.not_eq_true, Bool.not_eq_false, Bool.not_eq_eq_eq_not, Bool.not_true, Bool.not_false, Decidable.not_not] at hc) <;> (try (exfalso; first | omega | exact bool_tf hc (by assumption) | exact bool_ft hc (by assumption) | exact absurd (by assumption) hc)) <;> (first | with_reducible show STri _ _ _ _ _ _ | (simp -dsimp [hk1, hk2, hk4, hc]; (repeat (simp -dsimp (disch := (first | omega | assumption | (refine Bool.eq_false_iff.1 ?_; assumption))) only [wrap_in, if_pos, if_neg]; (try simp -dsimp [hk1, hk2, hk4, hc]))))))))
      all_goals (refine CLe.of_eq ?_; unfold rPoise; rw [if_pos (by simp [hf, hw]), hH, if_neg (by omega), hend])
    · rw [if_neg h4] at hend
      have hk1 : ¬ -10000 ≤ -(k : Int) := by omega
      have hk4 : ¬ (k : Int) ≤ 10000 := by omega
      (repeat' (first | ((first | with_reducible refine st_skip ?_ | with_reducible refine st_exit ?_); (try simp only [seqQ, blockQ, loopQ, forQ, whileQ, reduceIte, Nat.reduceEqDiff])) | (with_reducible refine st_ret ?_; ((try simp only [seqQ, blockQ, loopQ, forQ, whileQ]); first | (with_reducible refine retM_ret ?_) | refine retQ_ret ?_; simp [hk1, hk4])) | refine st_seq ?_ | refine st_block ?_ | ((first | refine st_reg ?_ | refine buildP_own ?_) <;> (simp -dsimp [hk1, hk4]; (repeat (simp -dsimp (disch := (first | omega | assumption | (refine Bool.eq_false_iff.1 ?_; assumption))) only [wrap_in, if_pos, if_neg]; (try simp -dsimp [hk1, hk4]))))) | ((first | refine guardP_of (fun hc => ?_) (fun hc => ?_) | refine st_cond rfl (fun hc => ?_) (fun hc => ?_)) <;> (try simp only [decide_eq_true_eq, decide_eq_false_iff_not, Bool.true_eq_false, Bool.false_eq_true, bne_iff_ne, ne_eq, bne_eq_false_iff_eq, beq_iff_eq, beq_eq_false_iff_ne, Bool.not_eq_true, Bool.not_eq_false, Bool.not_eq_eq_eq_not, Bool.not_true, Bool.not_false, Decidable.not_not] at hc) <;> (try (exfalso; first | omega | exact bool_tf hc (by assumption) | exact bool_ft hc (by assumption) | exact absurd (by assumption) hc)) <;> (first | with_reducible show STri _ _ _ _ _ _ | (simp -dsimp [hk1, hk4, hc]; (repeat (simp -dsimp (disch := (first | omega | assumption | (refine Bool.eq_false_iff.1 ?_; assumption))) only [wrap_in, if_pos, if_neg]; (try simp -dsimp [hk1, hk4, hc]))))))))
      all_goals (refine CLe.of_eq ?_; unfold rPoise; rw [if_pos (by simp [hf, hw]), hH, if_pos (by omega)])

theorem rPoise' (f : Fc) (hl : f.links.length ≤ 1000000) (wlo whi : Int) : SC Try.prog 39 [cF f, cS wlo whi] (rPoise f wlo whi) := by
  refine law_turretref04_Poise _ _ (by simp) ?_
  have sf := rFace f hl
  have sw := rWind wlo whi
  by_cases hf : fcOK f = true
  · by_cases hw : spanB (-10000) 10000 wlo whi = true
    · obtain ⟨⟨f1, f2⟩, ⟨w1, w2, w3⟩, g1, g2⟩ := heavy_le hf hw
      have hend : (endH (heavyI f wlo whi) : Int) = if heavyI f wlo whi ≤ 10000 then heavyI f wlo whi else 10001 := by
        unfold endH; split <;> omega
      generalize hH : heavyI f wlo whi = h at *
      generalize hE : endH h = e at *
      (repeat' (first | ((first | with_reducible refine st_skip ?_ | with_reducible refine st_exit ?_); (try simp only [seqQ, blockQ, loopQ, forQ, whileQ, reduceIte, Nat.reduceEqDiff])) | (with_reducible refine st_ret ?_; ((try simp only [seqQ, blockQ, loopQ, forQ, whileQ]); first | (with_reducible refine retM_ret ?_) | refine retQ_ret ?_; simp [hf, hw])) | refine st_seq ?_ | refine st_block ?_ | ((first | refine st_reg ?_ | refine buildP_own ?_ | refine callP_b (sf) rfl ?_ | refine callP_b (sw) rfl ?_) <;> (simp -dsimp [hf, hw]; (repeat (simp -dsimp (disch := (first | omega | assumption | (refine Bool.eq_false_iff.1 ?_; assumption))) only [wrap_in, if_pos, if_neg]; (try simp -dsimp [hf, hw]))))) | ((first | refine guardP_of (fun hc => ?_) (fun hc => ?_) | refine st_cond rfl (fun hc => ?_) (fun hc => ?_)) <;> (try simp only [decide_eq_true_eq, decide_eq_false_iff_not, Bool.true_eq_false, Bool.false_eq_true, bne_iff_ne, ne_eq, bne_eq_false_iff_eq, beq_iff_eq, beq_eq_false_iff_ne, Bool.not_eq_true, Bool.not_eq_false, Bool.not_eq_eq_eq_not, Bool.not_true, Bool.not_false, Decidable.not_not] at hc) <;> (try (exfalso; first | omega | exact bool_tf hc (by assumption) | exact bool_ft hc (by assumption) | exact absurd (by assumption) hc)) <;> (first | with_reducible show STri _ _ _ _ _ _ | (simp -dsimp [hf, hw, hc]; (repeat (simp -dsimp (disch := (first | omega | assumption | (refine Bool.eq_false_iff.1 ?_; assumption))) only [wrap_in, if_pos, if_neg]; (try simp -dsimp [hf, hw, hc]))))))))
      refine st_for [2, 3] e (fun k T H => T = [(2, .ptr 2 0), (3, .ptr 3 0), (7, .c (I k))] ∧ H = [(2, .box 80 [.c (I f.lo), .c (I f.hi), .c (slL f.links), .c (I f.weight), .c (I f.friction)]), (3, .box 23 [.c (I wlo), .c (I whi)])]) (by simp) ⟨by simp, by simp⟩ ?_
      rintro k T H hk ⟨rfl, rfl⟩
      have ss := rSteady f k wlo whi true f1 f2 (by omega) (by split at hend <;> omega) (by omega) (by omega) (by omega) (by omega)
      rw [steady_heavy w2, hH] at ss
      by_cases hlt : k < e
      · have hk1 : (k : Int) ≤ 10000 := by split at hend <;> omega
        have hk2 : ¬ h ≤ (k : Int) := by split at hend <;> omega
        (repeat' (first | ((first | with_reducible refine st_skip ?_ | with_reducible refine st_exit ?_); (try simp only [seqQ, blockQ, loopQ, forQ, whileQ, reduceIte, Nat.reduceEqDiff])) | (with_reducible refine st_ret ?_; ((try simp only [seqQ, blockQ, loopQ, forQ, whileQ]); first | (with_reducible refine retM_ret ?_) | refine retQ_ret ?_; simp [hk1, hk2])) | refine st_seq ?_ | refine st_block ?_ | ((first | refine st_reg ?_ | refine buildP_own ?_ | refine callP_b (ss) rfl ?_) <;> (simp -dsimp [hk1, hk2]; (repeat (simp -dsimp (disch := (first | omega | assumption | (refine Bool.eq_false_iff.1 ?_; assumption))) only [wrap_in, if_pos, if_neg]; (try simp -dsimp [hk1, hk2]))))) | ((first | refine guardP_of (fun hc => ?_) (fun hc => ?_) | refine st_cond rfl (fun hc => ?_) (fun hc => ?_)) <;> (try simp only [decide_eq_true_eq, decide_eq_false_iff_not, Bool.true_eq_false, Bool.false_eq_true, bne_iff_ne, ne_eq, bne_eq_false_iff_eq, beq_iff_eq, beq_eq_false_iff_ne, Bool.not_eq_true, Bool.not_eq_false, Bool.not_eq_eq_eq_not, Bool.not_true, Bool.not_false, Decidable.not_not] at hc) <;> (try (exfalso; first | omega | exact bool_tf hc (by assumption) | exact bool_ft hc (by assumption) | exact absurd (by assumption) hc)) <;> (first | with_reducible show STri _ _ _ _ _ _ | (simp -dsimp [hk1, hk2, hc]; (repeat (simp -dsimp (disch := (first | omega | assumption | (refine Bool.eq_false_iff.1 ?_; assumption))) only [wrap_in, if_pos, if_neg]; (try simp -dsimp [hk1, hk2, hc]))))))))
        all_goals exact ⟨hlt, by simp, by simp, by simp⟩
      · have hke : k = e := by omega
        subst hke
        have p2 := poise2 f wlo whi f1 f2 w1 w2 w3 hH g1 g2 k hend hf hw
        by_cases h4 : h ≤ 10000
        · rw [if_pos h4] at hend
          have hk1 : (k : Int) ≤ 10000 := by omega
          have hk2 : h ≤ (k : Int) := by omega
          (repeat' (first | (exact p2) | ((first | with_reducible refine st_skip ?_ | with_reducible refine st_exit ?_); (try simp only [seqQ, blockQ, loopQ, forQ, whileQ, reduceIte, Nat.reduceEqDiff])) | (with_reducible refine st_ret ?_; ((try simp only [seqQ, blockQ, loopQ, forQ, whileQ]); first | (with_reducible refine retM_ret ?_) | refine retQ_ret ?_; simp [hk1, hk2])) | refine st_seq ?_ | refine st_block ?_ | ((first | refine st_reg ?_ | refine buildP_own ?_ | refine callP_b (ss) rfl ?_) <;> (simp -dsimp [hk1, hk2]; (repeat (simp -dsimp (disch := (first | omega | assumption | (refine Bool.eq_false_iff.1 ?_; assumption))) only [wrap_in, if_pos, if_neg]; (try simp -dsimp [hk1, hk2]))))) | ((first | refine guardP_of (fun hc => ?_) (fun hc => ?_) | refine st_cond rfl (fun hc => ?_) (fun hc => ?_)) <;> (try simp only [decide_eq_true_eq, decide_eq_false_iff_not, Bool.true_eq_false, Bool.false_eq_true, bne_iff_ne, ne_eq, bne_eq_false_iff_eq, beq_iff_eq, beq_eq_false_iff_ne, Bool.not_eq_true, Bool.not_eq_false, Bool.not_eq_eq_eq_not, Bool.not_true, Bool.not_false, Decidable.not_not] at hc) <;> (try (exfalso; first | omega | exact bool_tf hc (by assumption) | exact bool_ft hc (by assumption) | exact absurd (by assumption) hc)) <;> (first | with_reducible show STri _ _ _ _ _ _ | (simp -dsimp [hk1, hk2, hc]; (repeat (simp -dsimp (disch := (first | omega | assumption | (refine Bool.eq_false_iff.1 ?_; assumption))) only [wrap_in, if_pos, if_neg]; (try simp -dsimp [hk1, hk2, hc]))))))))
        · rw [if_neg h4] at hend
          have hk1 : ¬ (k : Int) ≤ 10000 := by omega
          (repeat' (first | (exact p2) | ((first | with_reducible refine st_skip ?_ | with_reducible refine st_exit ?_); (try simp only [seqQ, blockQ, loopQ, forQ, whileQ, reduceIte, Nat.reduceEqDiff])) | (with_reducible refine st_ret ?_; ((try simp only [seqQ, blockQ, loopQ, forQ, whileQ]); first | (with_reducible refine retM_ret ?_) | refine retQ_ret ?_; simp [hk1])) | refine st_seq ?_ | refine st_block ?_ | ((first | refine st_reg ?_ | refine buildP_own ?_) <;> (simp -dsimp [hk1]; (repeat (simp -dsimp (disch := (first | omega | assumption | (refine Bool.eq_false_iff.1 ?_; assumption))) only [wrap_in, if_pos, if_neg]; (try simp -dsimp [hk1]))))) | ((first | refine guardP_of (fun hc => ?_) (fun hc => ?_) | refine st_cond rfl (fun hc => ?_) (fun hc => ?_)) <;> (try simp only [decide_eq_true_eq, decide_eq_false_iff_not, Bool.true_eq_false, Bool.false_eq_true, bne_iff_ne, ne_eq, bne_eq_false_iff_eq, beq_iff_eq, beq_eq_false_iff_ne, Bool.not_eq_true, Bool.not_eq_false, Bool.not_eq_eq_eq_not, Bool.not_true, Bool.not_false, Decidable.not_not] at hc) <;> (try (exfalso; first | omega | exact bool_tf hc (by assumption) | exact bool_ft hc (by assumption) | exact absurd (by assumption) hc)) <;> (first | with_reducible show STri _ _ _ _ _ _ | (simp -dsimp [hk1, hc]; (repeat (simp -dsimp (disch := (first | omega | assumption | (refine Bool.eq_false_iff.1 ?_; assumption))) only [wrap_in, if_pos, if_neg]; (try simp -dsimp [hk1, hc]))))))))
    · (repeat' (first | ((first | with_reducible refine st_skip ?_ | with_reducible refine st_exit ?_); (try simp only [seqQ, blockQ, loopQ, forQ, whileQ, reduceIte, Nat.reduceEqDiff])) | (with_reducible refine st_ret ?_; ((try simp only [seqQ, blockQ, loopQ, forQ, whileQ]); first | (with_reducible refine retM_ret ?_) | refine retQ_ret ?_; simp [hf, hw])) | refine st_seq ?_ | refine st_block ?_ | ((first | refine st_reg ?_ | refine buildP_own ?_ | refine callP_b (sf) rfl ?_ | refine callP_b (sw) rfl ?_) <;> (simp -dsimp [hf, hw]; (repeat (simp -dsimp (disch := (first | omega | assumption | (refine Bool.eq_false_iff.1 ?_; assumption))) only [wrap_in, if_pos, if_neg]; (try simp -dsimp [hf, hw]))))) | ((first | refine guardP_of (fun hc => ?_) (fun hc => ?_) | refine st_cond rfl (fun hc => ?_) (fun hc => ?_)) <;> (try simp only [decide_eq_true_eq, decide_eq_false_iff_not, Bool.true_eq_false, Bool.false_eq_true, bne_iff_ne, ne_eq, bne_eq_false_iff_eq, beq_iff_eq, beq_eq_false_iff_ne, Bool.not_eq_true, Bool.not_eq_false, Bool.not_eq_eq_eq_not, Bool.not_true, Bool.not_false, Decidable.not_not] at hc) <;> (try (exfalso; first | omega | exact bool_tf hc (by assumption) | exact bool_ft hc (by assumption) | exact absurd (by assumption) hc)) <;> (first | with_reducible show STri _ _ _ _ _ _ | (simp -dsimp [hf, hw, hc]; (repeat (simp -dsimp (disch := (first | omega | assumption | (refine Bool.eq_false_iff.1 ?_; assumption))) only [wrap_in, if_pos, if_neg]; (try simp -dsimp [hf, hw, hc]))))))))
      all_goals (refine CLe.of_eq ?_; unfold rPoise; rw [if_neg (by simp [hw])])
  · (repeat' (first | ((first | with_reducible refine st_skip ?_ | with_reducible refine st_exit ?_); (try simp only [seqQ, blockQ, loopQ, forQ, whileQ, reduceIte, Nat.reduceEqDiff])) | (with_reducible refine st_ret ?_; ((try simp only [seqQ, blockQ, loopQ, forQ, whileQ]); first | (with_reducible refine retM_ret ?_) | refine retQ_ret ?_; simp [hf])) | refine st_seq ?_ | refine st_block ?_ | ((first | refine st_reg ?_ | refine buildP_own ?_ | refine callP_b (sf) rfl ?_) <;> (simp -dsimp [hf]; (repeat (simp -dsimp (disch := (first | omega | assumption | (refine Bool.eq_false_iff.1 ?_; assumption))) only [wrap_in, if_pos, if_neg]; (try simp -dsimp [hf]))))) | ((first | refine guardP_of (fun hc => ?_) (fun hc => ?_) | refine st_cond rfl (fun hc => ?_) (fun hc => ?_)) <;> (try simp only [decide_eq_true_eq, decide_eq_false_iff_not, Bool.true_eq_false, Bool.false_eq_true, bne_iff_ne, ne_eq, bne_eq_false_iff_eq, beq_iff_eq, beq_eq_false_iff_ne, Bool.not_eq_true, Bool.not_eq_false, Bool.not_eq_eq_eq_not, Bool.not_true, Bool.not_false, Decidable.not_not] at hc) <;> (try (exfalso; first | omega | exact bool_tf hc (by assumption) | exact bool_ft hc (by assumption) | exact absurd (by assumption) hc)) <;> (first | with_reducible show STri _ _ _ _ _ _ | (simp -dsimp [hf, hc]; (repeat (simp -dsimp (disch := (first | omega | assumption | (refine Bool.eq_false_iff.1 ?_; assumption))) only [wrap_in, if_pos, if_neg]; (try simp -dsimp [hf, hc]))))))))
    all_goals (refine CLe.of_eq ?_; unfold rPoise; rw [if_neg (by simp [hf])])

end Go.Proofs.Ytnfggkopledpcaa
/- DialChecks. -/
namespace Go.Proofs.Ytnfggkopledpcaa
open Go.RowKit

set_option maxHeartbeats 4000000 in
set_option maxRecDepth 100000 in
theorem lChecks (w : Dw) (hx : DwMax w) (f : Fc) (hfx : f.links.length ≤ 9223372036854775807) (wlo whi : Int) : SC Try.prog 10 [cDw w, cF f, cS wlo whi] (B true) := by
  refine law_turretlaw04_DialChecks _ _ (by simp) ?_
  have a1 := lLarge w hx
  have a2 := sKnown
  by_cases hL : largeB w = true
  · (repeat' (first | ((first | with_reducible refine st_skip ?_ | with_reducible refine st_exit ?_); (try simp only [seqQ, blockQ, loopQ, forQ, whileQ, reduceIte, Nat.reduceEqDiff])) | (with_reducible refine st_ret ?_; ((try simp only [seqQ, blockQ, loopQ, forQ, whileQ]); first | (with_reducible refine retM_ret ?_) | refine retQ_ret ?_; simp [hL])) | refine st_seq ?_ | refine st_block ?_ | ((first | refine st_reg ?_ | refine buildP_own ?_ | refine callP_b (a1) rfl ?_ | refine callP_b (a2) rfl ?_) <;> (simp -dsimp [hL]; (repeat (simp -dsimp (disch := (first | omega | assumption | (refine Bool.eq_false_iff.1 ?_; assumption))) only [wrap_in, if_pos, if_neg]; (try simp -dsimp [hL]))))) | ((first | refine guardP_of (fun hc => ?_) (fun hc => ?_) | refine st_cond rfl (fun hc => ?_) (fun hc => ?_)) <;> (try simp only [decide_eq_true_eq, decide_eq_false_iff_not, Bool.true_eq_false, Bool.false_eq_true, bne_iff_ne, ne_eq, bne_eq_false_iff_eq, beq_iff_eq, beq_eq_false_iff_ne, Bool.not_eq_true, Bool.not_eq_false, Bool.not_eq_eq_eq_not, Bool.not_true, Bool.not_false, Decidable.not_not] at hc) <;> (try (exfalso; first | omega | exact bool_tf hc (by assumption) | exact bool_ft hc (by assumption) | exact absurd (by assumption) hc)) <;> (first | with_reducible show STri _ _ _ _ _ _ | (simp -dsimp [hL, hc]; (repeat (simp -dsimp (disch := (first | omega | assumption | (refine Bool.eq_false_iff.1 ?_; assumption))) only [wrap_in, if_pos, if_neg]; (try simp -dsimp [hL, hc]))))))))
    all_goals exact .refl _
  · by_cases h10 : f.links.length > 10
    · have h10' : (10 : Int) < f.links.length := by omega
      (repeat' (first | ((first | with_reducible refine st_skip ?_ | with_reducible refine st_exit ?_); (try simp only [seqQ, blockQ, loopQ, forQ, whileQ, reduceIte, Nat.reduceEqDiff])) | (with_reducible refine st_ret ?_; ((try simp only [seqQ, blockQ, loopQ, forQ, whileQ]); first | (with_reducible refine retM_ret ?_) | refine retQ_ret ?_; simp [hL, h10'])) | refine st_seq ?_ | refine st_block ?_ | ((first | refine st_reg ?_ | refine buildP_own ?_ | refine callP_b (a1) rfl ?_ | refine callP_b (a2) rfl ?_) <;> (simp -dsimp [hL, h10']; (repeat (simp -dsimp (disch := (first | omega | assumption | (refine Bool.eq_false_iff.1 ?_; assumption))) only [wrap_in, if_pos, if_neg]; (try simp -dsimp [hL, h10']))))) | ((first | refine guardP_of (fun hc => ?_) (fun hc => ?_) | refine st_cond rfl (fun hc => ?_) (fun hc => ?_)) <;> (try simp only [decide_eq_true_eq, decide_eq_false_iff_not, Bool.true_eq_false, Bool.false_eq_true, bne_iff_ne, ne_eq, bne_eq_false_iff_eq, beq_iff_eq, beq_eq_false_iff_ne, Bool.not_eq_true, Bool.not_eq_false, Bool.not_eq_eq_eq_not, Bool.not_true, Bool.not_false, Decidable.not_not] at hc) <;> (try (exfalso; first | omega | exact bool_tf hc (by assumption) | exact bool_ft hc (by assumption) | exact absurd (by assumption) hc)) <;> (first | with_reducible show STri _ _ _ _ _ _ | (simp -dsimp [hL, h10', hc]; (repeat (simp -dsimp (disch := (first | omega | assumption | (refine Bool.eq_false_iff.1 ?_; assumption))) only [wrap_in, if_pos, if_neg]; (try simp -dsimp [hL, h10', hc]))))))))
      all_goals exact .refl _
    · have h10' : ¬ (10 : Int) < f.links.length := by omega
      have hw := dw_len hL
      have hf : f.links.length ≤ 1000000 := by omega
      have a3 := lWorks w hw
      have a4 := lFace f hf
      have a5 := sCheck w hw
      have a6 := sSlack f hf
      have a7 := sPoise f hf wlo whi
      have a8 := rPoise' f hf wlo whi
      have a9 := lUnchanged w hw
      have a10 := lUnchanged ⟨0, 0, 0, [f]⟩ ⟨by simp, fun g hg => by simp at hg; subst hg; exact hf⟩
      have a11 := rWorks' w hw
      have a12 := rFace f hf
      obtain ⟨x, y, z, hxyz⟩ : ∃ x y z, rPoise f wlo whi = .tup [I x, I y, I z] := by
        unfold rPoise
        split
        · split
          · exact ⟨_, _, _, rfl⟩
          · exact ⟨_, _, _, rfl⟩
        · exact ⟨_, _, _, rfl⟩
      rw [hxyz] at a7 a8
      by_cases hok : fcOK f = true
      · have a13 := rSlackF hok
        unfold rSlack at a6
        rw [if_pos hok] at a6
        by_cases hd : dwB w = true
        · rw [if_pos hd] at a5
          (repeat' (first | ((first | with_reducible refine st_skip ?_ | with_reducible refine st_exit ?_); (try simp only [seqQ, blockQ, loopQ, forQ, whileQ, reduceIte, Nat.reduceEqDiff])) | (with_reducible refine st_ret ?_; ((try simp only [seqQ, blockQ, loopQ, forQ, whileQ]); first | (with_reducible refine retM_ret ?_) | refine retQ_ret ?_; simp [hL, h10', hok, hd])) | refine st_seq ?_ | refine st_block ?_ | ((first | refine st_reg ?_ | refine buildP_frz ?_ | refine callP_b (a1) rfl ?_ | refine callP_b (a3) rfl ?_ | refine callP_b (a4) rfl ?_ | refine callP_b (a5) rfl ?_ | refine callP_b (a6) rfl ?_ | refine callP_b (a7) rfl ?_ | refine callP_b (a8) rfl ?_ | refine callP_b (a9) rfl ?_ | refine callP_b (a10) rfl ?_ | refine callP_b (a11) rfl ?_ | refine callP_b (a12) rfl ?_ | refine callP_b (a13) rfl ?_ | refine callP_b (a2) rfl ?_) <;> (simp -dsimp [hL, h10', hok, hd]; (repeat (simp -dsimp (disch := (first | omega | assumption | (refine Bool.eq_false_iff.1 ?_; assumption))) only [wrap_in, if_pos, if_neg]; (try simp -dsimp [hL, h10', hok, hd]))))) | ((first | refine guardP_of (fun hc => ?_) (fun hc => ?_) | refine st_cond rfl (fun hc => ?_) (fun hc => ?_)) <;> (try simp only [decide_eq_true_eq, decide_eq_false_iff_not, Bool.true_eq_false, Bool.false_eq_true, bne_iff_ne, ne_eq, bne_eq_false_iff_eq, beq_iff_eq, beq_eq_false_iff_ne, Bool.not_eq_true, Bool.not_eq_false, Bool.not_eq_eq_eq_not, Bool.not_true, Bool.not_false, Decidable.not_not] at hc) <;> (try (exfalso; first | omega | exact bool_tf hc (by assumption) | exact bool_ft hc (by assumption) | exact absurd (by assumption) hc)) <;> (first | with_reducible show STri _ _ _ _ _ _ | (simp -dsimp [hL, h10', hok, hd, hc]; (repeat (simp -dsimp (disch := (first | omega | assumption | (refine Bool.eq_false_iff.1 ?_; assumption))) only [wrap_in, if_pos, if_neg]; (try simp -dsimp [hL, h10', hok, hd, hc]))))))))
          all_goals exact .refl _
        · rw [if_neg hd] at a5
          (repeat' (first | ((first | with_reducible refine st_skip ?_ | with_reducible refine st_exit ?_); (try simp only [seqQ, blockQ, loopQ, forQ, whileQ, reduceIte, Nat.reduceEqDiff])) | (with_reducible refine st_ret ?_; ((try simp only [seqQ, blockQ, loopQ, forQ, whileQ]); first | (with_reducible refine retM_ret ?_) | refine retQ_ret ?_; simp [hL, h10', hok, hd])) | refine st_seq ?_ | refine st_block ?_ | ((first | refine st_reg ?_ | refine buildP_frz ?_ | refine callP_b (a1) rfl ?_ | refine callP_b (a3) rfl ?_ | refine callP_b (a4) rfl ?_ | refine callP_b (a5) rfl ?_ | refine callP_b (a6) rfl ?_ | refine callP_b (a7) rfl ?_ | refine callP_b (a8) rfl ?_ | refine callP_b (a9) rfl ?_ | refine callP_b (a10) rfl ?_ | refine callP_b (a11) rfl ?_ | refine callP_b (a12) rfl ?_ | refine callP_b (a13) rfl ?_ | refine callP_b (a2) rfl ?_) <;> (simp -dsimp [hL, h10', hok, hd]; (repeat (simp -dsimp (disch := (first | omega | assumption | (refine Bool.eq_false_iff.1 ?_; assumption))) only [wrap_in, if_pos, if_neg]; (try simp -dsimp [hL, h10', hok, hd]))))) | ((first | refine guardP_of (fun hc => ?_) (fun hc => ?_) | refine st_cond rfl (fun hc => ?_) (fun hc => ?_)) <;> (try simp only [decide_eq_true_eq, decide_eq_false_iff_not, Bool.true_eq_false, Bool.false_eq_true, bne_iff_ne, ne_eq, bne_eq_false_iff_eq, beq_iff_eq, beq_eq_false_iff_ne, Bool.not_eq_true, Bool.not_eq_false, Bool.not_eq_eq_eq_not, Bool.not_true, Bool.not_false, Decidable.not_not] at hc) <;> (try (exfalso; first | omega | exact bool_tf hc (by assumption) | exact bool_ft hc (by assumption) | exact absurd (by assumption) hc)) <;> (first | with_reducible show STri _ _ _ _ _ _ | (simp -dsimp [hL, h10', hok, hd, hc]; (repeat (simp -dsimp (disch := (first | omega | assumption | (refine Bool.eq_false_iff.1 ?_; assumption))) only [wrap_in, if_pos, if_neg]; (try simp -dsimp [hL, h10', hok, hd, hc]))))))))
          all_goals exact .refl _
      · unfold rSlack at a6
        rw [if_neg hok] at a6
        by_cases hd : dwB w = true
        · rw [if_pos hd] at a5
          (repeat' (first | ((first | with_reducible refine st_skip ?_ | with_reducible refine st_exit ?_); (try simp only [seqQ, blockQ, loopQ, forQ, whileQ, reduceIte, Nat.reduceEqDiff])) | (with_reducible refine st_ret ?_; ((try simp only [seqQ, blockQ, loopQ, forQ, whileQ]); first | (with_reducible refine retM_ret ?_) | refine retQ_ret ?_; simp [hL, h10', hok, hd])) | refine st_seq ?_ | refine st_block ?_ | ((first | refine st_reg ?_ | refine buildP_frz ?_ | refine callP_b (a1) rfl ?_ | refine callP_b (a3) rfl ?_ | refine callP_b (a4) rfl ?_ | refine callP_b (a5) rfl ?_ | refine callP_b (a6) rfl ?_ | refine callP_b (a7) rfl ?_ | refine callP_b (a8) rfl ?_ | refine callP_b (a9) rfl ?_ | refine callP_b (a10) rfl ?_ | refine callP_b (a11) rfl ?_ | refine callP_b (a12) rfl ?_ | refine callP_b (a2) rfl ?_) <;> (simp -dsimp [hL, h10', hok, hd]; (repeat (simp -dsimp (disch := (first | omega | assumption | (refine Bool.eq_false_iff.1 ?_; assumption))) only [wrap_in, if_pos, if_neg]; (try simp -dsimp [hL, h10', hok, hd]))))) | ((first | refine guardP_of (fun hc => ?_) (fun hc => ?_) | refine st_cond rfl (fun hc => ?_) (fun hc => ?_)) <;> (try simp only [decide_eq_true_eq, decide_eq_false_iff_not, Bool.true_eq_false, Bool.false_eq_true, bne_iff_ne, ne_eq, bne_eq_false_iff_eq, beq_iff_eq, beq_eq_false_iff_ne, Bool.not_eq_true, Bool.not_eq_false, Bool.not_eq_eq_eq_not, Bool.not_true, Bool.not_false, Decidable.not_not] at hc) <;> (try (exfalso; first | omega | exact bool_tf hc (by assumption) | exact bool_ft hc (by assumption) | exact absurd (by assumption) hc)) <;> (first | with_reducible show STri _ _ _ _ _ _ | (simp -dsimp [hL, h10', hok, hd, hc]; (repeat (simp -dsimp (disch := (first | omega | assumption | (refine Bool.eq_false_iff.1 ?_; assumption))) only [wrap_in, if_pos, if_neg]; (try simp -dsimp [hL, h10', hok, hd, hc]))))))))
          all_goals exact .refl _
        · rw [if_neg hd] at a5
          (repeat' (first | ((first | with_reducible refine st_skip ?_ | with_reducible refine st_exit ?_); (try simp only [seqQ, blockQ, loopQ, forQ, whileQ, reduceIte, Nat.reduceEqDiff])) | (with_reducible refine st_ret ?_; ((try simp only [seqQ, blockQ, loopQ, forQ, whileQ]); first | (with_reducible refine retM_ret ?_) | refine retQ_ret ?_; simp [hL, h10', hok, hd])) | refine st_seq ?_ | refine st_block ?_ | ((first | refine st_reg ?_ | refine buildP_frz ?_ | refine callP_b (a1) rfl ?_ | refine callP_b (a3) rfl ?_ | refine callP_b (a4) rfl ?_ | refine callP_b (a5) rfl ?_ | refine callP_b (a6) rfl ?_ | refine callP_b (a7) rfl ?_ | refine callP_b (a8) rfl ?_ | refine callP_b (a9) rfl ?_ | refine callP_b (a10) rfl ?_ | refine callP_b (a11) rfl ?_ | refine callP_b (a12) rfl ?_ | refine callP_b (a2) rfl ?_) <;> (simp -dsimp [hL, h10', hok, hd]; (repeat (simp -dsimp (disch := (first | omega | assumption | (refine Bool.eq_false_iff.1 ?_; assumption))) only [wrap_in, if_pos, if_neg]; (try simp -dsimp [hL, h10', hok, hd]))))) | ((first | refine guardP_of (fun hc => ?_) (fun hc => ?_) | refine st_cond rfl (fun hc => ?_) (fun hc => ?_)) <;> (try simp only [decide_eq_true_eq, decide_eq_false_iff_not, Bool.true_eq_false, Bool.false_eq_true, bne_iff_ne, ne_eq, bne_eq_false_iff_eq, beq_iff_eq, beq_eq_false_iff_ne, Bool.not_eq_true, Bool.not_eq_false, Bool.not_eq_eq_eq_not, Bool.not_true, Bool.not_false, Decidable.not_not] at hc) <;> (try (exfalso; first | omega | exact bool_tf hc (by assumption) | exact bool_ft hc (by assumption) | exact absurd (by assumption) hc)) <;> (first | with_reducible show STri _ _ _ _ _ _ | (simp -dsimp [hL, h10', hok, hd, hc]; (repeat (simp -dsimp (disch := (first | omega | assumption | (refine Bool.eq_false_iff.1 ?_; assumption))) only [wrap_in, if_pos, if_neg]; (try simp -dsimp [hL, h10', hok, hd, hc]))))))))
          all_goals exact .refl _

end Go.Proofs.Ytnfggkopledpcaa
/- The last step: DialChecks. -/
namespace Go.Proofs.Ytnfggkopledpcaa
open Go.RowKit Go.ChangeShapes Go.WideShapes Go.ChangeAt

set_option maxRecDepth 100000 in
theorem checks_lifted (os : Os) (started : os.Started) (H : Type) (enc : TypeId × Value → H) :
    ReturnsInHanded {} Try.checked os 10 .any (Rows.dialChecksSpec.pre6 enc Try.prog Try.f10 Rows.dialChecksRow.domain false) (Rows.dialChecksSpec.post enc Try.prog Try.f10 false true false false) := by
  refine returnsInHanded_of_change (C := Try.checked) Try.own started (by kernel_rfl) Try.func10
    (ChangeSpec.witness6 (enc := enc) (C := Try.checked) false ⟨#[], #[.agg #[.int .i64 0, .int .i64 0, .int .i64 0, .slice none 0 0], .agg #[.int .i64 0, .int .i64 0, .slice none 0 0, .int .i64 0, .int .i64 0], .agg #[.int .i64 0, .int .i64 0]], []⟩ 8 (by kernel_rfl) (by kernel_rfl) (by kernel_rfl) (by kernel_rfl)) ?_
  intro W base args ds gs before hval0 hW hcnd _
  have hW' := hW
  obtain ⟨p, q, hA0, hV, rfl, hfz, hnd⟩ := hW
  have hA : DataW.TrodAll enc Try.prog W 0 (fun _ => true) true Try.f10.params.toList args.toList ds p := hA0
  rw [Try.params10] at hA
  obtain ⟨v0, v1, v2, d0, d1, d2, q0, q1, q2, rfl, rfl, rfl, h0, h1, h2⟩ := trodAll_three hA
  obtain ⟨rfl, rfl⟩ := trodVars_none hV
  obtain ⟨c, hc, hcm⟩ := open_works h0
  obtain ⟨f, hf, hfm⟩ := open_face h1
  obtain ⟨a, b, hab⟩ := open_span h2
  clear hA0 hval0
  refine (lChecks c hcm f hfm a b W (fun _ => False) #[v0, v1, v2] (fun b hb => hb.elim) rfl (fun i x v hx' hv => ?_)).mono fun e W' ⟨v, he, hr, hx⟩ => ?_
  · match i with
    | 0 => cases hx'; cases hv; exact hc
    | 1 => cases hx'; cases hv; exact hf
    | 2 => cases hx'; cases hv; exact hab
    | i + 3 => simp at hx'
  subst he
  have hv := val_inv hr
  subst hv
  exact ⟨_, rfl, post_ext Try.kids Try.full (by rw [Try.params10]; decide +kernel) rfl hW' (fun _ _ _ => trodAll_mk1 (shut_bool Try.underlying4 _)) rfl rfl hx (ok_one (by kernel_rfl) rfl (okWide_bool_mk Try.underlying4 _))⟩

theorem dialChecks_holds : Rows.DialChecksSaid :=
  OpenClaim.holds_of_wide 10 Try.f10 rfl rfl rfl rfl rfl rfl rfl ⟨rfl, rfl, rfl, rfl, rfl⟩ rfl rfl rfl rfl rfl (by kernel_rfl) Try.func10 (by kernel_rfl)
    (of_decide_eq_true (by kernel_rfl)) (by unfold Func.isWrapper; first | (rw [if_pos (by decide +kernel)]; kernel_rfl) | (rw [if_neg (by decide +kernel)]; exact ⟨rfl, rfl⟩))
    (fun os started H enc _ => checks_lifted os started H enc)
#print axioms dialChecks_holds

end Go.Proofs.Ytnfggkopledpcaa
