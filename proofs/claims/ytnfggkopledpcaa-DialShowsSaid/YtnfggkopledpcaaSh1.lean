/- Part 6 of a proof: CodeR, CodeL, Dr, Ds, Dt, Du, Dv, Ef, Ek, El. -/
import Derived.Test.YtnfggkopledpcaaJ3
import Derived.Test.YtnfggkopledpcaaJ4
import Derived.Test.YtnfggkopledpcaaJ5
set_option linter.unusedSimpArgs false
set_option linter.unusedVariables false
/- The shadow code of functions, as the kit's translation has them. -/
namespace Go.Proofs.Ytnfggkopledpcaa
open Go.RowKit

-- turret/turretref04.Look (17)
def c_turretref04_Look_0 : SCode := .reg [⟨(some 4), none, .box 26 (.tmp 0), [], false⟩,
  ⟨(some 7), none, .box 23 (.tmp 3), [], false⟩,
  ⟨(some 8), none, .mov (.const (.int .i64 0)), [], false⟩] [1, 2, 4, 7]
def c_turretref04_Look_1 : SCode := .reg [⟨(some 10), none, .load true 4 (.tmp 4), [], false⟩,
  ⟨(some 11), none, .call 40 [(.tmp 10)], [], false⟩,
  ⟨(some 12), none, .un .not (.tmp 11), [], false⟩,
  ⟨(some 9), none, .mov (.tmp 12), [], false⟩] [1, 2, 4, 7, 9]
def c_turretref04_Look_2 : SCode := .reg [⟨(some 8), none, .mov (.const (.int .i64 2)), [], false⟩] [8]
def c_turretref04_Look_3 : SCode := .seq c_turretref04_Look_2 .ret
def c_turretref04_Look_4 : SCode := .reg [⟨(some 14), none, .mov (.tmp 1), [], false⟩,
  ⟨(some 15), none, .fld 3 (.tmp 4), [], false⟩,
  ⟨(some 16), none, .load false 1 (.tmp 15), [], false⟩,
  ⟨(some 17), none, .len (.tmp 16), [], false⟩,
  ⟨(some 18), none, .bin .sub (.tmp 17) (.const (.int .i64 1)), [], false⟩,
  ⟨(some 19), none, .call 51 [(.tmp 14), (.const (.int .i64 0)), (.tmp 18)], [], false⟩,
  ⟨(some 20), none, .un .not (.tmp 19), [], false⟩,
  ⟨(some 13), none, .mov (.tmp 20), [], false⟩] [2, 7, 13]
def c_turretref04_Look_5 : SCode := .reg [⟨(some 8), none, .mov (.const (.int .i64 7)), [], false⟩] [8]
def c_turretref04_Look_6 : SCode := .seq c_turretref04_Look_5 .ret
def c_turretref04_Look_7 : SCode := .reg [⟨(some 22), none, .mov (.tmp 2), [], false⟩,
  ⟨(some 23), none, .call 51 [(.tmp 22), (.const (.int .i64 0)), (.const (.int .i64 3155760000))], [], false⟩,
  ⟨(some 24), none, .un .not (.tmp 23), [], false⟩,
  ⟨(some 21), none, .mov (.tmp 24), [], false⟩] [7, 21]
def c_turretref04_Look_8 : SCode := .reg [⟨(some 8), none, .mov (.const (.int .i64 3)), [], false⟩] [8]
def c_turretref04_Look_9 : SCode := .seq c_turretref04_Look_8 .ret
def c_turretref04_Look_10 : SCode := .reg [⟨(some 26), none, .load true 2 (.tmp 7), [], false⟩,
  ⟨(some 27), none, .call 52 [(.tmp 26)], [], false⟩,
  ⟨(some 28), none, .un .not (.tmp 27), [], false⟩,
  ⟨(some 25), none, .mov (.tmp 28), [], false⟩] [25]
def c_turretref04_Look_11 : SCode := .reg [⟨(some 8), none, .mov (.const (.int .i64 2)), [], false⟩] [8]
def c_turretref04_Look_12 : SCode := .seq c_turretref04_Look_11 .ret
def c_turretref04_Look_13 : SCode := .cond (.tmp 25) c_turretref04_Look_12 .skip
def c_turretref04_Look_14 : SCode := .seq c_turretref04_Look_10 c_turretref04_Look_13
def c_turretref04_Look_15 : SCode := .cond (.tmp 21) c_turretref04_Look_9 c_turretref04_Look_14
def c_turretref04_Look_16 : SCode := .seq c_turretref04_Look_7 c_turretref04_Look_15
def c_turretref04_Look_17 : SCode := .cond (.tmp 13) c_turretref04_Look_6 c_turretref04_Look_16
def c_turretref04_Look_18 : SCode := .seq c_turretref04_Look_4 c_turretref04_Look_17
def c_turretref04_Look_19 : SCode := .cond (.tmp 9) c_turretref04_Look_3 c_turretref04_Look_18
def c_turretref04_Look_20 : SCode := .seq c_turretref04_Look_1 c_turretref04_Look_19
def c_turretref04_Look_21 : SCode := .block 0 c_turretref04_Look_20
def c_turretref04_Look_22 : SCode := .reg [⟨(some 8), none, .mov (.const (.int .i64 0)), [], false⟩] [8]
def c_turretref04_Look_23 : SCode := .seq c_turretref04_Look_22 .ret
def c_turretref04_Look_24 : SCode := .seq c_turretref04_Look_21 c_turretref04_Look_23
def c_turretref04_Look_25 : SCode := .seq c_turretref04_Look_0 c_turretref04_Look_24
@[simp] def rs_turretref04_Look : List SRes := [.tmp 8]
theorem law_turretref04_Look (cs : List CV) (r : CV) (hl : cs.length ≤ 29) (h : STri (cfF Try.prog [] 29) c_turretref04_Look_25 (initT 0 cs) [] (retQ rs_turretref04_Look r)) : SC Try.prog 17 cs r :=
  sc_of [] follows Try.func17 rfl Try.ntmps17 (by decide) (by kernel_rfl) (by kernel_rfl) hl h

-- turret/turretref04.Off (18)
def c_turretref04_Off_0 : SCode := .reg [⟨(some 4), none, .box 26 (.tmp 0), [], false⟩,
  ⟨(some 7), none, .box 23 (.tmp 3), [], false⟩,
  ⟨(some 8), none, .alloc 23 [(.int .i64 0), (.int .i64 0)], [], false⟩] [1, 2, 4, 7, 8]
def c_turretref04_Off_1 : SCode := .reg [⟨(some 12), none, .build [(.int .i64 0), (.int .i64 0)] [], [], false⟩,
  ⟨(some 9), none, .alloc 23 [(.int .i64 0), (.int .i64 0)], [], false⟩,
  ⟨none, none, .store 2 (.tmp 9) (.tmp 12), [], false⟩] [1, 2, 4, 7, 8, 9]
def c_turretref04_Off_2 : SCode := .reg [⟨(some 13), none, .fld 1 (.tmp 4), [], false⟩,
  ⟨(some 14), none, .fld 0 (.tmp 13), [], false⟩,
  ⟨(some 15), none, .load false 1 (.tmp 14), [], false⟩,
  ⟨(some 10), none, .mov (.tmp 15), [], false⟩] [1, 2, 4, 7, 8, 9, 10]
def c_turretref04_Off_3 : SCode := .reg [⟨(some 16), none, .mov (.tmp 10), [], false⟩,
  ⟨(some 17), none, .fld 1 (.tmp 4), [], false⟩,
  ⟨(some 18), none, .fld 1 (.tmp 17), [], false⟩,
  ⟨(some 19), none, .load false 1 (.tmp 18), [], false⟩,
  ⟨(some 20), none, .bin .leq (.tmp 16) (.tmp 19), [], false⟩] [1, 2, 4, 7, 8, 9, 10, 20]
def c_turretref04_Off_4 : SCode := .cond (.tmp 20) .skip (.exit 0)
def c_turretref04_Off_5 : SCode := .seq c_turretref04_Off_3 c_turretref04_Off_4
def c_turretref04_Off_6 : SCode := .reg [⟨(some 23), none, .load true 4 (.tmp 4), [], true⟩,
  ⟨(some 24), none, .fld 3 (.tmp 4), [], true⟩,
  ⟨(some 25), none, .load false 1 (.tmp 24), [], true⟩,
  ⟨(some 26), none, .mov (.tmp 1), [], false⟩,
  ⟨(some 27), none, .idxS 5 (.tmp 25) (.tmp 26), [], true⟩,
  ⟨(some 28), none, .load true 5 (.tmp 27), [], true⟩,
  ⟨(some 29), none, .mov (.tmp 2), [], false⟩,
  ⟨(some 30), none, .mov (.tmp 10), [], false⟩,
  ⟨(some 31), none, .load true 2 (.tmp 7), [], true⟩,
  ⟨(some 32), none, .call 53 [(.tmp 23), (.tmp 28), (.tmp 29), (.tmp 30), (.tmp 31)], [], true⟩,
  ⟨(some 11), none, .alloc 23 [(.int .i64 0), (.int .i64 0)], [0, 1, 2, 4, 5, 8, 9], false⟩,
  ⟨none, none, .store 2 (.tmp 11) (.tmp 32), [], false⟩] [1, 2, 4, 7, 8, 9, 10, 11]
def c_turretref04_Off_7 : SCode := .reg [⟨(some 33), none, .mov (.tmp 10), [], false⟩,
  ⟨(some 34), none, .fld 1 (.tmp 4), [], false⟩,
  ⟨(some 35), none, .fld 0 (.tmp 34), [], false⟩,
  ⟨(some 36), none, .load false 1 (.tmp 35), [], false⟩,
  ⟨(some 37), none, .bin .eql (.tmp 33) (.tmp 36), [], false⟩] [1, 2, 4, 7, 8, 9, 10, 11, 37]
def c_turretref04_Off_8 : SCode := .reg [⟨(some 38), none, .fld 0 (.tmp 11), [], false⟩,
  ⟨(some 39), none, .load false 1 (.tmp 38), [], false⟩,
  ⟨(some 40), none, .mov (.tmp 2), [], false⟩,
  ⟨(some 41), none, .bin .sub (.tmp 39) (.tmp 40), [], false⟩,
  ⟨(some 42), none, .fld 1 (.tmp 11), [], false⟩,
  ⟨(some 43), none, .load false 1 (.tmp 42), [], false⟩,
  ⟨(some 44), none, .mov (.tmp 2), [], false⟩,
  ⟨(some 45), none, .bin .sub (.tmp 43) (.tmp 44), [], false⟩,
  ⟨(some 46), none, .build [(.int .i64 0), (.int .i64 0)] [(0, 1, (.tmp 41)), (1, 1, (.tmp 45))], [], false⟩,
  ⟨none, none, .store 2 (.tmp 9) (.tmp 46), [], false⟩] [1, 2, 4, 7, 8, 9, 10, 11]
def c_turretref04_Off_9 : SCode := .cond (.tmp 37) c_turretref04_Off_8 .skip
def c_turretref04_Off_10 : SCode := .seq c_turretref04_Off_7 c_turretref04_Off_9
def c_turretref04_Off_11 : SCode := .reg [⟨(some 47), none, .fld 0 (.tmp 9), [], false⟩,
  ⟨(some 48), none, .load false 1 (.tmp 47), [], false⟩,
  ⟨(some 49), none, .fld 0 (.tmp 11), [], false⟩,
  ⟨(some 50), none, .load false 1 (.tmp 49), [], false⟩,
  ⟨(some 51), none, .mov (.tmp 2), [], false⟩,
  ⟨(some 52), none, .bin .sub (.tmp 50) (.tmp 51), [], false⟩,
  ⟨(some 53), none, .min [(.tmp 48), (.tmp 52)], [], false⟩,
  ⟨(some 54), none, .fld 1 (.tmp 9), [], false⟩,
  ⟨(some 55), none, .load false 1 (.tmp 54), [], false⟩,
  ⟨(some 56), none, .fld 1 (.tmp 11), [], false⟩,
  ⟨(some 57), none, .load false 1 (.tmp 56), [], false⟩,
  ⟨(some 58), none, .mov (.tmp 2), [], false⟩,
  ⟨(some 59), none, .bin .sub (.tmp 57) (.tmp 58), [], false⟩,
  ⟨(some 60), none, .max [(.tmp 55), (.tmp 59)], [], false⟩,
  ⟨(some 61), none, .build [(.int .i64 0), (.int .i64 0)] [(0, 1, (.tmp 53)), (1, 1, (.tmp 60))], [], false⟩,
  ⟨none, none, .store 2 (.tmp 9) (.tmp 61), [], false⟩] [1, 2, 4, 7, 8, 9, 10]
def c_turretref04_Off_12 : SCode := .seq c_turretref04_Off_10 c_turretref04_Off_11
def c_turretref04_Off_13 : SCode := .seq c_turretref04_Off_6 c_turretref04_Off_12
def c_turretref04_Off_14 : SCode := .block 1 c_turretref04_Off_13
def c_turretref04_Off_15 : SCode := .reg [⟨(some 21), none, .mov (.tmp 10), [], false⟩,
  ⟨(some 22), none, .bin .add (.tmp 21) (.const (.int .i64 1)), [], false⟩,
  ⟨(some 10), none, .mov (.tmp 22), [], false⟩] [1, 2, 4, 7, 8, 9, 10]
def c_turretref04_Off_16 : SCode := .seq c_turretref04_Off_14 c_turretref04_Off_15
def c_turretref04_Off_17 : SCode := .seq c_turretref04_Off_5 c_turretref04_Off_16
def c_turretref04_Off_18 : SCode := .loop c_turretref04_Off_17
def c_turretref04_Off_19 : SCode := .block 0 c_turretref04_Off_18
def c_turretref04_Off_20 : SCode := .seq c_turretref04_Off_2 c_turretref04_Off_19
def c_turretref04_Off_21 : SCode := .reg [⟨(some 62), none, .load true 2 (.tmp 9), [], false⟩,
  ⟨none, none, .store 2 (.tmp 8) (.tmp 62), [], false⟩] [8]
def c_turretref04_Off_22 : SCode := .seq c_turretref04_Off_21 .ret
def c_turretref04_Off_23 : SCode := .seq c_turretref04_Off_20 c_turretref04_Off_22
def c_turretref04_Off_24 : SCode := .seq c_turretref04_Off_1 c_turretref04_Off_23
def c_turretref04_Off_25 : SCode := .seq c_turretref04_Off_0 c_turretref04_Off_24
@[simp] def rs_turretref04_Off : List SRes := [.cell 8 true 2]
theorem law_turretref04_Off (cs : List CV) (r : CV) (hl : cs.length ≤ 63) (h : STri (cfF Try.prog [] 63) c_turretref04_Off_25 (initT 0 cs) [] (retQ rs_turretref04_Off r)) : SC Try.prog 18 cs r :=
  sc_of [] follows Try.func18 rfl Try.ntmps18 (by decide) (by kernel_rfl) (by kernel_rfl) hl h

-- turret/turretref04.Same (21)
def c_turretref04_Same_0 : SCode := .reg [⟨(some 4), none, .mov (.const (.bool false)), [], false⟩] [0, 1]
def c_turretref04_Same_1 : SCode := .reg [⟨(some 6), none, .mov (.tmp 0), [], false⟩,
  ⟨(some 7), none, .len (.tmp 6), [], false⟩,
  ⟨(some 8), none, .mov (.tmp 1), [], false⟩,
  ⟨(some 9), none, .len (.tmp 8), [], false⟩,
  ⟨(some 10), none, .bin .neq (.tmp 7) (.tmp 9), [], false⟩] [0, 1, 10]
def c_turretref04_Same_2 : SCode := .reg [⟨(some 4), none, .mov (.const (.bool false)), [], false⟩] [4]
def c_turretref04_Same_3 : SCode := .seq c_turretref04_Same_2 .ret
def c_turretref04_Same_4 : SCode := .cond (.tmp 10) c_turretref04_Same_3 .skip
def c_turretref04_Same_5 : SCode := .seq c_turretref04_Same_1 c_turretref04_Same_4
def c_turretref04_Same_6 : SCode := .reg [⟨(some 5), none, .mov (.const (.int .i64 0)), [], false⟩] [0, 1, 5]
def c_turretref04_Same_7 : SCode := .reg [⟨(some 11), none, .mov (.tmp 5), [], false⟩,
  ⟨(some 12), none, .mov (.tmp 0), [], false⟩,
  ⟨(some 13), none, .len (.tmp 12), [], false⟩,
  ⟨(some 14), none, .bin .lss (.tmp 11) (.tmp 13), [], false⟩] [0, 1, 5, 14]
def c_turretref04_Same_8 : SCode := .cond (.tmp 14) .skip (.exit 0)
def c_turretref04_Same_9 : SCode := .seq c_turretref04_Same_7 c_turretref04_Same_8
def c_turretref04_Same_10 : SCode := .reg [⟨(some 17), none, .mov (.tmp 0), [], false⟩,
  ⟨(some 18), none, .mov (.tmp 5), [], false⟩,
  ⟨(some 19), none, .idxS 2 (.tmp 17) (.tmp 18), [], false⟩,
  ⟨(some 20), none, .load true 2 (.tmp 19), [], false⟩,
  ⟨(some 21), none, .mov (.tmp 1), [], false⟩,
  ⟨(some 22), none, .mov (.tmp 5), [], false⟩,
  ⟨(some 23), none, .idxS 2 (.tmp 21) (.tmp 22), [], false⟩,
  ⟨(some 24), none, .load true 2 (.tmp 23), [], false⟩,
  ⟨(some 25), none, .eqC true [true, true] (.tmp 20) (.tmp 24), [], false⟩] [0, 1, 5, 25]
def c_turretref04_Same_11 : SCode := .reg [⟨(some 4), none, .mov (.const (.bool false)), [], false⟩] [4]
def c_turretref04_Same_12 : SCode := .seq c_turretref04_Same_11 .ret
def c_turretref04_Same_13 : SCode := .cond (.tmp 25) c_turretref04_Same_12 .skip
def c_turretref04_Same_14 : SCode := .seq c_turretref04_Same_10 c_turretref04_Same_13
def c_turretref04_Same_15 : SCode := .block 1 c_turretref04_Same_14
def c_turretref04_Same_16 : SCode := .reg [⟨(some 15), none, .mov (.tmp 5), [], false⟩,
  ⟨(some 16), none, .bin .add (.tmp 15) (.const (.int .i64 1)), [], false⟩,
  ⟨(some 5), none, .mov (.tmp 16), [], false⟩] [0, 1, 5]
def c_turretref04_Same_17 : SCode := .seq c_turretref04_Same_15 c_turretref04_Same_16
def c_turretref04_Same_18 : SCode := .seq c_turretref04_Same_9 c_turretref04_Same_17
def c_turretref04_Same_19 : SCode := .loop c_turretref04_Same_18
def c_turretref04_Same_20 : SCode := .block 0 c_turretref04_Same_19
def c_turretref04_Same_21 : SCode := .seq c_turretref04_Same_6 c_turretref04_Same_20
def c_turretref04_Same_22 : SCode := .reg [⟨(some 4), none, .mov (.const (.bool true)), [], false⟩] [4]
def c_turretref04_Same_23 : SCode := .seq c_turretref04_Same_22 .ret
def c_turretref04_Same_24 : SCode := .seq c_turretref04_Same_21 c_turretref04_Same_23
def c_turretref04_Same_25 : SCode := .seq c_turretref04_Same_5 c_turretref04_Same_24
def c_turretref04_Same_26 : SCode := .seq c_turretref04_Same_0 c_turretref04_Same_25
@[simp] def rs_turretref04_Same : List SRes := [.tmp 4]
theorem law_turretref04_Same (cs : List CV) (r : CV) (hl : cs.length ≤ 26) (h : STri (cfF Try.prog [] 26) c_turretref04_Same_26 (initT 0 cs) [] (retQ rs_turretref04_Same r)) : SC Try.prog 21 cs r :=
  sc_of [] follows Try.func21 rfl Try.ntmps21 (by decide) (by kernel_rfl) (by kernel_rfl) hl h

-- turret/turretref04.Spans (22)
def c_turretref04_Spans_0 : SCode := .reg [⟨(some 4), none, .mov (.const (.slice none 0 0)), [], false⟩] [0, 1]
def c_turretref04_Spans_1 : SCode := .reg [⟨(some 7), none, .buildSl 23 2 [(.int .i64 0), (.int .i64 0)] 0 [], [], false⟩,
  ⟨(some 5), none, .mov (.tmp 7), [], false⟩] [0, 1, 5]
def c_turretref04_Spans_2 : SCode := .reg [⟨(some 6), none, .mov (.const (.int .i64 0)), [], false⟩] [0, 1, 5, 6]
def c_turretref04_Spans_3 : SCode := .reg [⟨(some 8), none, .mov (.tmp 6), [], false⟩,
  ⟨(some 9), none, .mov (.tmp 0), [], false⟩,
  ⟨(some 10), none, .len (.tmp 9), [], false⟩,
  ⟨(some 11), none, .bin .lss (.tmp 8) (.tmp 10), [], false⟩] [0, 1, 5, 6, 11]
def c_turretref04_Spans_4 : SCode := .cond (.tmp 11) .skip (.exit 0)
def c_turretref04_Spans_5 : SCode := .seq c_turretref04_Spans_3 c_turretref04_Spans_4
def c_turretref04_Spans_6 : SCode := .reg [⟨(some 14), none, .mov (.tmp 0), [], false⟩,
  ⟨(some 15), none, .mov (.tmp 6), [], false⟩,
  ⟨(some 16), none, .idxS 1 (.tmp 14) (.tmp 15), [], false⟩,
  ⟨(some 17), none, .load false 1 (.tmp 16), [], false⟩,
  ⟨(some 18), none, .mov (.tmp 17), [], false⟩,
  ⟨(some 19), (some (18, true)), .mov (.tmp 6), [], false⟩,
  ⟨(some 20), (some (18, true)), .bin .eql (.tmp 19) (.const (.int .i64 0)), [], false⟩,
  ⟨(some 21), (some (18, true)), .mov (.tmp 20), [], false⟩,
  ⟨(some 22), (some (21, false)), .mov (.tmp 0), [], false⟩,
  ⟨(some 23), (some (21, false)), .mov (.tmp 6), [], false⟩,
  ⟨(some 24), (some (21, false)), .bin .sub (.tmp 23) (.const (.int .i64 1)), [], false⟩,
  ⟨(some 25), (some (21, false)), .idxS 1 (.tmp 22) (.tmp 24), [], false⟩,
  ⟨(some 26), (some (21, false)), .load false 1 (.tmp 25), [], false⟩,
  ⟨(some 27), (some (21, false)), .un .not (.tmp 26), [], false⟩,
  ⟨(some 28), (some (18, true)), .pick (.tmp 21) (.const (.bool true)) (.tmp 27), [], false⟩,
  ⟨(some 29), none, .pick (.tmp 18) (.tmp 28) (.const (.bool false)), [], false⟩] [0, 1, 5, 6, 29]
def c_turretref04_Spans_7 : SCode := .reg [⟨(some 30), none, .mov (.tmp 5), [], false⟩,
  ⟨(some 31), none, .mov (.tmp 1), [], false⟩,
  ⟨(some 32), none, .mov (.tmp 6), [], false⟩,
  ⟨(some 33), none, .bin .add (.tmp 31) (.tmp 32), [], false⟩,
  ⟨(some 34), none, .mov (.tmp 1), [], false⟩,
  ⟨(some 35), none, .mov (.tmp 6), [], false⟩,
  ⟨(some 36), none, .bin .add (.tmp 34) (.tmp 35), [], false⟩,
  ⟨(some 37), none, .build [(.int .i64 0), (.int .i64 0)] [(0, 1, (.tmp 33)), (1, 1, (.tmp 36))], [], false⟩,
  ⟨(some 38), none, .buildSl 23 2 [(.int .i64 0), (.int .i64 0)] 1 [(0, (.tmp 37))], [], false⟩,
  ⟨(some 39), none, .append 23 2 16 (.tmp 30) (.tmp 38), [], false⟩,
  ⟨(some 5), none, .mov (.tmp 39), [], false⟩] [0, 1, 5, 6]
def c_turretref04_Spans_8 : SCode := .cond (.tmp 29) c_turretref04_Spans_7 .skip
def c_turretref04_Spans_9 : SCode := .seq c_turretref04_Spans_6 c_turretref04_Spans_8
def c_turretref04_Spans_10 : SCode := .reg [⟨(some 40), none, .mov (.tmp 0), [], false⟩,
  ⟨(some 41), none, .mov (.tmp 6), [], false⟩,
  ⟨(some 42), none, .idxS 1 (.tmp 40) (.tmp 41), [], false⟩,
  ⟨(some 43), none, .load false 1 (.tmp 42), [], false⟩] [0, 1, 5, 6, 43]
def c_turretref04_Spans_11 : SCode := .reg [⟨(some 44), none, .mov (.tmp 5), [], false⟩,
  ⟨(some 45), none, .mov (.tmp 5), [], false⟩,
  ⟨(some 46), none, .len (.tmp 45), [], false⟩,
  ⟨(some 47), none, .bin .sub (.tmp 46) (.const (.int .i64 1)), [], false⟩,
  ⟨(some 48), none, .mov (.tmp 1), [], false⟩,
  ⟨(some 49), none, .mov (.tmp 6), [], false⟩,
  ⟨(some 50), none, .bin .add (.tmp 48) (.tmp 49), [], false⟩,
  ⟨(some 51), none, .idxS 2 (.tmp 44) (.tmp 47), [], false⟩,
  ⟨(some 52), none, .fld 1 (.tmp 51), [], false⟩,
  ⟨none, none, .store 1 (.tmp 52) (.tmp 50), [], false⟩] [0, 1, 5, 6]
def c_turretref04_Spans_12 : SCode := .cond (.tmp 43) c_turretref04_Spans_11 .skip
def c_turretref04_Spans_13 : SCode := .seq c_turretref04_Spans_10 c_turretref04_Spans_12
def c_turretref04_Spans_14 : SCode := .seq c_turretref04_Spans_9 c_turretref04_Spans_13
def c_turretref04_Spans_15 : SCode := .block 1 c_turretref04_Spans_14
def c_turretref04_Spans_16 : SCode := .reg [⟨(some 12), none, .mov (.tmp 6), [], false⟩,
  ⟨(some 13), none, .bin .add (.tmp 12) (.const (.int .i64 1)), [], false⟩,
  ⟨(some 6), none, .mov (.tmp 13), [], false⟩] [0, 1, 5, 6]
def c_turretref04_Spans_17 : SCode := .seq c_turretref04_Spans_15 c_turretref04_Spans_16
def c_turretref04_Spans_18 : SCode := .seq c_turretref04_Spans_5 c_turretref04_Spans_17
def c_turretref04_Spans_19 : SCode := .loop c_turretref04_Spans_18
def c_turretref04_Spans_20 : SCode := .block 0 c_turretref04_Spans_19
def c_turretref04_Spans_21 : SCode := .seq c_turretref04_Spans_2 c_turretref04_Spans_20
def c_turretref04_Spans_22 : SCode := .reg [⟨(some 53), none, .mov (.tmp 5), [], false⟩,
  ⟨(some 4), none, .mov (.tmp 53), [], false⟩] [4]
def c_turretref04_Spans_23 : SCode := .seq c_turretref04_Spans_22 .ret
def c_turretref04_Spans_24 : SCode := .seq c_turretref04_Spans_21 c_turretref04_Spans_23
def c_turretref04_Spans_25 : SCode := .seq c_turretref04_Spans_1 c_turretref04_Spans_24
def c_turretref04_Spans_26 : SCode := .seq c_turretref04_Spans_0 c_turretref04_Spans_25
@[simp] def rs_turretref04_Spans : List SRes := [.tmp 4]
theorem law_turretref04_Spans (cs : List CV) (r : CV) (hl : cs.length ≤ 54) (h : STri (cfF Try.prog [] 54) c_turretref04_Spans_26 (initT 0 cs) [] (retQ rs_turretref04_Spans r)) : SC Try.prog 22 cs r :=
  sc_of [] follows Try.func22 rfl Try.ntmps22 (by decide) (by kernel_rfl) (by kernel_rfl) hl h

-- turret/turretref04.Shown (23)
def c_turretref04_Shown_0 : SCode := .reg [⟨(some 4), none, .box 26 (.tmp 0), [], false⟩,
  ⟨(some 7), none, .box 23 (.tmp 3), [], false⟩,
  ⟨(some 8), none, .mov (.const (.slice none 0 0)), [], false⟩] [1, 2, 4, 7]
def c_turretref04_Shown_1 : SCode := .reg [⟨(some 13), none, .makeSl 4 1 1 [(.bool false)] (.const (.int .i64 43200)) (.const (.int .i64 43200)), [], false⟩,
  ⟨(some 9), none, .mov (.tmp 13), [], false⟩] [1, 2, 4, 7, 9]
def c_turretref04_Shown_2 : SCode := .reg [⟨(some 14), none, .fld 1 (.tmp 4), [], false⟩,
  ⟨(some 15), none, .fld 0 (.tmp 14), [], false⟩,
  ⟨(some 16), none, .load false 1 (.tmp 15), [], false⟩,
  ⟨(some 10), none, .mov (.tmp 16), [], false⟩] [1, 2, 4, 7, 9, 10]
def c_turretref04_Shown_3 : SCode := .reg [⟨(some 17), none, .mov (.tmp 10), [], false⟩,
  ⟨(some 18), none, .fld 1 (.tmp 4), [], false⟩,
  ⟨(some 19), none, .fld 1 (.tmp 18), [], false⟩,
  ⟨(some 20), none, .load false 1 (.tmp 19), [], false⟩,
  ⟨(some 21), none, .bin .leq (.tmp 17) (.tmp 20), [], false⟩] [1, 2, 4, 7, 9, 10, 21]
def c_turretref04_Shown_4 : SCode := .cond (.tmp 21) .skip (.exit 0)
def c_turretref04_Shown_5 : SCode := .seq c_turretref04_Shown_3 c_turretref04_Shown_4
def c_turretref04_Shown_6 : SCode := .reg [⟨(some 24), none, .mov (.tmp 10), [], false⟩,
  ⟨(some 25), none, .fld 1 (.tmp 4), [], false⟩,
  ⟨(some 26), none, .fld 0 (.tmp 25), [], false⟩,
  ⟨(some 27), none, .load false 1 (.tmp 26), [], false⟩,
  ⟨(some 28), none, .bin .gtr (.tmp 24) (.tmp 27), [], false⟩,
  ⟨(some 29), none, .mov (.tmp 28), [], false⟩,
  ⟨(some 30), (some (29, true)), .load true 4 (.tmp 4), [], false⟩,
  ⟨(some 31), (some (29, true)), .mov (.tmp 2), [], false⟩,
  ⟨(some 32), (some (29, true)), .mov (.tmp 10), [], false⟩,
  ⟨(some 33), (some (29, true)), .call 54 [(.tmp 30), (.tmp 31), (.tmp 32)], [], false⟩,
  ⟨(some 34), (some (29, true)), .load true 4 (.tmp 4), [], false⟩,
  ⟨(some 35), (some (29, true)), .mov (.tmp 2), [], false⟩,
  ⟨(some 36), (some (29, true)), .mov (.tmp 10), [], false⟩,
  ⟨(some 37), (some (29, true)), .bin .sub (.tmp 36) (.const (.int .i64 1)), [], false⟩,
  ⟨(some 38), (some (29, true)), .call 54 [(.tmp 34), (.tmp 35), (.tmp 37)], [], false⟩,
  ⟨(some 39), (some (29, true)), .bin .eql (.tmp 33) (.tmp 38), [], false⟩,
  ⟨(some 40), none, .pick (.tmp 29) (.tmp 39) (.const (.bool false)), [], false⟩] [1, 2, 4, 7, 9, 10, 40]
def c_turretref04_Shown_7 : SCode := .cond (.tmp 40) (.exit 1) .skip
def c_turretref04_Shown_8 : SCode := .seq c_turretref04_Shown_6 c_turretref04_Shown_7
def c_turretref04_Shown_9 : SCode := .reg [⟨(some 41), none, .load true 4 (.tmp 4), [], true⟩,
  ⟨(some 42), none, .fld 3 (.tmp 4), [], true⟩,
  ⟨(some 43), none, .load false 1 (.tmp 42), [], true⟩,
  ⟨(some 44), none, .mov (.tmp 1), [], false⟩,
  ⟨(some 45), none, .idxS 5 (.tmp 43) (.tmp 44), [], true⟩,
  ⟨(some 46), none, .load true 5 (.tmp 45), [], true⟩,
  ⟨(some 47), none, .mov (.tmp 2), [], false⟩,
  ⟨(some 48), none, .mov (.tmp 10), [], false⟩,
  ⟨(some 49), none, .load true 2 (.tmp 7), [], true⟩,
  ⟨(some 50), none, .call 53 [(.tmp 41), (.tmp 46), (.tmp 47), (.tmp 48), (.tmp 49)], [], true⟩,
  ⟨(some 11), none, .alloc 23 [(.int .i64 0), (.int .i64 0)], [0, 1, 2, 4, 5, 8, 9], false⟩,
  ⟨none, none, .store 2 (.tmp 11) (.tmp 50), [], false⟩] [1, 2, 4, 7, 9, 10, 11]
def c_turretref04_Shown_10 : SCode := .reg [⟨(some 51), none, .fld 0 (.tmp 11), [], false⟩,
  ⟨(some 52), none, .load false 1 (.tmp 51), [], false⟩,
  ⟨(some 12), none, .mov (.tmp 52), [], false⟩] [1, 2, 4, 7, 9, 10, 11, 12]
def c_turretref04_Shown_11 : SCode := .reg [⟨(some 53), none, .mov (.tmp 12), [], false⟩,
  ⟨(some 54), none, .fld 1 (.tmp 11), [], false⟩,
  ⟨(some 55), none, .load false 1 (.tmp 54), [], false⟩,
  ⟨(some 56), none, .bin .leq (.tmp 53) (.tmp 55), [], false⟩] [1, 2, 4, 7, 9, 10, 11, 12, 56]
def c_turretref04_Shown_12 : SCode := .cond (.tmp 56) .skip (.exit 2)
def c_turretref04_Shown_13 : SCode := .seq c_turretref04_Shown_11 c_turretref04_Shown_12
def c_turretref04_Shown_14 : SCode := .reg [⟨(some 59), none, .mov (.tmp 9), [], false⟩,
  ⟨(some 60), none, .mov (.tmp 12), [], false⟩,
  ⟨(some 61), none, .call 60 [(.tmp 60), (.const (.int .i64 43200))], [], false⟩,
  ⟨(some 62), none, .idxS 1 (.tmp 59) (.tmp 61), [], false⟩,
  ⟨none, none, .store 1 (.tmp 62) (.const (.bool true)), [], false⟩] [1, 2, 4, 7, 9, 10, 11, 12]
def c_turretref04_Shown_15 : SCode := .block 3 c_turretref04_Shown_14
def c_turretref04_Shown_16 : SCode := .reg [⟨(some 57), none, .mov (.tmp 12), [], false⟩,
  ⟨(some 58), none, .bin .add (.tmp 57) (.const (.int .i64 1)), [], false⟩,
  ⟨(some 12), none, .mov (.tmp 58), [], false⟩] [1, 2, 4, 7, 9, 10, 11, 12]
def c_turretref04_Shown_17 : SCode := .seq c_turretref04_Shown_15 c_turretref04_Shown_16
def c_turretref04_Shown_18 : SCode := .seq c_turretref04_Shown_13 c_turretref04_Shown_17
def c_turretref04_Shown_19 : SCode := .loop c_turretref04_Shown_18
def c_turretref04_Shown_20 : SCode := .block 2 c_turretref04_Shown_19
def c_turretref04_Shown_21 : SCode := .seq c_turretref04_Shown_10 c_turretref04_Shown_20
def c_turretref04_Shown_22 : SCode := .seq c_turretref04_Shown_9 c_turretref04_Shown_21
def c_turretref04_Shown_23 : SCode := .seq c_turretref04_Shown_8 c_turretref04_Shown_22
def c_turretref04_Shown_24 : SCode := .block 1 c_turretref04_Shown_23
def c_turretref04_Shown_25 : SCode := .reg [⟨(some 22), none, .mov (.tmp 10), [], false⟩,
  ⟨(some 23), none, .bin .add (.tmp 22) (.const (.int .i64 1)), [], false⟩,
  ⟨(some 10), none, .mov (.tmp 23), [], false⟩] [1, 2, 4, 7, 9, 10]
def c_turretref04_Shown_26 : SCode := .seq c_turretref04_Shown_24 c_turretref04_Shown_25
def c_turretref04_Shown_27 : SCode := .seq c_turretref04_Shown_5 c_turretref04_Shown_26
def c_turretref04_Shown_28 : SCode := .loop c_turretref04_Shown_27
def c_turretref04_Shown_29 : SCode := .block 0 c_turretref04_Shown_28
def c_turretref04_Shown_30 : SCode := .seq c_turretref04_Shown_2 c_turretref04_Shown_29
def c_turretref04_Shown_31 : SCode := .reg [⟨(some 63), none, .mov (.tmp 9), [], false⟩,
  ⟨(some 8), none, .mov (.tmp 63), [], false⟩] [8]
def c_turretref04_Shown_32 : SCode := .seq c_turretref04_Shown_31 .ret
def c_turretref04_Shown_33 : SCode := .seq c_turretref04_Shown_30 c_turretref04_Shown_32
def c_turretref04_Shown_34 : SCode := .seq c_turretref04_Shown_1 c_turretref04_Shown_33
def c_turretref04_Shown_35 : SCode := .seq c_turretref04_Shown_0 c_turretref04_Shown_34
@[simp] def rs_turretref04_Shown : List SRes := [.tmp 8]
theorem law_turretref04_Shown (cs : List CV) (r : CV) (hl : cs.length ≤ 64) (h : STri (cfF Try.prog [] 64) c_turretref04_Shown_35 (initT 0 cs) [] (retQ rs_turretref04_Shown r)) : SC Try.prog 23 cs r :=
  sc_of [] follows Try.func23 rfl Try.ntmps23 (by decide) (by kernel_rfl) (by kernel_rfl) hl h

-- turret/turretref04.Works (40)
def c_turretref04_Works_0 : SCode := .reg [⟨(some 1), none, .box 26 (.tmp 0), [], false⟩,
  ⟨(some 2), none, .mov (.const (.bool false)), [], false⟩] [1]
def c_turretref04_Works_1 : SCode := .reg [⟨(some 3), none, .mov (.const (.int .i64 0)), [], false⟩] [1, 3]
def c_turretref04_Works_2 : SCode := .reg [⟨(some 4), none, .mov (.tmp 3), [], false⟩,
  ⟨(some 5), none, .fld 3 (.tmp 1), [], false⟩,
  ⟨(some 6), none, .load false 1 (.tmp 5), [], false⟩,
  ⟨(some 7), none, .len (.tmp 6), [], false⟩,
  ⟨(some 8), none, .bin .lss (.tmp 4) (.tmp 7), [], false⟩] [1, 3, 8]
def c_turretref04_Works_3 : SCode := .cond (.tmp 8) .skip (.exit 0)
def c_turretref04_Works_4 : SCode := .seq c_turretref04_Works_2 c_turretref04_Works_3
def c_turretref04_Works_5 : SCode := .reg [⟨(some 11), none, .fld 3 (.tmp 1), [], false⟩,
  ⟨(some 12), none, .load false 1 (.tmp 11), [], false⟩,
  ⟨(some 13), none, .mov (.tmp 3), [], false⟩,
  ⟨(some 14), none, .idxS 5 (.tmp 12) (.tmp 13), [], false⟩,
  ⟨(some 15), none, .load true 5 (.tmp 14), [], false⟩,
  ⟨(some 16), none, .call 41 [(.tmp 15)], [], false⟩,
  ⟨(some 17), none, .un .not (.tmp 16), [], false⟩] [1, 3, 17]
def c_turretref04_Works_6 : SCode := .reg [⟨(some 2), none, .mov (.const (.bool false)), [], false⟩] [2]
def c_turretref04_Works_7 : SCode := .seq c_turretref04_Works_6 .ret
def c_turretref04_Works_8 : SCode := .cond (.tmp 17) c_turretref04_Works_7 .skip
def c_turretref04_Works_9 : SCode := .seq c_turretref04_Works_5 c_turretref04_Works_8
def c_turretref04_Works_10 : SCode := .block 1 c_turretref04_Works_9
def c_turretref04_Works_11 : SCode := .reg [⟨(some 9), none, .mov (.tmp 3), [], false⟩,
  ⟨(some 10), none, .bin .add (.tmp 9) (.const (.int .i64 1)), [], false⟩,
  ⟨(some 3), none, .mov (.tmp 10), [], false⟩] [1, 3]
def c_turretref04_Works_12 : SCode := .seq c_turretref04_Works_10 c_turretref04_Works_11
def c_turretref04_Works_13 : SCode := .seq c_turretref04_Works_4 c_turretref04_Works_12
def c_turretref04_Works_14 : SCode := .loop c_turretref04_Works_13
def c_turretref04_Works_15 : SCode := .block 0 c_turretref04_Works_14
def c_turretref04_Works_16 : SCode := .seq c_turretref04_Works_1 c_turretref04_Works_15
def c_turretref04_Works_17 : SCode := .reg [⟨(some 18), none, .fld 0 (.tmp 1), [], false⟩,
  ⟨(some 19), none, .load false 1 (.tmp 18), [], false⟩,
  ⟨(some 20), none, .call 51 [(.tmp 19), (.const (.int .i64 1)), (.const (.int .i64 3600))], [], false⟩,
  ⟨(some 21), none, .mov (.tmp 20), [], false⟩,
  ⟨(some 22), (some (21, true)), .fld 0 (.tmp 1), [], false⟩,
  ⟨(some 23), (some (21, true)), .load false 1 (.tmp 22), [], false⟩,
  ⟨(some 24), (some (21, true)), .bin .rem (.const (.int .i64 3600)) (.tmp 23), [], false⟩,
  ⟨(some 25), (some (21, true)), .bin .eql (.tmp 24) (.const (.int .i64 0)), [], false⟩,
  ⟨(some 26), none, .pick (.tmp 21) (.tmp 25) (.const (.bool false)), [], false⟩,
  ⟨(some 27), none, .mov (.tmp 26), [], false⟩,
  ⟨(some 28), (some (27, true)), .fld 1 (.tmp 1), [], false⟩,
  ⟨(some 29), (some (27, true)), .load true 2 (.tmp 28), [], false⟩,
  ⟨(some 30), (some (27, true)), .call 72 [(.tmp 29), (.const (.int .i64 (-3600))), (.const (.int .i64 3600))], [], false⟩,
  ⟨(some 31), none, .pick (.tmp 27) (.tmp 30) (.const (.bool false)), [], false⟩,
  ⟨(some 32), none, .mov (.tmp 31), [], false⟩,
  ⟨(some 33), (some (32, true)), .fld 3 (.tmp 1), [], false⟩,
  ⟨(some 34), (some (32, true)), .load false 1 (.tmp 33), [], false⟩,
  ⟨(some 35), (some (32, true)), .len (.tmp 34), [], false⟩,
  ⟨(some 36), (some (32, true)), .call 51 [(.tmp 35), (.const (.int .i64 1)), (.const (.int .i64 8))], [], false⟩,
  ⟨(some 37), none, .pick (.tmp 32) (.tmp 36) (.const (.bool false)), [], false⟩,
  ⟨(some 2), none, .mov (.tmp 37), [], false⟩] [2]
def c_turretref04_Works_18 : SCode := .seq c_turretref04_Works_17 .ret
def c_turretref04_Works_19 : SCode := .seq c_turretref04_Works_16 c_turretref04_Works_18
def c_turretref04_Works_20 : SCode := .seq c_turretref04_Works_0 c_turretref04_Works_19
@[simp] def rs_turretref04_Works : List SRes := [.tmp 2]
theorem law_turretref04_Works (cs : List CV) (r : CV) (hl : cs.length ≤ 38) (h : STri (cfF Try.prog [] 38) c_turretref04_Works_20 (initT 0 cs) [] (retQ rs_turretref04_Works r)) : SC Try.prog 40 cs r :=
  sc_of [] follows Try.func40 rfl Try.ntmps40 (by decide) (by kernel_rfl) (by kernel_rfl) hl h

-- turret/turretref04.Face (41)
def c_turretref04_Face_0 : SCode := .reg [⟨(some 1), none, .box 80 (.tmp 0), [], false⟩,
  ⟨(some 2), none, .mov (.const (.bool false)), [], false⟩] [1]
def c_turretref04_Face_1 : SCode := .reg [⟨(some 5), none, .fld 0 (.tmp 1), [], false⟩,
  ⟨(some 6), none, .load true 2 (.tmp 5), [], false⟩,
  ⟨(some 7), none, .call 72 [(.tmp 6), (.const (.int .i64 (-3600))), (.const (.int .i64 3600))], [], false⟩,
  ⟨(some 8), none, .un .not (.tmp 7), [], false⟩,
  ⟨(some 9), none, .mov (.tmp 8), [], false⟩,
  ⟨(some 10), (some (9, false)), .fld 2 (.tmp 1), [], false⟩,
  ⟨(some 11), (some (9, false)), .load false 1 (.tmp 10), [], false⟩,
  ⟨(some 12), (some (9, false)), .len (.tmp 11), [], false⟩,
  ⟨(some 13), (some (9, false)), .bin .gtr (.tmp 12) (.const (.int .i64 4)), [], false⟩,
  ⟨(some 14), none, .pick (.tmp 9) (.const (.bool true)) (.tmp 13), [], false⟩,
  ⟨(some 15), none, .mov (.tmp 14), [], false⟩,
  ⟨(some 16), (some (15, false)), .fld 3 (.tmp 1), [], false⟩,
  ⟨(some 17), (some (15, false)), .load false 1 (.tmp 16), [], false⟩,
  ⟨(some 18), (some (15, false)), .call 51 [(.tmp 17), (.const (.int .i64 (-10000))), (.const (.int .i64 10000))], [], false⟩,
  ⟨(some 19), (some (15, false)), .un .not (.tmp 18), [], false⟩,
  ⟨(some 20), none, .pick (.tmp 15) (.const (.bool true)) (.tmp 19), [], false⟩,
  ⟨(some 21), none, .mov (.tmp 20), [], false⟩,
  ⟨(some 22), (some (21, false)), .fld 4 (.tmp 1), [], false⟩,
  ⟨(some 23), (some (21, false)), .load false 1 (.tmp 22), [], false⟩,
  ⟨(some 24), (some (21, false)), .call 51 [(.tmp 23), (.const (.int .i64 0)), (.const (.int .i64 10000))], [], false⟩,
  ⟨(some 25), (some (21, false)), .un .not (.tmp 24), [], false⟩,
  ⟨(some 26), none, .pick (.tmp 21) (.const (.bool true)) (.tmp 25), [], false⟩] [1, 26]
def c_turretref04_Face_2 : SCode := .reg [⟨(some 2), none, .mov (.const (.bool false)), [], false⟩] [2]
def c_turretref04_Face_3 : SCode := .seq c_turretref04_Face_2 .ret
def c_turretref04_Face_4 : SCode := .cond (.tmp 26) c_turretref04_Face_3 .skip
def c_turretref04_Face_5 : SCode := .seq c_turretref04_Face_1 c_turretref04_Face_4
def c_turretref04_Face_6 : SCode := .reg [⟨(some 3), none, .mov (.const (.int .i64 0)), [], false⟩] [1, 3]
def c_turretref04_Face_7 : SCode := .reg [⟨(some 27), none, .mov (.tmp 3), [], false⟩,
  ⟨(some 28), none, .fld 2 (.tmp 1), [], false⟩,
  ⟨(some 29), none, .load false 1 (.tmp 28), [], false⟩,
  ⟨(some 30), none, .len (.tmp 29), [], false⟩,
  ⟨(some 31), none, .bin .lss (.tmp 27) (.tmp 30), [], false⟩] [1, 3, 31]
def c_turretref04_Face_8 : SCode := .cond (.tmp 31) .skip (.exit 0)
def c_turretref04_Face_9 : SCode := .seq c_turretref04_Face_7 c_turretref04_Face_8
def c_turretref04_Face_10 : SCode := .reg [⟨(some 34), none, .fld 2 (.tmp 1), [], false⟩,
  ⟨(some 35), none, .load false 1 (.tmp 34), [], false⟩,
  ⟨(some 36), none, .mov (.tmp 3), [], false⟩,
  ⟨(some 37), none, .idxS 3 (.tmp 35) (.tmp 36), [], false⟩,
  ⟨(some 38), none, .load true 3 (.tmp 37), [], false⟩,
  ⟨(some 4), none, .alloc 101 [(.int .i64 0), (.int .i64 0), (.int .i64 0)], [], false⟩,
  ⟨none, none, .store 3 (.tmp 4) (.tmp 38), [], false⟩] [1, 3, 4]
def c_turretref04_Face_11 : SCode := .reg [⟨(some 39), none, .fld 0 (.tmp 4), [], false⟩,
  ⟨(some 40), none, .load false 1 (.tmp 39), [], false⟩,
  ⟨(some 41), none, .call 51 [(.tmp 40), (.const (.int .i64 0)), (.const (.int .i64 1000))], [], false⟩,
  ⟨(some 42), none, .un .not (.tmp 41), [], false⟩,
  ⟨(some 43), none, .mov (.tmp 42), [], false⟩,
  ⟨(some 44), (some (43, false)), .fld 1 (.tmp 4), [], false⟩,
  ⟨(some 45), (some (43, false)), .fld 0 (.tmp 44), [], false⟩,
  ⟨(some 46), (some (43, false)), .load false 1 (.tmp 45), [], false⟩,
  ⟨(some 47), (some (43, false)), .call 51 [(.tmp 46), (.const (.int .i64 1)), (.const (.int .i64 200))], [], false⟩,
  ⟨(some 48), (some (43, false)), .un .not (.tmp 47), [], false⟩,
  ⟨(some 49), none, .pick (.tmp 43) (.const (.bool true)) (.tmp 48), [], false⟩,
  ⟨(some 50), none, .mov (.tmp 49), [], false⟩,
  ⟨(some 51), (some (50, false)), .fld 1 (.tmp 4), [], false⟩,
  ⟨(some 52), (some (50, false)), .fld 1 (.tmp 51), [], false⟩,
  ⟨(some 53), (some (50, false)), .load false 1 (.tmp 52), [], false⟩,
  ⟨(some 54), (some (50, false)), .call 51 [(.tmp 53), (.const (.int .i64 1)), (.const (.int .i64 200))], [], false⟩,
  ⟨(some 55), (some (50, false)), .un .not (.tmp 54), [], false⟩,
  ⟨(some 56), none, .pick (.tmp 50) (.const (.bool true)) (.tmp 55), [], false⟩] [1, 3, 56]
def c_turretref04_Face_12 : SCode := .reg [⟨(some 2), none, .mov (.const (.bool false)), [], false⟩] [2]
def c_turretref04_Face_13 : SCode := .seq c_turretref04_Face_12 .ret
def c_turretref04_Face_14 : SCode := .cond (.tmp 56) c_turretref04_Face_13 .skip
def c_turretref04_Face_15 : SCode := .seq c_turretref04_Face_11 c_turretref04_Face_14
def c_turretref04_Face_16 : SCode := .seq c_turretref04_Face_10 c_turretref04_Face_15
def c_turretref04_Face_17 : SCode := .block 1 c_turretref04_Face_16
def c_turretref04_Face_18 : SCode := .reg [⟨(some 32), none, .mov (.tmp 3), [], false⟩,
  ⟨(some 33), none, .bin .add (.tmp 32) (.const (.int .i64 1)), [], false⟩,
  ⟨(some 3), none, .mov (.tmp 33), [], false⟩] [1, 3]
def c_turretref04_Face_19 : SCode := .seq c_turretref04_Face_17 c_turretref04_Face_18
def c_turretref04_Face_20 : SCode := .seq c_turretref04_Face_9 c_turretref04_Face_19
def c_turretref04_Face_21 : SCode := .loop c_turretref04_Face_20
def c_turretref04_Face_22 : SCode := .block 0 c_turretref04_Face_21
def c_turretref04_Face_23 : SCode := .seq c_turretref04_Face_6 c_turretref04_Face_22
def c_turretref04_Face_24 : SCode := .reg [⟨(some 57), none, .fld 2 (.tmp 1), [], false⟩,
  ⟨(some 58), none, .load false 1 (.tmp 57), [], false⟩,
  ⟨(some 59), none, .call 42 [(.tmp 58)], [], false⟩,
  ⟨(some 60), none, .bin .leq (.tmp 59) (.const (.int .i64 3600)), [], false⟩,
  ⟨(some 2), none, .mov (.tmp 60), [], false⟩] [2]
def c_turretref04_Face_25 : SCode := .seq c_turretref04_Face_24 .ret
def c_turretref04_Face_26 : SCode := .seq c_turretref04_Face_23 c_turretref04_Face_25
def c_turretref04_Face_27 : SCode := .seq c_turretref04_Face_5 c_turretref04_Face_26
def c_turretref04_Face_28 : SCode := .seq c_turretref04_Face_0 c_turretref04_Face_27
@[simp] def rs_turretref04_Face : List SRes := [.tmp 2]
theorem law_turretref04_Face (cs : List CV) (r : CV) (hl : cs.length ≤ 61) (h : STri (cfF Try.prog [] 61) c_turretref04_Face_28 (initT 0 cs) [] (retQ rs_turretref04_Face r)) : SC Try.prog 41 cs r :=
  sc_of [] follows Try.func41 rfl Try.ntmps41 (by decide) (by kernel_rfl) (by kernel_rfl) hl h

-- turret/turretref04.Slack (42)
def c_turretref04_Slack_0 : SCode := .reg [⟨(some 2), none, .mov (.const (.int .i64 0)), [], false⟩] [0]
def c_turretref04_Slack_1 : SCode := .reg [⟨(some 3), none, .mov (.const (.int .i64 1)), [], false⟩,
  ⟨(some 4), none, .mov (.const (.int .i64 0)), [], false⟩] [0, 3, 4]
def c_turretref04_Slack_2 : SCode := .reg [⟨(some 5), none, .mov (.const (.int .i64 0)), [], false⟩] [0, 3, 4, 5]
def c_turretref04_Slack_3 : SCode := .reg [⟨(some 7), none, .mov (.tmp 5), [], false⟩,
  ⟨(some 8), none, .mov (.tmp 0), [], false⟩,
  ⟨(some 9), none, .len (.tmp 8), [], false⟩,
  ⟨(some 10), none, .bin .lss (.tmp 7) (.tmp 9), [], false⟩] [0, 3, 4, 5, 10]
def c_turretref04_Slack_4 : SCode := .cond (.tmp 10) .skip (.exit 0)
def c_turretref04_Slack_5 : SCode := .seq c_turretref04_Slack_3 c_turretref04_Slack_4
def c_turretref04_Slack_6 : SCode := .reg [⟨(some 13), none, .mov (.tmp 3), [], false⟩,
  ⟨(some 14), none, .mov (.tmp 0), [], false⟩,
  ⟨(some 15), none, .mov (.tmp 5), [], false⟩,
  ⟨(some 16), none, .idxS 3 (.tmp 14) (.tmp 15), [], false⟩,
  ⟨(some 17), none, .fld 1 (.tmp 16), [], false⟩,
  ⟨(some 18), none, .fld 0 (.tmp 17), [], false⟩,
  ⟨(some 19), none, .load false 1 (.tmp 18), [], false⟩,
  ⟨(some 20), none, .bin .mul (.tmp 13) (.tmp 19), [], false⟩,
  ⟨(some 3), none, .mov (.tmp 20), [], false⟩] [0, 3, 4, 5]
def c_turretref04_Slack_7 : SCode := .block 1 c_turretref04_Slack_6
def c_turretref04_Slack_8 : SCode := .reg [⟨(some 11), none, .mov (.tmp 5), [], false⟩,
  ⟨(some 12), none, .bin .add (.tmp 11) (.const (.int .i64 1)), [], false⟩,
  ⟨(some 5), none, .mov (.tmp 12), [], false⟩] [0, 3, 4, 5]
def c_turretref04_Slack_9 : SCode := .seq c_turretref04_Slack_7 c_turretref04_Slack_8
def c_turretref04_Slack_10 : SCode := .seq c_turretref04_Slack_5 c_turretref04_Slack_9
def c_turretref04_Slack_11 : SCode := .loop c_turretref04_Slack_10
def c_turretref04_Slack_12 : SCode := .block 0 c_turretref04_Slack_11
def c_turretref04_Slack_13 : SCode := .seq c_turretref04_Slack_2 c_turretref04_Slack_12
def c_turretref04_Slack_14 : SCode := .reg [⟨(some 6), none, .mov (.const (.int .i64 0)), [], false⟩] [0, 3, 4, 6]
def c_turretref04_Slack_15 : SCode := .reg [⟨(some 21), none, .mov (.tmp 6), [], false⟩,
  ⟨(some 22), none, .mov (.tmp 0), [], false⟩,
  ⟨(some 23), none, .len (.tmp 22), [], false⟩,
  ⟨(some 24), none, .bin .lss (.tmp 21) (.tmp 23), [], false⟩] [0, 3, 4, 6, 24]
def c_turretref04_Slack_16 : SCode := .cond (.tmp 24) .skip (.exit 2)
def c_turretref04_Slack_17 : SCode := .seq c_turretref04_Slack_15 c_turretref04_Slack_16
def c_turretref04_Slack_18 : SCode := .reg [⟨(some 27), none, .mov (.tmp 4), [], false⟩,
  ⟨(some 28), none, .mov (.tmp 0), [], false⟩,
  ⟨(some 29), none, .mov (.tmp 6), [], false⟩,
  ⟨(some 30), none, .idxS 3 (.tmp 28) (.tmp 29), [], false⟩,
  ⟨(some 31), none, .fld 0 (.tmp 30), [], false⟩,
  ⟨(some 32), none, .load false 1 (.tmp 31), [], false⟩,
  ⟨(some 33), none, .bin .mul (.tmp 32) (.const (.int .i64 3600)), [], false⟩,
  ⟨(some 34), none, .mov (.tmp 0), [], false⟩,
  ⟨(some 35), none, .mov (.tmp 6), [], false⟩,
  ⟨(some 36), none, .idxS 3 (.tmp 34) (.tmp 35), [], false⟩,
  ⟨(some 37), none, .fld 1 (.tmp 36), [], false⟩,
  ⟨(some 38), none, .fld 1 (.tmp 37), [], false⟩,
  ⟨(some 39), none, .load false 1 (.tmp 38), [], false⟩,
  ⟨(some 40), none, .bin .mul (.tmp 33) (.tmp 39), [], false⟩,
  ⟨(some 41), none, .mov (.tmp 3), [], false⟩,
  ⟨(some 42), none, .mov (.tmp 0), [], false⟩,
  ⟨(some 43), none, .mov (.tmp 6), [], false⟩,
  ⟨(some 44), none, .idxS 3 (.tmp 42) (.tmp 43), [], false⟩,
  ⟨(some 45), none, .fld 1 (.tmp 44), [], false⟩,
  ⟨(some 46), none, .fld 0 (.tmp 45), [], false⟩,
  ⟨(some 47), none, .load false 1 (.tmp 46), [], false⟩,
  ⟨(some 48), none, .bin .quo (.tmp 41) (.tmp 47), [], false⟩,
  ⟨(some 49), none, .bin .mul (.tmp 40) (.tmp 48), [], false⟩,
  ⟨(some 50), none, .bin .add (.tmp 27) (.tmp 49), [], false⟩,
  ⟨(some 4), none, .mov (.tmp 50), [], false⟩] [0, 3, 4, 6]
def c_turretref04_Slack_19 : SCode := .block 3 c_turretref04_Slack_18
def c_turretref04_Slack_20 : SCode := .reg [⟨(some 25), none, .mov (.tmp 6), [], false⟩,
  ⟨(some 26), none, .bin .add (.tmp 25) (.const (.int .i64 1)), [], false⟩,
  ⟨(some 6), none, .mov (.tmp 26), [], false⟩] [0, 3, 4, 6]
def c_turretref04_Slack_21 : SCode := .seq c_turretref04_Slack_19 c_turretref04_Slack_20
def c_turretref04_Slack_22 : SCode := .seq c_turretref04_Slack_17 c_turretref04_Slack_21
def c_turretref04_Slack_23 : SCode := .loop c_turretref04_Slack_22
def c_turretref04_Slack_24 : SCode := .block 2 c_turretref04_Slack_23
def c_turretref04_Slack_25 : SCode := .seq c_turretref04_Slack_14 c_turretref04_Slack_24
def c_turretref04_Slack_26 : SCode := .reg [⟨(some 51), none, .mov (.tmp 3), [], false⟩,
  ⟨(some 52), none, .bin .mul (.tmp 51) (.const (.int .i64 1000)), [], false⟩,
  ⟨(some 3), none, .mov (.tmp 52), [], false⟩] [3, 4]
def c_turretref04_Slack_27 : SCode := .reg [⟨(some 53), none, .mov (.tmp 4), [], false⟩,
  ⟨(some 54), none, .mov (.tmp 3), [], false⟩,
  ⟨(some 55), none, .bin .rem (.tmp 53) (.tmp 54), [], false⟩,
  ⟨(some 56), none, .bin .gtr (.tmp 55) (.const (.int .i64 0)), [], false⟩] [3, 4, 56]
def c_turretref04_Slack_28 : SCode := .reg [⟨(some 57), none, .mov (.tmp 4), [], false⟩,
  ⟨(some 58), none, .mov (.tmp 3), [], false⟩,
  ⟨(some 59), none, .bin .quo (.tmp 57) (.tmp 58), [], false⟩,
  ⟨(some 60), none, .bin .add (.tmp 59) (.const (.int .i64 1)), [], false⟩,
  ⟨(some 2), none, .mov (.tmp 60), [], false⟩] [2]
def c_turretref04_Slack_29 : SCode := .seq c_turretref04_Slack_28 .ret
def c_turretref04_Slack_30 : SCode := .cond (.tmp 56) c_turretref04_Slack_29 .skip
def c_turretref04_Slack_31 : SCode := .seq c_turretref04_Slack_27 c_turretref04_Slack_30
def c_turretref04_Slack_32 : SCode := .reg [⟨(some 61), none, .mov (.tmp 4), [], false⟩,
  ⟨(some 62), none, .mov (.tmp 3), [], false⟩,
  ⟨(some 63), none, .bin .quo (.tmp 61) (.tmp 62), [], false⟩,
  ⟨(some 2), none, .mov (.tmp 63), [], false⟩] [2]
def c_turretref04_Slack_33 : SCode := .seq c_turretref04_Slack_32 .ret
def c_turretref04_Slack_34 : SCode := .seq c_turretref04_Slack_31 c_turretref04_Slack_33
def c_turretref04_Slack_35 : SCode := .seq c_turretref04_Slack_26 c_turretref04_Slack_34
def c_turretref04_Slack_36 : SCode := .seq c_turretref04_Slack_25 c_turretref04_Slack_35
def c_turretref04_Slack_37 : SCode := .seq c_turretref04_Slack_13 c_turretref04_Slack_36
def c_turretref04_Slack_38 : SCode := .seq c_turretref04_Slack_1 c_turretref04_Slack_37
def c_turretref04_Slack_39 : SCode := .seq c_turretref04_Slack_0 c_turretref04_Slack_38
@[simp] def rs_turretref04_Slack : List SRes := [.tmp 2]
theorem law_turretref04_Slack (cs : List CV) (r : CV) (hl : cs.length ≤ 64) (h : STri (cfF Try.prog [] 64) c_turretref04_Slack_39 (initT 0 cs) [] (retQ rs_turretref04_Slack r)) : SC Try.prog 42 cs r :=
  sc_of [] follows Try.func42 rfl Try.ntmps42 (by decide) (by kernel_rfl) (by kernel_rfl) hl h

-- turret/turretref04.In (51)
def c_turretref04_In_0 : SCode := .reg [⟨(some 6), none, .mov (.const (.bool false)), [], false⟩] [0, 1, 2]
def c_turretref04_In_1 : SCode := .reg [⟨(some 7), none, .mov (.tmp 0), [], false⟩,
  ⟨(some 8), none, .mov (.tmp 1), [], false⟩,
  ⟨(some 9), none, .bin .geq (.tmp 7) (.tmp 8), [], false⟩,
  ⟨(some 10), none, .mov (.tmp 9), [], false⟩,
  ⟨(some 11), (some (10, true)), .mov (.tmp 0), [], false⟩,
  ⟨(some 12), (some (10, true)), .mov (.tmp 2), [], false⟩,
  ⟨(some 13), (some (10, true)), .bin .leq (.tmp 11) (.tmp 12), [], false⟩,
  ⟨(some 14), none, .pick (.tmp 10) (.tmp 13) (.const (.bool false)), [], false⟩,
  ⟨(some 6), none, .mov (.tmp 14), [], false⟩] [6]
def c_turretref04_In_2 : SCode := .seq c_turretref04_In_1 .ret
def c_turretref04_In_3 : SCode := .seq c_turretref04_In_0 c_turretref04_In_2
@[simp] def rs_turretref04_In : List SRes := [.tmp 6]
theorem law_turretref04_In (cs : List CV) (r : CV) (hl : cs.length ≤ 15) (h : STri (cfF Try.prog [] 15) c_turretref04_In_3 (initT 0 cs) [] (retQ rs_turretref04_In r)) : SC Try.prog 51 cs r :=
  sc_of [] follows Try.func51 rfl Try.ntmps51 (by decide) (by kernel_rfl) (by kernel_rfl) hl h

-- turret/turretref04.Wind (52)
def c_turretref04_Wind_0 : SCode := .reg [⟨(some 1), none, .box 23 (.tmp 0), [], false⟩,
  ⟨(some 2), none, .mov (.const (.bool false)), [], false⟩] [1]
def c_turretref04_Wind_1 : SCode := .reg [⟨(some 3), none, .load true 2 (.tmp 1), [], false⟩,
  ⟨(some 4), none, .call 72 [(.tmp 3), (.const (.int .i64 (-10000))), (.const (.int .i64 10000))], [], false⟩,
  ⟨(some 2), none, .mov (.tmp 4), [], false⟩] [2]
def c_turretref04_Wind_2 : SCode := .seq c_turretref04_Wind_1 .ret
def c_turretref04_Wind_3 : SCode := .seq c_turretref04_Wind_0 c_turretref04_Wind_2
@[simp] def rs_turretref04_Wind : List SRes := [.tmp 2]
theorem law_turretref04_Wind (cs : List CV) (r : CV) (hl : cs.length ≤ 5) (h : STri (cfF Try.prog [] 5) c_turretref04_Wind_3 (initT 0 cs) [] (retQ rs_turretref04_Wind r)) : SC Try.prog 52 cs r :=
  sc_of [] follows Try.func52 rfl Try.ntmps52 (by decide) (by kernel_rfl) (by kernel_rfl) hl h

-- turret/turretref04.Hands (53)
def c_turretref04_Hands_0 : SCode := .reg [⟨(some 5), none, .box 26 (.tmp 0), [], false⟩,
  ⟨(some 6), none, .box 80 (.tmp 1), [], false⟩,
  ⟨(some 9), none, .box 23 (.tmp 4), [], false⟩,
  ⟨(some 10), none, .alloc 23 [(.int .i64 0), (.int .i64 0)], [], false⟩] [2, 3, 5, 6, 9, 10]
def c_turretref04_Hands_1 : SCode := .reg [⟨(some 13), none, .load true 4 (.tmp 5), [], false⟩,
  ⟨(some 14), none, .mov (.tmp 2), [], false⟩,
  ⟨(some 15), none, .mov (.tmp 3), [], false⟩,
  ⟨(some 16), none, .call 54 [(.tmp 13), (.tmp 14), (.tmp 15)], [], false⟩,
  ⟨(some 11), none, .mov (.tmp 16), [], false⟩] [6, 9, 10, 11]
def c_turretref04_Hands_2 : SCode := .reg [⟨(some 17), none, .load true 5 (.tmp 6), [], false⟩,
  ⟨(some 18), none, .mov (.tmp 11), [], false⟩,
  ⟨(some 19), none, .load true 2 (.tmp 9), [], false⟩,
  ⟨(some 20), none, .call 55 [(.tmp 17), (.tmp 18), (.tmp 19)], [], false⟩,
  ⟨(some 12), none, .alloc 23 [(.int .i64 0), (.int .i64 0)], [], false⟩,
  ⟨none, none, .store 2 (.tmp 12) (.tmp 20), [], false⟩] [6, 10, 11, 12]
def c_turretref04_Hands_3 : SCode := .reg [⟨(some 21), none, .mov (.tmp 11), [], false⟩,
  ⟨(some 22), none, .fld 0 (.tmp 6), [], false⟩,
  ⟨(some 23), none, .fld 0 (.tmp 22), [], false⟩,
  ⟨(some 24), none, .load false 1 (.tmp 23), [], false⟩,
  ⟨(some 25), none, .bin .add (.tmp 21) (.tmp 24), [], false⟩,
  ⟨(some 26), none, .fld 1 (.tmp 12), [], false⟩,
  ⟨(some 27), none, .load false 1 (.tmp 26), [], false⟩,
  ⟨(some 28), none, .bin .sub (.tmp 25) (.tmp 27), [], false⟩,
  ⟨(some 29), none, .mov (.tmp 11), [], false⟩,
  ⟨(some 30), none, .fld 0 (.tmp 6), [], false⟩,
  ⟨(some 31), none, .fld 1 (.tmp 30), [], false⟩,
  ⟨(some 32), none, .load false 1 (.tmp 31), [], false⟩,
  ⟨(some 33), none, .bin .add (.tmp 29) (.tmp 32), [], false⟩,
  ⟨(some 34), none, .fld 0 (.tmp 12), [], false⟩,
  ⟨(some 35), none, .load false 1 (.tmp 34), [], false⟩,
  ⟨(some 36), none, .bin .sub (.tmp 33) (.tmp 35), [], false⟩,
  ⟨(some 37), none, .build [(.int .i64 0), (.int .i64 0)] [(0, 1, (.tmp 28)), (1, 1, (.tmp 36))], [], false⟩,
  ⟨none, none, .store 2 (.tmp 10) (.tmp 37), [], false⟩] [10]
def c_turretref04_Hands_4 : SCode := .seq c_turretref04_Hands_3 .ret
def c_turretref04_Hands_5 : SCode := .seq c_turretref04_Hands_2 c_turretref04_Hands_4
def c_turretref04_Hands_6 : SCode := .seq c_turretref04_Hands_1 c_turretref04_Hands_5
def c_turretref04_Hands_7 : SCode := .seq c_turretref04_Hands_0 c_turretref04_Hands_6
@[simp] def rs_turretref04_Hands : List SRes := [.cell 10 true 2]
theorem law_turretref04_Hands (cs : List CV) (r : CV) (hl : cs.length ≤ 38) (h : STri (cfF Try.prog [] 38) c_turretref04_Hands_7 (initT 0 cs) [] (retQ rs_turretref04_Hands r)) : SC Try.prog 53 cs r :=
  sc_of [] follows Try.func53 rfl Try.ntmps53 (by decide) (by kernel_rfl) (by kernel_rfl) hl h

-- turret/turretref04.Driven (54)
def c_turretref04_Driven_0 : SCode := .reg [⟨(some 3), none, .box 26 (.tmp 0), [], false⟩,
  ⟨(some 6), none, .mov (.const (.int .i64 0)), [], false⟩] [1, 2, 3]
def c_turretref04_Driven_1 : SCode := .reg [⟨(some 7), none, .mov (.tmp 1), [], false⟩,
  ⟨(some 8), none, .mov (.tmp 2), [], false⟩,
  ⟨(some 9), none, .bin .add (.tmp 7) (.tmp 8), [], false⟩,
  ⟨(some 10), none, .mov (.tmp 1), [], false⟩,
  ⟨(some 11), none, .mov (.tmp 2), [], false⟩,
  ⟨(some 12), none, .bin .add (.tmp 10) (.tmp 11), [], false⟩,
  ⟨(some 13), none, .fld 0 (.tmp 3), [], false⟩,
  ⟨(some 14), none, .load false 1 (.tmp 13), [], false⟩,
  ⟨(some 15), none, .call 60 [(.tmp 12), (.tmp 14)], [], false⟩,
  ⟨(some 16), none, .bin .sub (.tmp 9) (.tmp 15), [], false⟩,
  ⟨(some 6), none, .mov (.tmp 16), [], false⟩] [6]
def c_turretref04_Driven_2 : SCode := .seq c_turretref04_Driven_1 .ret
def c_turretref04_Driven_3 : SCode := .seq c_turretref04_Driven_0 c_turretref04_Driven_2
@[simp] def rs_turretref04_Driven : List SRes := [.tmp 6]
theorem law_turretref04_Driven (cs : List CV) (r : CV) (hl : cs.length ≤ 17) (h : STri (cfF Try.prog [] 17) c_turretref04_Driven_3 (initT 0 cs) [] (retQ rs_turretref04_Driven r)) : SC Try.prog 54 cs r :=
  sc_of [] follows Try.func54 rfl Try.ntmps54 (by decide) (by kernel_rfl) (by kernel_rfl) hl h

-- turret/turretref04.Lags (55)
def c_turretref04_Lags_0 : SCode := .reg [⟨(some 3), none, .box 80 (.tmp 0), [], false⟩,
  ⟨(some 5), none, .box 23 (.tmp 2), [], false⟩,
  ⟨(some 6), none, .alloc 23 [(.int .i64 0), (.int .i64 0)], [], false⟩] [1, 3, 5, 6]
def c_turretref04_Lags_1 : SCode := .reg [⟨(some 8), none, .fld 2 (.tmp 3), [], false⟩,
  ⟨(some 9), none, .load false 1 (.tmp 8), [], false⟩,
  ⟨(some 10), none, .call 42 [(.tmp 9)], [], false⟩,
  ⟨(some 7), none, .mov (.tmp 10), [], false⟩] [1, 3, 5, 6, 7]
def c_turretref04_Lags_2 : SCode := .reg [⟨(some 11), none, .load true 5 (.tmp 3), [], false⟩,
  ⟨(some 12), none, .mov (.tmp 1), [], false⟩,
  ⟨(some 13), none, .fld 0 (.tmp 5), [], false⟩,
  ⟨(some 14), none, .load false 1 (.tmp 13), [], false⟩,
  ⟨(some 15), none, .call 79 [(.tmp 11), (.tmp 12), (.tmp 14)], [], false⟩,
  ⟨(some 16), none, .fld 4 (.tmp 3), [], false⟩,
  ⟨(some 17), none, .load false 1 (.tmp 16), [], false⟩,
  ⟨(some 18), none, .bin .gtr (.tmp 15) (.tmp 17), [], false⟩] [1, 3, 5, 6, 7, 18]
def c_turretref04_Lags_3 : SCode := .reg [⟨(some 19), none, .build [(.int .i64 0), (.int .i64 0)] [], [], false⟩,
  ⟨none, none, .store 2 (.tmp 6) (.tmp 19), [], false⟩] [6]
def c_turretref04_Lags_4 : SCode := .seq c_turretref04_Lags_3 .ret
def c_turretref04_Lags_5 : SCode := .cond (.tmp 18) c_turretref04_Lags_4 .skip
def c_turretref04_Lags_6 : SCode := .seq c_turretref04_Lags_2 c_turretref04_Lags_5
def c_turretref04_Lags_7 : SCode := .reg [⟨(some 20), none, .load true 5 (.tmp 3), [], false⟩,
  ⟨(some 21), none, .mov (.tmp 1), [], false⟩,
  ⟨(some 22), none, .fld 1 (.tmp 5), [], false⟩,
  ⟨(some 23), none, .load false 1 (.tmp 22), [], false⟩,
  ⟨(some 24), none, .call 79 [(.tmp 20), (.tmp 21), (.tmp 23)], [], false⟩,
  ⟨(some 25), none, .fld 4 (.tmp 3), [], false⟩,
  ⟨(some 26), none, .load false 1 (.tmp 25), [], false⟩,
  ⟨(some 27), none, .un .neg (.tmp 26), [], false⟩,
  ⟨(some 28), none, .bin .lss (.tmp 24) (.tmp 27), [], false⟩] [6, 7, 28]
def c_turretref04_Lags_8 : SCode := .reg [⟨(some 29), none, .mov (.tmp 7), [], false⟩,
  ⟨(some 30), none, .mov (.tmp 7), [], false⟩,
  ⟨(some 31), none, .build [(.int .i64 0), (.int .i64 0)] [(0, 1, (.tmp 29)), (1, 1, (.tmp 30))], [], false⟩,
  ⟨none, none, .store 2 (.tmp 6) (.tmp 31), [], false⟩] [6]
def c_turretref04_Lags_9 : SCode := .seq c_turretref04_Lags_8 .ret
def c_turretref04_Lags_10 : SCode := .cond (.tmp 28) c_turretref04_Lags_9 .skip
def c_turretref04_Lags_11 : SCode := .seq c_turretref04_Lags_7 c_turretref04_Lags_10
def c_turretref04_Lags_12 : SCode := .reg [⟨(some 32), none, .mov (.tmp 7), [], false⟩,
  ⟨(some 33), none, .build [(.int .i64 0), (.int .i64 0)] [(1, 1, (.tmp 32))], [], false⟩,
  ⟨none, none, .store 2 (.tmp 6) (.tmp 33), [], false⟩] [6]
def c_turretref04_Lags_13 : SCode := .seq c_turretref04_Lags_12 .ret
def c_turretref04_Lags_14 : SCode := .seq c_turretref04_Lags_11 c_turretref04_Lags_13
def c_turretref04_Lags_15 : SCode := .seq c_turretref04_Lags_6 c_turretref04_Lags_14
def c_turretref04_Lags_16 : SCode := .seq c_turretref04_Lags_1 c_turretref04_Lags_15
def c_turretref04_Lags_17 : SCode := .seq c_turretref04_Lags_0 c_turretref04_Lags_16
@[simp] def rs_turretref04_Lags : List SRes := [.cell 6 true 2]
theorem law_turretref04_Lags (cs : List CV) (r : CV) (hl : cs.length ≤ 34) (h : STri (cfF Try.prog [] 34) c_turretref04_Lags_17 (initT 0 cs) [] (retQ rs_turretref04_Lags r)) : SC Try.prog 55 cs r :=
  sc_of [] follows Try.func55 rfl Try.ntmps55 (by decide) (by kernel_rfl) (by kernel_rfl) hl h

-- turret/turretref04.Hangs (56)
def c_turretref04_Hangs_0 : SCode := .reg [⟨(some 4), none, .box 80 (.tmp 0), [], false⟩,
  ⟨(some 8), none, .mov (.const (.bool false)), [], false⟩] [1, 2, 3, 4]
def c_turretref04_Hangs_1 : SCode := .reg [⟨(some 10), none, .load true 5 (.tmp 4), [], false⟩,
  ⟨(some 11), none, .mov (.tmp 1), [], false⟩,
  ⟨(some 12), none, .mov (.tmp 2), [], false⟩,
  ⟨(some 13), none, .call 79 [(.tmp 10), (.tmp 11), (.tmp 12)], [], false⟩,
  ⟨(some 9), none, .mov (.tmp 13), [], false⟩] [3, 4, 9]
def c_turretref04_Hangs_2 : SCode := .reg [⟨(some 15), none, .mov (.tmp 9), [], false⟩,
  ⟨(some 16), none, .fld 4 (.tmp 4), [], false⟩,
  ⟨(some 17), none, .load false 1 (.tmp 16), [], false⟩,
  ⟨(some 18), none, .bin .gtr (.tmp 15) (.tmp 17), [], false⟩,
  ⟨(some 14), none, .mov (.tmp 18), [], false⟩] [3, 4, 9, 14]
def c_turretref04_Hangs_3 : SCode := .reg [⟨(some 19), none, .mov (.tmp 3), [], false⟩,
  ⟨(some 20), none, .bin .eql (.tmp 19) (.const (.int .i64 0)), [], false⟩,
  ⟨(some 8), none, .mov (.tmp 20), [], false⟩] [8]
def c_turretref04_Hangs_4 : SCode := .seq c_turretref04_Hangs_3 .ret
def c_turretref04_Hangs_5 : SCode := .reg [⟨(some 22), none, .mov (.tmp 9), [], false⟩,
  ⟨(some 23), none, .fld 4 (.tmp 4), [], false⟩,
  ⟨(some 24), none, .load false 1 (.tmp 23), [], false⟩,
  ⟨(some 25), none, .un .neg (.tmp 24), [], false⟩,
  ⟨(some 26), none, .bin .lss (.tmp 22) (.tmp 25), [], false⟩,
  ⟨(some 21), none, .mov (.tmp 26), [], false⟩] [3, 4, 21]
def c_turretref04_Hangs_6 : SCode := .reg [⟨(some 27), none, .mov (.tmp 3), [], false⟩,
  ⟨(some 28), none, .fld 2 (.tmp 4), [], false⟩,
  ⟨(some 29), none, .load false 1 (.tmp 28), [], false⟩,
  ⟨(some 30), none, .call 42 [(.tmp 29)], [], false⟩,
  ⟨(some 31), none, .bin .eql (.tmp 27) (.tmp 30), [], false⟩,
  ⟨(some 8), none, .mov (.tmp 31), [], false⟩] [8]
def c_turretref04_Hangs_7 : SCode := .seq c_turretref04_Hangs_6 .ret
def c_turretref04_Hangs_8 : SCode := .cond (.tmp 21) c_turretref04_Hangs_7 .skip
def c_turretref04_Hangs_9 : SCode := .seq c_turretref04_Hangs_5 c_turretref04_Hangs_8
def c_turretref04_Hangs_10 : SCode := .cond (.tmp 14) c_turretref04_Hangs_4 c_turretref04_Hangs_9
def c_turretref04_Hangs_11 : SCode := .seq c_turretref04_Hangs_2 c_turretref04_Hangs_10
def c_turretref04_Hangs_12 : SCode := .block 0 c_turretref04_Hangs_11
def c_turretref04_Hangs_13 : SCode := .reg [⟨(some 32), none, .mov (.tmp 3), [], false⟩,
  ⟨(some 33), none, .fld 2 (.tmp 4), [], false⟩,
  ⟨(some 34), none, .load false 1 (.tmp 33), [], false⟩,
  ⟨(some 35), none, .call 42 [(.tmp 34)], [], false⟩,
  ⟨(some 36), none, .call 51 [(.tmp 32), (.const (.int .i64 0)), (.tmp 35)], [], false⟩,
  ⟨(some 8), none, .mov (.tmp 36), [], false⟩] [8]
def c_turretref04_Hangs_14 : SCode := .seq c_turretref04_Hangs_13 .ret
def c_turretref04_Hangs_15 : SCode := .seq c_turretref04_Hangs_12 c_turretref04_Hangs_14
def c_turretref04_Hangs_16 : SCode := .seq c_turretref04_Hangs_1 c_turretref04_Hangs_15
def c_turretref04_Hangs_17 : SCode := .seq c_turretref04_Hangs_0 c_turretref04_Hangs_16
@[simp] def rs_turretref04_Hangs : List SRes := [.tmp 8]
theorem law_turretref04_Hangs (cs : List CV) (r : CV) (hl : cs.length ≤ 37) (h : STri (cfF Try.prog [] 37) c_turretref04_Hangs_17 (initT 0 cs) [] (retQ rs_turretref04_Hangs r)) : SC Try.prog 56 cs r :=
  sc_of [] follows Try.func56 rfl Try.ntmps56 (by decide) (by kernel_rfl) (by kernel_rfl) hl h

-- turret/turretref04.Mod (60)
def c_turretref04_Mod_0 : SCode := .reg [⟨(some 4), none, .mov (.const (.int .i64 0)), [], false⟩] [0, 1]
def c_turretref04_Mod_1 : SCode := .reg [⟨(some 6), none, .mov (.tmp 0), [], false⟩,
  ⟨(some 7), none, .mov (.tmp 1), [], false⟩,
  ⟨(some 8), none, .bin .rem (.tmp 6) (.tmp 7), [], false⟩,
  ⟨(some 5), none, .mov (.tmp 8), [], false⟩] [1, 5]
def c_turretref04_Mod_2 : SCode := .reg [⟨(some 9), none, .mov (.tmp 5), [], false⟩,
  ⟨(some 10), none, .bin .lss (.tmp 9) (.const (.int .i64 0)), [], false⟩] [1, 5, 10]
def c_turretref04_Mod_3 : SCode := .reg [⟨(some 11), none, .mov (.tmp 5), [], false⟩,
  ⟨(some 12), none, .mov (.tmp 1), [], false⟩,
  ⟨(some 13), none, .bin .add (.tmp 11) (.tmp 12), [], false⟩,
  ⟨(some 5), none, .mov (.tmp 13), [], false⟩] [5]
def c_turretref04_Mod_4 : SCode := .cond (.tmp 10) c_turretref04_Mod_3 .skip
def c_turretref04_Mod_5 : SCode := .seq c_turretref04_Mod_2 c_turretref04_Mod_4
def c_turretref04_Mod_6 : SCode := .reg [⟨(some 14), none, .mov (.tmp 5), [], false⟩,
  ⟨(some 4), none, .mov (.tmp 14), [], false⟩] [4]
def c_turretref04_Mod_7 : SCode := .seq c_turretref04_Mod_6 .ret
def c_turretref04_Mod_8 : SCode := .seq c_turretref04_Mod_5 c_turretref04_Mod_7
def c_turretref04_Mod_9 : SCode := .seq c_turretref04_Mod_1 c_turretref04_Mod_8
def c_turretref04_Mod_10 : SCode := .seq c_turretref04_Mod_0 c_turretref04_Mod_9
@[simp] def rs_turretref04_Mod : List SRes := [.tmp 4]
theorem law_turretref04_Mod (cs : List CV) (r : CV) (hl : cs.length ≤ 15) (h : STri (cfF Try.prog [] 15) c_turretref04_Mod_10 (initT 0 cs) [] (retQ rs_turretref04_Mod r)) : SC Try.prog 60 cs r :=
  sc_of [] follows Try.func60 rfl Try.ntmps60 (by decide) (by kernel_rfl) (by kernel_rfl) hl h

-- turret/turretref04.Span (72)
def c_turretref04_Span_0 : SCode := .reg [⟨(some 3), none, .box 23 (.tmp 0), [], false⟩,
  ⟨(some 6), none, .mov (.const (.bool false)), [], false⟩] [1, 2, 3]
def c_turretref04_Span_1 : SCode := .reg [⟨(some 7), none, .fld 0 (.tmp 3), [], false⟩,
  ⟨(some 8), none, .load false 1 (.tmp 7), [], false⟩,
  ⟨(some 9), none, .mov (.tmp 1), [], false⟩,
  ⟨(some 10), none, .fld 1 (.tmp 3), [], false⟩,
  ⟨(some 11), none, .load false 1 (.tmp 10), [], false⟩,
  ⟨(some 12), none, .call 51 [(.tmp 8), (.tmp 9), (.tmp 11)], [], false⟩,
  ⟨(some 13), none, .mov (.tmp 12), [], false⟩,
  ⟨(some 14), (some (13, true)), .fld 1 (.tmp 3), [], false⟩,
  ⟨(some 15), (some (13, true)), .load false 1 (.tmp 14), [], false⟩,
  ⟨(some 16), (some (13, true)), .mov (.tmp 2), [], false⟩,
  ⟨(some 17), (some (13, true)), .bin .leq (.tmp 15) (.tmp 16), [], false⟩,
  ⟨(some 18), none, .pick (.tmp 13) (.tmp 17) (.const (.bool false)), [], false⟩,
  ⟨(some 6), none, .mov (.tmp 18), [], false⟩] [6]
def c_turretref04_Span_2 : SCode := .seq c_turretref04_Span_1 .ret
def c_turretref04_Span_3 : SCode := .seq c_turretref04_Span_0 c_turretref04_Span_2
@[simp] def rs_turretref04_Span : List SRes := [.tmp 6]
theorem law_turretref04_Span (cs : List CV) (r : CV) (hl : cs.length ≤ 19) (h : STri (cfF Try.prog [] 19) c_turretref04_Span_3 (initT 0 cs) [] (retQ rs_turretref04_Span r)) : SC Try.prog 72 cs r :=
  sc_of [] follows Try.func72 rfl Try.ntmps72 (by decide) (by kernel_rfl) (by kernel_rfl) hl h

-- turret/turretref04.Force (79)
def c_turretref04_Force_0 : SCode := .reg [⟨(some 3), none, .box 80 (.tmp 0), [], false⟩,
  ⟨(some 6), none, .mov (.const (.int .i64 0)), [], false⟩] [1, 2, 3]
def c_turretref04_Force_1 : SCode := .reg [⟨(some 7), none, .mov (.tmp 1), [], false⟩,
  ⟨(some 8), none, .call 60 [(.tmp 7), (.const (.int .i64 3600))], [], false⟩,
  ⟨(some 9), none, .bin .lss (.tmp 8) (.const (.int .i64 1800)), [], false⟩] [2, 3, 9]
def c_turretref04_Force_2 : SCode := .reg [⟨(some 10), none, .mov (.tmp 2), [], false⟩,
  ⟨(some 11), none, .fld 3 (.tmp 3), [], false⟩,
  ⟨(some 12), none, .load false 1 (.tmp 11), [], false⟩,
  ⟨(some 13), none, .bin .add (.tmp 10) (.tmp 12), [], false⟩,
  ⟨(some 6), none, .mov (.tmp 13), [], false⟩] [6]
def c_turretref04_Force_3 : SCode := .seq c_turretref04_Force_2 .ret
def c_turretref04_Force_4 : SCode := .cond (.tmp 9) c_turretref04_Force_3 .skip
def c_turretref04_Force_5 : SCode := .seq c_turretref04_Force_1 c_turretref04_Force_4
def c_turretref04_Force_6 : SCode := .reg [⟨(some 14), none, .mov (.tmp 2), [], false⟩,
  ⟨(some 15), none, .fld 3 (.tmp 3), [], false⟩,
  ⟨(some 16), none, .load false 1 (.tmp 15), [], false⟩,
  ⟨(some 17), none, .bin .sub (.tmp 14) (.tmp 16), [], false⟩,
  ⟨(some 6), none, .mov (.tmp 17), [], false⟩] [6]
def c_turretref04_Force_7 : SCode := .seq c_turretref04_Force_6 .ret
def c_turretref04_Force_8 : SCode := .seq c_turretref04_Force_5 c_turretref04_Force_7
def c_turretref04_Force_9 : SCode := .seq c_turretref04_Force_0 c_turretref04_Force_8
@[simp] def rs_turretref04_Force : List SRes := [.tmp 6]
theorem law_turretref04_Force (cs : List CV) (r : CV) (hl : cs.length ≤ 18) (h : STri (cfF Try.prog [] 18) c_turretref04_Force_9 (initT 0 cs) [] (retQ rs_turretref04_Force r)) : SC Try.prog 79 cs r :=
  sc_of [] follows Try.func79 rfl Try.ntmps79 (by decide) (by kernel_rfl) (by kernel_rfl) hl h

end Go.Proofs.Ytnfggkopledpcaa
/- The shadow code of functions, as the kit's translation has them. -/
namespace Go.Proofs.Ytnfggkopledpcaa
open Go.RowKit

-- turret/turretlaw04.DialShows (4)
def c_turretlaw04_DialShows_0 : SCode := .reg [⟨(some 2), none, .box 26 (.tmp 0), [], false⟩,
  ⟨(some 3), none, .box 28 (.tmp 1), [], false⟩,
  ⟨(some 4), none, .mov (.const (.bool false)), [], false⟩] [2, 3]
def c_turretlaw04_DialShows_1 : SCode := .reg [⟨(some 8), none, .load true 4 (.tmp 2), [], false⟩,
  ⟨(some 9), none, .call 11 [(.tmp 8)], [], false⟩] [2, 3, 9]
def c_turretlaw04_DialShows_2 : SCode := .reg [⟨(some 10), none, .call 12 [], [], false⟩,
  ⟨(some 4), none, .mov (.tmp 10), [], false⟩] [4]
def c_turretlaw04_DialShows_3 : SCode := .seq c_turretlaw04_DialShows_2 .ret
def c_turretlaw04_DialShows_4 : SCode := .cond (.tmp 9) c_turretlaw04_DialShows_3 .skip
def c_turretlaw04_DialShows_5 : SCode := .seq c_turretlaw04_DialShows_1 c_turretlaw04_DialShows_4
def c_turretlaw04_DialShows_6 : SCode := .reg [⟨(some 12), none, .load true 4 (.tmp 2), [], false⟩,
  ⟨(some 13), none, .call 13 [(.tmp 12)], [], false⟩,
  ⟨(some 14), none, .fld 0 (.tmp 3), [], false⟩,
  ⟨(some 15), none, .load false 1 (.tmp 14), [], false⟩,
  ⟨(some 16), none, .fld 1 (.tmp 3), [], false⟩,
  ⟨(some 17), none, .load false 1 (.tmp 16), [], false⟩,
  ⟨(some 18), none, .fld 2 (.tmp 3), [], false⟩,
  ⟨(some 19), none, .load true 2 (.tmp 18), [], false⟩,
  ⟨(some 20), none, .call 20 [(.tmp 13), (.tmp 15), (.tmp 17), (.tmp 19)], [], false⟩,
  ⟨(some 11), none, .mov (.tmp 20), [], false⟩,
  ⟨(some 21), none, .ext (.tmp 11) 0, [], false⟩,
  ⟨(some 22), none, .ext (.tmp 11) 1, [], false⟩,
  ⟨(some 5), none, .mov (.tmp 21), [], false⟩,
  ⟨(some 6), none, .mov (.tmp 22), [], false⟩] [2, 3, 5, 6]
def c_turretlaw04_DialShows_7 : SCode := .reg [⟨(some 23), none, .load true 4 (.tmp 2), [], false⟩,
  ⟨(some 24), none, .fld 0 (.tmp 3), [], false⟩,
  ⟨(some 25), none, .load false 1 (.tmp 24), [], false⟩,
  ⟨(some 26), none, .fld 1 (.tmp 3), [], false⟩,
  ⟨(some 27), none, .load false 1 (.tmp 26), [], false⟩,
  ⟨(some 28), none, .fld 2 (.tmp 3), [], false⟩,
  ⟨(some 29), none, .load true 2 (.tmp 28), [], false⟩,
  ⟨(some 30), none, .call 17 [(.tmp 23), (.tmp 25), (.tmp 27), (.tmp 29)], [], false⟩,
  ⟨(some 7), none, .mov (.tmp 30), [], false⟩] [2, 3, 5, 6, 7]
def c_turretlaw04_DialShows_8 : SCode := .reg [⟨(some 31), none, .mov (.tmp 7), [], false⟩,
  ⟨(some 32), none, .bin .neq (.tmp 31) (.const (.int .i64 0)), [], false⟩] [2, 3, 5, 6, 7, 32]
def c_turretlaw04_DialShows_9 : SCode := .reg [⟨(some 33), none, .mov (.tmp 6), [], false⟩,
  ⟨(some 34), none, .mov (.tmp 7), [], false⟩,
  ⟨(some 35), none, .bin .eql (.tmp 33) (.tmp 34), [], false⟩,
  ⟨(some 36), none, .mov (.tmp 35), [], false⟩,
  ⟨(some 37), (some (36, true)), .mov (.tmp 5), [], false⟩,
  ⟨(some 38), (some (36, true)), .len (.tmp 37), [], false⟩,
  ⟨(some 39), (some (36, true)), .bin .eql (.tmp 38) (.const (.int .i64 0)), [], false⟩,
  ⟨(some 40), none, .pick (.tmp 36) (.tmp 39) (.const (.bool false)), [], false⟩,
  ⟨(some 41), none, .mov (.tmp 40), [], false⟩,
  ⟨(some 42), (some (41, true)), .call 12 [], [], false⟩,
  ⟨(some 43), none, .pick (.tmp 41) (.tmp 42) (.const (.bool false)), [], false⟩,
  ⟨(some 4), none, .mov (.tmp 43), [], false⟩] [4]
def c_turretlaw04_DialShows_10 : SCode := .seq c_turretlaw04_DialShows_9 .ret
def c_turretlaw04_DialShows_11 : SCode := .cond (.tmp 32) c_turretlaw04_DialShows_10 .skip
def c_turretlaw04_DialShows_12 : SCode := .seq c_turretlaw04_DialShows_8 c_turretlaw04_DialShows_11
def c_turretlaw04_DialShows_13 : SCode := .seq c_turretlaw04_DialShows_7 c_turretlaw04_DialShows_12
def c_turretlaw04_DialShows_14 : SCode := .reg [⟨(some 44), none, .mov (.tmp 6), [], false⟩,
  ⟨(some 45), none, .bin .eql (.tmp 44) (.const (.int .i64 0)), [], false⟩,
  ⟨(some 46), none, .mov (.tmp 45), [], false⟩,
  ⟨(some 47), (some (46, true)), .mov (.tmp 5), [], false⟩,
  ⟨(some 48), (some (46, true)), .load true 4 (.tmp 2), [], false⟩,
  ⟨(some 49), (some (46, true)), .fld 0 (.tmp 3), [], false⟩,
  ⟨(some 50), (some (46, true)), .load false 1 (.tmp 49), [], false⟩,
  ⟨(some 51), (some (46, true)), .fld 1 (.tmp 3), [], false⟩,
  ⟨(some 52), (some (46, true)), .load false 1 (.tmp 51), [], false⟩,
  ⟨(some 53), (some (46, true)), .fld 2 (.tmp 3), [], false⟩,
  ⟨(some 54), (some (46, true)), .load true 2 (.tmp 53), [], false⟩,
  ⟨(some 55), (some (46, true)), .call 23 [(.tmp 48), (.tmp 50), (.tmp 52), (.tmp 54)], [], false⟩,
  ⟨(some 56), (some (46, true)), .call 22 [(.tmp 55), (.const (.int .i64 0))], [], false⟩,
  ⟨(some 57), (some (46, true)), .call 21 [(.tmp 47), (.tmp 56)], [], false⟩,
  ⟨(some 58), none, .pick (.tmp 46) (.tmp 57) (.const (.bool false)), [], false⟩,
  ⟨(some 59), none, .mov (.tmp 58), [], false⟩,
  ⟨(some 60), (some (59, true)), .call 12 [], [], false⟩,
  ⟨(some 61), none, .pick (.tmp 59) (.tmp 60) (.const (.bool false)), [], false⟩,
  ⟨(some 4), none, .mov (.tmp 61), [], false⟩] [4]
def c_turretlaw04_DialShows_15 : SCode := .seq c_turretlaw04_DialShows_14 .ret
def c_turretlaw04_DialShows_16 : SCode := .seq c_turretlaw04_DialShows_13 c_turretlaw04_DialShows_15
def c_turretlaw04_DialShows_17 : SCode := .seq c_turretlaw04_DialShows_6 c_turretlaw04_DialShows_16
def c_turretlaw04_DialShows_18 : SCode := .seq c_turretlaw04_DialShows_5 c_turretlaw04_DialShows_17
def c_turretlaw04_DialShows_19 : SCode := .seq c_turretlaw04_DialShows_0 c_turretlaw04_DialShows_18
@[simp] def rs_turretlaw04_DialShows : List SRes := [.tmp 4]
theorem law_turretlaw04_DialShows (cs : List CV) (r : CV) (hl : cs.length ≤ 62) (h : STri (cfF Try.prog [] 62) c_turretlaw04_DialShows_19 (initT 0 cs) [] (retQ rs_turretlaw04_DialShows r)) : SC Try.prog 4 cs r :=
  sc_of [] follows Try.func4 rfl Try.ntmps4 (by decide) (by kernel_rfl) (by kernel_rfl) hl h

-- turret/turretlaw04.large (11)
def c_turretlaw04_large_0 : SCode := .reg [⟨(some 1), none, .box 26 (.tmp 0), [], false⟩,
  ⟨(some 2), none, .mov (.const (.bool false)), [], false⟩] [1]
def c_turretlaw04_large_1 : SCode := .reg [⟨(some 3), none, .mov (.const (.int .i64 0)), [], false⟩] [1, 3]
def c_turretlaw04_large_2 : SCode := .reg [⟨(some 4), none, .mov (.tmp 3), [], false⟩,
  ⟨(some 5), none, .fld 3 (.tmp 1), [], false⟩,
  ⟨(some 6), none, .load false 1 (.tmp 5), [], false⟩,
  ⟨(some 7), none, .len (.tmp 6), [], false⟩,
  ⟨(some 8), none, .bin .lss (.tmp 4) (.tmp 7), [], false⟩] [1, 3, 8]
def c_turretlaw04_large_3 : SCode := .cond (.tmp 8) .skip (.exit 0)
def c_turretlaw04_large_4 : SCode := .seq c_turretlaw04_large_2 c_turretlaw04_large_3
def c_turretlaw04_large_5 : SCode := .reg [⟨(some 11), none, .fld 3 (.tmp 1), [], false⟩,
  ⟨(some 12), none, .load false 1 (.tmp 11), [], false⟩,
  ⟨(some 13), none, .mov (.tmp 3), [], false⟩,
  ⟨(some 14), none, .idxS 5 (.tmp 12) (.tmp 13), [], false⟩,
  ⟨(some 15), none, .fld 2 (.tmp 14), [], false⟩,
  ⟨(some 16), none, .load false 1 (.tmp 15), [], false⟩,
  ⟨(some 17), none, .len (.tmp 16), [], false⟩,
  ⟨(some 18), none, .bin .gtr (.tmp 17) (.const (.int .i64 10)), [], false⟩] [1, 3, 18]
def c_turretlaw04_large_6 : SCode := .reg [⟨(some 2), none, .mov (.const (.bool true)), [], false⟩] [2]
def c_turretlaw04_large_7 : SCode := .seq c_turretlaw04_large_6 .ret
def c_turretlaw04_large_8 : SCode := .cond (.tmp 18) c_turretlaw04_large_7 .skip
def c_turretlaw04_large_9 : SCode := .seq c_turretlaw04_large_5 c_turretlaw04_large_8
def c_turretlaw04_large_10 : SCode := .block 1 c_turretlaw04_large_9
def c_turretlaw04_large_11 : SCode := .reg [⟨(some 9), none, .mov (.tmp 3), [], false⟩,
  ⟨(some 10), none, .bin .add (.tmp 9) (.const (.int .i64 1)), [], false⟩,
  ⟨(some 3), none, .mov (.tmp 10), [], false⟩] [1, 3]
def c_turretlaw04_large_12 : SCode := .seq c_turretlaw04_large_10 c_turretlaw04_large_11
def c_turretlaw04_large_13 : SCode := .seq c_turretlaw04_large_4 c_turretlaw04_large_12
def c_turretlaw04_large_14 : SCode := .loop c_turretlaw04_large_13
def c_turretlaw04_large_15 : SCode := .block 0 c_turretlaw04_large_14
def c_turretlaw04_large_16 : SCode := .seq c_turretlaw04_large_1 c_turretlaw04_large_15
def c_turretlaw04_large_17 : SCode := .reg [⟨(some 19), none, .fld 3 (.tmp 1), [], false⟩,
  ⟨(some 20), none, .load false 1 (.tmp 19), [], false⟩,
  ⟨(some 21), none, .len (.tmp 20), [], false⟩,
  ⟨(some 22), none, .bin .gtr (.tmp 21) (.const (.int .i64 12)), [], false⟩,
  ⟨(some 2), none, .mov (.tmp 22), [], false⟩] [2]
def c_turretlaw04_large_18 : SCode := .seq c_turretlaw04_large_17 .ret
def c_turretlaw04_large_19 : SCode := .seq c_turretlaw04_large_16 c_turretlaw04_large_18
def c_turretlaw04_large_20 : SCode := .seq c_turretlaw04_large_0 c_turretlaw04_large_19
@[simp] def rs_turretlaw04_large : List SRes := [.tmp 2]
theorem law_turretlaw04_large (cs : List CV) (r : CV) (hl : cs.length ≤ 23) (h : STri (cfF Try.prog [] 23) c_turretlaw04_large_20 (initT 0 cs) [] (retQ rs_turretlaw04_large r)) : SC Try.prog 11 cs r :=
  sc_of [] follows Try.func11 rfl Try.ntmps11 (by decide) (by kernel_rfl) (by kernel_rfl) hl h

-- turret/turretlaw04.works (13)
def c_turretlaw04_works_0 : SCode := .reg [⟨(some 1), none, .box 26 (.tmp 0), [], false⟩,
  ⟨(some 2), none, .alloc 26 [(.int .i64 0), (.int .i64 0), (.int .i64 0), (.slice none 0 0)], [], false⟩] [1, 2]
def c_turretlaw04_works_1 : SCode := .reg [⟨(some 5), none, .load true 4 (.tmp 1), [], false⟩,
  ⟨(some 3), none, .alloc 26 [(.int .i64 0), (.int .i64 0), (.int .i64 0), (.slice none 0 0)], [], false⟩,
  ⟨none, none, .store 4 (.tmp 3) (.tmp 5), [], false⟩] [1, 2, 3]
def c_turretlaw04_works_2 : SCode := .reg [⟨(some 6), none, .fld 3 (.tmp 3), [], false⟩,
  ⟨none, none, .store 1 (.tmp 6) (.const (.slice none 0 0)), [], false⟩] [1, 2, 3]
def c_turretlaw04_works_3 : SCode := .reg [⟨(some 4), none, .mov (.const (.int .i64 0)), [], false⟩] [1, 2, 3, 4]
def c_turretlaw04_works_4 : SCode := .reg [⟨(some 7), none, .mov (.tmp 4), [], false⟩,
  ⟨(some 8), none, .fld 3 (.tmp 1), [], false⟩,
  ⟨(some 9), none, .load false 1 (.tmp 8), [], false⟩,
  ⟨(some 10), none, .len (.tmp 9), [], false⟩,
  ⟨(some 11), none, .bin .lss (.tmp 7) (.tmp 10), [], false⟩] [1, 2, 3, 4, 11]
def c_turretlaw04_works_5 : SCode := .cond (.tmp 11) .skip (.exit 0)
def c_turretlaw04_works_6 : SCode := .seq c_turretlaw04_works_4 c_turretlaw04_works_5
def c_turretlaw04_works_7 : SCode := .reg [⟨(some 14), none, .fld 3 (.tmp 3), [], true⟩,
  ⟨(some 15), none, .load false 1 (.tmp 14), [], true⟩,
  ⟨(some 16), none, .fld 3 (.tmp 1), [], false⟩,
  ⟨(some 17), none, .load false 1 (.tmp 16), [], false⟩,
  ⟨(some 18), none, .mov (.tmp 4), [], false⟩,
  ⟨(some 19), none, .idxS 5 (.tmp 17) (.tmp 18), [], false⟩,
  ⟨(some 20), none, .load true 5 (.tmp 19), [], false⟩,
  ⟨(some 21), none, .call 35 [(.tmp 20)], [], false⟩,
  ⟨(some 22), none, .buildSl 80 5 [(.int .i64 0), (.int .i64 0), (.slice none 0 0), (.int .i64 0), (.int .i64 0)] 1 [(0, (.tmp 21))], [0, 1], false⟩,
  ⟨(some 23), none, .append 80 5 56 (.tmp 15) (.tmp 22), [], false⟩,
  ⟨(some 24), none, .fld 3 (.tmp 3), [], false⟩,
  ⟨none, none, .store 1 (.tmp 24) (.tmp 23), [], false⟩] [1, 2, 3, 4]
def c_turretlaw04_works_8 : SCode := .block 1 c_turretlaw04_works_7
def c_turretlaw04_works_9 : SCode := .reg [⟨(some 12), none, .mov (.tmp 4), [], false⟩,
  ⟨(some 13), none, .bin .add (.tmp 12) (.const (.int .i64 1)), [], false⟩,
  ⟨(some 4), none, .mov (.tmp 13), [], false⟩] [1, 2, 3, 4]
def c_turretlaw04_works_10 : SCode := .seq c_turretlaw04_works_8 c_turretlaw04_works_9
def c_turretlaw04_works_11 : SCode := .seq c_turretlaw04_works_6 c_turretlaw04_works_10
def c_turretlaw04_works_12 : SCode := .loop c_turretlaw04_works_11
def c_turretlaw04_works_13 : SCode := .block 0 c_turretlaw04_works_12
def c_turretlaw04_works_14 : SCode := .seq c_turretlaw04_works_3 c_turretlaw04_works_13
def c_turretlaw04_works_15 : SCode := .reg [⟨(some 25), none, .load true 4 (.tmp 3), [], false⟩,
  ⟨none, none, .store 4 (.tmp 2) (.tmp 25), [], false⟩] [2]
def c_turretlaw04_works_16 : SCode := .seq c_turretlaw04_works_15 .ret
def c_turretlaw04_works_17 : SCode := .seq c_turretlaw04_works_14 c_turretlaw04_works_16
def c_turretlaw04_works_18 : SCode := .seq c_turretlaw04_works_2 c_turretlaw04_works_17
def c_turretlaw04_works_19 : SCode := .seq c_turretlaw04_works_1 c_turretlaw04_works_18
def c_turretlaw04_works_20 : SCode := .seq c_turretlaw04_works_0 c_turretlaw04_works_19
@[simp] def rs_turretlaw04_works : List SRes := [.cell 2 true 4]
theorem law_turretlaw04_works (cs : List CV) (r : CV) (hl : cs.length ≤ 26) (h : STri (cfF Try.prog [] 26) c_turretlaw04_works_20 (initT 0 cs) [] (retQ rs_turretlaw04_works r)) : SC Try.prog 13 cs r :=
  sc_of [] follows Try.func13 rfl Try.ntmps13 (by decide) (by kernel_rfl) (by kernel_rfl) hl h

-- turret/turretlaw04.unchanged (16)
def c_turretlaw04_unchanged_0 : SCode := .reg [⟨(some 2), none, .box 26 (.tmp 0), [], false⟩,
  ⟨(some 3), none, .box 26 (.tmp 1), [], false⟩,
  ⟨(some 4), none, .mov (.const (.bool false)), [], false⟩] [2, 3]
def c_turretlaw04_unchanged_1 : SCode := .reg [⟨(some 9), none, .fld 0 (.tmp 2), [], false⟩,
  ⟨(some 10), none, .load false 1 (.tmp 9), [], false⟩,
  ⟨(some 11), none, .fld 0 (.tmp 3), [], false⟩,
  ⟨(some 12), none, .load false 1 (.tmp 11), [], false⟩,
  ⟨(some 13), none, .bin .neq (.tmp 10) (.tmp 12), [], false⟩,
  ⟨(some 14), none, .mov (.tmp 13), [], false⟩,
  ⟨(some 15), (some (14, false)), .fld 1 (.tmp 2), [], false⟩,
  ⟨(some 16), (some (14, false)), .load true 2 (.tmp 15), [], false⟩,
  ⟨(some 17), (some (14, false)), .fld 1 (.tmp 3), [], false⟩,
  ⟨(some 18), (some (14, false)), .load true 2 (.tmp 17), [], false⟩,
  ⟨(some 19), (some (14, false)), .eqC true [true, true] (.tmp 16) (.tmp 18), [], false⟩,
  ⟨(some 20), none, .pick (.tmp 14) (.const (.bool true)) (.tmp 19), [], false⟩,
  ⟨(some 21), none, .mov (.tmp 20), [], false⟩,
  ⟨(some 22), (some (21, false)), .fld 3 (.tmp 2), [], false⟩,
  ⟨(some 23), (some (21, false)), .load false 1 (.tmp 22), [], false⟩,
  ⟨(some 24), (some (21, false)), .len (.tmp 23), [], false⟩,
  ⟨(some 25), (some (21, false)), .fld 3 (.tmp 3), [], false⟩,
  ⟨(some 26), (some (21, false)), .load false 1 (.tmp 25), [], false⟩,
  ⟨(some 27), (some (21, false)), .len (.tmp 26), [], false⟩,
  ⟨(some 28), (some (21, false)), .bin .neq (.tmp 24) (.tmp 27), [], false⟩,
  ⟨(some 29), none, .pick (.tmp 21) (.const (.bool true)) (.tmp 28), [], false⟩] [2, 3, 29]
def c_turretlaw04_unchanged_2 : SCode := .reg [⟨(some 4), none, .mov (.const (.bool false)), [], false⟩] [4]
def c_turretlaw04_unchanged_3 : SCode := .seq c_turretlaw04_unchanged_2 .ret
def c_turretlaw04_unchanged_4 : SCode := .cond (.tmp 29) c_turretlaw04_unchanged_3 .skip
def c_turretlaw04_unchanged_5 : SCode := .seq c_turretlaw04_unchanged_1 c_turretlaw04_unchanged_4
def c_turretlaw04_unchanged_6 : SCode := .reg [⟨(some 5), none, .mov (.const (.int .i64 0)), [], false⟩] [2, 3, 5]
def c_turretlaw04_unchanged_7 : SCode := .reg [⟨(some 30), none, .mov (.tmp 5), [], false⟩,
  ⟨(some 31), none, .fld 3 (.tmp 2), [], false⟩,
  ⟨(some 32), none, .load false 1 (.tmp 31), [], false⟩,
  ⟨(some 33), none, .len (.tmp 32), [], false⟩,
  ⟨(some 34), none, .bin .lss (.tmp 30) (.tmp 33), [], false⟩] [2, 3, 5, 34]
def c_turretlaw04_unchanged_8 : SCode := .cond (.tmp 34) .skip (.exit 0)
def c_turretlaw04_unchanged_9 : SCode := .seq c_turretlaw04_unchanged_7 c_turretlaw04_unchanged_8
def c_turretlaw04_unchanged_10 : SCode := .reg [⟨(some 37), none, .fld 3 (.tmp 2), [], true⟩,
  ⟨(some 38), none, .load false 1 (.tmp 37), [], true⟩,
  ⟨(some 39), none, .mov (.tmp 5), [], false⟩,
  ⟨(some 40), none, .idxS 5 (.tmp 38) (.tmp 39), [], true⟩,
  ⟨(some 41), none, .load true 5 (.tmp 40), [], true⟩,
  ⟨(some 42), none, .fld 3 (.tmp 3), [], true⟩,
  ⟨(some 43), none, .load false 1 (.tmp 42), [], true⟩,
  ⟨(some 44), none, .mov (.tmp 5), [], false⟩,
  ⟨(some 45), none, .idxS 5 (.tmp 43) (.tmp 44), [], true⟩,
  ⟨(some 46), none, .load true 5 (.tmp 45), [], true⟩,
  ⟨(some 6), none, .alloc 80 [(.int .i64 0), (.int .i64 0), (.slice none 0 0), (.int .i64 0), (.int .i64 0)], [0, 1, 3, 4, 5, 6, 8, 9], false⟩,
  ⟨(some 7), none, .alloc 80 [(.int .i64 0), (.int .i64 0), (.slice none 0 0), (.int .i64 0), (.int .i64 0)], [0, 1, 3, 4, 5, 6, 8, 9], false⟩,
  ⟨none, none, .store 5 (.tmp 6) (.tmp 41), [5, 6, 8, 9], false⟩,
  ⟨none, none, .store 5 (.tmp 7) (.tmp 46), [], false⟩] [2, 3, 5, 6, 7]
def c_turretlaw04_unchanged_11 : SCode := .reg [⟨(some 47), none, .fld 0 (.tmp 6), [], false⟩,
  ⟨(some 48), none, .load true 2 (.tmp 47), [], false⟩,
  ⟨(some 49), none, .fld 0 (.tmp 7), [], false⟩,
  ⟨(some 50), none, .load true 2 (.tmp 49), [], false⟩,
  ⟨(some 51), none, .eqC true [true, true] (.tmp 48) (.tmp 50), [], false⟩,
  ⟨(some 52), none, .mov (.tmp 51), [], false⟩,
  ⟨(some 53), (some (52, false)), .fld 3 (.tmp 6), [], false⟩,
  ⟨(some 54), (some (52, false)), .load false 1 (.tmp 53), [], false⟩,
  ⟨(some 55), (some (52, false)), .fld 3 (.tmp 7), [], false⟩,
  ⟨(some 56), (some (52, false)), .load false 1 (.tmp 55), [], false⟩,
  ⟨(some 57), (some (52, false)), .bin .neq (.tmp 54) (.tmp 56), [], false⟩,
  ⟨(some 58), none, .pick (.tmp 52) (.const (.bool true)) (.tmp 57), [], false⟩,
  ⟨(some 59), none, .mov (.tmp 58), [], false⟩,
  ⟨(some 60), (some (59, false)), .fld 4 (.tmp 6), [], false⟩,
  ⟨(some 61), (some (59, false)), .load false 1 (.tmp 60), [], false⟩,
  ⟨(some 62), (some (59, false)), .fld 4 (.tmp 7), [], false⟩,
  ⟨(some 63), (some (59, false)), .load false 1 (.tmp 62), [], false⟩,
  ⟨(some 64), (some (59, false)), .bin .neq (.tmp 61) (.tmp 63), [], false⟩,
  ⟨(some 65), none, .pick (.tmp 59) (.const (.bool true)) (.tmp 64), [], false⟩,
  ⟨(some 66), none, .mov (.tmp 65), [], false⟩,
  ⟨(some 67), (some (66, false)), .fld 2 (.tmp 6), [], false⟩,
  ⟨(some 68), (some (66, false)), .load false 1 (.tmp 67), [], false⟩,
  ⟨(some 69), (some (66, false)), .len (.tmp 68), [], false⟩,
  ⟨(some 70), (some (66, false)), .fld 2 (.tmp 7), [], false⟩,
  ⟨(some 71), (some (66, false)), .load false 1 (.tmp 70), [], false⟩,
  ⟨(some 72), (some (66, false)), .len (.tmp 71), [], false⟩,
  ⟨(some 73), (some (66, false)), .bin .neq (.tmp 69) (.tmp 72), [], false⟩,
  ⟨(some 74), none, .pick (.tmp 66) (.const (.bool true)) (.tmp 73), [], false⟩] [2, 3, 5, 6, 7, 74]
def c_turretlaw04_unchanged_12 : SCode := .reg [⟨(some 4), none, .mov (.const (.bool false)), [], false⟩] [4]
def c_turretlaw04_unchanged_13 : SCode := .seq c_turretlaw04_unchanged_12 .ret
def c_turretlaw04_unchanged_14 : SCode := .cond (.tmp 74) c_turretlaw04_unchanged_13 .skip
def c_turretlaw04_unchanged_15 : SCode := .seq c_turretlaw04_unchanged_11 c_turretlaw04_unchanged_14
def c_turretlaw04_unchanged_16 : SCode := .reg [⟨(some 8), none, .mov (.const (.int .i64 0)), [], false⟩] [2, 3, 5, 6, 7, 8]
def c_turretlaw04_unchanged_17 : SCode := .reg [⟨(some 75), none, .mov (.tmp 8), [], false⟩,
  ⟨(some 76), none, .fld 2 (.tmp 6), [], false⟩,
  ⟨(some 77), none, .load false 1 (.tmp 76), [], false⟩,
  ⟨(some 78), none, .len (.tmp 77), [], false⟩,
  ⟨(some 79), none, .bin .lss (.tmp 75) (.tmp 78), [], false⟩] [2, 3, 5, 6, 7, 8, 79]
def c_turretlaw04_unchanged_18 : SCode := .cond (.tmp 79) .skip (.exit 2)
def c_turretlaw04_unchanged_19 : SCode := .seq c_turretlaw04_unchanged_17 c_turretlaw04_unchanged_18
def c_turretlaw04_unchanged_20 : SCode := .reg [⟨(some 82), none, .fld 2 (.tmp 6), [], false⟩,
  ⟨(some 83), none, .load false 1 (.tmp 82), [], false⟩,
  ⟨(some 84), none, .mov (.tmp 8), [], false⟩,
  ⟨(some 85), none, .idxS 3 (.tmp 83) (.tmp 84), [], false⟩,
  ⟨(some 86), none, .load true 3 (.tmp 85), [], false⟩,
  ⟨(some 87), none, .fld 2 (.tmp 7), [], false⟩,
  ⟨(some 88), none, .load false 1 (.tmp 87), [], false⟩,
  ⟨(some 89), none, .mov (.tmp 8), [], false⟩,
  ⟨(some 90), none, .idxS 3 (.tmp 88) (.tmp 89), [], false⟩,
  ⟨(some 91), none, .load true 3 (.tmp 90), [], false⟩,
  ⟨(some 92), none, .eqC true [true, true, true] (.tmp 86) (.tmp 91), [], false⟩] [2, 3, 5, 6, 7, 8, 92]
def c_turretlaw04_unchanged_21 : SCode := .reg [⟨(some 4), none, .mov (.const (.bool false)), [], false⟩] [4]
def c_turretlaw04_unchanged_22 : SCode := .seq c_turretlaw04_unchanged_21 .ret
def c_turretlaw04_unchanged_23 : SCode := .cond (.tmp 92) c_turretlaw04_unchanged_22 .skip
def c_turretlaw04_unchanged_24 : SCode := .seq c_turretlaw04_unchanged_20 c_turretlaw04_unchanged_23
def c_turretlaw04_unchanged_25 : SCode := .block 3 c_turretlaw04_unchanged_24
def c_turretlaw04_unchanged_26 : SCode := .reg [⟨(some 80), none, .mov (.tmp 8), [], false⟩,
  ⟨(some 81), none, .bin .add (.tmp 80) (.const (.int .i64 1)), [], false⟩,
  ⟨(some 8), none, .mov (.tmp 81), [], false⟩] [2, 3, 5, 6, 7, 8]
def c_turretlaw04_unchanged_27 : SCode := .seq c_turretlaw04_unchanged_25 c_turretlaw04_unchanged_26
def c_turretlaw04_unchanged_28 : SCode := .seq c_turretlaw04_unchanged_19 c_turretlaw04_unchanged_27
def c_turretlaw04_unchanged_29 : SCode := .loop c_turretlaw04_unchanged_28
def c_turretlaw04_unchanged_30 : SCode := .block 2 c_turretlaw04_unchanged_29
def c_turretlaw04_unchanged_31 : SCode := .seq c_turretlaw04_unchanged_16 c_turretlaw04_unchanged_30
def c_turretlaw04_unchanged_32 : SCode := .seq c_turretlaw04_unchanged_15 c_turretlaw04_unchanged_31
def c_turretlaw04_unchanged_33 : SCode := .seq c_turretlaw04_unchanged_10 c_turretlaw04_unchanged_32
def c_turretlaw04_unchanged_34 : SCode := .block 1 c_turretlaw04_unchanged_33
def c_turretlaw04_unchanged_35 : SCode := .reg [⟨(some 35), none, .mov (.tmp 5), [], false⟩,
  ⟨(some 36), none, .bin .add (.tmp 35) (.const (.int .i64 1)), [], false⟩,
  ⟨(some 5), none, .mov (.tmp 36), [], false⟩] [2, 3, 5]
def c_turretlaw04_unchanged_36 : SCode := .seq c_turretlaw04_unchanged_34 c_turretlaw04_unchanged_35
def c_turretlaw04_unchanged_37 : SCode := .seq c_turretlaw04_unchanged_9 c_turretlaw04_unchanged_36
def c_turretlaw04_unchanged_38 : SCode := .loop c_turretlaw04_unchanged_37
def c_turretlaw04_unchanged_39 : SCode := .block 0 c_turretlaw04_unchanged_38
def c_turretlaw04_unchanged_40 : SCode := .seq c_turretlaw04_unchanged_6 c_turretlaw04_unchanged_39
def c_turretlaw04_unchanged_41 : SCode := .reg [⟨(some 4), none, .mov (.const (.bool true)), [], false⟩] [4]
def c_turretlaw04_unchanged_42 : SCode := .seq c_turretlaw04_unchanged_41 .ret
def c_turretlaw04_unchanged_43 : SCode := .seq c_turretlaw04_unchanged_40 c_turretlaw04_unchanged_42
def c_turretlaw04_unchanged_44 : SCode := .seq c_turretlaw04_unchanged_5 c_turretlaw04_unchanged_43
def c_turretlaw04_unchanged_45 : SCode := .seq c_turretlaw04_unchanged_0 c_turretlaw04_unchanged_44
@[simp] def rs_turretlaw04_unchanged : List SRes := [.tmp 4]
theorem law_turretlaw04_unchanged (cs : List CV) (r : CV) (hl : cs.length ≤ 93) (h : STri (cfF Try.prog [] 93) c_turretlaw04_unchanged_45 (initT 0 cs) [] (retQ rs_turretlaw04_unchanged r)) : SC Try.prog 16 cs r :=
  sc_of [] follows Try.func16 rfl Try.ntmps16 (by decide) (by kernel_rfl) (by kernel_rfl) hl h

-- turret/turretlaw04.readings (32)
def c_turretlaw04_readings_0 : SCode := .reg [⟨(some 2), none, .mov (.const (.slice none 0 0)), [], false⟩] [0]
def c_turretlaw04_readings_1 : SCode := .reg [⟨(some 3), none, .buildSl 70 2 [(.int .i64 0), (.int .i64 0)] 0 [], [], false⟩,
  ⟨(some 4), none, .mov (.tmp 0), [], false⟩,
  ⟨(some 5), none, .append 70 2 16 (.tmp 3) (.tmp 4), [], false⟩,
  ⟨(some 2), none, .mov (.tmp 5), [], false⟩] [2]
def c_turretlaw04_readings_2 : SCode := .seq c_turretlaw04_readings_1 .ret
def c_turretlaw04_readings_3 : SCode := .seq c_turretlaw04_readings_0 c_turretlaw04_readings_2
@[simp] def rs_turretlaw04_readings : List SRes := [.tmp 2]
theorem law_turretlaw04_readings (cs : List CV) (r : CV) (hl : cs.length ≤ 6) (h : STri (cfF Try.prog [] 6) c_turretlaw04_readings_3 (initT 0 cs) [] (retQ rs_turretlaw04_readings r)) : SC Try.prog 32 cs r :=
  sc_of [] follows Try.func32 rfl Try.ntmps32 (by decide) (by kernel_rfl) (by kernel_rfl) hl h

-- turret/turretlaw04.face (35)
def c_turretlaw04_face_0 : SCode := .reg [⟨(some 1), none, .box 80 (.tmp 0), [], false⟩,
  ⟨(some 2), none, .alloc 80 [(.int .i64 0), (.int .i64 0), (.slice none 0 0), (.int .i64 0), (.int .i64 0)], [], false⟩] [1, 2]
def c_turretlaw04_face_1 : SCode := .reg [⟨(some 3), none, .buildSl 101 3 [(.int .i64 0), (.int .i64 0), (.int .i64 0)] 0 [], [], false⟩,
  ⟨(some 4), none, .fld 2 (.tmp 1), [], false⟩,
  ⟨(some 5), none, .load false 1 (.tmp 4), [], false⟩,
  ⟨(some 6), none, .append 101 3 24 (.tmp 3) (.tmp 5), [], false⟩,
  ⟨(some 7), none, .fld 2 (.tmp 1), [], false⟩,
  ⟨none, none, .store 1 (.tmp 7) (.tmp 6), [], false⟩] [1, 2]
def c_turretlaw04_face_2 : SCode := .reg [⟨(some 8), none, .load true 5 (.tmp 1), [], false⟩,
  ⟨none, none, .store 5 (.tmp 2) (.tmp 8), [], false⟩] [2]
def c_turretlaw04_face_3 : SCode := .seq c_turretlaw04_face_2 .ret
def c_turretlaw04_face_4 : SCode := .seq c_turretlaw04_face_1 c_turretlaw04_face_3
def c_turretlaw04_face_5 : SCode := .seq c_turretlaw04_face_0 c_turretlaw04_face_4
@[simp] def rs_turretlaw04_face : List SRes := [.cell 2 true 5]
theorem law_turretlaw04_face (cs : List CV) (r : CV) (hl : cs.length ≤ 9) (h : STri (cfF Try.prog [] 9) c_turretlaw04_face_5 (initT 0 cs) [] (retQ rs_turretlaw04_face r)) : SC Try.prog 35 cs r :=
  sc_of [] follows Try.func35 rfl Try.ntmps35 (by decide) (by kernel_rfl) (by kernel_rfl) hl h

end Go.Proofs.Ytnfggkopledpcaa
/- Dial's references, I. -/
namespace Go.Proofs.Ytnfggkopledpcaa
open Go.RowKit

theorem rIn (n lo hi : Int) : SC Try.prog 51 [I n, I lo, I hi] (B (inB lo hi n)) := by
  refine law_turretref04_In _ _ (by simp) ?_
  (repeat' (first | ((first | with_reducible refine st_skip ?_ | with_reducible refine st_exit ?_); (try simp only [seqQ, blockQ, loopQ, forQ, whileQ, reduceIte, Nat.reduceEqDiff])) | (with_reducible refine st_ret ?_; ((try simp only [seqQ, blockQ, loopQ, forQ, whileQ]); first | (with_reducible refine retM_ret ?_) | refine retQ_ret ?_; simp)) | refine st_seq ?_ | refine st_block ?_ | ((first | refine st_reg ?_ | refine buildP_own ?_) <;> (simp -dsimp; (repeat (simp -dsimp (disch := (first | omega | assumption | (refine Bool.eq_false_iff.1 ?_; assumption))) only [wrap_in, if_pos, if_neg]; (try simp -dsimp))))) | ((first | refine guardP_of (fun hc => ?_) (fun hc => ?_) | refine st_cond rfl (fun hc => ?_) (fun hc => ?_)) <;> (try simp only [decide_eq_true_eq, decide_eq_false_iff_not, Bool.true_eq_false, Bool.false_eq_true, bne_iff_ne, ne_eq, bne_eq_false_iff_eq, beq_iff_eq, beq_eq_false_iff_ne, Bool.not_eq_true, Bool.not_eq_false, Bool.not_eq_eq_eq_not, Bool.not_true, Bool.not_false, Decidable.not_not] at hc) <;> (try (exfalso; first | omega | exact bool_tf hc (by assumption) | exact bool_ft hc (by assumption) | exact absurd (by assumption) hc)) <;> (first | with_reducible show STri _ _ _ _ _ _ | (simp -dsimp [hc]; (repeat (simp -dsimp (disch := (first | omega | assumption | (refine Bool.eq_false_iff.1 ?_; assumption))) only [wrap_in, if_pos, if_neg]; (try simp -dsimp [hc]))))))))
  all_goals (refine CLe.bool ?_; unfold inB; rw [Bool.eq_iff_iff]; simp; try omega)

theorem rSpan (lo hi least most : Int) : SC Try.prog 72 [cS lo hi, I least, I most] (B (spanB least most lo hi)) := by
  refine law_turretref04_Span _ _ (by simp) ?_
  (repeat' (first | ((first | with_reducible refine st_skip ?_ | with_reducible refine st_exit ?_); (try simp only [seqQ, blockQ, loopQ, forQ, whileQ, reduceIte, Nat.reduceEqDiff])) | (with_reducible refine st_ret ?_; ((try simp only [seqQ, blockQ, loopQ, forQ, whileQ]); first | (with_reducible refine retM_ret ?_) | refine retQ_ret ?_; simp)) | refine st_seq ?_ | refine st_block ?_ | ((first | refine st_reg ?_ | refine buildP_own ?_ | refine callP_b (rIn lo least hi) rfl ?_) <;> (simp -dsimp; (repeat (simp -dsimp (disch := (first | omega | assumption | (refine Bool.eq_false_iff.1 ?_; assumption))) only [wrap_in, if_pos, if_neg]; (try simp -dsimp))))) | ((first | refine guardP_of (fun hc => ?_) (fun hc => ?_) | refine st_cond rfl (fun hc => ?_) (fun hc => ?_)) <;> (try simp only [decide_eq_true_eq, decide_eq_false_iff_not, Bool.true_eq_false, Bool.false_eq_true, bne_iff_ne, ne_eq, bne_eq_false_iff_eq, beq_iff_eq, beq_eq_false_iff_ne, Bool.not_eq_true, Bool.not_eq_false, Bool.not_eq_eq_eq_not, Bool.not_true, Bool.not_false, Decidable.not_not] at hc) <;> (try (exfalso; first | omega | exact bool_tf hc (by assumption) | exact bool_ft hc (by assumption) | exact absurd (by assumption) hc)) <;> (first | with_reducible show STri _ _ _ _ _ _ | (simp -dsimp [hc]; (repeat (simp -dsimp (disch := (first | omega | assumption | (refine Bool.eq_false_iff.1 ?_; assumption))) only [wrap_in, if_pos, if_neg]; (try simp -dsimp [hc]))))))))
  all_goals (refine CLe.bool ?_; unfold spanB; simp only [inB, Bool.and_eq_true, Bool.and_eq_false_iff, decide_eq_true_eq, decide_eq_false_iff_not] at *; rw [Bool.eq_iff_iff]; simp; try omega)

theorem rWind (lo hi : Int) : SC Try.prog 52 [cS lo hi] (B (spanB (-10000) 10000 lo hi)) := by
  refine law_turretref04_Wind _ _ (by simp) ?_
  (repeat' (first | ((first | with_reducible refine st_skip ?_ | with_reducible refine st_exit ?_); (try simp only [seqQ, blockQ, loopQ, forQ, whileQ, reduceIte, Nat.reduceEqDiff])) | (with_reducible refine st_ret ?_; ((try simp only [seqQ, blockQ, loopQ, forQ, whileQ]); first | (with_reducible refine retM_ret ?_) | refine retQ_ret ?_; simp)) | refine st_seq ?_ | refine st_block ?_ | ((first | refine st_reg ?_ | refine buildP_own ?_ | refine callP_b (rSpan lo hi (-10000) 10000) rfl ?_) <;> (simp -dsimp; (repeat (simp -dsimp (disch := (first | omega | assumption | (refine Bool.eq_false_iff.1 ?_; assumption))) only [wrap_in, if_pos, if_neg]; (try simp -dsimp))))) | ((first | refine guardP_of (fun hc => ?_) (fun hc => ?_) | refine st_cond rfl (fun hc => ?_) (fun hc => ?_)) <;> (try simp only [decide_eq_true_eq, decide_eq_false_iff_not, Bool.true_eq_false, Bool.false_eq_true, bne_iff_ne, ne_eq, bne_eq_false_iff_eq, beq_iff_eq, beq_eq_false_iff_ne, Bool.not_eq_true, Bool.not_eq_false, Bool.not_eq_eq_eq_not, Bool.not_true, Bool.not_false, Decidable.not_not] at hc) <;> (try (exfalso; first | omega | exact bool_tf hc (by assumption) | exact bool_ft hc (by assumption) | exact absurd (by assumption) hc)) <;> (first | with_reducible show STri _ _ _ _ _ _ | (simp -dsimp [hc]; (repeat (simp -dsimp (disch := (first | omega | assumption | (refine Bool.eq_false_iff.1 ?_; assumption))) only [wrap_in, if_pos, if_neg]; (try simp -dsimp [hc]))))))))
  all_goals exact .refl _

theorem rMod (n b : Int) (h3 : 0 < b) (h4 : b ≤ 1000000000000) : SC Try.prog 60 [I n, I b] (I (n % b)) := by
  refine law_turretref04_Mod _ _ (by simp) ?_
  have hne : ¬ b = 0 := by omega
  obtain ⟨t1, t2⟩ := tmod_lt n b h3
  have h0 := Int.emod_nonneg n hne
  have h1 := Int.emod_lt_of_pos n h3
  have e : n.tmod b = n % b ∨ n.tmod b = n % b - b := by
    rw [Int.tmod_eq_emod]
    split
    · left; omega
    · right; omega
  (repeat' (first | ((first | with_reducible refine st_skip ?_ | with_reducible refine st_exit ?_); (try simp only [seqQ, blockQ, loopQ, forQ, whileQ, reduceIte, Nat.reduceEqDiff])) | (with_reducible refine st_ret ?_; ((try simp only [seqQ, blockQ, loopQ, forQ, whileQ]); first | (with_reducible refine retM_ret ?_) | refine retQ_ret ?_; simp [hne])) | refine st_seq ?_ | refine st_block ?_ | ((first | refine st_reg ?_ | refine buildP_own ?_) <;> (simp -dsimp [hne]; (repeat (simp -dsimp (disch := (first | omega | assumption | (refine Bool.eq_false_iff.1 ?_; assumption))) only [wrap_in, if_pos, if_neg]; (try simp -dsimp [hne]))))) | ((first | refine guardP_of (fun hc => ?_) (fun hc => ?_) | refine st_cond rfl (fun hc => ?_) (fun hc => ?_)) <;> (try simp only [decide_eq_true_eq, decide_eq_false_iff_not, Bool.true_eq_false, Bool.false_eq_true, bne_iff_ne, ne_eq, bne_eq_false_iff_eq, beq_iff_eq, beq_eq_false_iff_ne, Bool.not_eq_true, Bool.not_eq_false, Bool.not_eq_eq_eq_not, Bool.not_true, Bool.not_false, Decidable.not_not] at hc) <;> (try (exfalso; first | omega | exact bool_tf hc (by assumption) | exact bool_ft hc (by assumption) | exact absurd (by assumption) hc)) <;> (first | with_reducible show STri _ _ _ _ _ _ | (simp -dsimp [hne, hc]; (repeat (simp -dsimp (disch := (first | omega | assumption | (refine Bool.eq_false_iff.1 ?_; assumption))) only [wrap_in, if_pos, if_neg]; (try simp -dsimp [hne, hc]))))))))
  all_goals (refine CLe.int ?_; omega)

def refD (ls : List Lk) (k : Nat) : Int := (ls.take k).foldl (fun d l => d * l.num) 1
def refN (ls : List Lk) (k : Nat) : Int := (ls.take k).foldl (stepN (refD ls ls.length)) 0
def ceilI (n d : Int) : Int := if n.tmod d > 0 then n.tdiv d + 1 else n.tdiv d
def refSlackI (ls : List Lk) : Int := ceilI (refN ls ls.length) (refD ls ls.length * 1000)

theorem refD_succ {ls : List Lk} {k : Nat} (hlt : k < ls.length) : refD ls (k + 1) = refD ls k * ls[k].num := by
  unfold refD
  rw [List.take_succ_eq_append_getElem hlt, List.foldl_append]; rfl
theorem refN_succ {ls : List Lk} {k : Nat} (hlt : k < ls.length) : refN ls (k + 1) = stepN (refD ls ls.length) (refN ls k) ls[k] := by
  unfold refN
  rw [List.take_succ_eq_append_getElem hlt, List.foldl_append]; rfl

theorem refD_pow {ls : List Lk} (h : LkTo ls ls.length) : ∀ {k : Nat}, k ≤ ls.length → 1 ≤ refD ls k ∧ refD ls k ≤ 200 ^ k
  | 0, _ => by simp [refD]
  | k + 1, hk => by
    have hlt : k < ls.length := by omega
    obtain ⟨d1, d2⟩ := refD_pow h (k := k) (by omega)
    obtain ⟨_, ⟨h1, h2⟩, _⟩ := lk_spec (h ls[k] (by rw [List.take_length]; exact List.getElem_mem hlt))
    rw [refD_succ hlt, Int.pow_succ]
    refine ⟨?_, Int.mul_le_mul d2 h2 (by omega) (by omega)⟩
    have := Int.mul_le_mul d1 h1 (by omega) (by omega)
    simpa using this

theorem refD_le {ls : List Lk} (h : LkTo ls ls.length) (h4 : ls.length ≤ 4) {k : Nat} (hk : k ≤ ls.length) : 1 ≤ refD ls k ∧ refD ls k ≤ 1600000000 := by
  obtain ⟨h1, h2⟩ := refD_pow h hk
  refine ⟨h1, Int.le_trans h2 ?_⟩
  have : k = 0 ∨ k = 1 ∨ k = 2 ∨ k = 3 ∨ k = 4 := by omega
  rcases this with rfl | rfl | rfl | rfl | rfl <;> decide

theorem refN_le {ls : List Lk} (h : LkTo ls ls.length) (h4 : ls.length ≤ 4) : ∀ {k : Nat}, k ≤ ls.length → 0 ≤ refN ls k ∧ refN ls k ≤ k * 1152000000000000000
  | 0, _ => by simp [refN]
  | k + 1, hk => by
    have hlt : k < ls.length := by omega
    obtain ⟨D1, D2⟩ := refD_le h h4 (Nat.le_refl _)
    obtain ⟨d1, d2⟩ := refN_le h h4 (k := k) (by omega)
    obtain ⟨_, _, _, p1, p2⟩ := part_le D1 D2 (h ls[k] (by rw [List.take_length]; exact List.getElem_mem hlt))
    rw [refN_succ hlt]
    unfold stepN
    generalize ls[k].slack * 3600 * ls[k].den * (refD ls ls.length).tdiv ls[k].num = z at *
    constructor
    · omega
    · push_cast; omega

theorem rSlack' (ls : List Lk) (h4 : ls.length ≤ 4) (h : LkTo ls ls.length) : SC Try.prog 42 [slL ls] (I (refSlackI ls)) := by
  refine law_turretref04_Slack _ _ (by simp) ?_
  obtain ⟨D1, D2⟩ := refD_le h h4 (Nat.le_refl _)
  (repeat' (first | ((first | with_reducible refine st_skip ?_ | with_reducible refine st_exit ?_); (try simp only [seqQ, blockQ, loopQ, forQ, whileQ, reduceIte, Nat.reduceEqDiff])) | (with_reducible refine st_ret ?_; ((try simp only [seqQ, blockQ, loopQ, forQ, whileQ]); first | (with_reducible refine retM_ret ?_) | refine retQ_ret ?_; simp)) | refine st_seq ?_ | refine st_block ?_ | ((first | refine st_reg ?_ | refine buildP_own ?_) <;> (simp -dsimp; (repeat (simp -dsimp (disch := (first | omega | assumption | (refine Bool.eq_false_iff.1 ?_; assumption))) only [wrap_in, if_pos, if_neg]; (try simp -dsimp))))) | ((first | refine guardP_of (fun hc => ?_) (fun hc => ?_) | refine st_cond rfl (fun hc => ?_) (fun hc => ?_)) <;> (try simp only [decide_eq_true_eq, decide_eq_false_iff_not, Bool.true_eq_false, Bool.false_eq_true, bne_iff_ne, ne_eq, bne_eq_false_iff_eq, beq_iff_eq, beq_eq_false_iff_ne, Bool.not_eq_true, Bool.not_eq_false, Bool.not_eq_eq_eq_not, Bool.not_true, Bool.not_false, Decidable.not_not] at hc) <;> (try (exfalso; first | omega | exact bool_tf hc (by assumption) | exact bool_ft hc (by assumption) | exact absurd (by assumption) hc)) <;> (first | with_reducible show STri _ _ _ _ _ _ | (simp -dsimp [hc]; (repeat (simp -dsimp (disch := (first | omega | assumption | (refine Bool.eq_false_iff.1 ?_; assumption))) only [wrap_in, if_pos, if_neg]; (try simp -dsimp [hc]))))))))
  refine st_for [] ls.length (fun k T H => T = [(0, .c (.sl 3 (ls.map rowL))), (3, .c (I (refD ls k))), (4, .c (I 0)), (5, .c (I k))] ∧ H = []) (by simp) ⟨by simp [refD], rfl⟩ ?_
  rintro k T H hk ⟨rfl, rfl⟩
  by_cases hlt : k < ls.length
  · obtain ⟨s1, s2⟩ := refD_le h h4 (show k + 1 ≤ ls.length by omega)
    have hw : IntKind.i64.wrap (refD ls k * ls[k].num) = refD ls (k + 1) := by
      rw [← refD_succ hlt]; exact wrap_in _ (by omega) (by omega)
    (repeat' (first | ((first | with_reducible refine st_skip ?_ | with_reducible refine st_exit ?_); (try simp only [seqQ, blockQ, loopQ, forQ, whileQ, reduceIte, Nat.reduceEqDiff])) | (with_reducible refine st_ret ?_; ((try simp only [seqQ, blockQ, loopQ, forQ, whileQ]); first | (with_reducible refine retM_ret ?_) | refine retQ_ret ?_; simp [hlt, hw])) | refine st_seq ?_ | refine st_block ?_ | ((first | refine st_reg ?_ | refine buildP_own ?_) <;> (simp -dsimp [hlt, hw]; (repeat (simp -dsimp (disch := (first | omega | assumption | (refine Bool.eq_false_iff.1 ?_; assumption))) only [wrap_in, if_pos, if_neg]; (try simp -dsimp [hlt, hw]))))) | ((first | refine guardP_of (fun hc => ?_) (fun hc => ?_) | refine st_cond rfl (fun hc => ?_) (fun hc => ?_)) <;> (try simp only [decide_eq_true_eq, decide_eq_false_iff_not, Bool.true_eq_false, Bool.false_eq_true, bne_iff_ne, ne_eq, bne_eq_false_iff_eq, beq_iff_eq, beq_eq_false_iff_ne, Bool.not_eq_true, Bool.not_eq_false, Bool.not_eq_eq_eq_not, Bool.not_true, Bool.not_false, Decidable.not_not] at hc) <;> (try (exfalso; first | omega | exact bool_tf hc (by assumption) | exact bool_ft hc (by assumption) | exact absurd (by assumption) hc)) <;> (first | with_reducible show STri _ _ _ _ _ _ | (simp -dsimp [hlt, hw, hc]; (repeat (simp -dsimp (disch := (first | omega | assumption | (refine Bool.eq_false_iff.1 ?_; assumption))) only [wrap_in, if_pos, if_neg]; (try simp -dsimp [hlt, hw, hc]))))))))
    exact ⟨hlt, by simp, by simp, rfl⟩
  · have : k = ls.length := by omega
    subst this
    (repeat' (first | ((first | with_reducible refine st_skip ?_ | with_reducible refine st_exit ?_); (try simp only [seqQ, blockQ, loopQ, forQ, whileQ, reduceIte, Nat.reduceEqDiff])) | (with_reducible refine st_ret ?_; ((try simp only [seqQ, blockQ, loopQ, forQ, whileQ]); first | (with_reducible refine retM_ret ?_) | refine retQ_ret ?_; simp)) | refine st_seq ?_ | refine st_block ?_ | ((first | refine st_reg ?_ | refine buildP_own ?_) <;> (simp -dsimp; (repeat (simp -dsimp (disch := (first | omega | assumption | (refine Bool.eq_false_iff.1 ?_; assumption))) only [wrap_in, if_pos, if_neg]; (try simp -dsimp))))) | ((first | refine guardP_of (fun hc => ?_) (fun hc => ?_) | refine st_cond rfl (fun hc => ?_) (fun hc => ?_)) <;> (try simp only [decide_eq_true_eq, decide_eq_false_iff_not, Bool.true_eq_false, Bool.false_eq_true, bne_iff_ne, ne_eq, bne_eq_false_iff_eq, beq_iff_eq, beq_eq_false_iff_ne, Bool.not_eq_true, Bool.not_eq_false, Bool.not_eq_eq_eq_not, Bool.not_true, Bool.not_false, Decidable.not_not] at hc) <;> (try (exfalso; first | omega | exact bool_tf hc (by assumption) | exact bool_ft hc (by assumption) | exact absurd (by assumption) hc)) <;> (first | with_reducible show STri _ _ _ _ _ _ | (simp -dsimp [hc]; (repeat (simp -dsimp (disch := (first | omega | assumption | (refine Bool.eq_false_iff.1 ?_; assumption))) only [wrap_in, if_pos, if_neg]; (try simp -dsimp [hc]))))))))
    refine st_for [] ls.length (fun k T H => T = [(0, .c (.sl 3 (ls.map rowL))), (3, .c (I (refD ls ls.length))), (4, .c (I (refN ls k))), (6, .c (I k))] ∧ H = []) (by simp) ⟨by simp [refN], rfl⟩ ?_
    rintro k T H hk ⟨rfl, rfl⟩
    by_cases hlt : k < ls.length
    · have hv : lkB ls[k] = true := h _ (by rw [List.take_length]; exact List.getElem_mem hlt)
      obtain ⟨_, ⟨n1, n2⟩, _⟩ := lk_spec hv
      obtain ⟨⟨p1, p2⟩, ⟨p3, p4⟩, ⟨p5, p6⟩, p7, p8⟩ := part_le D1 D2 hv
      obtain ⟨m1, m2⟩ := refN_le h h4 hk
      have hm : (k : Int) ≤ 3 := by omega
      have hne : ¬ ls[k].num = 0 := by omega
      have hw1 : IntKind.i64.wrap (ls[k].slack * 3600) = ls[k].slack * 3600 := wrap_in _ (by omega) (by omega)
      have hw2 : IntKind.i64.wrap (ls[k].slack * 3600 * ls[k].den) = ls[k].slack * 3600 * ls[k].den := wrap_in _ (by omega) (by omega)
      have hw3 : IntKind.i64.wrap ((refD ls ls.length).tdiv ls[k].num) = (refD ls ls.length).tdiv ls[k].num := wrap_in _ (by omega) (by omega)
      have hw4 : IntKind.i64.wrap (ls[k].slack * 3600 * ls[k].den * (refD ls ls.length).tdiv ls[k].num) = ls[k].slack * 3600 * ls[k].den * (refD ls ls.length).tdiv ls[k].num := wrap_in _ (by omega) (by omega)
      have hw5 : IntKind.i64.wrap (refN ls k + ls[k].slack * 3600 * ls[k].den * (refD ls ls.length).tdiv ls[k].num) = refN ls (k + 1) := by
        rw [refN_succ hlt]; exact wrap_in _ (by omega) (by omega)
      (repeat' (first | ((first | with_reducible refine st_skip ?_ | with_reducible refine st_exit ?_); (try simp only [seqQ, blockQ, loopQ, forQ, whileQ, reduceIte, Nat.reduceEqDiff])) | (with_reducible refine st_ret ?_; ((try simp only [seqQ, blockQ, loopQ, forQ, whileQ]); first | (with_reducible refine retM_ret ?_) | refine retQ_ret ?_; simp [hlt, hne, hw1, hw2, hw3, hw4, hw5])) | refine st_seq ?_ | refine st_block ?_ | ((first | refine st_reg ?_ | refine buildP_own ?_) <;> (simp -dsimp [hlt, hne, hw1, hw2, hw3, hw4, hw5]; (repeat (simp -dsimp (disch := (first | omega | assumption | (refine Bool.eq_false_iff.1 ?_; assumption))) only [wrap_in, if_pos, if_neg]; (try simp -dsimp [hlt, hne, hw1, hw2, hw3, hw4, hw5]))))) | ((first | refine guardP_of (fun hc => ?_) (fun hc => ?_) | refine st_cond rfl (fun hc => ?_) (fun hc => ?_)) <;> (try simp only [decide_eq_true_eq, decide_eq_false_iff_not, Bool.true_eq_false, Bool.false_eq_true, bne_iff_ne, ne_eq, bne_eq_false_iff_eq, beq_iff_eq, beq_eq_false_iff_ne, Bool.not_eq_true, Bool.not_eq_false, Bool.not_eq_eq_eq_not, Bool.not_true, Bool.not_false, Decidable.not_not] at hc) <;> (try (exfalso; first | omega | exact bool_tf hc (by assumption) | exact bool_ft hc (by assumption) | exact absurd (by assumption) hc)) <;> (first | with_reducible show STri _ _ _ _ _ _ | (simp -dsimp [hlt, hne, hw1, hw2, hw3, hw4, hw5, hc]; (repeat (simp -dsimp (disch := (first | omega | assumption | (refine Bool.eq_false_iff.1 ?_; assumption))) only [wrap_in, if_pos, if_neg]; (try simp -dsimp [hlt, hne, hw1, hw2, hw3, hw4, hw5, hc]))))))))
      exact ⟨hlt, by simp, by simp, rfl⟩
    · have : k = ls.length := by omega
      subst this
      obtain ⟨m1, m2⟩ := refN_le h h4 (Nat.le_refl _)
      have hm : (ls.length : Int) ≤ 4 := by omega
      have hne : ¬ refD ls ls.length * 1000 = 0 := by omega
      have hq := Int.natAbs_tdiv_le_natAbs (refN ls ls.length) (refD ls ls.length * 1000)
      have hw6 : IntKind.i64.wrap ((refN ls ls.length).tdiv (refD ls ls.length * 1000)) = (refN ls ls.length).tdiv (refD ls ls.length * 1000) := wrap_in _ (by omega) (by omega)
      have hw7 : IntKind.i64.wrap ((refN ls ls.length).tdiv (refD ls ls.length * 1000) + 1) = (refN ls ls.length).tdiv (refD ls ls.length * 1000) + 1 := wrap_in _ (by omega) (by omega)
      (repeat' (first | ((first | with_reducible refine st_skip ?_ | with_reducible refine st_exit ?_); (try simp only [seqQ, blockQ, loopQ, forQ, whileQ, reduceIte, Nat.reduceEqDiff])) | (with_reducible refine st_ret ?_; ((try simp only [seqQ, blockQ, loopQ, forQ, whileQ]); first | (with_reducible refine retM_ret ?_) | refine retQ_ret ?_; simp [hne, hw6, hw7])) | refine st_seq ?_ | refine st_block ?_ | ((first | refine st_reg ?_ | refine buildP_own ?_) <;> (simp -dsimp [hne, hw6, hw7]; (repeat (simp -dsimp (disch := (first | omega | assumption | (refine Bool.eq_false_iff.1 ?_; assumption))) only [wrap_in, if_pos, if_neg]; (try simp -dsimp [hne, hw6, hw7]))))) | ((first | refine guardP_of (fun hc => ?_) (fun hc => ?_) | refine st_cond rfl (fun hc => ?_) (fun hc => ?_)) <;> (try simp only [decide_eq_true_eq, decide_eq_false_iff_not, Bool.true_eq_false, Bool.false_eq_true, bne_iff_ne, ne_eq, bne_eq_false_iff_eq, beq_iff_eq, beq_eq_false_iff_ne, Bool.not_eq_true, Bool.not_eq_false, Bool.not_eq_eq_eq_not, Bool.not_true, Bool.not_false, Decidable.not_not] at hc) <;> (try (exfalso; first | omega | exact bool_tf hc (by assumption) | exact bool_ft hc (by assumption) | exact absurd (by assumption) hc)) <;> (first | with_reducible show STri _ _ _ _ _ _ | (simp -dsimp [hne, hw6, hw7, hc]; (repeat (simp -dsimp (disch := (first | omega | assumption | (refine Bool.eq_false_iff.1 ?_; assumption))) only [wrap_in, if_pos, if_neg]; (try simp -dsimp [hne, hw6, hw7, hc]))))))))
      all_goals (refine CLe.int ?_; unfold refSlackI ceilI; split <;> first | rfl | (exfalso; omega))

end Go.Proofs.Ytnfggkopledpcaa
/- Dial's references, II: the slack is the reference's. -/
namespace Go.Proofs.Ytnfggkopledpcaa
open Go.RowKit

theorem den_ref {ls : List Lk} (h : LkTo ls ls.length) (h4 : ls.length ≤ 4) : ∀ {k : Nat}, k ≤ ls.length → (∃ c : Int, 1 ≤ c ∧ refD ls k = denK ls k * c) ∧ ∀ (j : Nat) (hj : j < k) (hj2 : j < ls.length), ls[j].num ∣ denK ls k
  | 0, _ => ⟨⟨1, by omega, by simp [refD, denK]⟩, fun j hj => by omega⟩
  | k + 1, hk => by
    have hlt : k < ls.length := by omega
    obtain ⟨⟨c, c1, c2⟩, hd⟩ := den_ref h h4 (k := k) (by omega)
    obtain ⟨_, ⟨n1, n2⟩, _⟩ := lk_spec (h ls[k] (by rw [List.take_length]; exact List.getElem_mem hlt))
    have hg := gcd_pos' (d := denK ls k) n1
    obtain ⟨q, hq⟩ : (Int.gcd (denK ls k) ls[k].num : Int) ∣ denK ls k := Int.gcd_dvd_left ..
    obtain ⟨r, hr⟩ : (Int.gcd (denK ls k) ls[k].num : Int) ∣ ls[k].num := Int.gcd_dvd_right ..
    have e : (denK ls k).tdiv (Int.gcd (denK ls k) ls[k].num) = q := by
      have : ∀ g x y : Int, 0 < g → x = g * y → x.tdiv g = y := fun g x y h0 h1 => by
        rw [h1]; exact Int.mul_tdiv_cancel_left y (by omega)
      exact this _ _ _ hg hq
    have e2 : denK ls (k + 1) = q * ls[k].num := by rw [denK_succ hlt]; unfold stepD; rw [e]
    refine ⟨⟨Int.gcd (denK ls k) ls[k].num * c, ?_, ?_⟩, fun j hj hj2 => ?_⟩
    · have := Int.mul_le_mul (show (1 : Int) ≤ Int.gcd (denK ls k) ls[k].num by omega) c1 (by omega) (by omega)
      simpa using this
    · rw [refD_succ hlt, c2, e2]
      generalize (Int.gcd (denK ls k) ls[k].num : Int) = g at *
      conv => lhs; rw [hq]
      simp only [Int.mul_assoc, Int.mul_comm, Int.mul_left_comm]
    · rw [e2]
      by_cases hjk : j = k
      · subst hjk; exact Int.dvd_mul_left _ _
      · have h1 := hd j (by omega) hj2
        have h2 : denK ls k ∣ q * ls[k].num := ⟨r, by
          generalize (Int.gcd (denK ls k) ls[k].num : Int) = g at *
          rw [hr, hq]
          simp only [Int.mul_assoc, Int.mul_comm, Int.mul_left_comm]⟩
        exact Int.dvd_trans h1 h2

theorem num_ref {ls : List Lk} (h : LkTo ls ls.length) (h4 : ls.length ≤ 4) {c : Int} (hc : refD ls ls.length = denK ls ls.length * c) (hd : ∀ (j : Nat) (hj : j < ls.length) (hj2 : j < ls.length), ls[j].num ∣ denK ls ls.length) : ∀ {k : Nat}, k ≤ ls.length → refN ls k = c * numK ls k
  | 0, _ => by simp [refN, numK]
  | k + 1, hk => by
    have hlt : k < ls.length := by omega
    have ih := num_ref h h4 hc hd (k := k) (by omega)
    obtain ⟨_, ⟨n1, n2⟩, _⟩ := lk_spec (h ls[k] (by rw [List.take_length]; exact List.getElem_mem hlt))
    obtain ⟨r, hr⟩ := hd k hlt hlt
    have e1 : (denK ls ls.length).tdiv ls[k].num = r := by rw [hr]; exact Int.mul_tdiv_cancel_left r (by omega)
    have e2 : (refD ls ls.length).tdiv ls[k].num = r * c := by rw [hc, hr, Int.mul_assoc]; exact Int.mul_tdiv_cancel_left (r * c) (by omega)
    rw [refN_succ hlt, numK_succ hlt, ih]
    unfold stepN
    rw [e1, e2, Int.mul_add]
    congr 1
    simp only [Int.mul_assoc, Int.mul_comm, Int.mul_left_comm]

theorem ceil_eq {n M c : Int} (hn : 0 ≤ n) (hM : 1 ≤ M) (hc : 1 ≤ c) : ceilI (c * n) (c * M) = overI n M := by
  have hcn : 0 ≤ c * n := Int.mul_nonneg (by omega) hn
  have hr0 := Int.emod_nonneg n (show M ≠ 0 by omega)
  have hr1 := Int.emod_lt_of_pos n (show 0 < M by omega)
  have hdm := Int.emod_add_mul_ediv n M
  have em : (c * n).tmod (c * M) = c * (n % M) := by
    rw [Int.tmod_eq_emod_of_nonneg hcn, Int.mul_emod_mul_of_pos _ _ (by omega)]
  have ed : (c * n).tdiv (c * M) = n / M := by
    rw [Int.tdiv_eq_ediv_of_nonneg hcn, Int.mul_ediv_mul_of_pos _ _ (by omega)]
  unfold ceilI overI
  rw [em, ed, Int.tdiv_eq_ediv_of_nonneg (by omega)]
  by_cases h0 : n % M = 0
  · rw [h0, Int.mul_zero, if_neg (by omega)]
    have e : n + M - 1 = (M - 1) + (n / M) * M := by rw [Int.mul_comm]; omega
    rw [e, Int.add_mul_ediv_right _ _ (by omega), Int.ediv_eq_zero_of_lt (a := M - 1) (b := M) (by omega) (by omega)]; omega
  · have hp : 0 < c * (n % M) := Int.mul_pos (by omega) (by omega)
    rw [if_pos hp]
    have e : n + M - 1 = (n % M - 1) + (n / M + 1) * M := by rw [Int.add_mul, Int.mul_comm (n / M)]; omega
    rw [e, Int.add_mul_ediv_right _ _ (by omega), Int.ediv_eq_zero_of_lt (a := n % M - 1) (b := M) (by omega) (by omega)]; omega

theorem slack_ref {ls : List Lk} (h : LkTo ls ls.length) (h4 : ls.length ≤ 4) : refSlackI ls = slackI ls := by
  obtain ⟨⟨c, c1, c2⟩, hd⟩ := den_ref h h4 (Nat.le_refl _)
  obtain ⟨D1, D2⟩ := den_le h4 (Nat.le_refl _) h
  obtain ⟨m1, _⟩ := numK_le h D1 D2 (Nat.le_refl _)
  unfold refSlackI slackI
  rw [num_ref h h4 c2 (fun j hj hj2 => hd j hj hj2) (Nat.le_refl _), c2, ← ceil_eq m1 (by omega) c1]
  congr 1
  rw [Int.mul_comm (denK ls ls.length) c, Int.mul_assoc, Int.mul_comm (denK ls ls.length)]

end Go.Proofs.Ytnfggkopledpcaa
/- Dial's references, III: faces, works. -/
namespace Go.Proofs.Ytnfggkopledpcaa
open Go.RowKit

theorem not_allLk {ls : List Lk} {k : Nat} (hlt : k < ls.length) (h : lkB ls[k] = false) : ls.all lkB = false := by
  rw [Bool.eq_false_iff]
  intro h2
  rw [List.all_eq_true] at h2
  rw [h2 _ (List.getElem_mem hlt)] at h; cases h

theorem fc_no {f : Fc} (h : fcB f = false) : CLe (B false) (B (fcOK f)) := CLe.bool (by simp [fcOK, h])

theorem rFace (f : Fc) (hl : f.links.length ≤ 1000000) : SC Try.prog 41 [cF f] (B (fcOK f)) := by
  refine law_turretref04_Face _ _ (by simp) ?_
  by_cases hsp : spanB (-3600) 3600 f.lo f.hi = true
  · by_cases h4 : f.links.length ≤ 4
    · have h4' : ¬ (f.links.length : Int) > 4 := by omega
      by_cases hw : inB (-10000) 10000 f.weight = true
      · by_cases hf : inB 0 10000 f.friction = true
        · (repeat' (first | ((first | with_reducible refine st_skip ?_ | with_reducible refine st_exit ?_); (try simp only [seqQ, blockQ, loopQ, forQ, whileQ, reduceIte, Nat.reduceEqDiff])) | (with_reducible refine st_ret ?_; ((try simp only [seqQ, blockQ, loopQ, forQ, whileQ]); first | (with_reducible refine retM_ret ?_) | refine retQ_ret ?_; simp [hsp, h4', hw, hf])) | refine st_seq ?_ | refine st_block ?_ | ((first | refine st_reg ?_ | refine buildP_own ?_ | refine callP_b (rSpan f.lo f.hi (-3600) 3600) rfl ?_ | refine callP_b (rIn f.weight (-10000) 10000) rfl ?_ | refine callP_b (rIn f.friction 0 10000) rfl ?_) <;> (simp -dsimp [hsp, h4', hw, hf]; (repeat (simp -dsimp (disch := (first | omega | assumption | (refine Bool.eq_false_iff.1 ?_; assumption))) only [wrap_in, if_pos, if_neg]; (try simp -dsimp [hsp, h4', hw, hf]))))) | ((first | refine guardP_of (fun hc => ?_) (fun hc => ?_) | refine st_cond rfl (fun hc => ?_) (fun hc => ?_)) <;> (try simp only [decide_eq_true_eq, decide_eq_false_iff_not, Bool.true_eq_false, Bool.false_eq_true, bne_iff_ne, ne_eq, bne_eq_false_iff_eq, beq_iff_eq, beq_eq_false_iff_ne, Bool.not_eq_true, Bool.not_eq_false, Bool.not_eq_eq_eq_not, Bool.not_true, Bool.not_false, Decidable.not_not] at hc) <;> (try (exfalso; first | omega | exact bool_tf hc (by assumption) | exact bool_ft hc (by assumption) | exact absurd (by assumption) hc)) <;> (first | with_reducible show STri _ _ _ _ _ _ | (simp -dsimp [hsp, h4', hw, hf, hc]; (repeat (simp -dsimp (disch := (first | omega | assumption | (refine Bool.eq_false_iff.1 ?_; assumption))) only [wrap_in, if_pos, if_neg]; (try simp -dsimp [hsp, h4', hw, hf, hc]))))))))
          refine st_for [1] f.links.length (fun k T H => LkTo f.links k ∧ T = [(1, .ptr 1 0), (3, .c (I k))] ∧ H = [(1, .box 80 [.c (I f.lo), .c (I f.hi), .c (.sl 3 (f.links.map rowL)), .c (I f.weight), .c (I f.friction)])]) (by simp) ⟨by simp [LkTo], by simp, by simp⟩ ?_
          rintro k T H hk ⟨ht, rfl, rfl⟩
          by_cases hlt : k < f.links.length
          · by_cases v1 : inB 0 1000 f.links[k].slack = true
            · by_cases v2 : inB 1 200 f.links[k].num = true
              · by_cases v3 : inB 1 200 f.links[k].den = true
                · (repeat' (first | ((first | with_reducible refine st_skip ?_ | with_reducible refine st_exit ?_); (try simp only [seqQ, blockQ, loopQ, forQ, whileQ, reduceIte, Nat.reduceEqDiff])) | (with_reducible refine st_ret ?_; ((try simp only [seqQ, blockQ, loopQ, forQ, whileQ]); first | (with_reducible refine retM_ret ?_) | refine retQ_ret ?_; simp [hlt, v1, v2, v3])) | refine st_seq ?_ | refine st_block ?_ | ((first | refine st_reg ?_ | refine buildP_own ?_ | refine callP_b (rIn f.links[k].slack 0 1000) rfl ?_ | refine callP_b (rIn f.links[k].num 1 200) rfl ?_ | refine callP_b (rIn f.links[k].den 1 200) rfl ?_) <;> (simp -dsimp [hlt, v1, v2, v3]; (repeat (simp -dsimp (disch := (first | omega | assumption | (refine Bool.eq_false_iff.1 ?_; assumption))) only [wrap_in, if_pos, if_neg]; (try simp -dsimp [hlt, v1, v2, v3]))))) | ((first | refine guardP_of (fun hc => ?_) (fun hc => ?_) | refine st_cond rfl (fun hc => ?_) (fun hc => ?_)) <;> (try simp only [decide_eq_true_eq, decide_eq_false_iff_not, Bool.true_eq_false, Bool.false_eq_true, bne_iff_ne, ne_eq, bne_eq_false_iff_eq, beq_iff_eq, beq_eq_false_iff_ne, Bool.not_eq_true, Bool.not_eq_false, Bool.not_eq_eq_eq_not, Bool.not_true, Bool.not_false, Decidable.not_not] at hc) <;> (try (exfalso; first | omega | exact bool_tf hc (by assumption) | exact bool_ft hc (by assumption) | exact absurd (by assumption) hc)) <;> (first | with_reducible show STri _ _ _ _ _ _ | (simp -dsimp [hlt, v1, v2, v3, hc]; (repeat (simp -dsimp (disch := (first | omega | assumption | (refine Bool.eq_false_iff.1 ?_; assumption))) only [wrap_in, if_pos, if_neg]; (try simp -dsimp [hlt, v1, v2, v3, hc]))))))))
                  exact ⟨hlt, by simp, lk_succ hlt ht (by simp [lkB, v1, v2, v3]), by simp, by simp⟩
                · (repeat' (first | ((first | with_reducible refine st_skip ?_ | with_reducible refine st_exit ?_); (try simp only [seqQ, blockQ, loopQ, forQ, whileQ, reduceIte, Nat.reduceEqDiff])) | (with_reducible refine st_ret ?_; ((try simp only [seqQ, blockQ, loopQ, forQ, whileQ]); first | (with_reducible refine retM_ret ?_) | refine retQ_ret ?_; simp [hlt, v1, v2, v3])) | refine st_seq ?_ | refine st_block ?_ | ((first | refine st_reg ?_ | refine buildP_own ?_ | refine callP_b (rIn f.links[k].slack 0 1000) rfl ?_ | refine callP_b (rIn f.links[k].num 1 200) rfl ?_ | refine callP_b (rIn f.links[k].den 1 200) rfl ?_) <;> (simp -dsimp [hlt, v1, v2, v3]; (repeat (simp -dsimp (disch := (first | omega | assumption | (refine Bool.eq_false_iff.1 ?_; assumption))) only [wrap_in, if_pos, if_neg]; (try simp -dsimp [hlt, v1, v2, v3]))))) | ((first | refine guardP_of (fun hc => ?_) (fun hc => ?_) | refine st_cond rfl (fun hc => ?_) (fun hc => ?_)) <;> (try simp only [decide_eq_true_eq, decide_eq_false_iff_not, Bool.true_eq_false, Bool.false_eq_true, bne_iff_ne, ne_eq, bne_eq_false_iff_eq, beq_iff_eq, beq_eq_false_iff_ne, Bool.not_eq_true, Bool.not_eq_false, Bool.not_eq_eq_eq_not, Bool.not_true, Bool.not_false, Decidable.not_not] at hc) <;> (try (exfalso; first | omega | exact bool_tf hc (by assumption) | exact bool_ft hc (by assumption) | exact absurd (by assumption) hc)) <;> (first | with_reducible show STri _ _ _ _ _ _ | (simp -dsimp [hlt, v1, v2, v3, hc]; (repeat (simp -dsimp (disch := (first | omega | assumption | (refine Bool.eq_false_iff.1 ?_; assumption))) only [wrap_in, if_pos, if_neg]; (try simp -dsimp [hlt, v1, v2, v3, hc]))))))))
                  all_goals exact fc_no (by have := not_allLk hlt (show lkB f.links[k] = false by simp [lkB, v3]); simp [fcB, this])
              · (repeat' (first | ((first | with_reducible refine st_skip ?_ | with_reducible refine st_exit ?_); (try simp only [seqQ, blockQ, loopQ, forQ, whileQ, reduceIte, Nat.reduceEqDiff])) | (with_reducible refine st_ret ?_; ((try simp only [seqQ, blockQ, loopQ, forQ, whileQ]); first | (with_reducible refine retM_ret ?_) | refine retQ_ret ?_; simp [hlt, v1, v2])) | refine st_seq ?_ | refine st_block ?_ | ((first | refine st_reg ?_ | refine buildP_own ?_ | refine callP_b (rIn f.links[k].slack 0 1000) rfl ?_ | refine callP_b (rIn f.links[k].num 1 200) rfl ?_) <;> (simp -dsimp [hlt, v1, v2]; (repeat (simp -dsimp (disch := (first | omega | assumption | (refine Bool.eq_false_iff.1 ?_; assumption))) only [wrap_in, if_pos, if_neg]; (try simp -dsimp [hlt, v1, v2]))))) | ((first | refine guardP_of (fun hc => ?_) (fun hc => ?_) | refine st_cond rfl (fun hc => ?_) (fun hc => ?_)) <;> (try simp only [decide_eq_true_eq, decide_eq_false_iff_not, Bool.true_eq_false, Bool.false_eq_true, bne_iff_ne, ne_eq, bne_eq_false_iff_eq, beq_iff_eq, beq_eq_false_iff_ne, Bool.not_eq_true, Bool.not_eq_false, Bool.not_eq_eq_eq_not, Bool.not_true, Bool.not_false, Decidable.not_not] at hc) <;> (try (exfalso; first | omega | exact bool_tf hc (by assumption) | exact bool_ft hc (by assumption) | exact absurd (by assumption) hc)) <;> (first | with_reducible show STri _ _ _ _ _ _ | (simp -dsimp [hlt, v1, v2, hc]; (repeat (simp -dsimp (disch := (first | omega | assumption | (refine Bool.eq_false_iff.1 ?_; assumption))) only [wrap_in, if_pos, if_neg]; (try simp -dsimp [hlt, v1, v2, hc]))))))))
                all_goals exact fc_no (by have := not_allLk hlt (show lkB f.links[k] = false by simp [lkB, v2]); simp [fcB, this])
            · (repeat' (first | ((first | with_reducible refine st_skip ?_ | with_reducible refine st_exit ?_); (try simp only [seqQ, blockQ, loopQ, forQ, whileQ, reduceIte, Nat.reduceEqDiff])) | (with_reducible refine st_ret ?_; ((try simp only [seqQ, blockQ, loopQ, forQ, whileQ]); first | (with_reducible refine retM_ret ?_) | refine retQ_ret ?_; simp [hlt, v1])) | refine st_seq ?_ | refine st_block ?_ | ((first | refine st_reg ?_ | refine buildP_own ?_ | refine callP_b (rIn f.links[k].slack 0 1000) rfl ?_) <;> (simp -dsimp [hlt, v1]; (repeat (simp -dsimp (disch := (first | omega | assumption | (refine Bool.eq_false_iff.1 ?_; assumption))) only [wrap_in, if_pos, if_neg]; (try simp -dsimp [hlt, v1]))))) | ((first | refine guardP_of (fun hc => ?_) (fun hc => ?_) | refine st_cond rfl (fun hc => ?_) (fun hc => ?_)) <;> (try simp only [decide_eq_true_eq, decide_eq_false_iff_not, Bool.true_eq_false, Bool.false_eq_true, bne_iff_ne, ne_eq, bne_eq_false_iff_eq, beq_iff_eq, beq_eq_false_iff_ne, Bool.not_eq_true, Bool.not_eq_false, Bool.not_eq_eq_eq_not, Bool.not_true, Bool.not_false, Decidable.not_not] at hc) <;> (try (exfalso; first | omega | exact bool_tf hc (by assumption) | exact bool_ft hc (by assumption) | exact absurd (by assumption) hc)) <;> (first | with_reducible show STri _ _ _ _ _ _ | (simp -dsimp [hlt, v1, hc]; (repeat (simp -dsimp (disch := (first | omega | assumption | (refine Bool.eq_false_iff.1 ?_; assumption))) only [wrap_in, if_pos, if_neg]; (try simp -dsimp [hlt, v1, hc]))))))))
              all_goals exact fc_no (by have := not_allLk hlt (show lkB f.links[k] = false by simp [lkB, v1]); simp [fcB, this])
          · have : k = f.links.length := by omega
            subst this
            have sr := rSlack' f.links h4 ht
            rw [slack_ref ht h4] at sr
            (repeat' (first | ((first | with_reducible refine st_skip ?_ | with_reducible refine st_exit ?_); (try simp only [seqQ, blockQ, loopQ, forQ, whileQ, reduceIte, Nat.reduceEqDiff])) | (with_reducible refine st_ret ?_; ((try simp only [seqQ, blockQ, loopQ, forQ, whileQ]); first | (with_reducible refine retM_ret ?_) | refine retQ_ret ?_; simp [hlt])) | refine st_seq ?_ | refine st_block ?_ | ((first | refine st_reg ?_ | refine buildP_own ?_ | refine callP_b (sr) rfl ?_) <;> (simp -dsimp [hlt]; (repeat (simp -dsimp (disch := (first | omega | assumption | (refine Bool.eq_false_iff.1 ?_; assumption))) only [wrap_in, if_pos, if_neg]; (try simp -dsimp [hlt]))))) | ((first | refine guardP_of (fun hc => ?_) (fun hc => ?_) | refine st_cond rfl (fun hc => ?_) (fun hc => ?_)) <;> (try simp only [decide_eq_true_eq, decide_eq_false_iff_not, Bool.true_eq_false, Bool.false_eq_true, bne_iff_ne, ne_eq, bne_eq_false_iff_eq, beq_iff_eq, beq_eq_false_iff_ne, Bool.not_eq_true, Bool.not_eq_false, Bool.not_eq_eq_eq_not, Bool.not_true, Bool.not_false, Decidable.not_not] at hc) <;> (try (exfalso; first | omega | exact bool_tf hc (by assumption) | exact bool_ft hc (by assumption) | exact absurd (by assumption) hc)) <;> (first | with_reducible show STri _ _ _ _ _ _ | (simp -dsimp [hlt, hc]; (repeat (simp -dsimp (disch := (first | omega | assumption | (refine Bool.eq_false_iff.1 ?_; assumption))) only [wrap_in, if_pos, if_neg]; (try simp -dsimp [hlt, hc]))))))))
            all_goals (refine CLe.bool ?_; simp [fcOK, fcB, hsp, h4, hw, hf, lkto_all ht])
        · (repeat' (first | ((first | with_reducible refine st_skip ?_ | with_reducible refine st_exit ?_); (try simp only [seqQ, blockQ, loopQ, forQ, whileQ, reduceIte, Nat.reduceEqDiff])) | (with_reducible refine st_ret ?_; ((try simp only [seqQ, blockQ, loopQ, forQ, whileQ]); first | (with_reducible refine retM_ret ?_) | refine retQ_ret ?_; simp [hsp, h4', hw, hf])) | refine st_seq ?_ | refine st_block ?_ | ((first | refine st_reg ?_ | refine buildP_own ?_ | refine callP_b (rSpan f.lo f.hi (-3600) 3600) rfl ?_ | refine callP_b (rIn f.weight (-10000) 10000) rfl ?_ | refine callP_b (rIn f.friction 0 10000) rfl ?_) <;> (simp -dsimp [hsp, h4', hw, hf]; (repeat (simp -dsimp (disch := (first | omega | assumption | (refine Bool.eq_false_iff.1 ?_; assumption))) only [wrap_in, if_pos, if_neg]; (try simp -dsimp [hsp, h4', hw, hf]))))) | ((first | refine guardP_of (fun hc => ?_) (fun hc => ?_) | refine st_cond rfl (fun hc => ?_) (fun hc => ?_)) <;> (try simp only [decide_eq_true_eq, decide_eq_false_iff_not, Bool.true_eq_false, Bool.false_eq_true, bne_iff_ne, ne_eq, bne_eq_false_iff_eq, beq_iff_eq, beq_eq_false_iff_ne, Bool.not_eq_true, Bool.not_eq_false, Bool.not_eq_eq_eq_not, Bool.not_true, Bool.not_false, Decidable.not_not] at hc) <;> (try (exfalso; first | omega | exact bool_tf hc (by assumption) | exact bool_ft hc (by assumption) | exact absurd (by assumption) hc)) <;> (first | with_reducible show STri _ _ _ _ _ _ | (simp -dsimp [hsp, h4', hw, hf, hc]; (repeat (simp -dsimp (disch := (first | omega | assumption | (refine Bool.eq_false_iff.1 ?_; assumption))) only [wrap_in, if_pos, if_neg]; (try simp -dsimp [hsp, h4', hw, hf, hc]))))))))
          all_goals exact fc_no (by simp [fcB, hf])
      · (repeat' (first | ((first | with_reducible refine st_skip ?_ | with_reducible refine st_exit ?_); (try simp only [seqQ, blockQ, loopQ, forQ, whileQ, reduceIte, Nat.reduceEqDiff])) | (with_reducible refine st_ret ?_; ((try simp only [seqQ, blockQ, loopQ, forQ, whileQ]); first | (with_reducible refine retM_ret ?_) | refine retQ_ret ?_; simp [hsp, h4', hw])) | refine st_seq ?_ | refine st_block ?_ | ((first | refine st_reg ?_ | refine buildP_own ?_ | refine callP_b (rSpan f.lo f.hi (-3600) 3600) rfl ?_ | refine callP_b (rIn f.weight (-10000) 10000) rfl ?_) <;> (simp -dsimp [hsp, h4', hw]; (repeat (simp -dsimp (disch := (first | omega | assumption | (refine Bool.eq_false_iff.1 ?_; assumption))) only [wrap_in, if_pos, if_neg]; (try simp -dsimp [hsp, h4', hw]))))) | ((first | refine guardP_of (fun hc => ?_) (fun hc => ?_) | refine st_cond rfl (fun hc => ?_) (fun hc => ?_)) <;> (try simp only [decide_eq_true_eq, decide_eq_false_iff_not, Bool.true_eq_false, Bool.false_eq_true, bne_iff_ne, ne_eq, bne_eq_false_iff_eq, beq_iff_eq, beq_eq_false_iff_ne, Bool.not_eq_true, Bool.not_eq_false, Bool.not_eq_eq_eq_not, Bool.not_true, Bool.not_false, Decidable.not_not] at hc) <;> (try (exfalso; first | omega | exact bool_tf hc (by assumption) | exact bool_ft hc (by assumption) | exact absurd (by assumption) hc)) <;> (first | with_reducible show STri _ _ _ _ _ _ | (simp -dsimp [hsp, h4', hw, hc]; (repeat (simp -dsimp (disch := (first | omega | assumption | (refine Bool.eq_false_iff.1 ?_; assumption))) only [wrap_in, if_pos, if_neg]; (try simp -dsimp [hsp, h4', hw, hc]))))))))
        all_goals exact fc_no (by simp [fcB, hw])
    · have h4' : (f.links.length : Int) > 4 := by omega
      (repeat' (first | ((first | with_reducible refine st_skip ?_ | with_reducible refine st_exit ?_); (try simp only [seqQ, blockQ, loopQ, forQ, whileQ, reduceIte, Nat.reduceEqDiff])) | (with_reducible refine st_ret ?_; ((try simp only [seqQ, blockQ, loopQ, forQ, whileQ]); first | (with_reducible refine retM_ret ?_) | refine retQ_ret ?_; simp [hsp, h4'])) | refine st_seq ?_ | refine st_block ?_ | ((first | refine st_reg ?_ | refine buildP_own ?_ | refine callP_b (rSpan f.lo f.hi (-3600) 3600) rfl ?_) <;> (simp -dsimp [hsp, h4']; (repeat (simp -dsimp (disch := (first | omega | assumption | (refine Bool.eq_false_iff.1 ?_; assumption))) only [wrap_in, if_pos, if_neg]; (try simp -dsimp [hsp, h4']))))) | ((first | refine guardP_of (fun hc => ?_) (fun hc => ?_) | refine st_cond rfl (fun hc => ?_) (fun hc => ?_)) <;> (try simp only [decide_eq_true_eq, decide_eq_false_iff_not, Bool.true_eq_false, Bool.false_eq_true, bne_iff_ne, ne_eq, bne_eq_false_iff_eq, beq_iff_eq, beq_eq_false_iff_ne, Bool.not_eq_true, Bool.not_eq_false, Bool.not_eq_eq_eq_not, Bool.not_true, Bool.not_false, Decidable.not_not] at hc) <;> (try (exfalso; first | omega | exact bool_tf hc (by assumption) | exact bool_ft hc (by assumption) | exact absurd (by assumption) hc)) <;> (first | with_reducible show STri _ _ _ _ _ _ | (simp -dsimp [hsp, h4', hc]; (repeat (simp -dsimp (disch := (first | omega | assumption | (refine Bool.eq_false_iff.1 ?_; assumption))) only [wrap_in, if_pos, if_neg]; (try simp -dsimp [hsp, h4', hc]))))))))
      all_goals exact fc_no (by simp [fcB, h4])
  · (repeat' (first | ((first | with_reducible refine st_skip ?_ | with_reducible refine st_exit ?_); (try simp only [seqQ, blockQ, loopQ, forQ, whileQ, reduceIte, Nat.reduceEqDiff])) | (with_reducible refine st_ret ?_; ((try simp only [seqQ, blockQ, loopQ, forQ, whileQ]); first | (with_reducible refine retM_ret ?_) | refine retQ_ret ?_; simp [hsp])) | refine st_seq ?_ | refine st_block ?_ | ((first | refine st_reg ?_ | refine buildP_own ?_ | refine callP_b (rSpan f.lo f.hi (-3600) 3600) rfl ?_) <;> (simp -dsimp [hsp]; (repeat (simp -dsimp (disch := (first | omega | assumption | (refine Bool.eq_false_iff.1 ?_; assumption))) only [wrap_in, if_pos, if_neg]; (try simp -dsimp [hsp]))))) | ((first | refine guardP_of (fun hc => ?_) (fun hc => ?_) | refine st_cond rfl (fun hc => ?_) (fun hc => ?_)) <;> (try simp only [decide_eq_true_eq, decide_eq_false_iff_not, Bool.true_eq_false, Bool.false_eq_true, bne_iff_ne, ne_eq, bne_eq_false_iff_eq, beq_iff_eq, beq_eq_false_iff_ne, Bool.not_eq_true, Bool.not_eq_false, Bool.not_eq_eq_eq_not, Bool.not_true, Bool.not_false, Decidable.not_not] at hc) <;> (try (exfalso; first | omega | exact bool_tf hc (by assumption) | exact bool_ft hc (by assumption) | exact absurd (by assumption) hc)) <;> (first | with_reducible show STri _ _ _ _ _ _ | (simp -dsimp [hsp, hc]; (repeat (simp -dsimp (disch := (first | omega | assumption | (refine Bool.eq_false_iff.1 ?_; assumption))) only [wrap_in, if_pos, if_neg]; (try simp -dsimp [hsp, hc]))))))))
    all_goals exact fc_no (by simp [fcB, hsp])

theorem rWorks' (w : Dw) (hw : DwLen w) : SC Try.prog 40 [cDw w] (B (dwB w)) := by
  refine law_turretref04_Works _ _ (by simp) ?_
  have hn := hw.n
  (repeat' (first | ((first | with_reducible refine st_skip ?_ | with_reducible refine st_exit ?_); (try simp only [seqQ, blockQ, loopQ, forQ, whileQ, reduceIte, Nat.reduceEqDiff])) | (with_reducible refine st_ret ?_; ((try simp only [seqQ, blockQ, loopQ, forQ, whileQ]); first | (with_reducible refine retM_ret ?_) | refine retQ_ret ?_; simp)) | refine st_seq ?_ | refine st_block ?_ | ((first | refine st_reg ?_ | refine buildP_own ?_) <;> (simp -dsimp; (repeat (simp -dsimp (disch := (first | omega | assumption | (refine Bool.eq_false_iff.1 ?_; assumption))) only [wrap_in, if_pos, if_neg]; (try simp -dsimp))))) | ((first | refine guardP_of (fun hc => ?_) (fun hc => ?_) | refine st_cond rfl (fun hc => ?_) (fun hc => ?_)) <;> (try simp only [decide_eq_true_eq, decide_eq_false_iff_not, Bool.true_eq_false, Bool.false_eq_true, bne_iff_ne, ne_eq, bne_eq_false_iff_eq, beq_iff_eq, beq_eq_false_iff_ne, Bool.not_eq_true, Bool.not_eq_false, Bool.not_eq_eq_eq_not, Bool.not_true, Bool.not_false, Decidable.not_not] at hc) <;> (try (exfalso; first | omega | exact bool_tf hc (by assumption) | exact bool_ft hc (by assumption) | exact absurd (by assumption) hc)) <;> (first | with_reducible show STri _ _ _ _ _ _ | (simp -dsimp [hc]; (repeat (simp -dsimp (disch := (first | omega | assumption | (refine Bool.eq_false_iff.1 ?_; assumption))) only [wrap_in, if_pos, if_neg]; (try simp -dsimp [hc]))))))))
  refine st_for [1] w.faces.length (fun k T H => FcTo w.faces k ∧ T = [(1, .ptr 1 0), (3, .c (I k))] ∧ H = [(1, .box 26 [.c (I w.jump), .c (I w.elo), .c (I w.ehi), .c (slF w.faces)])]) (by simp) ⟨by simp [FcTo], by simp, by simp⟩ ?_
  rintro k T H hk ⟨ht, rfl, rfl⟩
  by_cases hlt : k < w.faces.length
  · have hll := hw.l w.faces[k] (List.getElem_mem hlt)
    by_cases hv : fcOK w.faces[k] = true
    · (repeat' (first | ((first | with_reducible refine st_skip ?_ | with_reducible refine st_exit ?_); (try simp only [seqQ, blockQ, loopQ, forQ, whileQ, reduceIte, Nat.reduceEqDiff])) | (with_reducible refine st_ret ?_; ((try simp only [seqQ, blockQ, loopQ, forQ, whileQ]); first | (with_reducible refine retM_ret ?_) | refine retQ_ret ?_; simp [hlt, hv])) | refine st_seq ?_ | refine st_block ?_ | ((first | refine st_reg ?_ | refine buildP_own ?_ | refine callP_b (rFace w.faces[k] hll) rfl ?_) <;> (simp -dsimp [hlt, hv]; (repeat (simp -dsimp (disch := (first | omega | assumption | (refine Bool.eq_false_iff.1 ?_; assumption))) only [wrap_in, if_pos, if_neg]; (try simp -dsimp [hlt, hv]))))) | ((first | refine guardP_of (fun hc => ?_) (fun hc => ?_) | refine st_cond rfl (fun hc => ?_) (fun hc => ?_)) <;> (try simp only [decide_eq_true_eq, decide_eq_false_iff_not, Bool.true_eq_false, Bool.false_eq_true, bne_iff_ne, ne_eq, bne_eq_false_iff_eq, beq_iff_eq, beq_eq_false_iff_ne, Bool.not_eq_true, Bool.not_eq_false, Bool.not_eq_eq_eq_not, Bool.not_true, Bool.not_false, Decidable.not_not] at hc) <;> (try (exfalso; first | omega | exact bool_tf hc (by assumption) | exact bool_ft hc (by assumption) | exact absurd (by assumption) hc)) <;> (first | with_reducible show STri _ _ _ _ _ _ | (simp -dsimp [hlt, hv, hc]; (repeat (simp -dsimp (disch := (first | omega | assumption | (refine Bool.eq_false_iff.1 ?_; assumption))) only [wrap_in, if_pos, if_neg]; (try simp -dsimp [hlt, hv, hc]))))))))
      exact ⟨hlt, by simp, fc_succ hlt ht hv, by simp, by simp⟩
    · (repeat' (first | ((first | with_reducible refine st_skip ?_ | with_reducible refine st_exit ?_); (try simp only [seqQ, blockQ, loopQ, forQ, whileQ, reduceIte, Nat.reduceEqDiff])) | (with_reducible refine st_ret ?_; ((try simp only [seqQ, blockQ, loopQ, forQ, whileQ]); first | (with_reducible refine retM_ret ?_) | refine retQ_ret ?_; simp [hlt, hv])) | refine st_seq ?_ | refine st_block ?_ | ((first | refine st_reg ?_ | refine buildP_own ?_ | refine callP_b (rFace w.faces[k] hll) rfl ?_) <;> (simp -dsimp [hlt, hv]; (repeat (simp -dsimp (disch := (first | omega | assumption | (refine Bool.eq_false_iff.1 ?_; assumption))) only [wrap_in, if_pos, if_neg]; (try simp -dsimp [hlt, hv]))))) | ((first | refine guardP_of (fun hc => ?_) (fun hc => ?_) | refine st_cond rfl (fun hc => ?_) (fun hc => ?_)) <;> (try simp only [decide_eq_true_eq, decide_eq_false_iff_not, Bool.true_eq_false, Bool.false_eq_true, bne_iff_ne, ne_eq, bne_eq_false_iff_eq, beq_iff_eq, beq_eq_false_iff_ne, Bool.not_eq_true, Bool.not_eq_false, Bool.not_eq_eq_eq_not, Bool.not_true, Bool.not_false, Decidable.not_not] at hc) <;> (try (exfalso; first | omega | exact bool_tf hc (by assumption) | exact bool_ft hc (by assumption) | exact absurd (by assumption) hc)) <;> (first | with_reducible show STri _ _ _ _ _ _ | (simp -dsimp [hlt, hv, hc]; (repeat (simp -dsimp (disch := (first | omega | assumption | (refine Bool.eq_false_iff.1 ?_; assumption))) only [wrap_in, if_pos, if_neg]; (try simp -dsimp [hlt, hv, hc]))))))))
      all_goals (refine CLe.bool ?_; have := not_allOK hlt (by simpa using hv); simp [dwB, this])
  · have : k = w.faces.length := by omega
    subst this
    have hall : w.faces.all fcOK = true := by
      rw [List.all_eq_true]
      intro x hx
      exact ht x (by rw [List.take_length]; exact hx)
    by_cases hj : inB 1 3600 w.jump = true
    · have hj2 := hj
      simp only [inB, Bool.and_eq_true, decide_eq_true_eq] at hj2
      obtain ⟨j1, j2⟩ := hj2
      have hne : ¬ w.jump = 0 := by omega
      have htm : (3600 : Int).tmod w.jump = 3600 % w.jump := Int.tmod_eq_emod_of_nonneg (by omega)
      (repeat' (first | ((first | with_reducible refine st_skip ?_ | with_reducible refine st_exit ?_); (try simp only [seqQ, blockQ, loopQ, forQ, whileQ, reduceIte, Nat.reduceEqDiff])) | (with_reducible refine st_ret ?_; ((try simp only [seqQ, blockQ, loopQ, forQ, whileQ]); first | (with_reducible refine retM_ret ?_) | refine retQ_ret ?_; simp [hlt, hj, hne, htm])) | refine st_seq ?_ | refine st_block ?_ | ((first | refine st_reg ?_ | refine buildP_own ?_ | refine callP_b (rIn w.jump 1 3600) rfl ?_ | refine callP_b (rSpan w.elo w.ehi (-3600) 3600) rfl ?_ | refine callP_b (rIn w.faces.length 1 8) rfl ?_) <;> (simp -dsimp [hlt, hj, hne, htm]; (repeat (simp -dsimp (disch := (first | omega | assumption | (refine Bool.eq_false_iff.1 ?_; assumption))) only [wrap_in, if_pos, if_neg]; (try simp -dsimp [hlt, hj, hne, htm]))))) | ((first | refine guardP_of (fun hc => ?_) (fun hc => ?_) | refine st_cond rfl (fun hc => ?_) (fun hc => ?_)) <;> (try simp only [decide_eq_true_eq, decide_eq_false_iff_not, Bool.true_eq_false, Bool.false_eq_true, bne_iff_ne, ne_eq, bne_eq_false_iff_eq, beq_iff_eq, beq_eq_false_iff_ne, Bool.not_eq_true, Bool.not_eq_false, Bool.not_eq_eq_eq_not, Bool.not_true, Bool.not_false, Decidable.not_not] at hc) <;> (try (exfalso; first | omega | exact bool_tf hc (by assumption) | exact bool_ft hc (by assumption) | exact absurd (by assumption) hc)) <;> (first | with_reducible show STri _ _ _ _ _ _ | (simp -dsimp [hlt, hj, hne, htm, hc]; (repeat (simp -dsimp (disch := (first | omega | assumption | (refine Bool.eq_false_iff.1 ?_; assumption))) only [wrap_in, if_pos, if_neg]; (try simp -dsimp [hlt, hj, hne, htm, hc]))))))))
      all_goals (refine CLe.bool ?_; simp [dwB, *])
    · (repeat' (first | ((first | with_reducible refine st_skip ?_ | with_reducible refine st_exit ?_); (try simp only [seqQ, blockQ, loopQ, forQ, whileQ, reduceIte, Nat.reduceEqDiff])) | (with_reducible refine st_ret ?_; ((try simp only [seqQ, blockQ, loopQ, forQ, whileQ]); first | (with_reducible refine retM_ret ?_) | refine retQ_ret ?_; simp [hlt, hj])) | refine st_seq ?_ | refine st_block ?_ | ((first | refine st_reg ?_ | refine buildP_own ?_ | refine callP_b (rIn w.jump 1 3600) rfl ?_) <;> (simp -dsimp [hlt, hj]; (repeat (simp -dsimp (disch := (first | omega | assumption | (refine Bool.eq_false_iff.1 ?_; assumption))) only [wrap_in, if_pos, if_neg]; (try simp -dsimp [hlt, hj]))))) | ((first | refine guardP_of (fun hc => ?_) (fun hc => ?_) | refine st_cond rfl (fun hc => ?_) (fun hc => ?_)) <;> (try simp only [decide_eq_true_eq, decide_eq_false_iff_not, Bool.true_eq_false, Bool.false_eq_true, bne_iff_ne, ne_eq, bne_eq_false_iff_eq, beq_iff_eq, beq_eq_false_iff_ne, Bool.not_eq_true, Bool.not_eq_false, Bool.not_eq_eq_eq_not, Bool.not_true, Bool.not_false, Decidable.not_not] at hc) <;> (try (exfalso; first | omega | exact bool_tf hc (by assumption) | exact bool_ft hc (by assumption) | exact absurd (by assumption) hc)) <;> (first | with_reducible show STri _ _ _ _ _ _ | (simp -dsimp [hlt, hj, hc]; (repeat (simp -dsimp (disch := (first | omega | assumption | (refine Bool.eq_false_iff.1 ?_; assumption))) only [wrap_in, if_pos, if_neg]; (try simp -dsimp [hlt, hj, hc]))))))))
      all_goals (refine CLe.bool ?_; simp [dwB, hj])

end Go.Proofs.Ytnfggkopledpcaa
/- Dial's references, IV: hands. -/
namespace Go.Proofs.Ytnfggkopledpcaa
open Go.RowKit

theorem rDriven (w : Dw) (at' e : Int) (h1 : 1 ≤ w.jump) (h2 : w.jump ≤ 3600) (a1 : -1000000000000 ≤ at') (a2 : at' ≤ 1000000000000) (e1 : -1000000 ≤ e) (e2 : e ≤ 1000000) : SC Try.prog 54 [cDw w, I at', I e] (I (downI (at' + e) w.jump)) := by
  refine law_turretref04_Driven _ _ (by simp) ?_
  have h5 := Int.emod_nonneg (at' + e) (show w.jump ≠ 0 by omega)
  have h6 := Int.emod_lt_of_pos (at' + e) (show 0 < w.jump by omega)
  (repeat' (first | ((first | with_reducible refine st_skip ?_ | with_reducible refine st_exit ?_); (try simp only [seqQ, blockQ, loopQ, forQ, whileQ, reduceIte, Nat.reduceEqDiff])) | (with_reducible refine st_ret ?_; ((try simp only [seqQ, blockQ, loopQ, forQ, whileQ]); first | (with_reducible refine retM_ret ?_) | refine retQ_ret ?_; simp)) | refine st_seq ?_ | refine st_block ?_ | ((first | refine st_reg ?_ | refine buildP_own ?_ | refine callP_b (rMod (at' + e) w.jump (by omega) (by omega)) rfl ?_) <;> (simp -dsimp; (repeat (simp -dsimp (disch := (first | omega | assumption | (refine Bool.eq_false_iff.1 ?_; assumption))) only [wrap_in, if_pos, if_neg]; (try simp -dsimp))))) | ((first | refine guardP_of (fun hc => ?_) (fun hc => ?_) | refine st_cond rfl (fun hc => ?_) (fun hc => ?_)) <;> (try simp only [decide_eq_true_eq, decide_eq_false_iff_not, Bool.true_eq_false, Bool.false_eq_true, bne_iff_ne, ne_eq, bne_eq_false_iff_eq, beq_iff_eq, beq_eq_false_iff_ne, Bool.not_eq_true, Bool.not_eq_false, Bool.not_eq_eq_eq_not, Bool.not_true, Bool.not_false, Decidable.not_not] at hc) <;> (try (exfalso; first | omega | exact bool_tf hc (by assumption) | exact bool_ft hc (by assumption) | exact absurd (by assumption) hc)) <;> (first | with_reducible show STri _ _ _ _ _ _ | (simp -dsimp [hc]; (repeat (simp -dsimp (disch := (first | omega | assumption | (refine Bool.eq_false_iff.1 ?_; assumption))) only [wrap_in, if_pos, if_neg]; (try simp -dsimp [hc]))))))))
  all_goals exact .refl _

theorem rForce (f : Fc) (d n : Int) (h1 : -10000 ≤ f.weight) (h2 : f.weight ≤ 10000) (h3 : -1000000 ≤ n) (h4 : n ≤ 1000000) : SC Try.prog 79 [cF f, I d, I n] (I (n + forceI f d)) := by
  refine law_turretref04_Force _ _ (by simp) ?_
  (repeat' (first | ((first | with_reducible refine st_skip ?_ | with_reducible refine st_exit ?_); (try simp only [seqQ, blockQ, loopQ, forQ, whileQ, reduceIte, Nat.reduceEqDiff])) | (with_reducible refine st_ret ?_; ((try simp only [seqQ, blockQ, loopQ, forQ, whileQ]); first | (with_reducible refine retM_ret ?_) | refine retQ_ret ?_; simp)) | refine st_seq ?_ | refine st_block ?_ | ((first | refine st_reg ?_ | refine buildP_own ?_ | refine callP_b (rMod d 3600 (by omega) (by omega)) rfl ?_) <;> (simp -dsimp; (repeat (simp -dsimp (disch := (first | omega | assumption | (refine Bool.eq_false_iff.1 ?_; assumption))) only [wrap_in, if_pos, if_neg]; (try simp -dsimp))))) | ((first | refine guardP_of (fun hc => ?_) (fun hc => ?_) | refine st_cond rfl (fun hc => ?_) (fun hc => ?_)) <;> (try simp only [decide_eq_true_eq, decide_eq_false_iff_not, Bool.true_eq_false, Bool.false_eq_true, bne_iff_ne, ne_eq, bne_eq_false_iff_eq, beq_iff_eq, beq_eq_false_iff_ne, Bool.not_eq_true, Bool.not_eq_false, Bool.not_eq_eq_eq_not, Bool.not_true, Bool.not_false, Decidable.not_not] at hc) <;> (try (exfalso; first | omega | exact bool_tf hc (by assumption) | exact bool_ft hc (by assumption) | exact absurd (by assumption) hc)) <;> (first | with_reducible show STri _ _ _ _ _ _ | (simp -dsimp [hc]; (repeat (simp -dsimp (disch := (first | omega | assumption | (refine Bool.eq_false_iff.1 ?_; assumption))) only [wrap_in, if_pos, if_neg]; (try simp -dsimp [hc]))))))))
  all_goals (refine CLe.int ?_; unfold forceI; split <;> omega)

/-- A face's reference slack. -/
theorem rSlackF {f : Fc} (h : fcOK f = true) : SC Try.prog 42 [slL f.links] (I (slackI f.links)) := by
  unfold fcOK fcB at h
  simp only [Bool.and_eq_true, decide_eq_true_eq] at h
  obtain ⟨⟨⟨⟨⟨_, h4⟩, _⟩, _⟩, hl⟩, _⟩ := h
  have ht : LkTo f.links f.links.length := fun x hx => by
    rw [List.take_length] at hx
    exact List.all_eq_true.1 hl x hx
  have := rSlack' f.links h4 ht
  rwa [slack_ref ht h4] at this

theorem rLags (f : Fc) (hf : fcOK f = true) (d wlo whi : Int) (h5 : -1000000 ≤ wlo) (h6 : wlo ≤ 1000000) (h7 : -1000000 ≤ whi) (h8 : whi ≤ 1000000) :
    SC Try.prog 55 [cF f, I d, cS wlo whi] (cS (lagLo f (slackI f.links) d whi wlo) (lagHi f (slackI f.links) d wlo)) := by
  refine law_turretref04_Lags _ _ (by simp) ?_
  have hs := fc_sm hf
  have f1 := hs.h
  have f2 := hs.i
  obtain ⟨g1, g2⟩ := force_le f d hs.e hs.g
  have sf := rSlackF hf
  (repeat' (first | ((first | with_reducible refine st_skip ?_ | with_reducible refine st_exit ?_); (try simp only [seqQ, blockQ, loopQ, forQ, whileQ, reduceIte, Nat.reduceEqDiff])) | (with_reducible refine st_ret ?_; ((try simp only [seqQ, blockQ, loopQ, forQ, whileQ]); first | (with_reducible refine retM_ret ?_) | refine retQ_ret ?_; simp)) | refine st_seq ?_ | refine st_block ?_ | ((first | refine st_reg ?_ | refine buildP_own ?_ | refine callP_b (sf) rfl ?_ | refine callP_b (rForce f d wlo hs.e hs.g h5 h6) rfl ?_ | refine callP_b (rForce f d whi hs.e hs.g h7 h8) rfl ?_) <;> (simp -dsimp; (repeat (simp -dsimp (disch := (first | omega | assumption | (refine Bool.eq_false_iff.1 ?_; assumption))) only [wrap_in, if_pos, if_neg]; (try simp -dsimp))))) | ((first | refine guardP_of (fun hc => ?_) (fun hc => ?_) | refine st_cond rfl (fun hc => ?_) (fun hc => ?_)) <;> (try simp only [decide_eq_true_eq, decide_eq_false_iff_not, Bool.true_eq_false, Bool.false_eq_true, bne_iff_ne, ne_eq, bne_eq_false_iff_eq, beq_iff_eq, beq_eq_false_iff_ne, Bool.not_eq_true, Bool.not_eq_false, Bool.not_eq_eq_eq_not, Bool.not_true, Bool.not_false, Decidable.not_not] at hc) <;> (try (exfalso; first | omega | exact bool_tf hc (by assumption) | exact bool_ft hc (by assumption) | exact absurd (by assumption) hc)) <;> (first | with_reducible show STri _ _ _ _ _ _ | (simp -dsimp [hc]; (repeat (simp -dsimp (disch := (first | omega | assumption | (refine Bool.eq_false_iff.1 ?_; assumption))) only [wrap_in, if_pos, if_neg]; (try simp -dsimp [hc]))))))))
  all_goals (refine CLe.of_eq ?_; unfold lagLo lagHi; (repeat' split) <;> first | rfl | (exfalso; omega))

theorem rHands (w : Dw) (f : Fc) (hf : fcOK f = true) (at' e wlo whi : Int) (h1 : 1 ≤ w.jump) (h2 : w.jump ≤ 3600) (a1 : -1000000000000 ≤ at') (a2 : at' ≤ 1000000000000) (e1 : -1000000 ≤ e) (e2 : e ≤ 1000000) (h5 : -1000000 ≤ wlo) (h6 : wlo ≤ 1000000) (h7 : -1000000 ≤ whi) (h8 : whi ≤ 1000000) :
    SC Try.prog 53 [cDw w, cF f, I at', I e, cS wlo whi] (cS (handLo f (slackI f.links) (downI (at' + e) w.jump) wlo) (handHi f (slackI f.links) (downI (at' + e) w.jump) wlo whi)) := by
  refine law_turretref04_Hands _ _ (by simp) ?_
  have hs := fc_sm hf
  have f1 := hs.a
  have f2 := hs.b
  have f3 := hs.c
  have f4 := hs.d
  have f5 := hs.k
  obtain ⟨g1, g2, g3, g4⟩ := lag_le f (slackI f.links) (downI (at' + e) w.jump) wlo whi hs.j
  obtain ⟨d1, d2⟩ := down_le (n := at' + e) (b := w.jump) (by omega)
  (repeat' (first | ((first | with_reducible refine st_skip ?_ | with_reducible refine st_exit ?_); (try simp only [seqQ, blockQ, loopQ, forQ, whileQ, reduceIte, Nat.reduceEqDiff])) | (with_reducible refine st_ret ?_; ((try simp only [seqQ, blockQ, loopQ, forQ, whileQ]); first | (with_reducible refine retM_ret ?_) | refine retQ_ret ?_; simp)) | refine st_seq ?_ | refine st_block ?_ | ((first | refine st_reg ?_ | refine buildP_own ?_ | refine callP_b (rDriven w at' e h1 h2 a1 a2 e1 e2) rfl ?_ | refine callP_b (rLags f hf (downI (at' + e) w.jump) wlo whi h5 h6 h7 h8) rfl ?_) <;> (simp -dsimp; (repeat (simp -dsimp (disch := (first | omega | assumption | (refine Bool.eq_false_iff.1 ?_; assumption))) only [wrap_in, if_pos, if_neg]; (try simp -dsimp))))) | ((first | refine guardP_of (fun hc => ?_) (fun hc => ?_) | refine st_cond rfl (fun hc => ?_) (fun hc => ?_)) <;> (try simp only [decide_eq_true_eq, decide_eq_false_iff_not, Bool.true_eq_false, Bool.false_eq_true, bne_iff_ne, ne_eq, bne_eq_false_iff_eq, beq_iff_eq, beq_eq_false_iff_ne, Bool.not_eq_true, Bool.not_eq_false, Bool.not_eq_eq_eq_not, Bool.not_true, Bool.not_false, Decidable.not_not] at hc) <;> (try (exfalso; first | omega | exact bool_tf hc (by assumption) | exact bool_ft hc (by assumption) | exact absurd (by assumption) hc)) <;> (first | with_reducible show STri _ _ _ _ _ _ | (simp -dsimp [hc]; (repeat (simp -dsimp (disch := (first | omega | assumption | (refine Bool.eq_false_iff.1 ?_; assumption))) only [wrap_in, if_pos, if_neg]; (try simp -dsimp [hc]))))))))
  all_goals exact CLe.of_eq rfl

theorem rLook' (w : Dw) (hw : DwLen w) (n at' wlo whi : Int) : SC Try.prog 17 [cDw w, I n, I at', cS wlo whi] (I (lookErr w n at' wlo whi)) := by
  refine law_turretref04_Look _ _ (by simp) ?_
  have hn := hw.n
  (repeat' (first | ((first | with_reducible refine st_skip ?_ | with_reducible refine st_exit ?_); (try simp only [seqQ, blockQ, loopQ, forQ, whileQ, reduceIte, Nat.reduceEqDiff])) | (with_reducible refine st_ret ?_; ((try simp only [seqQ, blockQ, loopQ, forQ, whileQ]); first | (with_reducible refine retM_ret ?_) | refine retQ_ret ?_; simp)) | refine st_seq ?_ | refine st_block ?_ | ((first | refine st_reg ?_ | refine buildP_own ?_ | refine callP_b (rWorks' w hw) rfl ?_ | refine callP_b (rIn n 0 (w.faces.length - 1)) rfl ?_ | refine callP_b (rIn at' 0 3155760000) rfl ?_ | refine callP_b (rWind wlo whi) rfl ?_) <;> (simp -dsimp; (repeat (simp -dsimp (disch := (first | omega | assumption | (refine Bool.eq_false_iff.1 ?_; assumption))) only [wrap_in, if_pos, if_neg]; (try simp -dsimp))))) | ((first | refine guardP_of (fun hc => ?_) (fun hc => ?_) | refine st_cond rfl (fun hc => ?_) (fun hc => ?_)) <;> (try simp only [decide_eq_true_eq, decide_eq_false_iff_not, Bool.true_eq_false, Bool.false_eq_true, bne_iff_ne, ne_eq, bne_eq_false_iff_eq, beq_iff_eq, beq_eq_false_iff_ne, Bool.not_eq_true, Bool.not_eq_false, Bool.not_eq_eq_eq_not, Bool.not_true, Bool.not_false, Decidable.not_not] at hc) <;> (try (exfalso; first | omega | exact bool_tf hc (by assumption) | exact bool_ft hc (by assumption) | exact absurd (by assumption) hc)) <;> (first | with_reducible show STri _ _ _ _ _ _ | (simp -dsimp [hc]; (repeat (simp -dsimp (disch := (first | omega | assumption | (refine Bool.eq_false_iff.1 ?_; assumption))) only [wrap_in, if_pos, if_neg]; (try simp -dsimp [hc]))))))))
  all_goals (refine CLe.int ?_; simp [lookErr, *])

theorem rHangs (f : Fc) (hf : fcOK f = true) (d n lag : Int) (h5 : -1000000 ≤ n) (h6 : n ≤ 1000000) : SC Try.prog 56 [cF f, I d, I n, I lag] (B (gustP f (slackI f.links) d lag n)) := by
  refine law_turretref04_Hangs _ _ (by simp) ?_
  have hs := fc_sm hf
  have f1 := hs.h
  have f2 := hs.i
  have f3 := hs.j
  obtain ⟨g1, g2⟩ := force_le f d hs.e hs.g
  have sf := rSlackF hf
  (repeat' (first | ((first | with_reducible refine st_skip ?_ | with_reducible refine st_exit ?_); (try simp only [seqQ, blockQ, loopQ, forQ, whileQ, reduceIte, Nat.reduceEqDiff])) | (with_reducible refine st_ret ?_; ((try simp only [seqQ, blockQ, loopQ, forQ, whileQ]); first | (with_reducible refine retM_ret ?_) | refine retQ_ret ?_; simp)) | refine st_seq ?_ | refine st_block ?_ | ((first | refine st_reg ?_ | refine buildP_own ?_ | refine callP_b (sf) rfl ?_ | refine callP_b (rForce f d n hs.e hs.g h5 h6) rfl ?_ | refine callP_b (rIn lag 0 (slackI f.links)) rfl ?_) <;> (simp -dsimp; (repeat (simp -dsimp (disch := (first | omega | assumption | (refine Bool.eq_false_iff.1 ?_; assumption))) only [wrap_in, if_pos, if_neg]; (try simp -dsimp))))) | ((first | refine guardP_of (fun hc => ?_) (fun hc => ?_) | refine st_cond rfl (fun hc => ?_) (fun hc => ?_)) <;> (try simp only [decide_eq_true_eq, decide_eq_false_iff_not, Bool.true_eq_false, Bool.false_eq_true, bne_iff_ne, ne_eq, bne_eq_false_iff_eq, beq_iff_eq, beq_eq_false_iff_ne, Bool.not_eq_true, Bool.not_eq_false, Bool.not_eq_eq_eq_not, Bool.not_true, Bool.not_false, Decidable.not_not] at hc) <;> (try (exfalso; first | omega | exact bool_tf hc (by assumption) | exact bool_ft hc (by assumption) | exact absurd (by assumption) hc)) <;> (first | with_reducible show STri _ _ _ _ _ _ | (simp -dsimp [hc]; (repeat (simp -dsimp (disch := (first | omega | assumption | (refine Bool.eq_false_iff.1 ?_; assumption))) only [wrap_in, if_pos, if_neg]; (try simp -dsimp [hc]))))))))
  all_goals (refine CLe.bool ?_; unfold gustP lagLo lagHi inB; rw [Bool.eq_iff_iff]; simp only [Bool.and_eq_true, decide_eq_true_eq, beq_iff_eq]; (repeat' split) <;> omega)

end Go.Proofs.Ytnfggkopledpcaa
/- Dial's references, V: Off. -/
namespace Go.Proofs.Ytnfggkopledpcaa
open Go.RowKit

def rhLo (k : Lo) (e : Int) : Int := handLo k.f (slackI k.f.links) (dAt k e) k.wlo - k.at'
def rhHi (k : Lo) (e : Int) : Int := handHi k.f (slackI k.f.links) (dAt k e) k.wlo k.whi - k.at'
def offA (k : Lo) : Nat → Int × Int
  | 0 => (0, 0)
  | j + 1 =>
    let x1 := rhLo k (k.w.elo + j)
    let x2 := rhHi k (k.w.elo + j)
    let s := if j = 0 then (x1, x2) else offA k j
    (if x1 < s.1 then x1 else s.1, if x2 > s.2 then x2 else s.2)

theorem rh_bd {k : Lo} (hk : LoSm k) (hok : fcOK k.f = true) (e : Int) (h1 : k.w.elo ≤ e) (h2 : e ≤ k.w.ehi) : (-10000000000 ≤ rhLo k e ∧ rhLo k e ≤ 10000000000) ∧ -10000000000 ≤ rhHi k e ∧ rhHi k e ≤ 10000000000 := by
  have hs := fc_sm hok
  have b1 := hs.a
  have b2 := hs.b
  have b3 := hs.c
  have b4 := hs.d
  have b5 := hs.k
  have b6 := hs.j
  have j1 := hk.w.a
  have j2 := hk.w.b
  have e1 := hk.w.c
  have e4 := hk.w.f
  obtain ⟨g1, g2, g3, g4⟩ := lag_le k.f (slackI k.f.links) (dAt k e) k.wlo k.whi b6
  obtain ⟨d1, d2⟩ := down_le (n := k.at' + e) (b := k.w.jump) (by omega)
  unfold rhLo rhHi handLo handHi
  unfold dAt at *
  omega

theorem selMin {l : List (Int × Int)} : ∀ {k : Nat}, 1 ≤ k → k ≤ l.length → ∀ (i : Nat) (h : i < l.length), i < k → (selK (minB fun x y => x.1 - y.1) l k).1 ≤ l[i].1
  | 0, h, _, _, _, _ => by omega
  | 1, _, hl, i, h, hi => by
    have : i = 0 := by omega
    subst this
    rw [selK_one _ h]; exact Int.le_refl _
  | k + 2, _, hl, i, h, hi => by
    have ih := selMin (l := l) (k := k + 1) (by omega) (by omega)
    rw [selK_succ _ (by omega) (by omega)]
    by_cases hc : (minB fun x y => x.1 - y.1) l[k + 1] (selK (minB fun x y => x.1 - y.1) l (k + 1)) = true
    · rw [if_pos hc]
      simp only [minB, decide_eq_true_eq] at hc
      by_cases hik : i = k + 1
      · subst hik; exact Int.le_refl _
      · have := ih i h (by omega); omega
    · rw [if_neg hc]
      simp only [minB, decide_eq_true_eq] at hc
      by_cases hik : i = k + 1
      · subst hik; omega
      · exact ih i h (by omega)
theorem selMax {l : List (Int × Int)} : ∀ {k : Nat}, 1 ≤ k → k ≤ l.length → ∀ (i : Nat) (h : i < l.length), i < k → l[i].2 ≤ (selK (maxB fun x y => x.2 - y.2) l k).2
  | 0, h, _, _, _, _ => by omega
  | 1, _, hl, i, h, hi => by
    have : i = 0 := by omega
    subst this
    rw [selK_one _ h]; exact Int.le_refl _
  | k + 2, _, hl, i, h, hi => by
    have ih := selMax (l := l) (k := k + 1) (by omega) (by omega)
    rw [selK_succ _ (by omega) (by omega)]
    by_cases hc : (maxB fun x y => x.2 - y.2) l[k + 1] (selK (maxB fun x y => x.2 - y.2) l (k + 1)) = true
    · rw [if_pos hc]
      simp only [maxB, decide_eq_true_eq] at hc
      by_cases hik : i = k + 1
      · subst hik; exact Int.le_refl _
      · have := ih i h (by omega); omega
    · rw [if_neg hc]
      simp only [maxB, decide_eq_true_eq] at hc
      by_cases hik : i = k + 1
      · subst hik; omega
      · exact ih i h (by omega)

theorem down_mono {a b j : Int} (h : a ≤ b) (hj : 0 < j) : downI a j ≤ downI b j := by
  have e : ∀ n, downI n j = n / j * j := fun n => by
    unfold downI
    have := Int.emod_add_mul_ediv n j
    rw [Int.mul_comm (n / j) j]; omega
  rw [e, e]
  exact Int.mul_le_mul_of_nonneg_right (Int.ediv_le_ediv hj h) (by omega)

/-- To each second the hands are driven to one of the places. -/
theorem dr_to {k : Lo} (hk : LoSm k) {e : Int} (h1 : k.w.elo ≤ e) (h2 : e ≤ k.w.ehi) : dAt k e ∈ drL k.w k.at' k.at' := by
  have j1 := hk.w.a
  obtain ⟨q0, hq0⟩ := down_is (k.at' + k.w.elo) k.w.jump
  obtain ⟨q, hq⟩ := down_is (k.at' + e) k.w.jump
  have hm := down_mono (show k.at' + k.w.elo ≤ k.at' + e by omega) (show 0 < k.w.jump by omega)
  obtain ⟨_, d2⟩ := down_le (n := k.at' + e) (b := k.w.jump) (by omega)
  have hqq : q0 ≤ q := by
    rw [hq0, hq] at hm
    exact Int.le_of_mul_le_mul_right hm (by omega)
  have hat : drAt k.w k.at' (q - q0).toNat = dAt k e := by
    unfold drAt dAt
    rw [hq0, hq, Int.toNat_of_nonneg (by omega), Int.sub_mul]; omega
  unfold drL
  refine List.mem_map.2 ⟨(q - q0).toNat, List.mem_range.2 ((dr_lt (by omega)).2 ?_), hat⟩
  rw [hat]
  unfold dAt
  omega

/-- What the reference's rounds have found. -/
theorem offA_spec (k : Lo) : ∀ j, 1 ≤ j → ((∀ i : Nat, i < j → (offA k j).1 ≤ rhLo k (k.w.elo + i)) ∧ ∃ i : Nat, i < j ∧ (offA k j).1 = rhLo k (k.w.elo + i)) ∧ (∀ i : Nat, i < j → rhHi k (k.w.elo + i) ≤ (offA k j).2) ∧ ∃ i : Nat, i < j ∧ (offA k j).2 = rhHi k (k.w.elo + i)
  | 0, h => by omega
  | 1, _ => by
    have e : offA k 1 = (rhLo k (k.w.elo + (0 : Nat)), rhHi k (k.w.elo + (0 : Nat))) := by
      show (if _ then _ else _, if _ then _ else _) = _
      simp
    rw [e]
    exact ⟨⟨fun i hi => by have : i = 0 := by omega
                           subst this; exact Int.le_refl _, 0, by omega, rfl⟩, fun i hi => by have : i = 0 := by omega
                                                                                              subst this; exact Int.le_refl _, 0, by omega, rfl⟩
  | j + 2, _ => by
    obtain ⟨⟨a1, i1, h1, a2⟩, b1, i2, h2, b2⟩ := offA_spec k (j + 1) (by omega)
    have e : offA k (j + 2) = (if rhLo k (k.w.elo + (j + 1 : Nat)) < (offA k (j + 1)).1 then rhLo k (k.w.elo + (j + 1 : Nat)) else (offA k (j + 1)).1, if rhHi k (k.w.elo + (j + 1 : Nat)) > (offA k (j + 1)).2 then rhHi k (k.w.elo + (j + 1 : Nat)) else (offA k (j + 1)).2) := rfl
    rw [e]
    refine ⟨⟨fun i hi => ?_, ?_⟩, fun i hi => ?_, ?_⟩
    · simp only
      by_cases hij : i = j + 1
      · subst hij; split <;> omega
      · have := a1 i (by omega)
        split <;> omega
    · simp only
      split
      · exact ⟨j + 1, by omega, rfl⟩
      · exact ⟨i1, by omega, a2⟩
    · simp only
      by_cases hij : i = j + 1
      · subst hij; split <;> omega
      · have := b1 i (by omega)
        split <;> omega
    · simp only
      split
      · exact ⟨j + 1, by omega, rfl⟩
      · exact ⟨i2, by omega, b2⟩

theorem off_le {k : Lo} (hk : LoSm k) {e : Int} (h1 : k.w.elo ≤ e) (h2 : e ≤ k.w.ehi) : offLo k ≤ rhLo k e ∧ rhHi k e ≤ offHi k := by
  obtain ⟨l1, _⟩ := haL_len hk
  have hm : (handLo k.f (slackI k.f.links) (dAt k e) k.wlo, handHi k.f (slackI k.f.links) (dAt k e) k.wlo k.whi) ∈ haL k := List.mem_map.2 ⟨_, dr_to hk h1 h2, rfl⟩
  obtain ⟨i, hi, he⟩ := List.getElem_of_mem hm
  have q1 := selMin (l := haL k) (k := (haL k).length) (by omega) (Nat.le_refl _) i hi hi
  have q2 := selMax (l := haL k) (k := (haL k).length) (by omega) (Nat.le_refl _) i hi hi
  rw [he] at q1 q2
  unfold offLo offHi rhLo rhHi
  simp only at q1 q2
  omega

theorem off_at {k : Lo} (hk : LoSm k) : (∃ e, k.w.elo ≤ e ∧ e ≤ k.w.ehi ∧ rhLo k e = offLo k) ∧ ∃ e, k.w.elo ≤ e ∧ e ≤ k.w.ehi ∧ rhHi k e = offHi k := by
  obtain ⟨l1, _⟩ := haL_len hk
  constructor
  · have hm := selK_mem (minB fun x y => x.1 - y.1) l1 (k := (haL k).length) (by omega) (Nat.le_refl _)
    obtain ⟨d, hd, he⟩ := List.mem_map.1 hm
    obtain ⟨e, h1, h2, h3⟩ := dr_from hk hd
    refine ⟨e, h1, h2, ?_⟩
    unfold rhLo offLo
    rw [h3, ← he]
  · have hm := selK_mem (maxB fun x y => x.2 - y.2) l1 (k := (haL k).length) (by omega) (Nat.le_refl _)
    obtain ⟨d, hd, he⟩ := List.mem_map.1 hm
    obtain ⟨e, h1, h2, h3⟩ := dr_from hk hd
    refine ⟨e, h1, h2, ?_⟩
    unfold rhHi offHi
    rw [h3, ← he]

theorem offA_eq {k : Lo} (hk : LoSm k) : offA k (k.w.ehi - k.w.elo + 1).toNat = (offLo k, offHi k) := by
  have g := hk.w.g
  obtain ⟨⟨a1, i1, h1, a2⟩, b1, i2, h2, b2⟩ := offA_spec k (k.w.ehi - k.w.elo + 1).toNat (by omega)
  obtain ⟨⟨e1, c1, c2, c3⟩, e2, c4, c5, c6⟩ := off_at hk
  have q1 := (off_le hk (e := k.w.elo + i1) (by omega) (by omega)).1
  have q2 := (off_le hk (e := k.w.elo + i2) (by omega) (by omega)).2
  have q3 := a1 (e1 - k.w.elo).toNat (by omega)
  have q4 := b1 (e2 - k.w.elo).toNat (by omega)
  rw [show k.w.elo + ((e1 - k.w.elo).toNat : Int) = e1 by omega, c3] at q3
  rw [show k.w.elo + ((e2 - k.w.elo).toNat : Int) = e2 by omega, c6] at q4
  exact Prod.ext (by show (offA k _).1 = offLo k; omega) (by show (offA k _).2 = offHi k; omega)

theorem rOff' (k : Lo) (hk : LoSm k) (hd : dwB k.w = true) (n : Int) (n1 : 0 ≤ n) (n2 : n.toNat < k.w.faces.length) (hf : k.w.faces[n.toNat] = k.f) :
    SC Try.prog 18 [cDw k.w, I n, I k.at', cS k.wlo k.whi] (cS (offA k (k.w.ehi - k.w.elo + 1).toNat).1 (offA k (k.w.ehi - k.w.elo + 1).toNat).2) := by
  refine law_turretref04_Off _ _ (by simp) ?_
  have hok : fcOK k.f = true := by rw [← hf]; exact dw_face hd (List.getElem_mem n2)
  have a1 := hk.a
  have a2 := hk.b
  have j1 := hk.w.a
  have j2 := hk.w.b
  have e1 := hk.w.c
  have e2 := hk.w.d
  have e3 := hk.w.e
  have e4 := hk.w.f
  have e5 := hk.w.g
  have c1 := hk.c
  have c2 := hk.d
  have c3 := hk.e
  have c4 := hk.g
  have n3 : n < k.w.faces.length := by omega
  have hs := fc_sm hok
  have b1 := hs.a
  have b2 := hs.b
  have b3 := hs.c
  have b4 := hs.d
  have b5 := hs.k
  have hsm : ∀ j, j ≤ (k.w.ehi - k.w.elo + 1).toNat → (-10000000000 ≤ (offA k j).1 ∧ (offA k j).1 ≤ 10000000000) ∧ -10000000000 ≤ (offA k j).2 ∧ (offA k j).2 ≤ 10000000000 := fun j hj => by
    cases j with
    | zero => simp [offA]
    | succ j =>
      obtain ⟨⟨_, i1, q1, q2⟩, _, i2, q3, q4⟩ := offA_spec k (j + 1) (by omega)
      have r1 := (rh_bd hk hok (k.w.elo + i1) (by omega) (by omega)).1
      have r2 := (rh_bd hk hok (k.w.elo + i2) (by omega) (by omega)).2
      rw [q2, q4]; exact ⟨r1, r2⟩
  (repeat' (first | ((first | with_reducible refine st_skip ?_ | with_reducible refine st_exit ?_); (try simp only [seqQ, blockQ, loopQ, forQ, whileQ, reduceIte, Nat.reduceEqDiff])) | (with_reducible refine st_ret ?_; ((try simp only [seqQ, blockQ, loopQ, forQ, whileQ]); first | (with_reducible refine retM_ret ?_) | refine retQ_ret ?_; simp)) | refine st_seq ?_ | refine st_block ?_ | ((first | refine st_reg ?_ | refine buildP_own ?_) <;> (simp -dsimp; (repeat (simp -dsimp (disch := (first | omega | assumption | (refine Bool.eq_false_iff.1 ?_; assumption))) only [wrap_in, if_pos, if_neg]; (try simp -dsimp))))) | ((first | refine guardP_of (fun hc => ?_) (fun hc => ?_) | refine st_cond rfl (fun hc => ?_) (fun hc => ?_)) <;> (try simp only [decide_eq_true_eq, decide_eq_false_iff_not, Bool.true_eq_false, Bool.false_eq_true, bne_iff_ne, ne_eq, bne_eq_false_iff_eq, beq_iff_eq, beq_eq_false_iff_ne, Bool.not_eq_true, Bool.not_eq_false, Bool.not_eq_eq_eq_not, Bool.not_true, Bool.not_false, Decidable.not_not] at hc) <;> (try (exfalso; first | omega | exact bool_tf hc (by assumption) | exact bool_ft hc (by assumption) | exact absurd (by assumption) hc)) <;> (first | with_reducible show STri _ _ _ _ _ _ | (simp -dsimp [hc]; (repeat (simp -dsimp (disch := (first | omega | assumption | (refine Bool.eq_false_iff.1 ?_; assumption))) only [wrap_in, if_pos, if_neg]; (try simp -dsimp [hc]))))))))
  refine st_for [4, 7, 8, 9] (k.w.ehi - k.w.elo + 1).toNat (fun j T H => T = [(1, .c (I n)), (2, .c (I k.at')), (4, .ptr 4 0), (7, .ptr 7 0), (8, .ptr 8 0), (9, .ptr 9 0), (10, .c (I (k.w.elo + j)))] ∧
    H = [(4, .box 26 [.c (I k.w.jump), .c (I k.w.elo), .c (I k.w.ehi), .c (slF k.w.faces)]), (7, .box 23 [.c (I k.wlo), .c (I k.whi)]), (8, .box 23 [.c (I 0), .c (I 0)]), (9, .box 23 [.c (I (offA k j).1), .c (I (offA k j).2)])]) (by simp) ⟨by simp, by simp [offA]⟩ ?_
  rintro j T H hj ⟨rfl, rfl⟩
  by_cases hlt : j < (k.w.ehi - k.w.elo + 1).toNat
  · have hle : k.w.elo + j ≤ k.w.ehi := by omega
    have sh := rHands k.w k.f hok k.at' (k.w.elo + j) k.wlo k.whi j1 j2 (by omega) (by omega) (by omega) (by omega) (by omega) (by omega) (by omega) (by omega)
    obtain ⟨r1, r2⟩ := rh_bd hk hok (k.w.elo + j) (by omega) hle
    have q1 : handLo k.f (slackI k.f.links) (downI (k.at' + (k.w.elo + j)) k.w.jump) k.wlo - k.at' = rhLo k (k.w.elo + j) := rfl
    have q2 : handHi k.f (slackI k.f.links) (downI (k.at' + (k.w.elo + j)) k.w.jump) k.wlo k.whi - k.at' = rhHi k (k.w.elo + j) := rfl
    have hstep : offA k (j + 1) = (if rhLo k (k.w.elo + j) < (if j = 0 then (rhLo k (k.w.elo + j), rhHi k (k.w.elo + j)) else offA k j).1 then rhLo k (k.w.elo + j) else (if j = 0 then (rhLo k (k.w.elo + j), rhHi k (k.w.elo + j)) else offA k j).1,
      if rhHi k (k.w.elo + j) > (if j = 0 then (rhLo k (k.w.elo + j), rhHi k (k.w.elo + j)) else offA k j).2 then rhHi k (k.w.elo + j) else (if j = 0 then (rhLo k (k.w.elo + j), rhHi k (k.w.elo + j)) else offA k j).2) := rfl
    by_cases h0 : j = 0
    · have h00 : k.w.elo + (j : Int) = k.w.elo := by omega
      rw [if_pos h0] at hstep
      rw [h00] at sh r1 r2 q1 q2 hle hstep ⊢
      (repeat' (first | ((first | with_reducible refine st_skip ?_ | with_reducible refine st_exit ?_); (try simp only [seqQ, blockQ, loopQ, forQ, whileQ, reduceIte, Nat.reduceEqDiff])) | (with_reducible refine st_ret ?_; ((try simp only [seqQ, blockQ, loopQ, forQ, whileQ]); first | (with_reducible refine retM_ret ?_) | refine retQ_ret ?_; simp [hle, n1, n2, n3, hf, q1, q2])) | refine st_seq ?_ | refine st_block ?_ | ((first | refine st_reg ?_ | refine buildP_own ?_ | refine callP_b (sh) rfl ?_) <;> (simp -dsimp [hle, n1, n2, n3, hf, q1, q2]; (repeat (simp -dsimp (disch := (first | omega | assumption | (refine Bool.eq_false_iff.1 ?_; assumption))) only [wrap_in, if_pos, if_neg]; (try simp -dsimp [hle, n1, n2, n3, hf, q1, q2]))))) | ((first | refine guardP_of (fun hc => ?_) (fun hc => ?_) | refine st_cond rfl (fun hc => ?_) (fun hc => ?_)) <;> (try simp only [decide_eq_true_eq, decide_eq_false_iff_not, Bool.true_eq_false, Bool.false_eq_true, bne_iff_ne, ne_eq, bne_eq_false_iff_eq, beq_iff_eq, beq_eq_false_iff_ne, Bool.not_eq_true, Bool.not_eq_false, Bool.not_eq_eq_eq_not, Bool.not_true, Bool.not_false, Decidable.not_not] at hc) <;> (try (exfalso; first | omega | exact bool_tf hc (by assumption) | exact bool_ft hc (by assumption) | exact absurd (by assumption) hc)) <;> (first | with_reducible show STri _ _ _ _ _ _ | (simp -dsimp [hle, n1, n2, n3, hf, q1, q2, hc]; (repeat (simp -dsimp (disch := (first | omega | assumption | (refine Bool.eq_false_iff.1 ?_; assumption))) only [wrap_in, if_pos, if_neg]; (try simp -dsimp [hle, n1, n2, n3, hf, q1, q2, hc]))))))))
      exact ⟨hlt, by simp, by subst h0; simp, by rw [hstep]; simp⟩
    · have h00 : ¬ k.w.elo + (j : Int) = k.w.elo := by omega
      rw [if_neg h0] at hstep
      (repeat' (first | ((first | with_reducible refine st_skip ?_ | with_reducible refine st_exit ?_); (try simp only [seqQ, blockQ, loopQ, forQ, whileQ, reduceIte, Nat.reduceEqDiff])) | (with_reducible refine st_ret ?_; ((try simp only [seqQ, blockQ, loopQ, forQ, whileQ]); first | (with_reducible refine retM_ret ?_) | refine retQ_ret ?_; simp [hle, h00, n1, n2, n3, hf, q1, q2])) | refine st_seq ?_ | refine st_block ?_ | ((first | refine st_reg ?_ | refine buildP_own ?_ | refine callP_b (sh) rfl ?_) <;> (simp -dsimp [hle, h00, n1, n2, n3, hf, q1, q2]; (repeat (simp -dsimp (disch := (first | omega | assumption | (refine Bool.eq_false_iff.1 ?_; assumption))) only [wrap_in, if_pos, if_neg]; (try simp -dsimp [hle, h00, n1, n2, n3, hf, q1, q2]))))) | ((first | refine guardP_of (fun hc => ?_) (fun hc => ?_) | refine st_cond rfl (fun hc => ?_) (fun hc => ?_)) <;> (try simp only [decide_eq_true_eq, decide_eq_false_iff_not, Bool.true_eq_false, Bool.false_eq_true, bne_iff_ne, ne_eq, bne_eq_false_iff_eq, beq_iff_eq, beq_eq_false_iff_ne, Bool.not_eq_true, Bool.not_eq_false, Bool.not_eq_eq_eq_not, Bool.not_true, Bool.not_false, Decidable.not_not] at hc) <;> (try (exfalso; first | omega | exact bool_tf hc (by assumption) | exact bool_ft hc (by assumption) | exact absurd (by assumption) hc)) <;> (first | with_reducible show STri _ _ _ _ _ _ | (simp -dsimp [hle, h00, n1, n2, n3, hf, q1, q2, hc]; (repeat (simp -dsimp (disch := (first | omega | assumption | (refine Bool.eq_false_iff.1 ?_; assumption))) only [wrap_in, if_pos, if_neg]; (try simp -dsimp [hle, h00, n1, n2, n3, hf, q1, q2, hc]))))))))
      exact ⟨hlt, by simp, by simp [Int.add_assoc], by rw [hstep]; simp⟩
  · have : j = (k.w.ehi - k.w.elo + 1).toNat := by omega
    subst this
    have hle : ¬ k.w.elo + ((k.w.ehi - k.w.elo + 1).toNat : Int) ≤ k.w.ehi := by omega
    (repeat' (first | ((first | with_reducible refine st_skip ?_ | with_reducible refine st_exit ?_); (try simp only [seqQ, blockQ, loopQ, forQ, whileQ, reduceIte, Nat.reduceEqDiff])) | (with_reducible refine st_ret ?_; ((try simp only [seqQ, blockQ, loopQ, forQ, whileQ]); first | (with_reducible refine retM_ret ?_) | refine retQ_ret ?_; simp [hle])) | refine st_seq ?_ | refine st_block ?_ | ((first | refine st_reg ?_ | refine buildP_own ?_) <;> (simp -dsimp [hle]; (repeat (simp -dsimp (disch := (first | omega | assumption | (refine Bool.eq_false_iff.1 ?_; assumption))) only [wrap_in, if_pos, if_neg]; (try simp -dsimp [hle]))))) | ((first | refine guardP_of (fun hc => ?_) (fun hc => ?_) | refine st_cond rfl (fun hc => ?_) (fun hc => ?_)) <;> (try simp only [decide_eq_true_eq, decide_eq_false_iff_not, Bool.true_eq_false, Bool.false_eq_true, bne_iff_ne, ne_eq, bne_eq_false_iff_eq, beq_iff_eq, beq_eq_false_iff_ne, Bool.not_eq_true, Bool.not_eq_false, Bool.not_eq_eq_eq_not, Bool.not_true, Bool.not_false, Decidable.not_not] at hc) <;> (try (exfalso; first | omega | exact bool_tf hc (by assumption) | exact bool_ft hc (by assumption) | exact absurd (by assumption) hc)) <;> (first | with_reducible show STri _ _ _ _ _ _ | (simp -dsimp [hle, hc]; (repeat (simp -dsimp (disch := (first | omega | assumption | (refine Bool.eq_false_iff.1 ?_; assumption))) only [wrap_in, if_pos, if_neg]; (try simp -dsimp [hle, hc]))))))))
    all_goals exact .refl _

theorem rOffR (k : Lo) (hk : LoSm k) (hd : dwB k.w = true) (n : Int) (n1 : 0 ≤ n) (n2 : n.toNat < k.w.faces.length) (hf : k.w.faces[n.toNat] = k.f) :
    SC Try.prog 18 [cDw k.w, I n, I k.at', cS k.wlo k.whi] (cS (offLo k) (offHi k)) := by
  have h := rOff' k hk hd n n1 n2 hf
  rw [offA_eq hk] at h
  exact h

end Go.Proofs.Ytnfggkopledpcaa
/- Dial's laws: copies, and what they are compared with. -/
namespace Go.Proofs.Ytnfggkopledpcaa
open Go.RowKit

def largeB (w : Dw) : Bool := w.faces.any (fun f => decide (f.links.length > 10)) || decide (w.faces.length > 12)

/-- So far no face is large. -/
def SmTo (fs : List Fc) (k : Nat) : Prop := ∀ f ∈ fs.take k, f.links.length ≤ 10
theorem sm_succ {fs : List Fc} {k : Nat} (hlt : k < fs.length) (h : SmTo fs k) (hc : fs[k].links.length ≤ 10) : SmTo fs (k + 1) := fun x hx => by
  rw [List.take_succ_eq_append_getElem hlt, List.mem_append] at hx
  rcases hx with hx | hx
  · exact h x hx
  · simp at hx; subst hx; exact hc
theorem sm_all {fs : List Fc} (h : SmTo fs fs.length) : fs.any (fun f => decide (f.links.length > 10)) = false := by
  rw [List.any_eq_false]
  intro f hf
  have := h f (by rw [List.take_length]; exact hf)
  simp; omega

theorem dw_len {w : Dw} (h : ¬ largeB w = true) : DwLen w := by
  unfold largeB at h
  simp only [Bool.or_eq_true, List.any_eq_true, decide_eq_true_eq, not_or, not_exists, not_and] at h
  exact ⟨by omega, fun f hf => by have := h.1 f hf; omega⟩

theorem lLarge (w : Dw) (hw : DwMax w) : SC Try.prog 11 [cDw w] (B (largeB w)) := by
  refine law_turretlaw04_large _ _ (by simp) ?_
  have hn := hw.n
  (repeat' (first | ((first | with_reducible refine st_skip ?_ | with_reducible refine st_exit ?_); (try simp only [seqQ, blockQ, loopQ, forQ, whileQ, reduceIte, Nat.reduceEqDiff])) | (with_reducible refine st_ret ?_; ((try simp only [seqQ, blockQ, loopQ, forQ, whileQ]); first | (with_reducible refine retM_ret ?_) | refine retQ_ret ?_; simp)) | refine st_seq ?_ | refine st_block ?_ | ((first | refine st_reg ?_ | refine buildP_own ?_) <;> (simp -dsimp; (repeat (simp -dsimp (disch := (first | omega | assumption | (refine Bool.eq_false_iff.1 ?_; assumption))) only [wrap_in, if_pos, if_neg]; (try simp -dsimp))))) | ((first | refine guardP_of (fun hc => ?_) (fun hc => ?_) | refine st_cond rfl (fun hc => ?_) (fun hc => ?_)) <;> (try simp only [decide_eq_true_eq, decide_eq_false_iff_not, Bool.true_eq_false, Bool.false_eq_true, bne_iff_ne, ne_eq, bne_eq_false_iff_eq, beq_iff_eq, beq_eq_false_iff_ne, Bool.not_eq_true, Bool.not_eq_false, Bool.not_eq_eq_eq_not, Bool.not_true, Bool.not_false, Decidable.not_not] at hc) <;> (try (exfalso; first | omega | exact bool_tf hc (by assumption) | exact bool_ft hc (by assumption) | exact absurd (by assumption) hc)) <;> (first | with_reducible show STri _ _ _ _ _ _ | (simp -dsimp [hc]; (repeat (simp -dsimp (disch := (first | omega | assumption | (refine Bool.eq_false_iff.1 ?_; assumption))) only [wrap_in, if_pos, if_neg]; (try simp -dsimp [hc]))))))))
  refine st_for [1] w.faces.length (fun k T H => SmTo w.faces k ∧ T = [(1, .ptr 1 0), (3, .c (I k))] ∧ H = [(1, .box 26 [.c (I w.jump), .c (I w.elo), .c (I w.ehi), .c (slF w.faces)])]) (by simp) ⟨fun f hf => by simp at hf, by simp, by simp⟩ ?_
  rintro k T H hk ⟨ht, rfl, rfl⟩
  by_cases hlt : k < w.faces.length
  · have hl := hw.l _ (List.getElem_mem hlt)
    (repeat' (first | ((first | with_reducible refine st_skip ?_ | with_reducible refine st_exit ?_); (try simp only [seqQ, blockQ, loopQ, forQ, whileQ, reduceIte, Nat.reduceEqDiff])) | (with_reducible refine st_ret ?_; ((try simp only [seqQ, blockQ, loopQ, forQ, whileQ]); first | (with_reducible refine retM_ret ?_) | refine retQ_ret ?_; simp [hlt])) | refine st_seq ?_ | refine st_block ?_ | ((first | refine st_reg ?_ | refine buildP_own ?_) <;> (simp -dsimp [hlt]; (repeat (simp -dsimp (disch := (first | omega | assumption | (refine Bool.eq_false_iff.1 ?_; assumption))) only [wrap_in, if_pos, if_neg]; (try simp -dsimp [hlt]))))) | ((first | refine guardP_of (fun hc => ?_) (fun hc => ?_) | refine st_cond rfl (fun hc => ?_) (fun hc => ?_)) <;> (try simp only [decide_eq_true_eq, decide_eq_false_iff_not, Bool.true_eq_false, Bool.false_eq_true, bne_iff_ne, ne_eq, bne_eq_false_iff_eq, beq_iff_eq, beq_eq_false_iff_ne, Bool.not_eq_true, Bool.not_eq_false, Bool.not_eq_eq_eq_not, Bool.not_true, Bool.not_false, Decidable.not_not] at hc) <;> (try (exfalso; first | omega | exact bool_tf hc (by assumption) | exact bool_ft hc (by assumption) | exact absurd (by assumption) hc)) <;> (first | with_reducible show STri _ _ _ _ _ _ | (simp -dsimp [hlt, hc]; (repeat (simp -dsimp (disch := (first | omega | assumption | (refine Bool.eq_false_iff.1 ?_; assumption))) only [wrap_in, if_pos, if_neg]; (try simp -dsimp [hlt, hc]))))))))
    · refine CLe.bool ?_
      have : w.faces.any (fun f => decide (f.links.length > 10)) = true := List.any_eq_true.2 ⟨_, List.getElem_mem hlt, by simp; omega⟩
      simp [largeB, this]
    · exact ⟨hlt, by simp, sm_succ hlt ht (by omega), by simp, by simp⟩
  · have hke : k = w.faces.length := by omega
    subst hke
    (repeat' (first | ((first | with_reducible refine st_skip ?_ | with_reducible refine st_exit ?_); (try simp only [seqQ, blockQ, loopQ, forQ, whileQ, reduceIte, Nat.reduceEqDiff])) | (with_reducible refine st_ret ?_; ((try simp only [seqQ, blockQ, loopQ, forQ, whileQ]); first | (with_reducible refine retM_ret ?_) | refine retQ_ret ?_; simp)) | refine st_seq ?_ | refine st_block ?_ | ((first | refine st_reg ?_ | refine buildP_own ?_) <;> (simp -dsimp; (repeat (simp -dsimp (disch := (first | omega | assumption | (refine Bool.eq_false_iff.1 ?_; assumption))) only [wrap_in, if_pos, if_neg]; (try simp -dsimp))))) | ((first | refine guardP_of (fun hc => ?_) (fun hc => ?_) | refine st_cond rfl (fun hc => ?_) (fun hc => ?_)) <;> (try simp only [decide_eq_true_eq, decide_eq_false_iff_not, Bool.true_eq_false, Bool.false_eq_true, bne_iff_ne, ne_eq, bne_eq_false_iff_eq, beq_iff_eq, beq_eq_false_iff_ne, Bool.not_eq_true, Bool.not_eq_false, Bool.not_eq_eq_eq_not, Bool.not_true, Bool.not_false, Decidable.not_not] at hc) <;> (try (exfalso; first | omega | exact bool_tf hc (by assumption) | exact bool_ft hc (by assumption) | exact absurd (by assumption) hc)) <;> (first | with_reducible show STri _ _ _ _ _ _ | (simp -dsimp [hc]; (repeat (simp -dsimp (disch := (first | omega | assumption | (refine Bool.eq_false_iff.1 ?_; assumption))) only [wrap_in, if_pos, if_neg]; (try simp -dsimp [hc]))))))))
    all_goals (refine CLe.bool ?_; rw [largeB, sm_all ht, Bool.false_or, decide_eq_decide]; omega)

theorem lFace (f : Fc) (hl : f.links.length ≤ 1000000) : SC Try.prog 35 [cF f] (cF f) := by
  refine law_turretlaw04_face _ _ (by simp) ?_
  have hA : f.links.length ≤ 9223372036854775807 := by omega
  have hB : f.links.length * 24 ≤ 140737488355328 := by omega
  (repeat' (first | ((first | with_reducible refine st_skip ?_ | with_reducible refine st_exit ?_); (try simp only [seqQ, blockQ, loopQ, forQ, whileQ, reduceIte, Nat.reduceEqDiff])) | (with_reducible refine st_ret ?_; ((try simp only [seqQ, blockQ, loopQ, forQ, whileQ]); first | (with_reducible refine retM_ret ?_) | refine retQ_ret ?_; simp [hA, hB])) | refine st_seq ?_ | refine st_block ?_ | ((first | refine st_reg ?_ | refine buildP_own ?_) <;> (simp -dsimp [hA, hB]; (repeat (simp -dsimp (disch := (first | omega | assumption | (refine Bool.eq_false_iff.1 ?_; assumption))) only [wrap_in, if_pos, if_neg]; (try simp -dsimp [hA, hB]))))) | ((first | refine guardP_of (fun hc => ?_) (fun hc => ?_) | refine st_cond rfl (fun hc => ?_) (fun hc => ?_)) <;> (try simp only [decide_eq_true_eq, decide_eq_false_iff_not, Bool.true_eq_false, Bool.false_eq_true, bne_iff_ne, ne_eq, bne_eq_false_iff_eq, beq_iff_eq, beq_eq_false_iff_ne, Bool.not_eq_true, Bool.not_eq_false, Bool.not_eq_eq_eq_not, Bool.not_true, Bool.not_false, Decidable.not_not] at hc) <;> (try (exfalso; first | omega | exact bool_tf hc (by assumption) | exact bool_ft hc (by assumption) | exact absurd (by assumption) hc)) <;> (first | with_reducible show STri _ _ _ _ _ _ | (simp -dsimp [hA, hB, hc]; (repeat (simp -dsimp (disch := (first | omega | assumption | (refine Bool.eq_false_iff.1 ?_; assumption))) only [wrap_in, if_pos, if_neg]; (try simp -dsimp [hA, hB, hc]))))))))
  all_goals exact .refl _

theorem lReadings (l : List (Int × Int)) (hl : l.length ≤ 1000000) : SC Try.prog 32 [slS l] (slS l) := by
  refine law_turretlaw04_readings _ _ (by simp) ?_
  have hA : l.length ≤ 9223372036854775807 := by omega
  have hB : l.length * 16 ≤ 140737488355328 := by omega
  (repeat' (first | ((first | with_reducible refine st_skip ?_ | with_reducible refine st_exit ?_); (try simp only [seqQ, blockQ, loopQ, forQ, whileQ, reduceIte, Nat.reduceEqDiff])) | (with_reducible refine st_ret ?_; ((try simp only [seqQ, blockQ, loopQ, forQ, whileQ]); first | (with_reducible refine retM_ret ?_) | refine retQ_ret ?_; simp [hA, hB])) | refine st_seq ?_ | refine st_block ?_ | ((first | refine st_reg ?_ | refine buildP_own ?_) <;> (simp -dsimp [hA, hB]; (repeat (simp -dsimp (disch := (first | omega | assumption | (refine Bool.eq_false_iff.1 ?_; assumption))) only [wrap_in, if_pos, if_neg]; (try simp -dsimp [hA, hB]))))) | ((first | refine guardP_of (fun hc => ?_) (fun hc => ?_) | refine st_cond rfl (fun hc => ?_) (fun hc => ?_)) <;> (try simp only [decide_eq_true_eq, decide_eq_false_iff_not, Bool.true_eq_false, Bool.false_eq_true, bne_iff_ne, ne_eq, bne_eq_false_iff_eq, beq_iff_eq, beq_eq_false_iff_ne, Bool.not_eq_true, Bool.not_eq_false, Bool.not_eq_eq_eq_not, Bool.not_true, Bool.not_false, Decidable.not_not] at hc) <;> (try (exfalso; first | omega | exact bool_tf hc (by assumption) | exact bool_ft hc (by assumption) | exact absurd (by assumption) hc)) <;> (first | with_reducible show STri _ _ _ _ _ _ | (simp -dsimp [hA, hB, hc]; (repeat (simp -dsimp (disch := (first | omega | assumption | (refine Bool.eq_false_iff.1 ?_; assumption))) only [wrap_in, if_pos, if_neg]; (try simp -dsimp [hA, hB, hc]))))))))
  all_goals exact .refl _

def rowsF (fs : List Fc) (k : Nat) : List (List CV) := (fs.take k).map rowF
theorem rowsF_len {fs : List Fc} {k : Nat} (h : k ≤ fs.length) : (rowsF fs k).length = k := by simp [rowsF]; omega
theorem rowsF_succ {fs : List Fc} {k : Nat} (h : k < fs.length) : rowsF fs (k + 1) = rowsF fs k ++ [rowF fs[k]] := by
  unfold rowsF; rw [List.take_succ_eq_append_getElem h, List.map_append]; rfl

theorem lWorks (w : Dw) (hw : DwLen w) : SC Try.prog 13 [cDw w] (cDw w) := by
  refine law_turretlaw04_works _ _ (by simp) ?_
  have hn := hw.n
  (repeat' (first | ((first | with_reducible refine st_skip ?_ | with_reducible refine st_exit ?_); (try simp only [seqQ, blockQ, loopQ, forQ, whileQ, reduceIte, Nat.reduceEqDiff])) | (with_reducible refine st_ret ?_; ((try simp only [seqQ, blockQ, loopQ, forQ, whileQ]); first | (with_reducible refine retM_ret ?_) | refine retQ_ret ?_; simp)) | refine st_seq ?_ | refine st_block ?_ | ((first | refine st_reg ?_ | refine buildP_own ?_) <;> (simp -dsimp; (repeat (simp -dsimp (disch := (first | omega | assumption | (refine Bool.eq_false_iff.1 ?_; assumption))) only [wrap_in, if_pos, if_neg]; (try simp -dsimp))))) | ((first | refine guardP_of (fun hc => ?_) (fun hc => ?_) | refine st_cond rfl (fun hc => ?_) (fun hc => ?_)) <;> (try simp only [decide_eq_true_eq, decide_eq_false_iff_not, Bool.true_eq_false, Bool.false_eq_true, bne_iff_ne, ne_eq, bne_eq_false_iff_eq, beq_iff_eq, beq_eq_false_iff_ne, Bool.not_eq_true, Bool.not_eq_false, Bool.not_eq_eq_eq_not, Bool.not_true, Bool.not_false, Decidable.not_not] at hc) <;> (try (exfalso; first | omega | exact bool_tf hc (by assumption) | exact bool_ft hc (by assumption) | exact absurd (by assumption) hc)) <;> (first | with_reducible show STri _ _ _ _ _ _ | (simp -dsimp [hc]; (repeat (simp -dsimp (disch := (first | omega | assumption | (refine Bool.eq_false_iff.1 ?_; assumption))) only [wrap_in, if_pos, if_neg]; (try simp -dsimp [hc]))))))))
  refine st_nilB 3 3 200 80 5 rfl (by simp) rfl (by simp [newOK]) ?_
  refine st_for [1, 2, 3, 200] w.faces.length (fun k T H => T = [(1, .ptr 1 0), (2, .ptr 2 0), (3, .ptr 3 0), (4, .c (I k))] ∧ H = [(1, .box 26 [.c (I w.jump), .c (I w.elo), .c (I w.ehi), .c (slF w.faces)]), (2, .box 26 [.c (I 0), .c (I 0), .c (I 0), .c (.val (.slice none 0 0))]),
    (3, .box 26 [.c (I w.jump), .c (I w.elo), .c (I w.ehi), .own 200 k]), (200, .arr 80 5 (rowsF w.faces k))]) (by simp) ⟨by simp, by simp [rowsF]⟩ ?_
  rintro k T H hk ⟨rfl, rfl⟩
  have hlen := rowsF_len hk
  by_cases hlt : k < w.faces.length
  · have hf := lFace w.faces[k] (hw.l _ (List.getElem_mem hlt))
    have hs := rowsF_succ hlt
    have hA : k + 1 ≤ 9223372036854775807 := by omega
    have hB : (k + 1) * 56 ≤ 140737488355328 := by omega
    (repeat' (first | ((first | with_reducible refine st_skip ?_ | with_reducible refine st_exit ?_); (try simp only [seqQ, blockQ, loopQ, forQ, whileQ, reduceIte, Nat.reduceEqDiff])) | (with_reducible refine st_ret ?_; ((try simp only [seqQ, blockQ, loopQ, forQ, whileQ]); first | (with_reducible refine retM_ret ?_) | refine retQ_ret ?_; simp [hlt, hlen, hA, hB])) | refine st_seq ?_ | refine st_block ?_ | ((first | refine st_reg ?_ | refine buildP_own ?_ | refine callP_b (hf) rfl ?_) <;> (simp -dsimp [hlt, hlen, hA, hB]; (repeat (simp -dsimp (disch := (first | omega | assumption | (refine Bool.eq_false_iff.1 ?_; assumption))) only [wrap_in, if_pos, if_neg]; (try simp -dsimp [hlt, hlen, hA, hB]))))) | ((first | refine guardP_of (fun hc => ?_) (fun hc => ?_) | refine st_cond rfl (fun hc => ?_) (fun hc => ?_)) <;> (try simp only [decide_eq_true_eq, decide_eq_false_iff_not, Bool.true_eq_false, Bool.false_eq_true, bne_iff_ne, ne_eq, bne_eq_false_iff_eq, beq_iff_eq, beq_eq_false_iff_ne, Bool.not_eq_true, Bool.not_eq_false, Bool.not_eq_eq_eq_not, Bool.not_true, Bool.not_false, Decidable.not_not] at hc) <;> (try (exfalso; first | omega | exact bool_tf hc (by assumption) | exact bool_ft hc (by assumption) | exact absurd (by assumption) hc)) <;> (first | with_reducible show STri _ _ _ _ _ _ | (simp -dsimp [hlt, hlen, hA, hB, hc]; (repeat (simp -dsimp (disch := (first | omega | assumption | (refine Bool.eq_false_iff.1 ?_; assumption))) only [wrap_in, if_pos, if_neg]; (try simp -dsimp [hlt, hlen, hA, hB, hc]))))))))
    all_goals exact ⟨hlt, by simp, by simp, by simp [hs]⟩
  · have hke : k = w.faces.length := by omega
    subst hke
    have hall : rowsF w.faces w.faces.length = w.faces.map rowF := by simp [rowsF]
    (repeat' (first | ((first | with_reducible refine st_skip ?_ | with_reducible refine st_exit ?_); (try simp only [seqQ, blockQ, loopQ, forQ, whileQ, reduceIte, Nat.reduceEqDiff])) | (with_reducible refine st_ret ?_; ((try simp only [seqQ, blockQ, loopQ, forQ, whileQ]); first | (with_reducible refine retM_ret ?_) | refine retQ_ret ?_; simp [hlen])) | refine st_seq ?_ | refine st_block ?_ | ((first | refine st_reg ?_ | refine buildP_own ?_) <;> (simp -dsimp [hlen]; (repeat (simp -dsimp (disch := (first | omega | assumption | (refine Bool.eq_false_iff.1 ?_; assumption))) only [wrap_in, if_pos, if_neg]; (try simp -dsimp [hlen]))))) | ((first | refine guardP_of (fun hc => ?_) (fun hc => ?_) | refine st_cond rfl (fun hc => ?_) (fun hc => ?_)) <;> (try simp only [decide_eq_true_eq, decide_eq_false_iff_not, Bool.true_eq_false, Bool.false_eq_true, bne_iff_ne, ne_eq, bne_eq_false_iff_eq, beq_iff_eq, beq_eq_false_iff_ne, Bool.not_eq_true, Bool.not_eq_false, Bool.not_eq_eq_eq_not, Bool.not_true, Bool.not_false, Decidable.not_not] at hc) <;> (try (exfalso; first | omega | exact bool_tf hc (by assumption) | exact bool_ft hc (by assumption) | exact absurd (by assumption) hc)) <;> (first | with_reducible show STri _ _ _ _ _ _ | (simp -dsimp [hlen, hc]; (repeat (simp -dsimp (disch := (first | omega | assumption | (refine Bool.eq_false_iff.1 ?_; assumption))) only [wrap_in, if_pos, if_neg]; (try simp -dsimp [hlen, hc]))))))))
    rw [hall]
    exact .refl _

def bxW (w : Dw) : Blk := .box 26 [.c (I w.jump), .c (I w.elo), .c (I w.ehi), .c (slF w.faces)]
def bxF (f : Fc) : Blk := .box 80 [.c (I f.lo), .c (I f.hi), .c (slL f.links), .c (I f.weight), .c (I f.friction)]
attribute [simp] bxW bxF

theorem lUnchanged (w : Dw) (hw : DwLen w) : SC Try.prog 16 [cDw w, cDw w] (B true) := by
  refine law_turretlaw04_unchanged _ _ (by simp) ?_
  have hn := hw.n
  (repeat' (first | ((first | with_reducible refine st_skip ?_ | with_reducible refine st_exit ?_); (try simp only [seqQ, blockQ, loopQ, forQ, whileQ, reduceIte, Nat.reduceEqDiff])) | (with_reducible refine st_ret ?_; ((try simp only [seqQ, blockQ, loopQ, forQ, whileQ]); first | (with_reducible refine retM_ret ?_) | refine retQ_ret ?_; simp)) | refine st_seq ?_ | refine st_block ?_ | ((first | refine st_reg ?_ | refine buildP_own ?_) <;> (simp -dsimp; (repeat (simp -dsimp (disch := (first | omega | assumption | (refine Bool.eq_false_iff.1 ?_; assumption))) only [wrap_in, if_pos, if_neg]; (try simp -dsimp))))) | ((first | refine guardP_of (fun hc => ?_) (fun hc => ?_) | refine st_cond rfl (fun hc => ?_) (fun hc => ?_)) <;> (try simp only [decide_eq_true_eq, decide_eq_false_iff_not, Bool.true_eq_false, Bool.false_eq_true, bne_iff_ne, ne_eq, bne_eq_false_iff_eq, beq_iff_eq, beq_eq_false_iff_ne, Bool.not_eq_true, Bool.not_eq_false, Bool.not_eq_eq_eq_not, Bool.not_true, Bool.not_false, Decidable.not_not] at hc) <;> (try (exfalso; first | omega | exact bool_tf hc (by assumption) | exact bool_ft hc (by assumption) | exact absurd (by assumption) hc)) <;> (first | with_reducible show STri _ _ _ _ _ _ | (simp -dsimp [hc]; (repeat (simp -dsimp (disch := (first | omega | assumption | (refine Bool.eq_false_iff.1 ?_; assumption))) only [wrap_in, if_pos, if_neg]; (try simp -dsimp [hc]))))))))
  refine st_for [2, 3] w.faces.length (fun k T H => T = [(2, .ptr 2 0), (3, .ptr 3 0), (5, .c (I k))] ∧ H = [(2, bxW w), (3, bxW w)]) (by simp) ⟨by simp, by simp⟩ ?_
  rintro k T H hk ⟨rfl, rfl⟩
  by_cases hlt : k < w.faces.length
  · have hl := hw.l _ (List.getElem_mem hlt)
    (repeat' (first | ((first | with_reducible refine st_skip ?_ | with_reducible refine st_exit ?_); (try simp only [seqQ, blockQ, loopQ, forQ, whileQ, reduceIte, Nat.reduceEqDiff])) | (with_reducible refine st_ret ?_; ((try simp only [seqQ, blockQ, loopQ, forQ, whileQ]); first | (with_reducible refine retM_ret ?_) | refine retQ_ret ?_; simp [hlt])) | refine st_seq ?_ | refine st_block ?_ | ((first | refine st_reg ?_ | refine buildP_own ?_) <;> (simp -dsimp [hlt]; (repeat (simp -dsimp (disch := (first | omega | assumption | (refine Bool.eq_false_iff.1 ?_; assumption))) only [wrap_in, if_pos, if_neg]; (try simp -dsimp [hlt]))))) | ((first | refine guardP_of (fun hc => ?_) (fun hc => ?_) | refine st_cond rfl (fun hc => ?_) (fun hc => ?_)) <;> (try simp only [decide_eq_true_eq, decide_eq_false_iff_not, Bool.true_eq_false, Bool.false_eq_true, bne_iff_ne, ne_eq, bne_eq_false_iff_eq, beq_iff_eq, beq_eq_false_iff_ne, Bool.not_eq_true, Bool.not_eq_false, Bool.not_eq_eq_eq_not, Bool.not_true, Bool.not_false, Decidable.not_not] at hc) <;> (try (exfalso; first | omega | exact bool_tf hc (by assumption) | exact bool_ft hc (by assumption) | exact absurd (by assumption) hc)) <;> (first | with_reducible show STri _ _ _ _ _ _ | (simp -dsimp [hlt, hc]; (repeat (simp -dsimp (disch := (first | omega | assumption | (refine Bool.eq_false_iff.1 ?_; assumption))) only [wrap_in, if_pos, if_neg]; (try simp -dsimp [hlt, hc]))))))))
    refine st_for [2, 3, 6, 7] w.faces[k].links.length (fun j T H => T = [(2, .ptr 2 0), (3, .ptr 3 0), (5, .c (I k)), (6, .ptr 6 0), (7, .ptr 7 0), (8, .c (I j))] ∧ H = [(2, bxW w), (3, bxW w), (6, bxF w.faces[k]), (7, bxF w.faces[k])]) (by simp) ⟨by simp, by simp⟩ ?_
    rintro j T H hj ⟨rfl, rfl⟩
    by_cases hlt2 : j < w.faces[k].links.length
    · (repeat' (first | ((first | with_reducible refine st_skip ?_ | with_reducible refine st_exit ?_); (try simp only [seqQ, blockQ, loopQ, forQ, whileQ, reduceIte, Nat.reduceEqDiff])) | (with_reducible refine st_ret ?_; ((try simp only [seqQ, blockQ, loopQ, forQ, whileQ]); first | (with_reducible refine retM_ret ?_) | refine retQ_ret ?_; simp [hlt, hlt2])) | refine st_seq ?_ | refine st_block ?_ | ((first | refine st_reg ?_ | refine buildP_own ?_) <;> (simp -dsimp [hlt, hlt2]; (repeat (simp -dsimp (disch := (first | omega | assumption | (refine Bool.eq_false_iff.1 ?_; assumption))) only [wrap_in, if_pos, if_neg]; (try simp -dsimp [hlt, hlt2]))))) | ((first | refine guardP_of (fun hc => ?_) (fun hc => ?_) | refine st_cond rfl (fun hc => ?_) (fun hc => ?_)) <;> (try simp only [decide_eq_true_eq, decide_eq_false_iff_not, Bool.true_eq_false, Bool.false_eq_true, bne_iff_ne, ne_eq, bne_eq_false_iff_eq, beq_iff_eq, beq_eq_false_iff_ne, Bool.not_eq_true, Bool.not_eq_false, Bool.not_eq_eq_eq_not, Bool.not_true, Bool.not_false, Decidable.not_not] at hc) <;> (try (exfalso; first | omega | exact bool_tf hc (by assumption) | exact bool_ft hc (by assumption) | exact absurd (by assumption) hc)) <;> (first | with_reducible show STri _ _ _ _ _ _ | (simp -dsimp [hlt, hlt2, hc]; (repeat (simp -dsimp (disch := (first | omega | assumption | (refine Bool.eq_false_iff.1 ?_; assumption))) only [wrap_in, if_pos, if_neg]; (try simp -dsimp [hlt, hlt2, hc]))))))))
      all_goals exact ⟨hlt2, by simp, by simp, by simp⟩
    · (repeat' (first | ((first | with_reducible refine st_skip ?_ | with_reducible refine st_exit ?_); (try simp only [seqQ, blockQ, loopQ, forQ, whileQ, reduceIte, Nat.reduceEqDiff])) | (with_reducible refine st_ret ?_; ((try simp only [seqQ, blockQ, loopQ, forQ, whileQ]); first | (with_reducible refine retM_ret ?_) | refine retQ_ret ?_; simp [hlt2])) | refine st_seq ?_ | refine st_block ?_ | ((first | refine st_reg ?_ | refine buildP_own ?_) <;> (simp -dsimp [hlt2]; (repeat (simp -dsimp (disch := (first | omega | assumption | (refine Bool.eq_false_iff.1 ?_; assumption))) only [wrap_in, if_pos, if_neg]; (try simp -dsimp [hlt2]))))) | ((first | refine guardP_of (fun hc => ?_) (fun hc => ?_) | refine st_cond rfl (fun hc => ?_) (fun hc => ?_)) <;> (try simp only [decide_eq_true_eq, decide_eq_false_iff_not, Bool.true_eq_false, Bool.false_eq_true, bne_iff_ne, ne_eq, bne_eq_false_iff_eq, beq_iff_eq, beq_eq_false_iff_ne, Bool.not_eq_true, Bool.not_eq_false, Bool.not_eq_eq_eq_not, Bool.not_true, Bool.not_false, Decidable.not_not] at hc) <;> (try (exfalso; first | omega | exact bool_tf hc (by assumption) | exact bool_ft hc (by assumption) | exact absurd (by assumption) hc)) <;> (first | with_reducible show STri _ _ _ _ _ _ | (simp -dsimp [hlt2, hc]; (repeat (simp -dsimp (disch := (first | omega | assumption | (refine Bool.eq_false_iff.1 ?_; assumption))) only [wrap_in, if_pos, if_neg]; (try simp -dsimp [hlt2, hc]))))))))
      all_goals exact ⟨hlt, by simp, by simp, by simp⟩
  · (repeat' (first | ((first | with_reducible refine st_skip ?_ | with_reducible refine st_exit ?_); (try simp only [seqQ, blockQ, loopQ, forQ, whileQ, reduceIte, Nat.reduceEqDiff])) | (with_reducible refine st_ret ?_; ((try simp only [seqQ, blockQ, loopQ, forQ, whileQ]); first | (with_reducible refine retM_ret ?_) | refine retQ_ret ?_; simp [hlt])) | refine st_seq ?_ | refine st_block ?_ | ((first | refine st_reg ?_ | refine buildP_own ?_) <;> (simp -dsimp [hlt]; (repeat (simp -dsimp (disch := (first | omega | assumption | (refine Bool.eq_false_iff.1 ?_; assumption))) only [wrap_in, if_pos, if_neg]; (try simp -dsimp [hlt]))))) | ((first | refine guardP_of (fun hc => ?_) (fun hc => ?_) | refine st_cond rfl (fun hc => ?_) (fun hc => ?_)) <;> (try simp only [decide_eq_true_eq, decide_eq_false_iff_not, Bool.true_eq_false, Bool.false_eq_true, bne_iff_ne, ne_eq, bne_eq_false_iff_eq, beq_iff_eq, beq_eq_false_iff_ne, Bool.not_eq_true, Bool.not_eq_false, Bool.not_eq_eq_eq_not, Bool.not_true, Bool.not_false, Decidable.not_not] at hc) <;> (try (exfalso; first | omega | exact bool_tf hc (by assumption) | exact bool_ft hc (by assumption) | exact absurd (by assumption) hc)) <;> (first | with_reducible show STri _ _ _ _ _ _ | (simp -dsimp [hlt, hc]; (repeat (simp -dsimp (disch := (first | omega | assumption | (refine Bool.eq_false_iff.1 ?_; assumption))) only [wrap_in, if_pos, if_neg]; (try simp -dsimp [hlt, hc]))))))))
    all_goals exact .refl _

end Go.Proofs.Ytnfggkopledpcaa
/- Dial's references, VI: spans of a list of bools; what can be shown. -/
namespace Go.Proofs.Ytnfggkopledpcaa
open Go.RowKit

def bsR (N : Nat) (f : Nat → Bool) : List (List CV) := (List.range N).map fun i => [B (f i)]
def bsC (N : Nat) (f : Nat → Bool) : CV := .sl 1 (bsR N f)
def setHi (o : List (Int × Int)) (n : Int) : List (Int × Int) := match o.getLast? with
  | some l => o.dropLast ++ [(l.1, n)]
  | none => []
def spK (f : Nat → Bool) (a : Int) : Nat → List (Int × Int)
  | 0 => []
  | i + 1 => if f i = true then (if i = 0 ∨ f (i - 1) = false then spK f a i ++ [(a + i, a + i)] else setHi (spK f a i) (a + i)) else spK f a i

structure SpOk (f : Nat → Bool) (a : Int) (i : Nat) (l : List (Int × Int)) : Prop where
  sep : Sep l
  mem : ∀ n, Memb l n ↔ ∃ j, j < i ∧ f j = true ∧ n = a + j
  far : 0 < i → f (i - 1) = false → ∀ x ∈ l, x.2 + 1 < a + i
  last : 0 < i → f (i - 1) = true → ∃ o m, l = o ++ [m] ∧ m.2 + 1 = a + i
  len : l.length ≤ i

theorem spK_ok (f : Nat → Bool) (a : Int) : ∀ i, SpOk f a i (spK f a i)
  | 0 => ⟨⟨by simp [spK], fun x hx => by simp [spK] at hx⟩, fun n => ⟨fun ⟨x, hx, _⟩ => by simp [spK] at hx, fun ⟨j, hj, _⟩ => by omega⟩, fun h => by omega, fun h => by omega, by simp [spK]⟩
  | i + 1 => by
    have ih := spK_ok f a i
    by_cases hf : f i = true
    · by_cases hc : i = 0 ∨ f (i - 1) = false
      · have e : spK f a (i + 1) = spK f a i ++ [(a + i, a + i)] := by simp only [spK]; rw [if_pos hf, if_pos hc]
        rw [e]
        have hfar : ∀ x ∈ spK f a i, x.2 + 1 < a + i := by
          rcases hc with rfl | hc
          · intro x hx; simp [spK] at hx
          · by_cases h0 : i = 0
            · subst h0; intro x hx; simp [spK] at hx
            · exact ih.far (by omega) hc
        refine ⟨sep_snoc.2 ⟨ih.sep, fun x hx => by simpa using hfar x hx, Int.le_refl _⟩, fun n => ?_, fun _ h => ?_, fun _ _ => ⟨_, _, rfl, by simp only; omega⟩, by have := ih.len; simp; omega⟩
        · rw [memb_snoc, ih.mem]
          constructor
          · rintro (⟨j, h1, h2, h3⟩ | ⟨h1, h2⟩)
            · exact ⟨j, by omega, h2, h3⟩
            · exact ⟨i, by omega, hf, by simp only at h1 h2; omega⟩
          · rintro ⟨j, h1, h2, h3⟩
            by_cases hji : j = i
            · subst hji; exact .inr ⟨by simp only; omega, by simp only; omega⟩
            · exact .inl ⟨j, by omega, h2, h3⟩
        · simp at h; rw [h] at hf; cases hf
      · have e : spK f a (i + 1) = setHi (spK f a i) (a + i) := by simp only [spK]; rw [if_pos hf, if_neg hc]
        have h0 : 0 < i := by omega
        have hp : f (i - 1) = true := by cases h : f (i - 1) <;> simp_all
        obtain ⟨o, m, ho, hm⟩ := ih.last h0 hp
        have hs : setHi (spK f a i) (a + i) = o ++ [(m.1, a + i)] := by rw [ho]; simp [setHi]
        rw [e, hs]
        have hsep := ih.sep
        have hmem := ih.mem
        have hlen := ih.len
        rw [ho] at hsep hmem hlen
        obtain ⟨s1, s2, s3⟩ := sep_snoc.1 hsep
        refine ⟨sep_snoc.2 ⟨s1, s2, by simp only; omega⟩, fun n => ?_, fun _ h => ?_, fun _ _ => ⟨_, _, rfl, by simp only; omega⟩, by simp at hlen ⊢; omega⟩
        · have hq := hmem n
          rw [memb_snoc] at hq ⊢
          simp only
          constructor
          · rintro (h | ⟨h1, h2⟩)
            · obtain ⟨j, g1, g2, g3⟩ := hq.1 (.inl h)
              exact ⟨j, by omega, g2, g3⟩
            · by_cases hn : n = a + i
              · exact ⟨i, by omega, hf, hn⟩
              · obtain ⟨j, g1, g2, g3⟩ := hq.1 (.inr ⟨h1, by omega⟩)
                exact ⟨j, by omega, g2, g3⟩
          · rintro ⟨j, h1, h2, h3⟩
            by_cases hji : j = i
            · subst hji; exact .inr ⟨by omega, by omega⟩
            · rcases hq.2 ⟨j, by omega, h2, h3⟩ with h | ⟨g1, g2⟩
              · exact .inl h
              · exact .inr ⟨g1, by omega⟩
        · simp at h; rw [h] at hf; cases hf
    · have e : spK f a (i + 1) = spK f a i := by simp only [spK]; rw [if_neg hf]
      rw [e]
      refine ⟨ih.sep, fun n => ?_, fun _ _ x hx => ?_, fun _ h => ?_, by have := ih.len; omega⟩
      · rw [ih.mem]
        constructor
        · rintro ⟨j, h1, h2, h3⟩
          exact ⟨j, by omega, h2, h3⟩
        · rintro ⟨j, h1, h2, h3⟩
          by_cases hji : j = i
          · subst hji; exact absurd h2 hf
          · exact ⟨j, by omega, h2, h3⟩
      · by_cases h0 : i = 0
        · subst h0; simp [spK] at hx
        · cases hp : f (i - 1) with
          | false => have := ih.far (by omega) hp x hx; omega
          | true =>
            obtain ⟨o, m, ho, hm⟩ := ih.last (by omega) hp
            have hsep := ih.sep
            rw [ho] at hsep hx
            obtain ⟨s1, s2, s3⟩ := sep_snoc.1 hsep
            rcases List.mem_append.1 hx with hx | hx
            · have := s2 x hx; omega
            · simp at hx; subst hx; omega
      · simp at h; exact absurd h hf

theorem bsR_len (N : Nat) (f : Nat → Bool) : (bsR N f).length = N := by simp [bsR]
theorem bsR_at (N : Nat) (f : Nat → Bool) (i : Nat) : ∀ h : i < (bsR N f).length, (bsR N f)[i]'h = [B (f i)] := fun h => by simp [bsR]

theorem rSame (l : List (Int × Int)) (hl : l.length ≤ 1000000) : SC Try.prog 21 [slS l, slS l] (B true) := by
  refine law_turretref04_Same _ _ (by simp) ?_
  (repeat' (first | ((first | with_reducible refine st_skip ?_ | with_reducible refine st_exit ?_); (try simp only [seqQ, blockQ, loopQ, forQ, whileQ, reduceIte, Nat.reduceEqDiff])) | (with_reducible refine st_ret ?_; ((try simp only [seqQ, blockQ, loopQ, forQ, whileQ]); first | (with_reducible refine retM_ret ?_) | refine retQ_ret ?_; simp)) | refine st_seq ?_ | refine st_block ?_ | ((first | refine st_reg ?_ | refine buildP_own ?_) <;> (simp -dsimp; (repeat (simp -dsimp (disch := (first | omega | assumption | (refine Bool.eq_false_iff.1 ?_; assumption))) only [wrap_in, if_pos, if_neg]; (try simp -dsimp))))) | ((first | refine guardP_of (fun hc => ?_) (fun hc => ?_) | refine st_cond rfl (fun hc => ?_) (fun hc => ?_)) <;> (try simp only [decide_eq_true_eq, decide_eq_false_iff_not, Bool.true_eq_false, Bool.false_eq_true, bne_iff_ne, ne_eq, bne_eq_false_iff_eq, beq_iff_eq, beq_eq_false_iff_ne, Bool.not_eq_true, Bool.not_eq_false, Bool.not_eq_eq_eq_not, Bool.not_true, Bool.not_false, Decidable.not_not] at hc) <;> (try (exfalso; first | omega | exact bool_tf hc (by assumption) | exact bool_ft hc (by assumption) | exact absurd (by assumption) hc)) <;> (first | with_reducible show STri _ _ _ _ _ _ | (simp -dsimp [hc]; (repeat (simp -dsimp (disch := (first | omega | assumption | (refine Bool.eq_false_iff.1 ?_; assumption))) only [wrap_in, if_pos, if_neg]; (try simp -dsimp [hc]))))))))
  refine st_for [] l.length (fun k T H => T = [(0, .c (slS l)), (1, .c (slS l)), (5, .c (I k))] ∧ H = []) (by simp) ⟨by simp, by simp⟩ ?_
  rintro k T H hk ⟨rfl, rfl⟩
  by_cases hlt : k < l.length
  · have hg : (l.map rowS)[k]? = some (rowS l[k]) := by simp [hlt]
    (repeat' (first | ((first | with_reducible refine st_skip ?_ | with_reducible refine st_exit ?_); (try simp only [seqQ, blockQ, loopQ, forQ, whileQ, reduceIte, Nat.reduceEqDiff])) | (with_reducible refine st_ret ?_; ((try simp only [seqQ, blockQ, loopQ, forQ, whileQ]); first | (with_reducible refine retM_ret ?_) | refine retQ_ret ?_; simp [hlt, hg])) | refine st_seq ?_ | refine st_block ?_ | ((first | refine st_reg ?_ | refine buildP_own ?_) <;> (simp -dsimp [hlt, hg]; (repeat (simp -dsimp (disch := (first | omega | assumption | (refine Bool.eq_false_iff.1 ?_; assumption))) only [wrap_in, if_pos, if_neg]; (try simp -dsimp [hlt, hg]))))) | ((first | refine guardP_of (fun hc => ?_) (fun hc => ?_) | refine st_cond rfl (fun hc => ?_) (fun hc => ?_)) <;> (try simp only [decide_eq_true_eq, decide_eq_false_iff_not, Bool.true_eq_false, Bool.false_eq_true, bne_iff_ne, ne_eq, bne_eq_false_iff_eq, beq_iff_eq, beq_eq_false_iff_ne, Bool.not_eq_true, Bool.not_eq_false, Bool.not_eq_eq_eq_not, Bool.not_true, Bool.not_false, Decidable.not_not] at hc) <;> (try (exfalso; first | omega | exact bool_tf hc (by assumption) | exact bool_ft hc (by assumption) | exact absurd (by assumption) hc)) <;> (first | with_reducible show STri _ _ _ _ _ _ | (simp -dsimp [hlt, hg, hc]; (repeat (simp -dsimp (disch := (first | omega | assumption | (refine Bool.eq_false_iff.1 ?_; assumption))) only [wrap_in, if_pos, if_neg]; (try simp -dsimp [hlt, hg, hc]))))))))
    exact ⟨by omega, by simp, by simp⟩
  · (repeat' (first | ((first | with_reducible refine st_skip ?_ | with_reducible refine st_exit ?_); (try simp only [seqQ, blockQ, loopQ, forQ, whileQ, reduceIte, Nat.reduceEqDiff])) | (with_reducible refine st_ret ?_; ((try simp only [seqQ, blockQ, loopQ, forQ, whileQ]); first | (with_reducible refine retM_ret ?_) | refine retQ_ret ?_; simp [hlt])) | refine st_seq ?_ | refine st_block ?_ | ((first | refine st_reg ?_ | refine buildP_own ?_) <;> (simp -dsimp [hlt]; (repeat (simp -dsimp (disch := (first | omega | assumption | (refine Bool.eq_false_iff.1 ?_; assumption))) only [wrap_in, if_pos, if_neg]; (try simp -dsimp [hlt]))))) | ((first | refine guardP_of (fun hc => ?_) (fun hc => ?_) | refine st_cond rfl (fun hc => ?_) (fun hc => ?_)) <;> (try simp only [decide_eq_true_eq, decide_eq_false_iff_not, Bool.true_eq_false, Bool.false_eq_true, bne_iff_ne, ne_eq, bne_eq_false_iff_eq, beq_iff_eq, beq_eq_false_iff_ne, Bool.not_eq_true, Bool.not_eq_false, Bool.not_eq_eq_eq_not, Bool.not_true, Bool.not_false, Decidable.not_not] at hc) <;> (try (exfalso; first | omega | exact bool_tf hc (by assumption) | exact bool_ft hc (by assumption) | exact absurd (by assumption) hc)) <;> (first | with_reducible show STri _ _ _ _ _ _ | (simp -dsimp [hlt, hc]; (repeat (simp -dsimp (disch := (first | omega | assumption | (refine Bool.eq_false_iff.1 ?_; assumption))) only [wrap_in, if_pos, if_neg]; (try simp -dsimp [hlt, hc]))))))))
    all_goals exact .refl _

theorem rSpans (N : Nat) (f : Nat → Bool) (a : Int) (hN : N ≤ 1000000) (a1 : -1000000000000 ≤ a) (a2 : a ≤ 1000000000000) : SC Try.prog 22 [bsC N f, I a] (slS (spK f a N)) := by
  refine law_turretref04_Spans _ _ (by simp) ?_
  have hbl := bsR_len N f
  unfold bsC
  (repeat' (first | ((first | with_reducible refine st_skip ?_ | with_reducible refine st_exit ?_); (try simp only [seqQ, blockQ, loopQ, forQ, whileQ, reduceIte, Nat.reduceEqDiff])) | (with_reducible refine st_ret ?_; ((try simp only [seqQ, blockQ, loopQ, forQ, whileQ]); first | (with_reducible refine retM_ret ?_) | refine retQ_ret ?_; simp [hbl])) | refine st_seq ?_ | refine st_block ?_ | ((first | refine st_reg ?_ | refine buildP_own ?_) <;> (simp -dsimp [hbl]; (repeat (simp -dsimp (disch := (first | omega | assumption | (refine Bool.eq_false_iff.1 ?_; assumption))) only [wrap_in, if_pos, if_neg]; (try simp -dsimp [hbl]))))) | ((first | refine guardP_of (fun hc => ?_) (fun hc => ?_) | refine st_cond rfl (fun hc => ?_) (fun hc => ?_)) <;> (try simp only [decide_eq_true_eq, decide_eq_false_iff_not, Bool.true_eq_false, Bool.false_eq_true, bne_iff_ne, ne_eq, bne_eq_false_iff_eq, beq_iff_eq, beq_eq_false_iff_ne, Bool.not_eq_true, Bool.not_eq_false, Bool.not_eq_eq_eq_not, Bool.not_true, Bool.not_false, Decidable.not_not] at hc) <;> (try (exfalso; first | omega | exact bool_tf hc (by assumption) | exact bool_ft hc (by assumption) | exact absurd (by assumption) hc)) <;> (first | with_reducible show STri _ _ _ _ _ _ | (simp -dsimp [hbl, hc]; (repeat (simp -dsimp (disch := (first | omega | assumption | (refine Bool.eq_false_iff.1 ?_; assumption))) only [wrap_in, if_pos, if_neg]; (try simp -dsimp [hbl, hc]))))))))
  refine st_for [7] N (fun i T H => T = [(0, .c (.sl 1 (bsR N f))), (1, .c (I a)), (5, .own 7 (spK f a i).length), (6, .c (I i))] ∧ H = [(7, .arr 23 2 ((spK f a i).map rowS))]) (by simp) ⟨by simp [spK], by simp [spK]⟩ ?_
  rintro i T H hi ⟨rfl, rfl⟩
  have hok := spK_ok f a i
  have hle := hok.len
  by_cases hlt : i < N
  · have hg := bsR_at N f i
    by_cases hf : f i = true
    · by_cases h0 : i = 0
      · subst h0
        have e : spK f a (0 + 1) = [(a + (0 : Nat), a + (0 : Nat))] := by simp [spK, hf]
        have e0 : spK f a 0 = [] := rfl
        rw [e0]
        rw [hf] at hg
        (repeat' (first | ((first | with_reducible refine st_skip ?_ | with_reducible refine st_exit ?_); (try simp only [seqQ, blockQ, loopQ, forQ, whileQ, reduceIte, Nat.reduceEqDiff])) | (with_reducible refine st_ret ?_; ((try simp only [seqQ, blockQ, loopQ, forQ, whileQ]); first | (with_reducible refine retM_ret ?_) | refine retQ_ret ?_; simp [hlt, hg, hbl])) | refine st_seq ?_ | refine st_block ?_ | ((first | refine st_reg ?_ | refine buildP_own ?_) <;> (simp -dsimp [hlt, hg, hbl]; (repeat (simp -dsimp (disch := (first | omega | assumption | (refine Bool.eq_false_iff.1 ?_; assumption))) only [wrap_in, if_pos, if_neg]; (try simp -dsimp [hlt, hg, hbl]))))) | ((first | refine guardP_of (fun hc => ?_) (fun hc => ?_) | refine st_cond rfl (fun hc => ?_) (fun hc => ?_)) <;> (try simp only [decide_eq_true_eq, decide_eq_false_iff_not, Bool.true_eq_false, Bool.false_eq_true, bne_iff_ne, ne_eq, bne_eq_false_iff_eq, beq_iff_eq, beq_eq_false_iff_ne, Bool.not_eq_true, Bool.not_eq_false, Bool.not_eq_eq_eq_not, Bool.not_true, Bool.not_false, Decidable.not_not] at hc) <;> (try (exfalso; first | omega | exact bool_tf hc (by assumption) | exact bool_ft hc (by assumption) | exact absurd (by assumption) hc)) <;> (first | with_reducible show STri _ _ _ _ _ _ | (simp -dsimp [hlt, hg, hbl, hc]; (repeat (simp -dsimp (disch := (first | omega | assumption | (refine Bool.eq_false_iff.1 ?_; assumption))) only [wrap_in, if_pos, if_neg]; (try simp -dsimp [hlt, hg, hbl, hc]))))))))
        exact ⟨by omega, by simp, by rw [e]; simp, by rw [e]; simp⟩
      · obtain ⟨p, rfl⟩ : ∃ p, i = p + 1 := ⟨i - 1, by omega⟩
        have hgp := bsR_at N f p
        have hpN : p < N := by omega
        rw [hf] at hg
        cases hp : f p with
        | false =>
          rw [hp] at hgp
          have e : spK f a (p + 1 + 1) = spK f a (p + 1) ++ [(a + (p + 1 : Nat), a + (p + 1 : Nat))] := by rw [spK, if_pos hf, if_pos (.inr (by simpa using hp))]
          generalize hoo : spK f a (p + 1) = o at *
          have hgl := last_get o [I (a + (p + 1 : Nat)), I (a + (p + 1 : Nat))]
          have hst := last_set o [I (a + (p + 1 : Nat)), I (a + (p + 1 : Nat))]
          (repeat' (first | ((first | with_reducible refine st_skip ?_ | with_reducible refine st_exit ?_); (try simp only [seqQ, blockQ, loopQ, forQ, whileQ, reduceIte, Nat.reduceEqDiff])) | (with_reducible refine st_ret ?_; ((try simp only [seqQ, blockQ, loopQ, forQ, whileQ]); first | (with_reducible refine retM_ret ?_) | refine retQ_ret ?_; simp [hlt, hpN, hg, hgp, hbl, hgl, hst])) | refine st_seq ?_ | refine st_block ?_ | ((first | refine st_reg ?_ | refine buildP_own ?_) <;> (simp -dsimp [hlt, hpN, hg, hgp, hbl, hgl, hst]; (repeat (simp -dsimp (disch := (first | omega | assumption | (refine Bool.eq_false_iff.1 ?_; assumption))) only [wrap_in, if_pos, if_neg]; (try simp -dsimp [hlt, hpN, hg, hgp, hbl, hgl, hst]))))) | ((first | refine guardP_of (fun hc => ?_) (fun hc => ?_) | refine st_cond rfl (fun hc => ?_) (fun hc => ?_)) <;> (try simp only [decide_eq_true_eq, decide_eq_false_iff_not, Bool.true_eq_false, Bool.false_eq_true, bne_iff_ne, ne_eq, bne_eq_false_iff_eq, beq_iff_eq, beq_eq_false_iff_ne, Bool.not_eq_true, Bool.not_eq_false, Bool.not_eq_eq_eq_not, Bool.not_true, Bool.not_false, Decidable.not_not] at hc) <;> (try (exfalso; first | omega | exact bool_tf hc (by assumption) | exact bool_ft hc (by assumption) | exact absurd (by assumption) hc)) <;> (first | with_reducible show STri _ _ _ _ _ _ | (simp -dsimp [hlt, hpN, hg, hgp, hbl, hgl, hst, hc]; (repeat (simp -dsimp (disch := (first | omega | assumption | (refine Bool.eq_false_iff.1 ?_; assumption))) only [wrap_in, if_pos, if_neg]; (try simp -dsimp [hlt, hpN, hg, hgp, hbl, hgl, hst, hc]))))))))
          exact ⟨by omega, by simp, by rw [e]; simp, by rw [e]; simp⟩
        | true =>
          rw [hp] at hgp
          obtain ⟨o, m, ho, hm⟩ := hok.last (by omega) (by simpa using hp)
          have e : spK f a (p + 1 + 1) = o ++ [(m.1, a + (p + 1 : Nat))] := by rw [spK, if_pos hf, if_neg (by simp [hp]), ho]; simp [setHi]
          rw [ho] at hle ⊢
          have hol : o.length + 1 ≤ p + 1 := by simpa using hle
          have hgl := last_get o [I m.1, I m.2]
          have hst := last_set o [I m.1, I m.2]
          (repeat' (first | ((first | with_reducible refine st_skip ?_ | with_reducible refine st_exit ?_); (try simp only [seqQ, blockQ, loopQ, forQ, whileQ, reduceIte, Nat.reduceEqDiff])) | (with_reducible refine st_ret ?_; ((try simp only [seqQ, blockQ, loopQ, forQ, whileQ]); first | (with_reducible refine retM_ret ?_) | refine retQ_ret ?_; simp [hlt, hpN, hg, hgp, hbl, hgl, hst])) | refine st_seq ?_ | refine st_block ?_ | ((first | refine st_reg ?_ | refine buildP_own ?_) <;> (simp -dsimp [hlt, hpN, hg, hgp, hbl, hgl, hst]; (repeat (simp -dsimp (disch := (first | omega | assumption | (refine Bool.eq_false_iff.1 ?_; assumption))) only [wrap_in, if_pos, if_neg]; (try simp -dsimp [hlt, hpN, hg, hgp, hbl, hgl, hst]))))) | ((first | refine guardP_of (fun hc => ?_) (fun hc => ?_) | refine st_cond rfl (fun hc => ?_) (fun hc => ?_)) <;> (try simp only [decide_eq_true_eq, decide_eq_false_iff_not, Bool.true_eq_false, Bool.false_eq_true, bne_iff_ne, ne_eq, bne_eq_false_iff_eq, beq_iff_eq, beq_eq_false_iff_ne, Bool.not_eq_true, Bool.not_eq_false, Bool.not_eq_eq_eq_not, Bool.not_true, Bool.not_false, Decidable.not_not] at hc) <;> (try (exfalso; first | omega | exact bool_tf hc (by assumption) | exact bool_ft hc (by assumption) | exact absurd (by assumption) hc)) <;> (first | with_reducible show STri _ _ _ _ _ _ | (simp -dsimp [hlt, hpN, hg, hgp, hbl, hgl, hst, hc]; (repeat (simp -dsimp (disch := (first | omega | assumption | (refine Bool.eq_false_iff.1 ?_; assumption))) only [wrap_in, if_pos, if_neg]; (try simp -dsimp [hlt, hpN, hg, hgp, hbl, hgl, hst, hc]))))))))
          exact ⟨by omega, by simp, by rw [e]; simp, by rw [e]; simp⟩
    · have hf' : f i = false := by cases h : f i <;> simp_all
      have e : spK f a (i + 1) = spK f a i := by rw [spK, if_neg hf]
      rw [hf'] at hg
      (repeat' (first | ((first | with_reducible refine st_skip ?_ | with_reducible refine st_exit ?_); (try simp only [seqQ, blockQ, loopQ, forQ, whileQ, reduceIte, Nat.reduceEqDiff])) | (with_reducible refine st_ret ?_; ((try simp only [seqQ, blockQ, loopQ, forQ, whileQ]); first | (with_reducible refine retM_ret ?_) | refine retQ_ret ?_; simp [hlt, hg, hbl])) | refine st_seq ?_ | refine st_block ?_ | ((first | refine st_reg ?_ | refine buildP_own ?_) <;> (simp -dsimp [hlt, hg, hbl]; (repeat (simp -dsimp (disch := (first | omega | assumption | (refine Bool.eq_false_iff.1 ?_; assumption))) only [wrap_in, if_pos, if_neg]; (try simp -dsimp [hlt, hg, hbl]))))) | ((first | refine guardP_of (fun hc => ?_) (fun hc => ?_) | refine st_cond rfl (fun hc => ?_) (fun hc => ?_)) <;> (try simp only [decide_eq_true_eq, decide_eq_false_iff_not, Bool.true_eq_false, Bool.false_eq_true, bne_iff_ne, ne_eq, bne_eq_false_iff_eq, beq_iff_eq, beq_eq_false_iff_ne, Bool.not_eq_true, Bool.not_eq_false, Bool.not_eq_eq_eq_not, Bool.not_true, Bool.not_false, Decidable.not_not] at hc) <;> (try (exfalso; first | omega | exact bool_tf hc (by assumption) | exact bool_ft hc (by assumption) | exact absurd (by assumption) hc)) <;> (first | with_reducible show STri _ _ _ _ _ _ | (simp -dsimp [hlt, hg, hbl, hc]; (repeat (simp -dsimp (disch := (first | omega | assumption | (refine Bool.eq_false_iff.1 ?_; assumption))) only [wrap_in, if_pos, if_neg]; (try simp -dsimp [hlt, hg, hbl, hc]))))))))
      exact ⟨by omega, by simp, by rw [e]; simp, by rw [e]; simp⟩
  · have hin : i = N := by omega
    subst hin
    (repeat' (first | ((first | with_reducible refine st_skip ?_ | with_reducible refine st_exit ?_); (try simp only [seqQ, blockQ, loopQ, forQ, whileQ, reduceIte, Nat.reduceEqDiff])) | (with_reducible refine st_ret ?_; ((try simp only [seqQ, blockQ, loopQ, forQ, whileQ]); first | (with_reducible refine retM_ret ?_) | refine retQ_ret ?_; simp [hlt, hbl])) | refine st_seq ?_ | refine st_block ?_ | ((first | refine st_reg ?_ | refine buildP_own ?_) <;> (simp -dsimp [hlt, hbl]; (repeat (simp -dsimp (disch := (first | omega | assumption | (refine Bool.eq_false_iff.1 ?_; assumption))) only [wrap_in, if_pos, if_neg]; (try simp -dsimp [hlt, hbl]))))) | ((first | refine guardP_of (fun hc => ?_) (fun hc => ?_) | refine st_cond rfl (fun hc => ?_) (fun hc => ?_)) <;> (try simp only [decide_eq_true_eq, decide_eq_false_iff_not, Bool.true_eq_false, Bool.false_eq_true, bne_iff_ne, ne_eq, bne_eq_false_iff_eq, beq_iff_eq, beq_eq_false_iff_ne, Bool.not_eq_true, Bool.not_eq_false, Bool.not_eq_eq_eq_not, Bool.not_true, Bool.not_false, Decidable.not_not] at hc) <;> (try (exfalso; first | omega | exact bool_tf hc (by assumption) | exact bool_ft hc (by assumption) | exact absurd (by assumption) hc)) <;> (first | with_reducible show STri _ _ _ _ _ _ | (simp -dsimp [hlt, hbl, hc]; (repeat (simp -dsimp (disch := (first | omega | assumption | (refine Bool.eq_false_iff.1 ?_; assumption))) only [wrap_in, if_pos, if_neg]; (try simp -dsimp [hlt, hbl, hc]))))))))
    all_goals exact .refl _

end Go.Proofs.Ytnfggkopledpcaa
/- Dial's references, VII: Shown. -/
namespace Go.Proofs.Ytnfggkopledpcaa
open Go.RowKit

def mkH (f : Nat → Bool) (lo : Int) (n : Nat) : Nat → Bool := fun s => f s || (List.range n).any fun j => decide ((lo + j) % 43200 = s)
def hdLo (k : Lo) (e : Int) : Int := handLo k.f (slackI k.f.links) (dAt k e) k.wlo
def hdHi (k : Lo) (e : Int) : Int := handHi k.f (slackI k.f.links) (dAt k e) k.wlo k.whi
def shA (k : Lo) : Nat → Nat → Bool
  | 0 => fun _ => false
  | j + 1 => if ¬ j = 0 ∧ dAt k (k.w.elo + j) = dAt k (k.w.elo + j - 1) then shA k j else mkH (shA k j) (hdLo k (k.w.elo + j)) (hdHi k (k.w.elo + j) - hdLo k (k.w.elo + j) + 1).toNat

theorem bsR_get {N : Nat} {f : Nat → Bool} {i : Nat} (h : i < N) : (bsR N f)[i]? = some [B (f i)] := by simp [bsR, h]
theorem mkH_zero (f : Nat → Bool) (lo : Int) : mkH f lo 0 = f := by funext s; simp [mkH]
theorem mkH_succ (N : Nat) (f : Nat → Bool) (lo : Int) (n : Nat) : bsR N (mkH f lo (n + 1)) = (bsR N (mkH f lo n)).set ((lo + n) % 43200).toNat [B true] := by
  apply List.ext_getElem?
  intro i
  rw [List.getElem?_set]
  have h1 := Int.emod_nonneg (lo + n) (show (43200 : Int) ≠ 0 by decide)
  by_cases hN : i < N
  · simp only [bsR, List.getElem?_map, List.getElem?_range, hN, Option.map_some, List.length_map, List.length_range]
    by_cases hi : ((lo + n) % 43200).toNat = i
    · rw [if_pos hi, if_pos (by omega)]
      have : (lo + n) % 43200 = (i : Int) := by omega
      simp [mkH, List.range_succ, this]
    · rw [if_neg hi]
      have : ¬ (lo + n) % 43200 = (i : Int) := by omega
      simp [mkH, List.range_succ, this]
  · simp [bsR, hN]
    intro h; omega

theorem shA_iff (k : Lo) (s : Nat) : ∀ j, shA k j s = true ↔ ∃ i : Nat, i < j ∧ ∃ m : Int, hdLo k (k.w.elo + i) ≤ m ∧ m ≤ hdHi k (k.w.elo + i) ∧ m % 43200 = s
  | 0 => ⟨fun h => by simp [shA] at h, fun ⟨i, hi, _⟩ => by omega⟩
  | j + 1 => by
    have ih := shA_iff k s j
    simp only [shA]
    split
    · rename_i hc
      rw [ih]
      constructor
      · rintro ⟨i, hi, r⟩; exact ⟨i, by omega, r⟩
      · rintro ⟨i, hi, r⟩
        by_cases hij : i = j
        · subst hij
          refine ⟨i - 1, by omega, ?_⟩
          have e : k.w.elo + ((i - 1 : Nat) : Int) = k.w.elo + i - 1 := by omega
          rw [e]
          unfold hdLo hdHi at *
          rw [hc.2] at r
          exact r
        · exact ⟨i, by omega, r⟩
    · unfold mkH
      rw [Bool.or_eq_true, ih, List.any_eq_true]
      constructor
      · rintro (⟨i, hi, r⟩ | ⟨x, hx, r⟩)
        · exact ⟨i, by omega, r⟩
        · rw [List.mem_range] at hx
          exact ⟨j, by omega, hdLo k (k.w.elo + j) + x, by omega, by omega, by simpa using r⟩
      · rintro ⟨i, hi, m, r1, r2, r3⟩
        by_cases hij : i = j
        · subst hij
          refine .inr ⟨(m - hdLo k (k.w.elo + i)).toNat, List.mem_range.2 (by omega), ?_⟩
          rw [show hdLo k (k.w.elo + i) + ((m - hdLo k (k.w.elo + i)).toNat : Int) = m by omega]
          simpa using r3
        · exact .inl ⟨i, by omega, m, r1, r2, r3⟩

theorem rep_bs (N : Nat) : List.replicate N [B false] = bsR N (fun _ => false) := by simp [bsR, List.map_const']

theorem rShown (k : Lo) (hk : LoSm k) (hd : dwB k.w = true) (n : Int) (n1 : 0 ≤ n) (n2 : n.toNat < k.w.faces.length) (hf : k.w.faces[n.toNat] = k.f) :
    SC Try.prog 23 [cDw k.w, I n, I k.at', cS k.wlo k.whi] (bsC 43200 (shA k (k.w.ehi - k.w.elo + 1).toNat)) := by
  refine law_turretref04_Shown _ _ (by simp) ?_
  have hok : fcOK k.f = true := by rw [← hf]; exact dw_face hd (List.getElem_mem n2)
  have a1 := hk.a
  have a2 := hk.b
  have j1 := hk.w.a
  have j2 := hk.w.b
  have e1 := hk.w.c
  have e2 := hk.w.d
  have e3 := hk.w.e
  have e4 := hk.w.f
  have e5 := hk.w.g
  have c1 := hk.c
  have c2 := hk.d
  have c3 := hk.e
  have c4 := hk.g
  have n3 : n < k.w.faces.length := by omega
  have hbl : ∀ f, (bsR 43200 f).length = 43200 := bsR_len 43200
  (repeat' (first | ((first | with_reducible refine st_skip ?_ | with_reducible refine st_exit ?_); (try simp only [seqQ, blockQ, loopQ, forQ, whileQ, reduceIte, Nat.reduceEqDiff])) | (with_reducible refine st_ret ?_; ((try simp only [seqQ, blockQ, loopQ, forQ, whileQ]); first | (with_reducible refine retM_ret ?_) | refine retQ_ret ?_; simp [-List.reduceReplicate, -List.replicate_succ])) | refine st_seq ?_ | refine st_block ?_ | ((first | refine st_reg ?_ | refine buildP_own ?_) <;> (simp -dsimp [-List.reduceReplicate, -List.replicate_succ]; (repeat (simp -dsimp (disch := (first | omega | assumption | (refine Bool.eq_false_iff.1 ?_; assumption))) only [wrap_in, if_pos, if_neg]; (try simp -dsimp [-List.reduceReplicate, -List.replicate_succ]))))) | ((first | refine guardP_of (fun hc => ?_) (fun hc => ?_) | refine st_cond rfl (fun hc => ?_) (fun hc => ?_)) <;> (try simp only [decide_eq_true_eq, decide_eq_false_iff_not, Bool.true_eq_false, Bool.false_eq_true, bne_iff_ne, ne_eq, bne_eq_false_iff_eq, beq_iff_eq, beq_eq_false_iff_ne, Bool.not_eq_true, Bool.not_eq_false, Bool.not_eq_eq_eq_not, Bool.not_true, Bool.not_false, Decidable.not_not] at hc) <;> (try (exfalso; first | omega | exact bool_tf hc (by assumption) | exact bool_ft hc (by assumption) | exact absurd (by assumption) hc)) <;> (first | with_reducible show STri _ _ _ _ _ _ | (simp -dsimp [-List.reduceReplicate, -List.replicate_succ, hc]; (repeat (simp -dsimp (disch := (first | omega | assumption | (refine Bool.eq_false_iff.1 ?_; assumption))) only [wrap_in, if_pos, if_neg]; (try simp -dsimp [-List.reduceReplicate, -List.replicate_succ, hc]))))))))
  rw [rep_bs]
  refine st_for [4, 7, 13] (k.w.ehi - k.w.elo + 1).toNat (fun j T H => T = [(1, .c (I n)), (2, .c (I k.at')), (4, .ptr 4 0), (7, .ptr 7 0), (9, .own 13 43200), (10, .c (I (k.w.elo + j)))] ∧
    H = [(4, .box 26 [.c (I k.w.jump), .c (I k.w.elo), .c (I k.w.ehi), .c (slF k.w.faces)]), (7, .box 23 [.c (I k.wlo), .c (I k.whi)]), (13, .arr 4 1 (bsR 43200 (shA k j)))]) (by simp) ⟨by simp, by simp [shA]⟩ ?_
  rintro j T H hj ⟨rfl, rfl⟩
  by_cases hlt : j < (k.w.ehi - k.w.elo + 1).toNat
  · have hle : k.w.elo + j ≤ k.w.ehi := by omega
    have sh := rHands k.w k.f hok k.at' (k.w.elo + j) k.wlo k.whi j1 j2 (by omega) (by omega) (by omega) (by omega) (by omega) (by omega) (by omega) (by omega)
    have sd1 := rDriven k.w k.at' (k.w.elo + j) j1 j2 (by omega) (by omega) (by omega) (by omega)
    have sd2 := rDriven k.w k.at' (k.w.elo + j - 1) j1 j2 (by omega) (by omega) (by omega) (by omega)
    obtain ⟨⟨r1, r2⟩, r3, r4⟩ := rh_bd hk hok (k.w.elo + j) (by omega) hle
    have q1 : handLo k.f (slackI k.f.links) (downI (k.at' + (k.w.elo + j)) k.w.jump) k.wlo = hdLo k (k.w.elo + j) := rfl
    have q2 : handHi k.f (slackI k.f.links) (downI (k.at' + (k.w.elo + j)) k.w.jump) k.wlo k.whi = hdHi k (k.w.elo + j) := rfl
    have q3 : downI (k.at' + (k.w.elo + j)) k.w.jump = dAt k (k.w.elo + j) := rfl
    have q4 : downI (k.at' + (k.w.elo + j - 1)) k.w.jump = dAt k (k.w.elo + j - 1) := rfl
    have hstep : shA k (j + 1) = if ¬ j = 0 ∧ dAt k (k.w.elo + j) = dAt k (k.w.elo + j - 1) then shA k j else mkH (shA k j) (hdLo k (k.w.elo + j)) (hdHi k (k.w.elo + j) - hdLo k (k.w.elo + j) + 1).toNat := rfl
    have r1' : rhLo k (k.w.elo + j) = hdLo k (k.w.elo + j) - k.at' := rfl
    have r2' : rhHi k (k.w.elo + j) = hdHi k (k.w.elo + j) - k.at' := rfl
    rw [q1, q2] at sh
    rw [q3] at sd1
    rw [q4] at sd2
    by_cases h0 : j = 0
    · have h00 : k.w.elo + (j : Int) = k.w.elo := by omega
      rw [if_neg (by simp [h0])] at hstep
      rw [h00] at sh hle q1 q2 hstep r1 r2 r3 r4 r1' r2' ⊢
      generalize hdLo k k.w.elo = lo at *
      generalize hdHi k k.w.elo = hi at *
      (repeat' (first | ((first | with_reducible refine st_skip ?_ | with_reducible refine st_exit ?_); (try simp only [seqQ, blockQ, loopQ, forQ, whileQ, reduceIte, Nat.reduceEqDiff])) | (with_reducible refine st_ret ?_; ((try simp only [seqQ, blockQ, loopQ, forQ, whileQ]); first | (with_reducible refine retM_ret ?_) | refine retQ_ret ?_; simp [hle, n1, n2, n3, hf])) | refine st_seq ?_ | refine st_block ?_ | ((first | refine st_reg ?_ | refine buildP_own ?_ | refine callP_b (sh) rfl ?_) <;> (simp -dsimp [hle, n1, n2, n3, hf]; (repeat (simp -dsimp (disch := (first | omega | assumption | (refine Bool.eq_false_iff.1 ?_; assumption))) only [wrap_in, if_pos, if_neg]; (try simp -dsimp [hle, n1, n2, n3, hf]))))) | ((first | refine guardP_of (fun hc => ?_) (fun hc => ?_) | refine st_cond rfl (fun hc => ?_) (fun hc => ?_)) <;> (try simp only [decide_eq_true_eq, decide_eq_false_iff_not, Bool.true_eq_false, Bool.false_eq_true, bne_iff_ne, ne_eq, bne_eq_false_iff_eq, beq_iff_eq, beq_eq_false_iff_ne, Bool.not_eq_true, Bool.not_eq_false, Bool.not_eq_eq_eq_not, Bool.not_true, Bool.not_false, Decidable.not_not] at hc) <;> (try (exfalso; first | omega | exact bool_tf hc (by assumption) | exact bool_ft hc (by assumption) | exact absurd (by assumption) hc)) <;> (first | with_reducible show STri _ _ _ _ _ _ | (simp -dsimp [hle, n1, n2, n3, hf, hc]; (repeat (simp -dsimp (disch := (first | omega | assumption | (refine Bool.eq_false_iff.1 ?_; assumption))) only [wrap_in, if_pos, if_neg]; (try simp -dsimp [hle, n1, n2, n3, hf, hc]))))))))
      generalize shA k j = f at *
      refine st_for [4, 7, 13, 11] (hi - lo + 1).toNat (fun m T H => T = [(1, .c (I n)), (2, .c (I k.at')), (4, .ptr 4 0), (7, .ptr 7 0), (9, .own 13 43200), (10, .c (I (k.w.elo))), (11, .ptr 11 0), (12, .c (I (lo + m)))] ∧
        H = [(4, .box 26 [.c (I k.w.jump), .c (I k.w.elo), .c (I k.w.ehi), .c (slF k.w.faces)]), (7, .box 23 [.c (I k.wlo), .c (I k.whi)]), (13, .arr 4 1 (bsR 43200 (mkH f lo m))), (11, .box 23 [.c (I lo), .c (I hi)])]) (by simp) ⟨by simp, by simp [mkH_zero]⟩ ?_
      rintro m T H hm ⟨rfl, rfl⟩
      have g1 := Int.emod_nonneg (lo + m) (show (43200 : Int) ≠ 0 by decide)
      have g2 := Int.emod_lt_of_pos (lo + m) (show (0 : Int) < 43200 by decide)
      have hset := mkH_succ 43200 f lo m
      have hRl := hbl (mkH f lo m)
      obtain ⟨b, hRg⟩ : ∃ b, (bsR 43200 (mkH f lo m))[((lo + m) % 43200).toNat]? = some [B b] := ⟨_, bsR_get (by omega)⟩
      by_cases hlm : m < (hi - lo + 1).toNat
      · have hll : lo + m ≤ hi := by omega
        generalize bsR 43200 (mkH f lo m) = R at *
        (repeat' (first | ((first | with_reducible refine st_skip ?_ | with_reducible refine st_exit ?_); (try simp only [seqQ, blockQ, loopQ, forQ, whileQ, reduceIte, Nat.reduceEqDiff])) | (with_reducible refine st_ret ?_; ((try simp only [seqQ, blockQ, loopQ, forQ, whileQ]); first | (with_reducible refine retM_ret ?_) | refine retQ_ret ?_; simp [hll, hRl, hRg])) | refine st_seq ?_ | refine st_block ?_ | ((first | refine st_reg ?_ | refine buildP_own ?_ | refine callP_b (rMod (lo + m) 43200 (by omega) (by omega)) rfl ?_) <;> (simp -dsimp [hll, hRl, hRg]; (repeat (simp -dsimp (disch := (first | omega | assumption | (refine Bool.eq_false_iff.1 ?_; assumption))) only [wrap_in, if_pos, if_neg]; (try simp -dsimp [hll, hRl, hRg]))))) | ((first | refine guardP_of (fun hc => ?_) (fun hc => ?_) | refine st_cond rfl (fun hc => ?_) (fun hc => ?_)) <;> (try simp only [decide_eq_true_eq, decide_eq_false_iff_not, Bool.true_eq_false, Bool.false_eq_true, bne_iff_ne, ne_eq, bne_eq_false_iff_eq, beq_iff_eq, beq_eq_false_iff_ne, Bool.not_eq_true, Bool.not_eq_false, Bool.not_eq_eq_eq_not, Bool.not_true, Bool.not_false, Decidable.not_not] at hc) <;> (try (exfalso; first | omega | exact bool_tf hc (by assumption) | exact bool_ft hc (by assumption) | exact absurd (by assumption) hc)) <;> (first | with_reducible show STri _ _ _ _ _ _ | (simp -dsimp [hll, hRl, hRg, hc]; (repeat (simp -dsimp (disch := (first | omega | assumption | (refine Bool.eq_false_iff.1 ?_; assumption))) only [wrap_in, if_pos, if_neg]; (try simp -dsimp [hll, hRl, hRg, hc]))))))))
        exact ⟨by omega, by simp, by simp [Int.add_assoc], by rw [hset]; simp⟩
      · have hmm : m = (hi - lo + 1).toNat := by omega
        have hll : ¬ lo + m ≤ hi := by omega
        (repeat' (first | ((first | with_reducible refine st_skip ?_ | with_reducible refine st_exit ?_); (try simp only [seqQ, blockQ, loopQ, forQ, whileQ, reduceIte, Nat.reduceEqDiff])) | (with_reducible refine st_ret ?_; ((try simp only [seqQ, blockQ, loopQ, forQ, whileQ]); first | (with_reducible refine retM_ret ?_) | refine retQ_ret ?_; simp [hll])) | refine st_seq ?_ | refine st_block ?_ | ((first | refine st_reg ?_ | refine buildP_own ?_) <;> (simp -dsimp [hll]; (repeat (simp -dsimp (disch := (first | omega | assumption | (refine Bool.eq_false_iff.1 ?_; assumption))) only [wrap_in, if_pos, if_neg]; (try simp -dsimp [hll]))))) | ((first | refine guardP_of (fun hc => ?_) (fun hc => ?_) | refine st_cond rfl (fun hc => ?_) (fun hc => ?_)) <;> (try simp only [decide_eq_true_eq, decide_eq_false_iff_not, Bool.true_eq_false, Bool.false_eq_true, bne_iff_ne, ne_eq, bne_eq_false_iff_eq, beq_iff_eq, beq_eq_false_iff_ne, Bool.not_eq_true, Bool.not_eq_false, Bool.not_eq_eq_eq_not, Bool.not_true, Bool.not_false, Decidable.not_not] at hc) <;> (try (exfalso; first | omega | exact bool_tf hc (by assumption) | exact bool_ft hc (by assumption) | exact absurd (by assumption) hc)) <;> (first | with_reducible show STri _ _ _ _ _ _ | (simp -dsimp [hll, hc]; (repeat (simp -dsimp (disch := (first | omega | assumption | (refine Bool.eq_false_iff.1 ?_; assumption))) only [wrap_in, if_pos, if_neg]; (try simp -dsimp [hll, hc]))))))))
        exact ⟨hlt, by simp, by subst h0; simp, by rw [hstep, hmm]; simp⟩
    · have h00 : ¬ k.w.elo + (j : Int) = k.w.elo := by omega
      by_cases hq : dAt k (k.w.elo + j) = dAt k (k.w.elo + j - 1)
      · rw [if_pos ⟨h0, hq⟩] at hstep
        rw [hq] at sd1
        (repeat' (first | ((first | with_reducible refine st_skip ?_ | with_reducible refine st_exit ?_); (try simp only [seqQ, blockQ, loopQ, forQ, whileQ, reduceIte, Nat.reduceEqDiff])) | (with_reducible refine st_ret ?_; ((try simp only [seqQ, blockQ, loopQ, forQ, whileQ]); first | (with_reducible refine retM_ret ?_) | refine retQ_ret ?_; simp [hle, h00, n1, n2, n3, hf])) | refine st_seq ?_ | refine st_block ?_ | ((first | refine st_reg ?_ | refine buildP_own ?_ | refine callP_b (sd1) rfl ?_ | refine callP_b (sd2) rfl ?_) <;> (simp -dsimp [hle, h00, n1, n2, n3, hf]; (repeat (simp -dsimp (disch := (first | omega | assumption | (refine Bool.eq_false_iff.1 ?_; assumption))) only [wrap_in, if_pos, if_neg]; (try simp -dsimp [hle, h00, n1, n2, n3, hf]))))) | ((first | refine guardP_of (fun hc => ?_) (fun hc => ?_) | refine st_cond rfl (fun hc => ?_) (fun hc => ?_)) <;> (try simp only [decide_eq_true_eq, decide_eq_false_iff_not, Bool.true_eq_false, Bool.false_eq_true, bne_iff_ne, ne_eq, bne_eq_false_iff_eq, beq_iff_eq, beq_eq_false_iff_ne, Bool.not_eq_true, Bool.not_eq_false, Bool.not_eq_eq_eq_not, Bool.not_true, Bool.not_false, Decidable.not_not] at hc) <;> (try (exfalso; first | omega | exact bool_tf hc (by assumption) | exact bool_ft hc (by assumption) | exact absurd (by assumption) hc)) <;> (first | with_reducible show STri _ _ _ _ _ _ | (simp -dsimp [hle, h00, n1, n2, n3, hf, hc]; (repeat (simp -dsimp (disch := (first | omega | assumption | (refine Bool.eq_false_iff.1 ?_; assumption))) only [wrap_in, if_pos, if_neg]; (try simp -dsimp [hle, h00, n1, n2, n3, hf, hc]))))))))
        exact ⟨hlt, by simp, by simp [Int.add_assoc], by rw [hstep]; simp⟩
      · rw [if_neg (fun h => hq h.2)] at hstep
        generalize hdLo k (k.w.elo + j) = lo at *
        generalize hdHi k (k.w.elo + j) = hi at *
        generalize dAt k (k.w.elo + j) = x1 at *
        generalize dAt k (k.w.elo + j - 1) = x2 at *
        (repeat' (first | ((first | with_reducible refine st_skip ?_ | with_reducible refine st_exit ?_); (try simp only [seqQ, blockQ, loopQ, forQ, whileQ, reduceIte, Nat.reduceEqDiff])) | (with_reducible refine st_ret ?_; ((try simp only [seqQ, blockQ, loopQ, forQ, whileQ]); first | (with_reducible refine retM_ret ?_) | refine retQ_ret ?_; simp [hle, h00, n1, n2, n3, hf, hq])) | refine st_seq ?_ | refine st_block ?_ | ((first | refine st_reg ?_ | refine buildP_own ?_ | refine callP_b (sd1) rfl ?_ | refine callP_b (sd2) rfl ?_ | refine callP_b (sh) rfl ?_) <;> (simp -dsimp [hle, h00, n1, n2, n3, hf, hq]; (repeat (simp -dsimp (disch := (first | omega | assumption | (refine Bool.eq_false_iff.1 ?_; assumption))) only [wrap_in, if_pos, if_neg]; (try simp -dsimp [hle, h00, n1, n2, n3, hf, hq]))))) | ((first | refine guardP_of (fun hc => ?_) (fun hc => ?_) | refine st_cond rfl (fun hc => ?_) (fun hc => ?_)) <;> (try simp only [decide_eq_true_eq, decide_eq_false_iff_not, Bool.true_eq_false, Bool.false_eq_true, bne_iff_ne, ne_eq, bne_eq_false_iff_eq, beq_iff_eq, beq_eq_false_iff_ne, Bool.not_eq_true, Bool.not_eq_false, Bool.not_eq_eq_eq_not, Bool.not_true, Bool.not_false, Decidable.not_not] at hc) <;> (try (exfalso; first | omega | exact bool_tf hc (by assumption) | exact bool_ft hc (by assumption) | exact absurd (by assumption) hc)) <;> (first | with_reducible show STri _ _ _ _ _ _ | (simp -dsimp [hle, h00, n1, n2, n3, hf, hq, hc]; (repeat (simp -dsimp (disch := (first | omega | assumption | (refine Bool.eq_false_iff.1 ?_; assumption))) only [wrap_in, if_pos, if_neg]; (try simp -dsimp [hle, h00, n1, n2, n3, hf, hq, hc]))))))))
        generalize shA k j = f at *
        refine st_for [4, 7, 13, 11] (hi - lo + 1).toNat (fun m T H => T = [(1, .c (I n)), (2, .c (I k.at')), (4, .ptr 4 0), (7, .ptr 7 0), (9, .own 13 43200), (10, .c (I (k.w.elo + j))), (11, .ptr 11 0), (12, .c (I (lo + m)))] ∧
          H = [(4, .box 26 [.c (I k.w.jump), .c (I k.w.elo), .c (I k.w.ehi), .c (slF k.w.faces)]), (7, .box 23 [.c (I k.wlo), .c (I k.whi)]), (13, .arr 4 1 (bsR 43200 (mkH f lo m))), (11, .box 23 [.c (I lo), .c (I hi)])]) (by simp) ⟨by simp, by simp [mkH_zero]⟩ ?_
        rintro m T H hm ⟨rfl, rfl⟩
        have g1 := Int.emod_nonneg (lo + m) (show (43200 : Int) ≠ 0 by decide)
        have g2 := Int.emod_lt_of_pos (lo + m) (show (0 : Int) < 43200 by decide)
        have hset := mkH_succ 43200 f lo m
        have hRl := hbl (mkH f lo m)
        obtain ⟨b, hRg⟩ : ∃ b, (bsR 43200 (mkH f lo m))[((lo + m) % 43200).toNat]? = some [B b] := ⟨_, bsR_get (by omega)⟩
        by_cases hlm : m < (hi - lo + 1).toNat
        · have hll : lo + m ≤ hi := by omega
          generalize bsR 43200 (mkH f lo m) = R at *
          (repeat' (first | ((first | with_reducible refine st_skip ?_ | with_reducible refine st_exit ?_); (try simp only [seqQ, blockQ, loopQ, forQ, whileQ, reduceIte, Nat.reduceEqDiff])) | (with_reducible refine st_ret ?_; ((try simp only [seqQ, blockQ, loopQ, forQ, whileQ]); first | (with_reducible refine retM_ret ?_) | refine retQ_ret ?_; simp [hll, hRl, hRg])) | refine st_seq ?_ | refine st_block ?_ | ((first | refine st_reg ?_ | refine buildP_own ?_ | refine callP_b (rMod (lo + m) 43200 (by omega) (by omega)) rfl ?_) <;> (simp -dsimp [hll, hRl, hRg]; (repeat (simp -dsimp (disch := (first | omega | assumption | (refine Bool.eq_false_iff.1 ?_; assumption))) only [wrap_in, if_pos, if_neg]; (try simp -dsimp [hll, hRl, hRg]))))) | ((first | refine guardP_of (fun hc => ?_) (fun hc => ?_) | refine st_cond rfl (fun hc => ?_) (fun hc => ?_)) <;> (try simp only [decide_eq_true_eq, decide_eq_false_iff_not, Bool.true_eq_false, Bool.false_eq_true, bne_iff_ne, ne_eq, bne_eq_false_iff_eq, beq_iff_eq, beq_eq_false_iff_ne, Bool.not_eq_true, Bool.not_eq_false, Bool.not_eq_eq_eq_not, Bool.not_true, Bool.not_false, Decidable.not_not] at hc) <;> (try (exfalso; first | omega | exact bool_tf hc (by assumption) | exact bool_ft hc (by assumption) | exact absurd (by assumption) hc)) <;> (first | with_reducible show STri _ _ _ _ _ _ | (simp -dsimp [hll, hRl, hRg, hc]; (repeat (simp -dsimp (disch := (first | omega | assumption | (refine Bool.eq_false_iff.1 ?_; assumption))) only [wrap_in, if_pos, if_neg]; (try simp -dsimp [hll, hRl, hRg, hc]))))))))
          exact ⟨by omega, by simp, by simp [Int.add_assoc], by rw [hset]; simp⟩
        · have hmm : m = (hi - lo + 1).toNat := by omega
          have hll : ¬ lo + m ≤ hi := by omega
          (repeat' (first | ((first | with_reducible refine st_skip ?_ | with_reducible refine st_exit ?_); (try simp only [seqQ, blockQ, loopQ, forQ, whileQ, reduceIte, Nat.reduceEqDiff])) | (with_reducible refine st_ret ?_; ((try simp only [seqQ, blockQ, loopQ, forQ, whileQ]); first | (with_reducible refine retM_ret ?_) | refine retQ_ret ?_; simp [hll])) | refine st_seq ?_ | refine st_block ?_ | ((first | refine st_reg ?_ | refine buildP_own ?_) <;> (simp -dsimp [hll]; (repeat (simp -dsimp (disch := (first | omega | assumption | (refine Bool.eq_false_iff.1 ?_; assumption))) only [wrap_in, if_pos, if_neg]; (try simp -dsimp [hll]))))) | ((first | refine guardP_of (fun hc => ?_) (fun hc => ?_) | refine st_cond rfl (fun hc => ?_) (fun hc => ?_)) <;> (try simp only [decide_eq_true_eq, decide_eq_false_iff_not, Bool.true_eq_false, Bool.false_eq_true, bne_iff_ne, ne_eq, bne_eq_false_iff_eq, beq_iff_eq, beq_eq_false_iff_ne, Bool.not_eq_true, Bool.not_eq_false, Bool.not_eq_eq_eq_not, Bool.not_true, Bool.not_false, Decidable.not_not] at hc) <;> (try (exfalso; first | omega | exact bool_tf hc (by assumption) | exact bool_ft hc (by assumption) | exact absurd (by assumption) hc)) <;> (first | with_reducible show STri _ _ _ _ _ _ | (simp -dsimp [hll, hc]; (repeat (simp -dsimp (disch := (first | omega | assumption | (refine Bool.eq_false_iff.1 ?_; assumption))) only [wrap_in, if_pos, if_neg]; (try simp -dsimp [hll, hc]))))))))
          exact ⟨hlt, by simp, by simp [Int.add_assoc], by rw [hstep, hmm]; simp⟩
  · have : j = (k.w.ehi - k.w.elo + 1).toNat := by omega
    subst this
    have hle : ¬ k.w.elo + ((k.w.ehi - k.w.elo + 1).toNat : Int) ≤ k.w.ehi := by omega
    (repeat' (first | ((first | with_reducible refine st_skip ?_ | with_reducible refine st_exit ?_); (try simp only [seqQ, blockQ, loopQ, forQ, whileQ, reduceIte, Nat.reduceEqDiff])) | (with_reducible refine st_ret ?_; ((try simp only [seqQ, blockQ, loopQ, forQ, whileQ]); first | (with_reducible refine retM_ret ?_) | refine retQ_ret ?_; simp [hle, hbl])) | refine st_seq ?_ | refine st_block ?_ | ((first | refine st_reg ?_ | refine buildP_own ?_) <;> (simp -dsimp [hle, hbl]; (repeat (simp -dsimp (disch := (first | omega | assumption | (refine Bool.eq_false_iff.1 ?_; assumption))) only [wrap_in, if_pos, if_neg]; (try simp -dsimp [hle, hbl]))))) | ((first | refine guardP_of (fun hc => ?_) (fun hc => ?_) | refine st_cond rfl (fun hc => ?_) (fun hc => ?_)) <;> (try simp only [decide_eq_true_eq, decide_eq_false_iff_not, Bool.true_eq_false, Bool.false_eq_true, bne_iff_ne, ne_eq, bne_eq_false_iff_eq, beq_iff_eq, beq_eq_false_iff_ne, Bool.not_eq_true, Bool.not_eq_false, Bool.not_eq_eq_eq_not, Bool.not_true, Bool.not_false, Decidable.not_not] at hc) <;> (try (exfalso; first | omega | exact bool_tf hc (by assumption) | exact bool_ft hc (by assumption) | exact absurd (by assumption) hc)) <;> (first | with_reducible show STri _ _ _ _ _ _ | (simp -dsimp [hle, hbl, hc]; (repeat (simp -dsimp (disch := (first | omega | assumption | (refine Bool.eq_false_iff.1 ?_; assumption))) only [wrap_in, if_pos, if_neg]; (try simp -dsimp [hle, hbl, hc]))))))))
    all_goals exact .refl _

end Go.Proofs.Ytnfggkopledpcaa
