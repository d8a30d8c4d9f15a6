/- Part 6 of a proof: CodeR, CodeL, CodeP, Tri9, Tri10, CodeG, Ef, Tw, Tx, Ff, Dv0, Fb0, Tb0, Tc, Ei0, Fi, Ty, Sw, Ez0, Fj, Fa, Fb, Fc, Fg, Fh, Fd, Fe, Fk. -/
import Derived.Test.YtnfggkopledpcaaK3
import Derived.Test.YtnfggkopledpcaaK4
import Derived.Test.YtnfggkopledpcaaK5
set_option linter.unusedSimpArgs false
set_option linter.unusedVariables false
/- The shadow code of functions, as the kit's translation has them. -/
namespace Go.Proofs.Ytnfggkopledpcaa
open Go.RowKit
end Go.Proofs.Ytnfggkopledpcaa
/- The shadow code of functions, as the kit's translation has them. -/
namespace Go.Proofs.Ytnfggkopledpcaa
open Go.RowKit
def c_turretlaw04_works_0 : SCode := .reg [⟨(some 1), none, .box 26 (.tmp 0), [], false⟩,
  ⟨(some 2), none, .alloc 26 [(.int .i64 0), (.int .i64 0), (.int .i64 0), (.slice none 0 0)], [], false⟩] [1, 2]
def c_turretlaw04_works_1 : SCode := .reg [⟨(some 5), none, .load true 4 (.tmp 1), [], false⟩,
  ⟨(some 3), none, .alloc 26 [(.int .i64 0), (.int .i64 0), (.int .i64 0), (.slice none 0 0)], [], false⟩,
  ⟨none, none, .store 4 (.tmp 3) (.tmp 5), [], false⟩] [1, 2, 3]
def c_turretlaw04_works_2 : SCode := .reg [⟨(some 6), none, .fld 3 (.tmp 3), [], false⟩,
  ⟨none, none, .store 1 (.tmp 6) (.const (.slice none 0 0)), [], false⟩] [1, 2, 3]
def c_turretlaw04_works_3 : SCode := .reg [⟨(some 4), none, .mov (.const (.int .i64 0)), [], false⟩] [1, 2, 3, 4]
def c_turretlaw04_works_4 : SCode := .reg [⟨(some 7), none, .mov (.tmp 4), [], false⟩,
  ⟨(some 8), none, .fld 3 (.tmp 1), [], false⟩,
  ⟨(some 9), none, .load false 1 (.tmp 8), [], false⟩,
  ⟨(some 10), none, .len (.tmp 9), [], false⟩,
  ⟨(some 11), none, .bin .lss (.tmp 7) (.tmp 10), [], false⟩] [1, 2, 3, 4, 11]
def c_turretlaw04_works_5 : SCode := .cond (.tmp 11) .skip (.exit 0)
def c_turretlaw04_works_6 : SCode := .seq c_turretlaw04_works_4 c_turretlaw04_works_5
def c_turretlaw04_works_7 : SCode := .reg [⟨(some 14), none, .fld 3 (.tmp 3), [], true⟩,
  ⟨(some 15), none, .load false 1 (.tmp 14), [], true⟩,
  ⟨(some 16), none, .fld 3 (.tmp 1), [], false⟩,
  ⟨(some 17), none, .load false 1 (.tmp 16), [], false⟩,
  ⟨(some 18), none, .mov (.tmp 4), [], false⟩,
  ⟨(some 19), none, .idxS 5 (.tmp 17) (.tmp 18), [], false⟩,
  ⟨(some 20), none, .load true 5 (.tmp 19), [], false⟩,
  ⟨(some 21), none, .call 35 [(.tmp 20)], [], false⟩,
  ⟨(some 22), none, .buildSl 80 5 [(.int .i64 0), (.int .i64 0), (.slice none 0 0), (.int .i64 0), (.int .i64 0)] 1 [(0, (.tmp 21))], [0, 1], false⟩,
  ⟨(some 23), none, .append 80 5 56 (.tmp 15) (.tmp 22), [], false⟩,
  ⟨(some 24), none, .fld 3 (.tmp 3), [], false⟩,
  ⟨none, none, .store 1 (.tmp 24) (.tmp 23), [], false⟩] [1, 2, 3, 4]
def c_turretlaw04_works_8 : SCode := .block 1 c_turretlaw04_works_7
def c_turretlaw04_works_9 : SCode := .reg [⟨(some 12), none, .mov (.tmp 4), [], false⟩,
  ⟨(some 13), none, .bin .add (.tmp 12) (.const (.int .i64 1)), [], false⟩,
  ⟨(some 4), none, .mov (.tmp 13), [], false⟩] [1, 2, 3, 4]
def c_turretlaw04_works_10 : SCode := .seq c_turretlaw04_works_8 c_turretlaw04_works_9
def c_turretlaw04_works_11 : SCode := .seq c_turretlaw04_works_6 c_turretlaw04_works_10
def c_turretlaw04_works_12 : SCode := .loop c_turretlaw04_works_11
def c_turretlaw04_works_13 : SCode := .block 0 c_turretlaw04_works_12
def c_turretlaw04_works_14 : SCode := .seq c_turretlaw04_works_3 c_turretlaw04_works_13
def c_turretlaw04_works_15 : SCode := .reg [⟨(some 25), none, .load true 4 (.tmp 3), [], false⟩,
  ⟨none, none, .store 4 (.tmp 2) (.tmp 25), [], false⟩] [2]
def c_turretlaw04_works_16 : SCode := .seq c_turretlaw04_works_15 .ret
def c_turretlaw04_works_17 : SCode := .seq c_turretlaw04_works_14 c_turretlaw04_works_16
def c_turretlaw04_works_18 : SCode := .seq c_turretlaw04_works_2 c_turretlaw04_works_17
def c_turretlaw04_works_19 : SCode := .seq c_turretlaw04_works_1 c_turretlaw04_works_18
def c_turretlaw04_works_20 : SCode := .seq c_turretlaw04_works_0 c_turretlaw04_works_19
@[simp] def rs_turretlaw04_works : List SRes := [.cell 2 true 4]
theorem law_turretlaw04_works (cs : List CV) (r : CV) (hl : cs.length ≤ 26) (h : STri (cfF Try.prog [] 26) c_turretlaw04_works_20 (initT 0 cs) [] (retQ rs_turretlaw04_works r)) : SC Try.prog 13 cs r :=
  sc_of [] follows Try.func13 rfl Try.ntmps13 (by decide) (by kernel_rfl) (by kernel_rfl) hl h
def c_turretlaw04_Tower_works_0 : SCode := .reg [⟨(some 1), none, .box 57 (.tmp 0), [], false⟩,
  ⟨(some 2), none, .alloc 26 [(.int .i64 0), (.int .i64 0), (.int .i64 0), (.slice none 0 0)], [], false⟩] [1, 2]
def c_turretlaw04_Tower_works_1 : SCode := .reg [⟨(some 7), none, .build [(.int .i64 0), (.int .i64 0), (.int .i64 0), (.int .i64 0), (.int .i64 0), (.int .i64 0)] [(0, 1, (.const (.int .i64 1))), (1, 1, (.const (.int .i64 2))), (2, 1, (.const (.int .i64 10))), (3, 1, (.const (.int .i64 30))), (4, 1, (.const (.int .i64 60))), (5, 1, (.const (.int .i64 120)))], [], false⟩,
  ⟨(some 8), none, .fld 0 (.tmp 1), [], true⟩,
  ⟨(some 9), none, .load false 1 (.tmp 8), [], true⟩,
  ⟨(some 10), none, .bin .rem (.tmp 9) (.const (.int .u8 6)), [], false⟩,
  ⟨(some 11), none, .index 6 1 false (.tmp 7) (.tmp 10), [], false⟩,
  ⟨(some 12), none, .fld 2 (.tmp 1), [], true⟩,
  ⟨(some 13), none, .idxA 2 1 (.tmp 12) (.const (.int .i64 0)), [], true⟩,
  ⟨(some 14), none, .load false 1 (.tmp 13), [], true⟩,
  ⟨(some 15), none, .conv .i64 (.tmp 14), [], false⟩,
  ⟨(some 16), none, .bin .rem (.tmp 15) (.const (.int .i64 60)), [], false⟩,
  ⟨(some 17), none, .bin .sub (.tmp 16) (.const (.int .i64 30)), [], false⟩,
  ⟨(some 18), none, .fld 2 (.tmp 1), [], true⟩,
  ⟨(some 19), none, .idxA 2 1 (.tmp 18) (.const (.int .i64 0)), [], true⟩,
  ⟨(some 20), none, .load false 1 (.tmp 19), [], true⟩,
  ⟨(some 21), none, .conv .i64 (.tmp 20), [], false⟩,
  ⟨(some 22), none, .bin .rem (.tmp 21) (.const (.int .i64 60)), [], false⟩,
  ⟨(some 23), none, .bin .sub (.tmp 22) (.const (.int .i64 30)), [], false⟩,
  ⟨(some 24), none, .fld 2 (.tmp 1), [], true⟩,
  ⟨(some 25), none, .idxA 2 1 (.tmp 24) (.const (.int .i64 1)), [], true⟩,
  ⟨(some 26), none, .load false 1 (.tmp 25), [], true⟩,
  ⟨(some 27), none, .conv .i64 (.tmp 26), [], false⟩,
  ⟨(some 28), none, .bin .rem (.tmp 27) (.const (.int .i64 40)), [], false⟩,
  ⟨(some 29), none, .bin .add (.tmp 23) (.tmp 28), [], false⟩,
  ⟨(some 30), none, .call 30 [(.tmp 17), (.tmp 29)], [], true⟩,
  ⟨(some 31), none, .build [(.int .i64 0), (.int .i64 0), (.int .i64 0), (.slice none 0 0)] [(0, 1, (.tmp 11)), (1, 2, (.tmp 30))], [], false⟩,
  ⟨(some 3), none, .alloc 26 [(.int .i64 0), (.int .i64 0), (.int .i64 0), (.slice none 0 0)], [1, 2, 5, 6, 7, 11, 12, 13, 17, 18, 19, 23], false⟩,
  ⟨none, none, .store 4 (.tmp 3) (.tmp 31), [], false⟩] [1, 2, 3]
def c_turretlaw04_Tower_works_2 : SCode := .reg [⟨(some 4), none, .mov (.const (.int .i64 0)), [], false⟩] [1, 2, 3, 4]
def c_turretlaw04_Tower_works_3 : SCode := .reg [⟨(some 32), none, .mov (.tmp 4), [], false⟩,
  ⟨(some 33), none, .bin .eql (.tmp 32) (.const (.int .i64 0)), [], false⟩,
  ⟨(some 34), none, .mov (.tmp 33), [], false⟩,
  ⟨(some 35), (some (34, false)), .mov (.tmp 4), [], false⟩,
  ⟨(some 36), (some (34, false)), .fld 4 (.tmp 1), [], false⟩,
  ⟨(some 37), (some (34, false)), .load false 1 (.tmp 36), [], false⟩,
  ⟨(some 38), (some (34, false)), .len (.tmp 37), [], false⟩,
  ⟨(some 39), (some (34, false)), .bin .lss (.tmp 35) (.tmp 38), [], false⟩,
  ⟨(some 40), (some (34, false)), .mov (.tmp 39), [], false⟩,
  ⟨(some 41), (some (40, true)), .mov (.tmp 4), [], false⟩,
  ⟨(some 42), (some (40, true)), .bin .lss (.tmp 41) (.const (.int .i64 3)), [], false⟩,
  ⟨(some 43), (some (34, false)), .pick (.tmp 40) (.tmp 42) (.const (.bool false)), [], false⟩,
  ⟨(some 44), none, .pick (.tmp 34) (.const (.bool true)) (.tmp 43), [], false⟩] [1, 2, 3, 4, 44]
def c_turretlaw04_Tower_works_4 : SCode := .cond (.tmp 44) .skip (.exit 0)
def c_turretlaw04_Tower_works_5 : SCode := .seq c_turretlaw04_Tower_works_3 c_turretlaw04_Tower_works_4
def c_turretlaw04_Tower_works_6 : SCode := .reg [⟨(some 47), none, .build [(.int .u8 0), (.int .u8 0), (.int .u8 0), (.int .u8 0), (.int .u8 0), (.int .u8 0)] [], [], false⟩,
  ⟨(some 5), none, .alloc 122 [(.int .u8 0), (.int .u8 0), (.int .u8 0), (.int .u8 0), (.int .u8 0), (.int .u8 0)], [], false⟩,
  ⟨none, none, .store 6 (.tmp 5) (.tmp 47), [], false⟩] [1, 2, 3, 4, 5]
def c_turretlaw04_Tower_works_7 : SCode := .reg [⟨(some 48), none, .mov (.tmp 4), [], false⟩,
  ⟨(some 49), none, .fld 4 (.tmp 1), [], false⟩,
  ⟨(some 50), none, .load false 1 (.tmp 49), [], false⟩,
  ⟨(some 51), none, .len (.tmp 50), [], false⟩,
  ⟨(some 52), none, .bin .lss (.tmp 48) (.tmp 51), [], false⟩] [1, 2, 3, 4, 5, 52]
def c_turretlaw04_Tower_works_8 : SCode := .reg [⟨(some 53), none, .fld 4 (.tmp 1), [], false⟩,
  ⟨(some 54), none, .load false 1 (.tmp 53), [], false⟩,
  ⟨(some 55), none, .mov (.tmp 4), [], false⟩,
  ⟨(some 56), none, .idxS 6 (.tmp 54) (.tmp 55), [], false⟩,
  ⟨(some 57), none, .load true 6 (.tmp 56), [], false⟩,
  ⟨none, none, .store 6 (.tmp 5) (.tmp 57), [], false⟩] [1, 2, 3, 4, 5]
def c_turretlaw04_Tower_works_9 : SCode := .cond (.tmp 52) c_turretlaw04_Tower_works_8 .skip
def c_turretlaw04_Tower_works_10 : SCode := .seq c_turretlaw04_Tower_works_7 c_turretlaw04_Tower_works_9
def c_turretlaw04_Tower_works_11 : SCode := .reg [⟨(some 58), none, .idxA 6 1 (.tmp 5) (.const (.int .i64 0)), [], true⟩,
  ⟨(some 59), none, .load false 1 (.tmp 58), [], true⟩,
  ⟨(some 60), none, .conv .i64 (.tmp 59), [], false⟩,
  ⟨(some 61), none, .bin .rem (.tmp 60) (.const (.int .i64 30)), [], false⟩,
  ⟨(some 62), none, .bin .sub (.tmp 61) (.const (.int .i64 15)), [], false⟩,
  ⟨(some 63), none, .idxA 6 1 (.tmp 5) (.const (.int .i64 0)), [], true⟩,
  ⟨(some 64), none, .load false 1 (.tmp 63), [], true⟩,
  ⟨(some 65), none, .conv .i64 (.tmp 64), [], false⟩,
  ⟨(some 66), none, .bin .rem (.tmp 65) (.const (.int .i64 30)), [], false⟩,
  ⟨(some 67), none, .bin .sub (.tmp 66) (.const (.int .i64 15)), [], false⟩,
  ⟨(some 68), none, .idxA 6 1 (.tmp 5) (.const (.int .i64 1)), [], true⟩,
  ⟨(some 69), none, .load false 1 (.tmp 68), [], true⟩,
  ⟨(some 70), none, .conv .i64 (.tmp 69), [], false⟩,
  ⟨(some 71), none, .bin .rem (.tmp 70) (.const (.int .i64 10)), [], false⟩,
  ⟨(some 72), none, .bin .add (.tmp 67) (.tmp 71), [], false⟩,
  ⟨(some 73), none, .call 30 [(.tmp 62), (.tmp 72)], [], true⟩,
  ⟨(some 74), none, .idxA 6 1 (.tmp 5) (.const (.int .i64 2)), [], true⟩,
  ⟨(some 75), none, .load false 1 (.tmp 74), [], true⟩,
  ⟨(some 76), none, .conv .i64 (.tmp 75), [], false⟩,
  ⟨(some 77), none, .bin .sub (.tmp 76) (.const (.int .i64 128)), [], false⟩,
  ⟨(some 78), none, .idxA 6 1 (.tmp 5) (.const (.int .i64 3)), [], true⟩,
  ⟨(some 79), none, .load false 1 (.tmp 78), [], true⟩,
  ⟨(some 80), none, .conv .i64 (.tmp 79), [], false⟩,
  ⟨(some 81), none, .bin .rem (.tmp 80) (.const (.int .i64 60)), [], false⟩,
  ⟨(some 82), none, .build [(.int .i64 0), (.int .i64 0), (.slice none 0 0), (.int .i64 0), (.int .i64 0)] [(0, 2, (.tmp 73)), (3, 1, (.tmp 77)), (4, 1, (.tmp 81))], [], false⟩,
  ⟨(some 6), none, .alloc 80 [(.int .i64 0), (.int .i64 0), (.slice none 0 0), (.int .i64 0), (.int .i64 0)], [0, 1, 5, 6, 10, 11, 15, 16, 17, 20, 21], false⟩,
  ⟨none, none, .store 5 (.tmp 6) (.tmp 82), [], false⟩] [1, 2, 3, 4, 5, 6]
def c_turretlaw04_Tower_works_12 : SCode := .reg [⟨(some 83), none, .idxA 6 1 (.tmp 5) (.const (.int .i64 4)), [], false⟩,
  ⟨(some 84), none, .load false 1 (.tmp 83), [], false⟩,
  ⟨(some 85), none, .conv .i64 (.tmp 84), [], false⟩,
  ⟨(some 86), none, .bin .rem (.tmp 85) (.const (.int .i64 40)), [], false⟩,
  ⟨(some 87), none, .idxA 6 1 (.tmp 5) (.const (.int .i64 5)), [], false⟩,
  ⟨(some 88), none, .load false 1 (.tmp 87), [], false⟩,
  ⟨(some 89), none, .conv .i64 (.tmp 88), [], false⟩,
  ⟨(some 90), none, .bin .rem (.tmp 89) (.const (.int .i64 12)), [], false⟩,
  ⟨(some 91), none, .bin .add (.const (.int .i64 1)) (.tmp 90), [], false⟩,
  ⟨(some 92), none, .idxA 6 1 (.tmp 5) (.const (.int .i64 5)), [], false⟩,
  ⟨(some 93), none, .load false 1 (.tmp 92), [], false⟩,
  ⟨(some 94), none, .conv .i64 (.tmp 93), [], false⟩,
  ⟨(some 95), none, .bin .quo (.tmp 94) (.const (.int .i64 12)), [], false⟩,
  ⟨(some 96), none, .bin .rem (.tmp 95) (.const (.int .i64 3)), [], false⟩,
  ⟨(some 97), none, .bin .add (.const (.int .i64 1)) (.tmp 96), [], false⟩,
  ⟨(some 98), none, .build [(.int .i64 0), (.int .i64 0)] [(0, 1, (.tmp 91)), (1, 1, (.tmp 97))], [], false⟩,
  ⟨(some 99), none, .build [(.int .i64 0), (.int .i64 0), (.int .i64 0)] [(0, 1, (.tmp 86)), (1, 2, (.tmp 98))], [], false⟩,
  ⟨(some 100), none, .buildSl 101 3 [(.int .i64 0), (.int .i64 0), (.int .i64 0)] 1 [(0, (.tmp 99))], [], false⟩,
  ⟨(some 101), none, .fld 2 (.tmp 6), [], false⟩,
  ⟨none, none, .store 1 (.tmp 101) (.tmp 100), [], false⟩] [1, 2, 3, 4, 5, 6]
def c_turretlaw04_Tower_works_13 : SCode := .reg [⟨(some 102), none, .idxA 6 1 (.tmp 5) (.const (.int .i64 5)), [], false⟩,
  ⟨(some 103), none, .load false 1 (.tmp 102), [], false⟩,
  ⟨(some 104), none, .bin .geq (.tmp 103) (.const (.int .u8 128)), [], false⟩] [1, 2, 3, 4, 5, 6, 104]
def c_turretlaw04_Tower_works_14 : SCode := .reg [⟨(some 105), none, .fld 2 (.tmp 6), [], false⟩,
  ⟨(some 106), none, .load false 1 (.tmp 105), [], false⟩,
  ⟨(some 107), none, .idxA 6 1 (.tmp 5) (.const (.int .i64 3)), [], false⟩,
  ⟨(some 108), none, .load false 1 (.tmp 107), [], false⟩,
  ⟨(some 109), none, .conv .i64 (.tmp 108), [], false⟩,
  ⟨(some 110), none, .bin .rem (.tmp 109) (.const (.int .i64 30)), [], false⟩,
  ⟨(some 111), none, .build [(.int .i64 0), (.int .i64 0)] [(0, 1, (.const (.int .i64 1))), (1, 1, (.const (.int .i64 1)))], [], false⟩,
  ⟨(some 112), none, .build [(.int .i64 0), (.int .i64 0), (.int .i64 0)] [(0, 1, (.tmp 110)), (1, 2, (.tmp 111))], [], false⟩,
  ⟨(some 113), none, .buildSl 101 3 [(.int .i64 0), (.int .i64 0), (.int .i64 0)] 1 [(0, (.tmp 112))], [], false⟩,
  ⟨(some 114), none, .append 101 3 24 (.tmp 106) (.tmp 113), [], false⟩,
  ⟨(some 115), none, .fld 2 (.tmp 6), [], false⟩,
  ⟨none, none, .store 1 (.tmp 115) (.tmp 114), [], false⟩] [1, 2, 3, 4, 6]
def c_turretlaw04_Tower_works_15 : SCode := .cond (.tmp 104) c_turretlaw04_Tower_works_14 .skip
def c_turretlaw04_Tower_works_16 : SCode := .seq c_turretlaw04_Tower_works_13 c_turretlaw04_Tower_works_15
def c_turretlaw04_Tower_works_17 : SCode := .reg [⟨(some 116), none, .fld 3 (.tmp 3), [], false⟩,
  ⟨(some 117), none, .load false 1 (.tmp 116), [], false⟩,
  ⟨(some 118), none, .load true 5 (.tmp 6), [], false⟩,
  ⟨(some 119), none, .buildSl 80 5 [(.int .i64 0), (.int .i64 0), (.slice none 0 0), (.int .i64 0), (.int .i64 0)] 1 [(0, (.tmp 118))], [], false⟩,
  ⟨(some 120), none, .append 80 5 56 (.tmp 117) (.tmp 119), [], false⟩,
  ⟨(some 121), none, .fld 3 (.tmp 3), [], false⟩,
  ⟨none, none, .store 1 (.tmp 121) (.tmp 120), [], false⟩] [1, 2, 3, 4]
def c_turretlaw04_Tower_works_18 : SCode := .seq c_turretlaw04_Tower_works_16 c_turretlaw04_Tower_works_17
def c_turretlaw04_Tower_works_19 : SCode := .seq c_turretlaw04_Tower_works_12 c_turretlaw04_Tower_works_18
def c_turretlaw04_Tower_works_20 : SCode := .seq c_turretlaw04_Tower_works_11 c_turretlaw04_Tower_works_19
def c_turretlaw04_Tower_works_21 : SCode := .seq c_turretlaw04_Tower_works_10 c_turretlaw04_Tower_works_20
def c_turretlaw04_Tower_works_22 : SCode := .seq c_turretlaw04_Tower_works_6 c_turretlaw04_Tower_works_21
def c_turretlaw04_Tower_works_23 : SCode := .block 1 c_turretlaw04_Tower_works_22
def c_turretlaw04_Tower_works_24 : SCode := .reg [⟨(some 45), none, .mov (.tmp 4), [], false⟩,
  ⟨(some 46), none, .bin .add (.tmp 45) (.const (.int .i64 1)), [], false⟩,
  ⟨(some 4), none, .mov (.tmp 46), [], false⟩] [1, 2, 3, 4]
def c_turretlaw04_Tower_works_25 : SCode := .seq c_turretlaw04_Tower_works_23 c_turretlaw04_Tower_works_24
def c_turretlaw04_Tower_works_26 : SCode := .seq c_turretlaw04_Tower_works_5 c_turretlaw04_Tower_works_25
def c_turretlaw04_Tower_works_27 : SCode := .loop c_turretlaw04_Tower_works_26
def c_turretlaw04_Tower_works_28 : SCode := .block 0 c_turretlaw04_Tower_works_27
def c_turretlaw04_Tower_works_29 : SCode := .seq c_turretlaw04_Tower_works_2 c_turretlaw04_Tower_works_28
def c_turretlaw04_Tower_works_30 : SCode := .reg [⟨(some 122), none, .load true 4 (.tmp 3), [], false⟩,
  ⟨none, none, .store 4 (.tmp 2) (.tmp 122), [], false⟩] [2]
def c_turretlaw04_Tower_works_31 : SCode := .seq c_turretlaw04_Tower_works_30 .ret
def c_turretlaw04_Tower_works_32 : SCode := .seq c_turretlaw04_Tower_works_29 c_turretlaw04_Tower_works_31
def c_turretlaw04_Tower_works_33 : SCode := .seq c_turretlaw04_Tower_works_1 c_turretlaw04_Tower_works_32
def c_turretlaw04_Tower_works_34 : SCode := .seq c_turretlaw04_Tower_works_0 c_turretlaw04_Tower_works_33
@[simp] def rs_turretlaw04_Tower_works : List SRes := [.cell 2 true 4]
theorem law_turretlaw04_Tower_works (cs : List CV) (r : CV) (hl : cs.length ≤ 123) (h : STri (cfF Try.prog [] 123) c_turretlaw04_Tower_works_34 (initT 0 cs) [] (retQ rs_turretlaw04_Tower_works r)) : SC Try.prog 24 cs r :=
  sc_of [] follows Try.func24 rfl Try.ntmps24 (by decide) (by kernel_rfl) (by kernel_rfl) hl h
def c_turretlaw04_Tower_at_0 : SCode := .reg [⟨(some 1), none, .box 57 (.tmp 0), [], false⟩,
  ⟨(some 2), none, .mov (.const (.int .i64 0)), [], false⟩] [1]
def c_turretlaw04_Tower_at_1 : SCode := .reg [⟨(some 3), none, .fld 5 (.tmp 1), [], false⟩,
  ⟨(some 4), none, .load false 1 (.tmp 3), [], false⟩,
  ⟨(some 5), none, .conv .i64 (.tmp 4), [], false⟩,
  ⟨(some 2), none, .mov (.tmp 5), [], false⟩] [2]
def c_turretlaw04_Tower_at_2 : SCode := .seq c_turretlaw04_Tower_at_1 .ret
def c_turretlaw04_Tower_at_3 : SCode := .seq c_turretlaw04_Tower_at_0 c_turretlaw04_Tower_at_2
@[simp] def rs_turretlaw04_Tower_at : List SRes := [.tmp 2]
theorem law_turretlaw04_Tower_at (cs : List CV) (r : CV) (hl : cs.length ≤ 6) (h : STri (cfF Try.prog [] 6) c_turretlaw04_Tower_at_3 (initT 0 cs) [] (retQ rs_turretlaw04_Tower_at r)) : SC Try.prog 25 cs r :=
  sc_of [] follows Try.func25 rfl Try.ntmps25 (by decide) (by kernel_rfl) (by kernel_rfl) hl h
def c_turretlaw04_Tower_wind_0 : SCode := .reg [⟨(some 1), none, .box 57 (.tmp 0), [], false⟩,
  ⟨(some 2), none, .alloc 23 [(.int .i64 0), (.int .i64 0)], [], false⟩] [1, 2]
def c_turretlaw04_Tower_wind_1 : SCode := .reg [⟨(some 3), none, .fld 6 (.tmp 1), [], false⟩,
  ⟨(some 4), none, .idxA 2 1 (.tmp 3) (.const (.int .i64 0)), [], false⟩,
  ⟨(some 5), none, .load false 1 (.tmp 4), [], false⟩,
  ⟨(some 6), none, .conv .i64 (.tmp 5), [], false⟩,
  ⟨(some 7), none, .bin .sub (.tmp 6) (.const (.int .i64 128)), [], false⟩,
  ⟨(some 8), none, .fld 6 (.tmp 1), [], false⟩,
  ⟨(some 9), none, .idxA 2 1 (.tmp 8) (.const (.int .i64 0)), [], false⟩,
  ⟨(some 10), none, .load false 1 (.tmp 9), [], false⟩,
  ⟨(some 11), none, .conv .i64 (.tmp 10), [], false⟩,
  ⟨(some 12), none, .bin .sub (.tmp 11) (.const (.int .i64 128)), [], false⟩,
  ⟨(some 13), none, .fld 6 (.tmp 1), [], false⟩,
  ⟨(some 14), none, .idxA 2 1 (.tmp 13) (.const (.int .i64 1)), [], false⟩,
  ⟨(some 15), none, .load false 1 (.tmp 14), [], false⟩,
  ⟨(some 16), none, .conv .i64 (.tmp 15), [], false⟩,
  ⟨(some 17), none, .bin .rem (.tmp 16) (.const (.int .i64 100)), [], false⟩,
  ⟨(some 18), none, .bin .add (.tmp 12) (.tmp 17), [], false⟩,
  ⟨(some 19), none, .call 30 [(.tmp 7), (.tmp 18)], [], false⟩,
  ⟨none, none, .store 2 (.tmp 2) (.tmp 19), [], false⟩] [2]
def c_turretlaw04_Tower_wind_2 : SCode := .seq c_turretlaw04_Tower_wind_1 .ret
def c_turretlaw04_Tower_wind_3 : SCode := .seq c_turretlaw04_Tower_wind_0 c_turretlaw04_Tower_wind_2
@[simp] def rs_turretlaw04_Tower_wind : List SRes := [.cell 2 true 2]
theorem law_turretlaw04_Tower_wind (cs : List CV) (r : CV) (hl : cs.length ≤ 20) (h : STri (cfF Try.prog [] 20) c_turretlaw04_Tower_wind_3 (initT 0 cs) [] (retQ rs_turretlaw04_Tower_wind r)) : SC Try.prog 26 cs r :=
  sc_of [] follows Try.func26 rfl Try.ntmps26 (by decide) (by kernel_rfl) (by kernel_rfl) hl h
def c_turretlaw04_rest_0 : SCode := .reg [⟨(some 4), none, .mov (.const (.int .i64 0)), [], false⟩] [0, 1]
def c_turretlaw04_rest_1 : SCode := .reg [⟨(some 5), none, .mov (.tmp 0), [], false⟩,
  ⟨(some 6), none, .mov (.tmp 1), [], false⟩,
  ⟨(some 7), none, .bin .rem (.tmp 5) (.tmp 6), [], false⟩,
  ⟨(some 8), none, .mov (.tmp 1), [], false⟩,
  ⟨(some 9), none, .bin .add (.tmp 7) (.tmp 8), [], false⟩,
  ⟨(some 10), none, .mov (.tmp 1), [], false⟩,
  ⟨(some 11), none, .bin .rem (.tmp 9) (.tmp 10), [], false⟩,
  ⟨(some 4), none, .mov (.tmp 11), [], false⟩] [4]
def c_turretlaw04_rest_2 : SCode := .seq c_turretlaw04_rest_1 .ret
def c_turretlaw04_rest_3 : SCode := .seq c_turretlaw04_rest_0 c_turretlaw04_rest_2
@[simp] def rs_turretlaw04_rest : List SRes := [.tmp 4]
theorem law_turretlaw04_rest (cs : List CV) (r : CV) (hl : cs.length ≤ 12) (h : STri (cfF Try.prog [] 12) c_turretlaw04_rest_3 (initT 0 cs) [] (retQ rs_turretlaw04_rest r)) : SC Try.prog 28 cs r :=
  sc_of [] follows Try.func28 rfl Try.ntmps28 (by decide) (by kernel_rfl) (by kernel_rfl) hl h
def c_turretlaw04_inside_0 : SCode := .reg [⟨(some 4), none, .mov (.const (.bool false)), [], false⟩] [0, 1]
def c_turretlaw04_inside_1 : SCode := .reg [⟨(some 5), none, .mov (.const (.bool false)), [], false⟩] [0, 1, 5]
def c_turretlaw04_inside_2 : SCode := .reg [⟨(some 6), none, .mov (.const (.int .i64 0)), [], false⟩] [0, 1, 5, 6]
def c_turretlaw04_inside_3 : SCode := .reg [⟨(some 7), none, .mov (.tmp 6), [], false⟩,
  ⟨(some 8), none, .mov (.tmp 1), [], false⟩,
  ⟨(some 9), none, .len (.tmp 8), [], false⟩,
  ⟨(some 10), none, .bin .lss (.tmp 7) (.tmp 9), [], false⟩] [0, 1, 5, 6, 10]
def c_turretlaw04_inside_4 : SCode := .cond (.tmp 10) .skip (.exit 0)
def c_turretlaw04_inside_5 : SCode := .seq c_turretlaw04_inside_3 c_turretlaw04_inside_4
def c_turretlaw04_inside_6 : SCode := .reg [⟨(some 13), none, .mov (.tmp 5), [], false⟩,
  ⟨(some 14), none, .mov (.tmp 13), [], false⟩,
  ⟨(some 15), (some (14, false)), .mov (.tmp 0), [], false⟩,
  ⟨(some 16), (some (14, false)), .mov (.tmp 1), [], false⟩,
  ⟨(some 17), (some (14, false)), .mov (.tmp 6), [], false⟩,
  ⟨(some 18), (some (14, false)), .idxS 2 (.tmp 16) (.tmp 17), [], false⟩,
  ⟨(some 19), (some (14, false)), .fld 0 (.tmp 18), [], false⟩,
  ⟨(some 20), (some (14, false)), .load false 1 (.tmp 19), [], false⟩,
  ⟨(some 21), (some (14, false)), .bin .geq (.tmp 15) (.tmp 20), [], false⟩,
  ⟨(some 22), (some (14, false)), .mov (.tmp 21), [], false⟩,
  ⟨(some 23), (some (22, true)), .mov (.tmp 0), [], false⟩,
  ⟨(some 24), (some (22, true)), .mov (.tmp 1), [], false⟩,
  ⟨(some 25), (some (22, true)), .mov (.tmp 6), [], false⟩,
  ⟨(some 26), (some (22, true)), .idxS 2 (.tmp 24) (.tmp 25), [], false⟩,
  ⟨(some 27), (some (22, true)), .fld 1 (.tmp 26), [], false⟩,
  ⟨(some 28), (some (22, true)), .load false 1 (.tmp 27), [], false⟩,
  ⟨(some 29), (some (22, true)), .bin .leq (.tmp 23) (.tmp 28), [], false⟩,
  ⟨(some 30), (some (14, false)), .pick (.tmp 22) (.tmp 29) (.const (.bool false)), [], false⟩,
  ⟨(some 31), none, .pick (.tmp 14) (.const (.bool true)) (.tmp 30), [], false⟩,
  ⟨(some 5), none, .mov (.tmp 31), [], false⟩] [0, 1, 5, 6]
def c_turretlaw04_inside_7 : SCode := .reg [⟨(some 32), none, .mov (.tmp 1), [], false⟩,
  ⟨(some 33), none, .mov (.tmp 6), [], false⟩,
  ⟨(some 34), none, .idxS 2 (.tmp 32) (.tmp 33), [], false⟩,
  ⟨(some 35), none, .fld 0 (.tmp 34), [], false⟩,
  ⟨(some 36), none, .load false 1 (.tmp 35), [], false⟩,
  ⟨(some 37), none, .mov (.tmp 1), [], false⟩,
  ⟨(some 38), none, .mov (.tmp 6), [], false⟩,
  ⟨(some 39), none, .idxS 2 (.tmp 37) (.tmp 38), [], false⟩,
  ⟨(some 40), none, .fld 1 (.tmp 39), [], false⟩,
  ⟨(some 41), none, .load false 1 (.tmp 40), [], false⟩,
  ⟨(some 42), none, .bin .gtr (.tmp 36) (.tmp 41), [], false⟩,
  ⟨(some 43), none, .mov (.tmp 42), [], false⟩,
  ⟨(some 44), (some (43, false)), .mov (.tmp 6), [], false⟩,
  ⟨(some 45), (some (43, false)), .bin .gtr (.tmp 44) (.const (.int .i64 0)), [], false⟩,
  ⟨(some 46), (some (43, false)), .mov (.tmp 45), [], false⟩,
  ⟨(some 47), (some (46, true)), .mov (.tmp 1), [], false⟩,
  ⟨(some 48), (some (46, true)), .mov (.tmp 6), [], false⟩,
  ⟨(some 49), (some (46, true)), .idxS 2 (.tmp 47) (.tmp 48), [], false⟩,
  ⟨(some 50), (some (46, true)), .fld 0 (.tmp 49), [], false⟩,
  ⟨(some 51), (some (46, true)), .load false 1 (.tmp 50), [], false⟩,
  ⟨(some 52), (some (46, true)), .mov (.tmp 1), [], false⟩,
  ⟨(some 53), (some (46, true)), .mov (.tmp 6), [], false⟩,
  ⟨(some 54), (some (46, true)), .bin .sub (.tmp 53) (.const (.int .i64 1)), [], false⟩,
  ⟨(some 55), (some (46, true)), .idxS 2 (.tmp 52) (.tmp 54), [], false⟩,
  ⟨(some 56), (some (46, true)), .fld 1 (.tmp 55), [], false⟩,
  ⟨(some 57), (some (46, true)), .load false 1 (.tmp 56), [], false⟩,
  ⟨(some 58), (some (46, true)), .bin .add (.tmp 57) (.const (.int .i64 1)), [], false⟩,
  ⟨(some 59), (some (46, true)), .bin .leq (.tmp 51) (.tmp 58), [], false⟩,
  ⟨(some 60), (some (43, false)), .pick (.tmp 46) (.tmp 59) (.const (.bool false)), [], false⟩,
  ⟨(some 61), none, .pick (.tmp 43) (.const (.bool true)) (.tmp 60), [], false⟩] [0, 1, 5, 6, 61]
def c_turretlaw04_inside_8 : SCode := .reg [⟨(some 4), none, .mov (.const (.bool false)), [], false⟩] [4]
def c_turretlaw04_inside_9 : SCode := .seq c_turretlaw04_inside_8 .ret
def c_turretlaw04_inside_10 : SCode := .cond (.tmp 61) c_turretlaw04_inside_9 .skip
def c_turretlaw04_inside_11 : SCode := .seq c_turretlaw04_inside_7 c_turretlaw04_inside_10
def c_turretlaw04_inside_12 : SCode := .seq c_turretlaw04_inside_6 c_turretlaw04_inside_11
def c_turretlaw04_inside_13 : SCode := .block 1 c_turretlaw04_inside_12
def c_turretlaw04_inside_14 : SCode := .reg [⟨(some 11), none, .mov (.tmp 6), [], false⟩,
  ⟨(some 12), none, .bin .add (.tmp 11) (.const (.int .i64 1)), [], false⟩,
  ⟨(some 6), none, .mov (.tmp 12), [], false⟩] [0, 1, 5, 6]
def c_turretlaw04_inside_15 : SCode := .seq c_turretlaw04_inside_13 c_turretlaw04_inside_14
def c_turretlaw04_inside_16 : SCode := .seq c_turretlaw04_inside_5 c_turretlaw04_inside_15
def c_turretlaw04_inside_17 : SCode := .loop c_turretlaw04_inside_16
def c_turretlaw04_inside_18 : SCode := .block 0 c_turretlaw04_inside_17
def c_turretlaw04_inside_19 : SCode := .seq c_turretlaw04_inside_2 c_turretlaw04_inside_18
def c_turretlaw04_inside_20 : SCode := .reg [⟨(some 62), none, .mov (.tmp 5), [], false⟩,
  ⟨(some 4), none, .mov (.tmp 62), [], false⟩] [4]
def c_turretlaw04_inside_21 : SCode := .seq c_turretlaw04_inside_20 .ret
def c_turretlaw04_inside_22 : SCode := .seq c_turretlaw04_inside_19 c_turretlaw04_inside_21
def c_turretlaw04_inside_23 : SCode := .seq c_turretlaw04_inside_1 c_turretlaw04_inside_22
def c_turretlaw04_inside_24 : SCode := .seq c_turretlaw04_inside_0 c_turretlaw04_inside_23
@[simp] def rs_turretlaw04_inside : List SRes := [.tmp 4]
theorem law_turretlaw04_inside (cs : List CV) (r : CV) (hl : cs.length ≤ 63) (h : STri (cfF Try.prog [] 63) c_turretlaw04_inside_24 (initT 0 cs) [] (retQ rs_turretlaw04_inside r)) : SC Try.prog 29 cs r :=
  sc_of [] follows Try.func29 rfl Try.ntmps29 (by decide) (by kernel_rfl) (by kernel_rfl) hl h
def c_turretlaw04_readings_0 : SCode := .reg [⟨(some 2), none, .mov (.const (.slice none 0 0)), [], false⟩] [0]
def c_turretlaw04_readings_1 : SCode := .reg [⟨(some 3), none, .buildSl 70 2 [(.int .i64 0), (.int .i64 0)] 0 [], [], false⟩,
  ⟨(some 4), none, .mov (.tmp 0), [], false⟩,
  ⟨(some 5), none, .append 70 2 16 (.tmp 3) (.tmp 4), [], false⟩,
  ⟨(some 2), none, .mov (.tmp 5), [], false⟩] [2]
def c_turretlaw04_readings_2 : SCode := .seq c_turretlaw04_readings_1 .ret
def c_turretlaw04_readings_3 : SCode := .seq c_turretlaw04_readings_0 c_turretlaw04_readings_2
@[simp] def rs_turretlaw04_readings : List SRes := [.tmp 2]
theorem law_turretlaw04_readings (cs : List CV) (r : CV) (hl : cs.length ≤ 6) (h : STri (cfF Try.prog [] 6) c_turretlaw04_readings_3 (initT 0 cs) [] (retQ rs_turretlaw04_readings r)) : SC Try.prog 32 cs r :=
  sc_of [] follows Try.func32 rfl Try.ntmps32 (by decide) (by kernel_rfl) (by kernel_rfl) hl h
def c_turretlaw04_face_0 : SCode := .reg [⟨(some 1), none, .box 80 (.tmp 0), [], false⟩,
  ⟨(some 2), none, .alloc 80 [(.int .i64 0), (.int .i64 0), (.slice none 0 0), (.int .i64 0), (.int .i64 0)], [], false⟩] [1, 2]
def c_turretlaw04_face_1 : SCode := .reg [⟨(some 3), none, .buildSl 101 3 [(.int .i64 0), (.int .i64 0), (.int .i64 0)] 0 [], [], false⟩,
  ⟨(some 4), none, .fld 2 (.tmp 1), [], false⟩,
  ⟨(some 5), none, .load false 1 (.tmp 4), [], false⟩,
  ⟨(some 6), none, .append 101 3 24 (.tmp 3) (.tmp 5), [], false⟩,
  ⟨(some 7), none, .fld 2 (.tmp 1), [], false⟩,
  ⟨none, none, .store 1 (.tmp 7) (.tmp 6), [], false⟩] [1, 2]
def c_turretlaw04_face_2 : SCode := .reg [⟨(some 8), none, .load true 5 (.tmp 1), [], false⟩,
  ⟨none, none, .store 5 (.tmp 2) (.tmp 8), [], false⟩] [2]
def c_turretlaw04_face_3 : SCode := .seq c_turretlaw04_face_2 .ret
def c_turretlaw04_face_4 : SCode := .seq c_turretlaw04_face_1 c_turretlaw04_face_3
def c_turretlaw04_face_5 : SCode := .seq c_turretlaw04_face_0 c_turretlaw04_face_4
@[simp] def rs_turretlaw04_face : List SRes := [.cell 2 true 5]
theorem law_turretlaw04_face (cs : List CV) (r : CV) (hl : cs.length ≤ 9) (h : STri (cfF Try.prog [] 9) c_turretlaw04_face_5 (initT 0 cs) [] (retQ rs_turretlaw04_face r)) : SC Try.prog 35 cs r :=
  sc_of [] follows Try.func35 rfl Try.ntmps35 (by decide) (by kernel_rfl) (by kernel_rfl) hl h
def c_turretlaw04_smaller_0 : SCode := .reg [⟨(some 5), none, .box 26 (.tmp 0), [], false⟩,
  ⟨(some 6), none, .box 26 (.tmp 1), [], false⟩,
  ⟨(some 9), none, .box 23 (.tmp 4), [], false⟩,
  ⟨(some 10), none, .mov (.const (.bool false)), [], false⟩] [2, 3, 5, 6, 9]
def c_turretlaw04_smaller_1 : SCode := .reg [⟨(some 20), none, .fld 3 (.tmp 5), [], false⟩,
  ⟨(some 21), none, .load false 1 (.tmp 20), [], false⟩,
  ⟨(some 22), none, .mov (.tmp 2), [], false⟩,
  ⟨(some 23), none, .idxS 5 (.tmp 21) (.tmp 22), [], false⟩,
  ⟨(some 24), none, .load true 5 (.tmp 23), [], false⟩,
  ⟨(some 25), none, .call 35 [(.tmp 24)], [], false⟩,
  ⟨(some 26), none, .call 34 [(.tmp 25)], [], false⟩,
  ⟨(some 19), none, .mov (.tmp 26), [], false⟩,
  ⟨(some 27), none, .ext (.tmp 19) 0, [], false⟩,
  ⟨(some 28), none, .ext (.tmp 19) 1, [], false⟩,
  ⟨(some 11), none, .mov (.tmp 27), [], false⟩,
  ⟨(some 12), none, .mov (.tmp 28), [], false⟩] [2, 3, 5, 6, 9, 11, 12]
def c_turretlaw04_smaller_2 : SCode := .reg [⟨(some 30), none, .fld 3 (.tmp 6), [], false⟩,
  ⟨(some 31), none, .load false 1 (.tmp 30), [], false⟩,
  ⟨(some 32), none, .mov (.tmp 2), [], false⟩,
  ⟨(some 33), none, .idxS 5 (.tmp 31) (.tmp 32), [], false⟩,
  ⟨(some 34), none, .load true 5 (.tmp 33), [], false⟩,
  ⟨(some 35), none, .call 35 [(.tmp 34)], [], false⟩,
  ⟨(some 36), none, .call 34 [(.tmp 35)], [], false⟩,
  ⟨(some 29), none, .mov (.tmp 36), [], false⟩,
  ⟨(some 37), none, .ext (.tmp 29) 0, [], false⟩,
  ⟨(some 38), none, .ext (.tmp 29) 1, [], false⟩,
  ⟨(some 13), none, .mov (.tmp 37), [], false⟩,
  ⟨(some 14), none, .mov (.tmp 38), [], false⟩] [2, 3, 5, 6, 9, 11, 12, 13, 14]
def c_turretlaw04_smaller_3 : SCode := .reg [⟨(some 40), none, .load true 4 (.tmp 5), [], true⟩,
  ⟨(some 41), none, .call 13 [(.tmp 40)], [], true⟩,
  ⟨(some 42), none, .mov (.tmp 2), [], false⟩,
  ⟨(some 43), none, .mov (.tmp 3), [], false⟩,
  ⟨(some 44), none, .load true 2 (.tmp 9), [], true⟩,
  ⟨(some 45), none, .call 14 [(.tmp 41), (.tmp 42), (.tmp 43), (.tmp 44)], [], true⟩,
  ⟨(some 39), none, .mov (.tmp 45), [], false⟩,
  ⟨(some 46), none, .ext (.tmp 39) 0, [], false⟩,
  ⟨(some 47), none, .ext (.tmp 39) 1, [], false⟩,
  ⟨(some 15), none, .alloc 23 [(.int .i64 0), (.int .i64 0)], [0, 1, 4, 5], false⟩,
  ⟨none, none, .store 2 (.tmp 15) (.tmp 46), [], false⟩,
  ⟨(some 16), none, .mov (.tmp 47), [], false⟩] [2, 3, 6, 9, 11, 12, 13, 14, 15, 16]
def c_turretlaw04_smaller_4 : SCode := .reg [⟨(some 49), none, .load true 4 (.tmp 6), [], true⟩,
  ⟨(some 50), none, .call 13 [(.tmp 49)], [], true⟩,
  ⟨(some 51), none, .mov (.tmp 2), [], false⟩,
  ⟨(some 52), none, .mov (.tmp 3), [], false⟩,
  ⟨(some 53), none, .load true 2 (.tmp 9), [], true⟩,
  ⟨(some 54), none, .call 14 [(.tmp 50), (.tmp 51), (.tmp 52), (.tmp 53)], [], true⟩,
  ⟨(some 48), none, .mov (.tmp 54), [], false⟩,
  ⟨(some 55), none, .ext (.tmp 48) 0, [], false⟩,
  ⟨(some 56), none, .ext (.tmp 48) 1, [], false⟩,
  ⟨(some 17), none, .alloc 23 [(.int .i64 0), (.int .i64 0)], [0, 1, 4, 5], false⟩,
  ⟨none, none, .store 2 (.tmp 17) (.tmp 55), [], false⟩,
  ⟨(some 18), none, .mov (.tmp 56), [], false⟩] [11, 12, 13, 14, 15, 16, 17, 18]
def c_turretlaw04_smaller_5 : SCode := .reg [⟨(some 57), none, .mov (.tmp 12), [], false⟩,
  ⟨(some 58), none, .bin .eql (.tmp 57) (.const (.int .i64 0)), [], false⟩,
  ⟨(some 59), none, .mov (.tmp 58), [], false⟩,
  ⟨(some 60), (some (59, true)), .mov (.tmp 14), [], false⟩,
  ⟨(some 61), (some (59, true)), .bin .eql (.tmp 60) (.const (.int .i64 0)), [], false⟩,
  ⟨(some 62), none, .pick (.tmp 59) (.tmp 61) (.const (.bool false)), [], false⟩,
  ⟨(some 63), none, .mov (.tmp 62), [], false⟩,
  ⟨(some 64), (some (63, true)), .mov (.tmp 16), [], false⟩,
  ⟨(some 65), (some (63, true)), .bin .eql (.tmp 64) (.const (.int .i64 0)), [], false⟩,
  ⟨(some 66), none, .pick (.tmp 63) (.tmp 65) (.const (.bool false)), [], false⟩,
  ⟨(some 67), none, .mov (.tmp 66), [], false⟩,
  ⟨(some 68), (some (67, true)), .mov (.tmp 18), [], false⟩,
  ⟨(some 69), (some (67, true)), .bin .eql (.tmp 68) (.const (.int .i64 0)), [], false⟩,
  ⟨(some 70), none, .pick (.tmp 67) (.tmp 69) (.const (.bool false)), [], false⟩,
  ⟨(some 71), none, .mov (.tmp 70), [], false⟩,
  ⟨(some 72), (some (71, true)), .mov (.tmp 13), [], false⟩,
  ⟨(some 73), (some (71, true)), .mov (.tmp 11), [], false⟩,
  ⟨(some 74), (some (71, true)), .bin .leq (.tmp 72) (.tmp 73), [], false⟩,
  ⟨(some 75), none, .pick (.tmp 71) (.tmp 74) (.const (.bool false)), [], false⟩,
  ⟨(some 76), none, .mov (.tmp 75), [], false⟩,
  ⟨(some 77), (some (76, true)), .fld 0 (.tmp 17), [], false⟩,
  ⟨(some 78), (some (76, true)), .load false 1 (.tmp 77), [], false⟩,
  ⟨(some 79), (some (76, true)), .fld 0 (.tmp 15), [], false⟩,
  ⟨(some 80), (some (76, true)), .load false 1 (.tmp 79), [], false⟩,
  ⟨(some 81), (some (76, true)), .bin .geq (.tmp 78) (.tmp 80), [], false⟩,
  ⟨(some 82), none, .pick (.tmp 76) (.tmp 81) (.const (.bool false)), [], false⟩,
  ⟨(some 83), none, .mov (.tmp 82), [], false⟩,
  ⟨(some 84), (some (83, true)), .fld 1 (.tmp 17), [], false⟩,
  ⟨(some 85), (some (83, true)), .load false 1 (.tmp 84), [], false⟩,
  ⟨(some 86), (some (83, true)), .fld 1 (.tmp 15), [], false⟩,
  ⟨(some 87), (some (83, true)), .load false 1 (.tmp 86), [], false⟩,
  ⟨(some 88), (some (83, true)), .bin .geq (.tmp 85) (.tmp 87), [], false⟩,
  ⟨(some 89), none, .pick (.tmp 83) (.tmp 88) (.const (.bool false)), [], false⟩,
  ⟨(some 90), none, .mov (.tmp 89), [], false⟩,
  ⟨(some 91), (some (90, true)), .fld 1 (.tmp 17), [], false⟩,
  ⟨(some 92), (some (90, true)), .load false 1 (.tmp 91), [], false⟩,
  ⟨(some 93), (some (90, true)), .fld 1 (.tmp 15), [], false⟩,
  ⟨(some 94), (some (90, true)), .load false 1 (.tmp 93), [], false⟩,
  ⟨(some 95), (some (90, true)), .bin .sub (.tmp 92) (.tmp 94), [], false⟩,
  ⟨(some 96), (some (90, true)), .mov (.tmp 11), [], false⟩,
  ⟨(some 97), (some (90, true)), .mov (.tmp 13), [], false⟩,
  ⟨(some 98), (some (90, true)), .bin .sub (.tmp 96) (.tmp 97), [], false⟩,
  ⟨(some 99), (some (90, true)), .bin .leq (.tmp 95) (.tmp 98), [], false⟩,
  ⟨(some 100), none, .pick (.tmp 90) (.tmp 99) (.const (.bool false)), [], false⟩,
  ⟨(some 10), none, .mov (.tmp 100), [], false⟩] [10]
def c_turretlaw04_smaller_6 : SCode := .seq c_turretlaw04_smaller_5 .ret
def c_turretlaw04_smaller_7 : SCode := .seq c_turretlaw04_smaller_4 c_turretlaw04_smaller_6
def c_turretlaw04_smaller_8 : SCode := .seq c_turretlaw04_smaller_3 c_turretlaw04_smaller_7
def c_turretlaw04_smaller_9 : SCode := .seq c_turretlaw04_smaller_2 c_turretlaw04_smaller_8
def c_turretlaw04_smaller_10 : SCode := .seq c_turretlaw04_smaller_1 c_turretlaw04_smaller_9
def c_turretlaw04_smaller_11 : SCode := .seq c_turretlaw04_smaller_0 c_turretlaw04_smaller_10
@[simp] def rs_turretlaw04_smaller : List SRes := [.tmp 10]
theorem law_turretlaw04_smaller (cs : List CV) (r : CV) (hl : cs.length ≤ 101) (h : STri (cfF Try.prog [] 101) c_turretlaw04_smaller_11 (initT 0 cs) [] (retQ rs_turretlaw04_smaller r)) : SC Try.prog 36 cs r :=
  sc_of [] follows Try.func36 rfl Try.ntmps36 (by decide) (by kernel_rfl) (by kernel_rfl) hl h
end Go.Proofs.Ytnfggkopledpcaa
/- The shadow code of functions, as the kit's translation has them. -/
namespace Go.Proofs.Ytnfggkopledpcaa
open Go.RowKit
@[simp] def rs_turretlaw04_DialNarrow : List SRes := [.tmp 6]
end Go.Proofs.Ytnfggkopledpcaa
/- Own slices that lie in boxes are closed. -/
namespace Go.Proofs.Ytnfggkopledpcaa
open Go.RowKit
section
variable {cf : Cf} {cx : Cx} {T T' : TL} {H H' : HL} {a : Act} {w : World} {F : Nat → Option Blk} {ρ : Nat → Option Nat}
def CloC (H : HL) (X : Nat → Prop) (x y : SV) : Prop := x = y ∨ ∃ id t k rows, x = .own id rows.length ∧ lookH H id = some (.arr t k rows) ∧ X id ∧ y = .c (.sl k rows)
def CloL (H : HL) (X : Nat → Prop) : List SV → List SV → Prop
  | [], [] => True
  | x :: xs, y :: ys => CloC H X x y ∧ CloL H X xs ys
  | _, _ => False
theorem CloL.get {X : Nat → Prop} : ∀ {xs ys : List SV}, CloL H X xs ys → xs.length = ys.length ∧ ∀ (i : Nat) y, ys[i]? = some y → ∃ x, xs[i]? = some x ∧ CloC H X x y
  | [], [], _ => ⟨rfl, fun i y h => by simp at h⟩
  | x :: xs, y :: ys, h => by
    obtain ⟨h1, h2⟩ := CloL.get h.2
    refine ⟨by simp [h1], fun i z hz => ?_⟩
    cases i with
    | zero => simp at hz; subst hz; exact ⟨x, by simp, h.1⟩
    | succ i => simp at hz ⊢; exact h2 i z hz
  | [], _ :: _, h => h.elim
  | _ :: _, [], h => h.elim
structure Shut (cf : Cf) (H H' : HL) (X : Nat → Prop) : Prop where
  at' : ∀ i, X i → cf.b ≤ i ∧ i < cf.b + 1000 ∧ i ∉ cf.K
  keep : ∀ i, ¬ X i → lookH H' i = lookH H i ∨ ∃ t cs cs', lookH H i = some (.box t cs) ∧ lookH H' i = some (.box t cs') ∧ CloL H X cs cs'
  gone : ∀ i, X i → lookH H' i = none
  gh : lookH H' (1000000000 + cf.b) = lookH H (1000000000 + cf.b)
  cl : ∀ i t cells, lookH H' i = some (.box t cells) → inPL (fun j => ¬ X j) cells
theorem Shut.eqs {X : Nat → Prop} (d : Shut cf H H' X) (out : ∀ i, Rg cf.b i → F i = none) (i : Nat) : (X i → tot F (lookH H') i = none) ∧ (¬ X i → tot F (lookH H') i = tot F (lookH H) i ∨ ∃ t cs cs', tot F (lookH H) i = some (.box t cs) ∧ tot F (lookH H') i = some (.box t cs') ∧ CloL H X cs cs') := by
  refine ⟨fun hi => ?_, fun hi => ?_⟩
  · rw [tot_none (d.gone i hi)]
    exact out i (.inl ⟨(d.at' i hi).1, (d.at' i hi).2.1⟩)
  · rcases d.keep i hi with h | ⟨t, cs, cs', h1, h2, h3⟩
    · left; unfold tot; rw [h]
    · right; exact ⟨t, cs, cs', tot_some h1, tot_some h2, h3⟩
theorem RepS.less2 {w : World} {NA : Nat → Prop} {ρ : Nat → Option Nat} {H H' : Nat → Option Blk} {D : Nat → Prop} (hs : ∀ id, H' id ≠ none → H id ≠ none) (hD : ∀ id B, H id = some B → D id → H' id = some B ∨ ∃ t cs cs', B = .box t cs ∧ H' id = some (.box t cs')) {x : SV} {v : Value}
    (h : RepS w NA ρ H x v) (hx : x.inP D) : RepS w NA ρ H' x v := by
  have calm : Calm w (Mut NA ρ H) w (Mut NA ρ H') := ⟨Nat.le_refl _, fun b _ hn => ⟨rfl, fun hm => by
    rcases hm with hm | ⟨i, h1, h2⟩
    · exact hn (.inl hm)
    · exact hn (.inr ⟨i, hs i h1, h2⟩)⟩⟩
  induction h with
  | c x v r => exact .c x v (r.move calm)
  | agg xs vs h1 _ ih => exact .agg xs vs h1 (fun i x v hx' hv => ih i x v hx' hv (inPL_get hx i x hx'))
  | tup xs vs h1 _ ih => exact .tup xs vs h1 (fun i x v hx' hv => ih i x v hx' hv (inPL_get hx i x hx'))
  | own id len t k rows v hH hl ho hv =>
    rcases hD id _ hH hx with h | ⟨_, _, _, h, _⟩
    · exact .own id len t k rows v h hl ho hv
    · cases h
  | ptrB id j t cells b hH hb =>
    rcases hD id _ hH hx with h | ⟨t', cs, cs', h, h'⟩
    · exact .ptrB id j t cells b h hb
    · cases h; exact .ptrB id j t cs' b h' hb
  | ptrA id len i j t k rows v hH hl ho hv =>
    rcases hD id _ hH hx with h | ⟨_, _, _, h, _⟩
    · exact .ptrA id len i j t k rows v h hl ho hv
    · cases h
  | pel k rows i j b off c hc hi => exact .pel k rows i j b off c (hc.move calm) hi
  | fn f fs cs vf vc h1 h2 _ _ ih1 ih2 =>
    exact .fn f fs cs vf vc h1 h2 (fun i x v hx' hv => ih1 i x v hx' hv (inPL_get hx.1 i x hx')) (fun i x v hx' hv => ih2 i x v hx' hv (inPL_get hx.2 i x hx'))
  | yl id lo b hH hb =>
    rcases hD id _ hH hx with h | ⟨_, _, _, h, _⟩
    · exact .yl id lo b h hb
    · cases h
  | om id ag kd es b hH hb =>
    rcases hD id _ hH hx with h | ⟨_, _, _, h, _⟩
    · exact .om id ag kd es b h hb
    · cases h
  | dead v => exact .dead v
theorem Shut.ne {X : Nat → Prop} (d : Shut cf H H' X) (out : ∀ i, Rg cf.b i → F i = none) (id : Nat) (hn : tot F (lookH H') id ≠ none) : tot F (lookH H) id ≠ none ∧ ¬ X id := by
  by_cases hx : X id
  · exact absurd ((d.eqs out id).1 hx) hn
  · rcases (d.eqs out id).2 hx with h | ⟨t, cs, cs', h1, _⟩
    · exact ⟨by rw [← h]; exact hn, hx⟩
    · exact ⟨by rw [h1]; simp, hx⟩
theorem Shut.sub {X : Nat → Prop} (d : Shut cf H H' X) (out : ∀ i, Rg cf.b i → F i = none) {x : SV} {v : Value} {NA : Nat → Prop} (r : RepS w NA ρ (tot F (lookH H)) x v) (hx : x.inP (fun j => ¬ X j)) : RepS w NA ρ (tot F (lookH H')) x v := by
  refine r.less2 (D := fun j => ¬ X j) (fun id hn => (d.ne out id hn).1) (fun id B hB hid => ?_) hx
  rcases (d.eqs out id).2 hid with h | ⟨t, cs, cs', h1, h2, _⟩
  · left; rw [h, hB]
  · right; rw [hB] at h1; cases h1; exact ⟨t, cs, cs', rfl, h2⟩
theorem shut_own (h : StAt cf cx T H a w F ρ) {X : Nat → Prop} (d : Shut cf H H' X) {id : Nat} {t : TypeId} {k : Nat} {rows : List (List CV)} (hH : lookH H id = some (.arr t k rows)) (hX : X id) {v : Value} (hv : RepS w cx.NA ρ (tot F (lookH H)) (.own id rows.length) v) :
    RepS w cx.NA ρ (tot F (lookH H')) (.c (.sl k rows)) v := by
  have hne := d.ne (F := F) h.out
  have calm : Calm w (Mut cx.NA ρ (tot F (lookH H))) w (Mut cx.NA ρ (tot F (lookH H'))) := ⟨Nat.le_refl _, fun b _ hn => ⟨rfl, fun hm => by
    rcases hm with hm | ⟨i, h1, h2⟩
    · exact hn (.inl hm)
    · exact hn (.inr ⟨i, (hne i h1).1, h2⟩)⟩⟩
  have e2 := tot_some (F := F) hH
  have q1 := h.rep.heap
  cases hv with
  | own _ _ t' k' rows' _ hH' hl ho hv =>
    rw [e2] at hH'; cases hH'
    rcases hv rfl with ⟨q0, q1', rfl⟩ | ⟨b, cap, cs, t2, p1, rfl, p3, p4, p5, p6⟩
    · have : rows = [] := List.length_eq_zero_iff.1 q1'
      subst this; exact .c _ _ (.nil k none 0 (Nat.zero_le _))
    · rcases q1.blk id _ e2 with ⟨g1, _⟩ | ⟨b', cs', cap', g1, g2, g3, g4, g5, g6, g7⟩
      · rw [p1] at g1; cases g1
      · rw [p1] at g1; cases g1
        rw [p3] at g2; cases g2
        have hown : Own ρ (tot F (lookH H)) b := ⟨id, by rw [e2]; simp, p1⟩
        refine .c _ _ (.sl k rows b 0 cap (fun j i => cs.getD (j * k + i) undef) p5 p6 (q1.lt hown) (fun hm => ?_) g6 (fun j row i x hj hx => ?_) (fun j row i x hj hx => ?_))
        · rcases hm with hm | ⟨j, z1, z2⟩
          · exact cx.nn b hm (q1.low b hown (cx.na b hm))
          · obtain ⟨z3, z4⟩ := hne j z1
            have := q1.inj j id b z3 (by rw [e2]; simp) z2 p1
            subst this
            exact z4 hX
        · obtain ⟨v, hv1, _⟩ := g7 j row i x hj hx
          rw [Nat.zero_add, cell_of_row w b (j * k + i) cs _ (0, 0) p3]
          simp [hv1]
        · obtain ⟨v, hv1, hv2⟩ := g7 j row i x hj hx
          have : cs.getD (j * k + i) undef = v := by simp [hv1]
          rw [this]; exact hv2.move calm
theorem Shut.cell (h : StAt cf cx T H a w F ρ) {X : Nat → Prop} (d : Shut cf H H' X) {x y : SV} (hc : CloC H X x y) (hy : y.inP (fun j => ¬ X j)) {v : Value} (hv : RepS w cx.NA ρ (tot F (lookH H)) x v) : RepS w cx.NA ρ (tot F (lookH H')) y v := by
  rcases hc with rfl | ⟨id, t, k, rows, rfl, h2, h3, rfl⟩
  · exact d.sub h.out hv hy
  · exact shut_own h d h2 h3 hv
theorem StAt.shut (ok : cf.ok) (hHs : ∀ i, cf.b ≤ i → i < cf.b + 1000 → i ∉ cf.K → cx.Hs i = none) (h : StAt cf cx T H a w F ρ) {X : Nat → Prop} (d : Shut cf H H' X)
    (hT : ∀ i, (∀ v, RepS w cx.NA ρ (tot F (lookH H)) (lookT T i) v → RepS w cx.NA ρ (tot F (lookH H')) (lookT T' i) v)) : StAt cf cx T' H' a w F ρ := by
  have tt := d.eqs (F := F) h.out
  have hne := d.ne (F := F) h.out
  have own : ∀ b, Mut cx.NA ρ (tot F (lookH H')) b → Mut cx.NA ρ (tot F (lookH H)) b := fun b hm => by
    rcases hm with hm | ⟨i, h1, h2⟩
    · exact .inl hm
    · exact .inr ⟨i, (hne i h1).1, h2⟩
  have calm : Calm w (Mut cx.NA ρ (tot F (lookH H))) w (Mut cx.NA ρ (tot F (lookH H'))) := ⟨Nat.le_refl _, fun b _ hn => ⟨rfl, fun hm => hn (own b hm)⟩⟩
  have hgh := d.gh
  have hsub : ∀ i, lookH H' i ≠ none → lookH H i ≠ none := fun i hi => by
    by_cases hx : X i
    · exact absurd (d.gone i hx) hi
    · rcases d.keep i hx with h | ⟨t, cs, cs', h1, _⟩
      · rw [← h]; exact hi
      · rw [h1]; simp
  have boxF : ∀ id t cells, tot F (lookH H') id = some (.box t cells) → inPL (fun j => ¬ X j) cells := fun id t cells hB => by
    cases hL : lookH H' id with
    | some B =>
      rw [tot_some hL] at hB; cases hB
      exact d.cl id t cells hL
    | none =>
      rw [tot_none hL] at hB
      refine inPL_mono (fun j hj hx => hj ?_) cells (h.cl id t cells hB)
      exact h.out j (.inl ⟨(d.at' j hx).1, (d.at' j hx).2.1⟩)
  refine ⟨by unfold kOf at *; rw [hgh]; exact h.iv, h.cl, h.out, h.ol, fun i hi => h.dis i (hsub i hi), by rw [hgh]; exact h.yd, fun i hi => ?_, h.dm, ⟨h.rep.size, ⟨fun i j b h1 h2 => h.rep.heap.inj i j b (hne i h1).1 (hne j h2).1, fun id B hB => ?_, h.rep.heap.fr, fun b hb => h.rep.heap.low b ?_⟩, fun i => hT i _ (h.rep.tmp i)⟩, fun x v hx => ?_, ⟨h.tr.1.trans calm, fun i => ?_⟩, ?_⟩
  · exact h.av i (hsub i hi)
  · have hx : ¬ X id := (hne id (by rw [hB]; simp)).2
    rcases (tt id).2 hx with he | ⟨t, cs, cs', e1, e2, e3⟩
    · have hr := h.rep.heap.blk id B (by rw [← he]; exact hB)
      cases B with
      | box t cells =>
        obtain ⟨b, cs, e1, e2, e3, e4⟩ := hr
        exact ⟨b, cs, e1, e2, e3, fun j x v hx hv => d.sub h.out (e4 j x v hx hv) (inPL_get (boxF id t cells hB) j x hx)⟩
      | arr t k rows =>
        rcases hr with ⟨e1, e2⟩ | ⟨b, cs, cap, e1, e2, e3, e4, e5, e6, e7⟩
        · exact .inl ⟨e1, e2⟩
        · exact .inr ⟨b, cs, cap, e1, e2, e3, e4, e5, e6, fun j row m x hr hx => by
            obtain ⟨v, hv1, hv2⟩ := e7 j row m x hr hx
            exact ⟨v, hv1, hv2.move calm⟩⟩
      | map ag kd es =>
        obtain ⟨b, ents, clock, e1, e2, e3, e4⟩ := hr
        exact ⟨b, ents, clock, e1, e2, e3, fun i p e hp he => (e4 i p e hp he).move calm⟩
      | loop lo => exact hr
      | gh k s => exact hr
    · rw [e2] at hB; cases hB
      obtain ⟨b, vs, q1, q2, q3, q4⟩ := h.rep.heap.blk id _ e1
      obtain ⟨c1, c2⟩ := e3.get
      refine ⟨b, vs, q1, q2, by rw [q3, c1], fun j y v hy hv => ?_⟩
      obtain ⟨x, hx1, hx2⟩ := c2 j y hy
      exact d.cell h hx2 (inPL_get (boxF id t cs' e2) j y hy) (q4 j x v hx1 hv)
  · obtain ⟨i, h1, h2⟩ := hb
    exact ⟨i, (hne i h1).1, h2⟩
  · refine d.sub h.out (h.gh x v hx) (inP_mono (fun j hj hX => ?_) x (ok.G x v hx))
    obtain ⟨q1, q2, q3⟩ := d.at' j hX
    exact q3 (hj (.inl ⟨q1, q2⟩))
  · have hi := h.tr.2 i
    by_cases hX : X i
    · obtain ⟨q1, q2, q3⟩ := d.at' i hX
      have := hHs i q1 q2 q3
      refine ⟨fun B hB _ => ?_, fun t k rows hB => ?_⟩
      · rw [this] at hB; cases hB
      · rw [this] at hB; cases hB
    · refine hi.trans ?_
      rcases (tt i).2 hX with he | ⟨t, cs, cs', e1, e2, _⟩
      · unfold KeepI
        rw [he]
        exact KeepI.refl w ρ _ i
      · refine ⟨fun B hB _ => ⟨_, e2, ?_, rfl⟩, fun t k rows hB => ?_⟩
        · rw [e1] at hB; cases hB; rfl
        · rw [e1] at hB; cases hB
  · obtain ⟨Ds, h1, h2, h3⟩ := h.df
    exact ⟨Ds, h1, h2, fun D hD => by
      obtain ⟨l, q1, q2, q3⟩ := h3 D hD
      exact ⟨l, q1, fun hm => q2 (own D hm), q3⟩⟩
end
def ownS (X : List Nat) (H : HL) : SV → SV → Prop
  | .own id n, .c (.sl k rows) => n = rows.length ∧ X.contains id = true ∧ ∃ t, lookH H id = some (.arr t k rows)
  | _, _ => False
def ownL (X : List Nat) (H : HL) : List SV → List SV → Prop
  | [], [] => True
  | x :: xs, y :: ys => (x = y ∨ ownS X H x y) ∧ ownL X H xs ys
  | _, _ => False
theorem ownS_clo {X : List Nat} {H : HL} : ∀ {x y : SV}, ownS X H x y → CloC H (fun i => i ∈ X) x y := fun {x y} h => by
  unfold ownS at h
  split at h
  · obtain ⟨rfl, h2, t, h3⟩ := h
    exact .inr ⟨_, t, _, _, rfl, h3, by simpa using h2, rfl⟩
  · exact h.elim
theorem ownL_clo {X : List Nat} {H : HL} : ∀ {xs ys : List SV}, ownL X H xs ys → CloL H (fun i => i ∈ X) xs ys
  | [], [], _ => trivial
  | _ :: _, _ :: _, h => ⟨h.1.elim .inl ownS_clo, ownL_clo h.2⟩
  | [], _ :: _, h => h.elim
  | _ :: _, [], h => h.elim
def ShutB (X : List Nat) (H : HL) : Blk → Blk → Prop
  | .box t cs, .box t' cs' => t = t' ∧ ownL X H cs cs'
  | B, B' => B = B'
theorem shutB_or {X : List Nat} {H : HL} {B B' : Blk} (h : ShutB X H B B') : B = B' ∨ ∃ t cs cs', B = .box t cs ∧ B' = .box t cs' ∧ CloL H (fun i => i ∈ X) cs cs' := by
  unfold ShutB at h
  split at h
  · obtain ⟨rfl, h⟩ := h; exact .inr ⟨_, _, _, rfl, rfl, ownL_clo h⟩
  · exact .inl h
def ShutH (X : List Nat) (H : HL) : HL → Prop
  | [] => True
  | (id, B') :: r => (∃ B, lookH H id = some B ∧ ShutB X H B B') ∧ B'.outD X = true ∧ ShutH X H r
theorem ShutH.get {X : List Nat} {H : HL} : ∀ {H' : HL}, ShutH X H H' → ∀ i B', lookH H' i = some B' → (∃ B, lookH H i = some B ∧ ShutB X H B B') ∧ B'.outD X = true
  | [], _, i, B, h => by simp [lookH] at h
  | (j, C) :: r, h, i, B, hB => by
    obtain ⟨h1, h2, h3⟩ := h
    by_cases hi : i = j
    · subst hi; simp [lookH] at hB; subst hB; exact ⟨h1, h2⟩
    · simp only [lookH, if_neg hi] at hB; exact ShutH.get h3 i B hB
theorem shut_drop {cf : Cf} {H H' : HL} (hb : cf.b + 1000 ≤ 1000000000) (hg : lookH H (1000000000 + cf.b) = none ∨ ∃ k s, lookH H (1000000000 + cf.b) = some (.gh k s)) (h1 : dropOK cf (dropK H (H'.map (·.1))) = true) (h2 : ShutH (dropK H (H'.map (·.1))) H H') : Shut cf H H' (fun i => i ∈ dropK H (H'.map (·.1))) := by
  have mem : ∀ i, i ∈ dropK H (H'.map (·.1)) ↔ i ∈ H.map (·.1) ∧ i ∉ H'.map (·.1) := fun i => by
    unfold dropK; rw [List.mem_filter]
    simp only [Bool.not_eq_true', List.contains_eq_mem, decide_eq_false_iff_not]
  have at' : ∀ i, i ∈ dropK H (H'.map (·.1)) → cf.b ≤ i ∧ i < cf.b + 1000 ∧ i ∉ cf.K := fun i hi => by
    unfold dropOK at h1
    rw [List.all_eq_true] at h1
    have := h1 i hi
    simp only [Bool.and_eq_true, decide_eq_true_eq, Bool.not_eq_true', List.contains_eq_mem, decide_eq_false_iff_not] at this
    exact ⟨this.1.1, this.1.2, this.2⟩
  have keep : ∀ i, ¬ i ∈ dropK H (H'.map (·.1)) → lookH H' i = lookH H i ∨ ∃ t cs cs', lookH H i = some (.box t cs) ∧ lookH H' i = some (.box t cs') ∧ CloL H (fun i => i ∈ dropK H (H'.map (·.1))) cs cs' := fun i hi => by
    cases hB : lookH H' i with
    | some B' =>
      obtain ⟨⟨B, e1, e2⟩, _⟩ := h2.get i B' hB
      rcases shutB_or e2 with rfl | ⟨t, cs, cs', rfl, rfl, e3⟩
      · left; rw [e1]
      · right; exact ⟨t, cs, cs', e1, rfl, e3⟩
    | none =>
      cases hC : lookH H i with
      | none => left; rfl
      | some C =>
        exfalso
        refine hi ((mem i).2 ⟨mem_lookH (by rw [hC]; simp), fun hm => ?_⟩)
        obtain ⟨B, hB'⟩ := lookH_mem hm
        rw [hB] at hB'; cases hB'
  refine ⟨at', keep, fun i hi => ?_, ?_, fun i t cells hB => ?_⟩
  · cases hB : lookH H' i with
    | none => rfl
    | some B => exact absurd (mem_lookH (by rw [hB]; simp)) ((mem i).1 hi).2
  · have hn : ¬ (1000000000 + cf.b) ∈ dropK H (H'.map (·.1)) := fun hm => by have := (at' _ hm).2.1; omega
    rcases keep _ hn with h | ⟨t, cs, cs', e1, _⟩
    · exact h
    · rcases hg with hg | ⟨k, s, hg⟩
      · rw [e1] at hg; cases hg
      · rw [e1] at hg; cases hg
  · have := (h2.get i _ hB).2
    exact outDL_inP cells this
theorem shut_rep {cf : Cf} (ok : cf.ok) {cx : Cx} (hHs : ∀ i, cf.b ≤ i → i < cf.b + 1000 → i ∉ cf.K → cx.Hs i = none) {T T' : TL} {H H' : HL} (h0 : dropOK cf (dropK H (H'.map (·.1))) = true) (h1 : ClosT (dropK H (H'.map (·.1))) T H T') (h2 : ShutH (dropK H (H'.map (·.1))) H H') {a : Act} {w : World} (h : RepSt cf cx T H a w) : RepSt cf cx T' H' a w := by
  obtain ⟨F, ρ, h⟩ := h
  have d := shut_drop ok.b h.yd h0 h2
  refine ⟨F, ρ, h.shut ok hHs d (fun i v hv => ?_)⟩
  rcases h1.get i with e | ⟨e1, e2⟩ | ⟨id, t, k, rows, e1, e2, e3, e4⟩
  · rw [e]; exact .dead _
  · rw [← e1] at hv
    exact d.sub h.out hv (outD_inP _ e2)
  · rw [e4]
    rw [e1] at hv
    exact shut_own h d e2 e3 hv
theorem st_shut {cf : Cf} {sc : SCode} {T : TL} {H : HL} {Q : Exit → TL → HL → Prop} (T' : TL) (H' : HL) (hl0 : dropOK cf (dropK H (H'.map (·.1))) = true) (hl1 : ClosT (dropK H (H'.map (·.1))) T H T') (hl2 : ShutH (dropK H (H'.map (·.1))) H H') (h : STri cf sc T' H' Q) : STri cf sc T H Q :=
  st_weak (fun ok _ hHs _ _ hr => shut_rep ok hHs hl0 hl1 hl2 hr) h
@[simp] def shS (id k : Nat) (rows : List (List CV)) : SV → SV
  | .own i n => if i = id then .c (.sl k rows) else .own i n
  | x => x
@[simp] def shB (id k : Nat) (rows : List (List CV)) : Blk → Blk
  | .box t cs => .box t (cs.map (shS id k rows))
  | B => B
@[simp] def shT (id k : Nat) (rows : List (List CV)) : TL → TL
  | [] => []
  | (i, x) :: r => (i, shS id k rows x) :: shT id k rows r
@[simp] def shH (id k : Nat) (rows : List (List CV)) : HL → HL
  | [] => []
  | (i, B) :: r => if i = id then shH id k rows r else (i, shB id k rows B) :: shH id k rows r
def ClosO (X : List Nat) (T : TL) (H : HL) : TL → Prop
  | [] => True
  | (i, x) :: r => ((lookT T i = x ∧ x.outD X = true) ∨ ownS X H (lookT T i) x) ∧ ClosO X T H r
theorem ClosO.clos {X : List Nat} {T : TL} {H : HL} : ∀ {T' : TL}, ClosO X T H T' → ClosT X T H T'
  | [], _ => trivial
  | (_, _) :: _, h => ⟨h.1.elim .inl fun h => by
      generalize lookT _ _ = y at *
      unfold ownS at h
      split at h
      · obtain ⟨rfl, h2, t, h3⟩ := h
        exact .inr ⟨_, t, _, _, rfl, h3, h2, rfl⟩
      · exact h.elim, ClosO.clos h.2⟩
theorem st_shut1 {cf : Cf} {sc : SCode} {T : TL} {H : HL} {Q : Exit → TL → HL → Prop} (id : Nat) {t : TypeId} {k : Nat} {rows : List (List CV)} (hid : lookH H id = some (.arr t k rows)) (hl0 : dropOK cf (dropK H ((shH id k rows H).map (·.1))) = true)
    (hl1 : ClosO (dropK H ((shH id k rows H).map (·.1))) T H (shT id k rows T)) (hl2 : ShutH (dropK H ((shH id k rows H).map (·.1))) H (shH id k rows H)) (h : STri cf sc (shT id k rows T) (shH id k rows H) Q) : STri cf sc T H Q :=
  st_shut _ _ hl0 hl1.clos hl2 h
end Go.Proofs.Ytnfggkopledpcaa
/- Functions whose answer holds a slice that nobody else has; functions that read a slice of their caller's own and keep nothing of it. -/
namespace Go.Proofs.Ytnfggkopledpcaa
open Go.RowKit
def resS1 (T : Nat → SV) (H : Nat → Option Blk) : SRes → Option SV
  | .tmp t => some (T t)
  | .cell p ag n => match T p with
    | .ptr id j => match H id with
      | some (.box _ cs) => if j + n ≤ cs.length then mkS ag ((cs.drop j).take n) else none
      | _ => none
    | _ => none
theorem compRes_nil {P : Program} : ∀ {rv : List ResultVar}, compRes P rv = some [] → rv = []
  | [], _ => rfl
  | .tmp t :: r, h => by
    simp only [compRes, Option.map_eq_some_iff] at h
    obtain ⟨l, _, h⟩ := h
    cases h
  | .cell p ty :: r, h => by
    simp only [compRes] at h
    split at h
    · split at h <;> cases h
    · cases h
theorem res1_run {P : Program} {w0 w : World} {N0 NA : Nat → Prop} {ρ : Nat → Option Nat} {H : Nat → Option Blk} {T : Nat → SV} {tmps : Array Value} (h : RepH w0 N0 NA ρ H w) (ht : ∀ i, RepS w NA ρ H (T i) (tmps.getD i undef)) {rv : List ResultVar} {sr : SRes} {x : SV}
    (hc : compRes P rv = some [sr]) (hx : resS1 T H sr = some x) : ∃ v, (rv.mapM (resOne tmps)).run P w = .ok [v] w ∧ RepS w NA ρ H x v := by
  cases rv with
  | nil => cases hc
  | cons r0 r =>
  cases r0 with
  | tmp t =>
    simp only [compRes, Option.map_eq_some_iff] at hc
    obtain ⟨l, hl, hc⟩ := hc
    cases hc
    have := compRes_nil hl
    subst this
    simp only [resS1, Option.some.injEq] at hx
    subst hx
    exact ⟨_, by simp [List.mapM_cons, resOne], ht t⟩
  | cell p ty =>
    simp only [compRes] at hc
    split at hc
    case h_2 => cases hc
    case h_1 ag n l ha hn hl =>
    split at hc
    case isFalse => cases hc
    case isTrue hag =>
    cases hc
    have := compRes_nil hl
    subst this
    simp only [resS1] at hx
    split at hx
    case h_2 => cases hx
    case h_1 id j hp =>
    split at hx
    case h_2 => cases hx
    case h_1 t cs hH =>
    split at hx
    case isFalse => cases hx
    case isTrue hj =>
    have hpt := ht p
    rw [hp] at hpt
    generalize hv : tmps.getD p undef = v at hpt
    cases hpt with
    | ptrB _ _ t' cells b hH' hb =>
      rw [hH] at hH'; cases hH'
      obtain ⟨b', cc, e1, e2, e3, e4⟩ := h.blk id _ hH
      rw [hb] at e1; cases e1
      obtain ⟨u, hu1, hu2⟩ := rep_mk (P := P) (j := j) cs ag ha hn hag e2 ⟨by simpa using e3, fun i x v hx hv => e4 i x v hx (by simpa using hv)⟩ hj hx
      exact ⟨u, by simp only [List.mapM_cons, List.mapM_nil, resOne, Sem.run_bind, hv, asAddr, Sem.run_pure, Result.andThen_ok, hu1], hu2⟩
theorem results1 {P : Program} {w : World} {fn : Func} {tmps : Array Value} {v : Value} (h : (fn.results.toList.mapM (resOne tmps)).run P w = .ok [v] w) : (results fn tmps).run P w = .ok v w := by
  have := results_eq h
  simpa using this
def retF (sr : SRes) (sh : FSh) (t : TypeId) (k : Nat) (rows : List (List CV)) (e : Exit) (T : TL) (H : HL) : Prop :=
  (e = .normal ∨ e = .ret) ∧ ∃ id, resS1 (lookT T) (lookH H) sr = some (holeS sh id rows.length) ∧ lookH H id = some (.arr t k rows)
theorem retF_ret {sr : SRes} {sh : FSh} {t : TypeId} {k : Nat} {rows : List (List CV)} {T : TL} {H : HL} (h : ∃ id, resS1 (lookT T) (lookH H) sr = some (holeS sh id rows.length) ∧ lookH H id = some (.arr t k rows)) : retF sr sh t k rows .ret T H := ⟨.inr rfl, h⟩
theorem fc_of {P : Program} {f : FuncId} {fn : Func} {c : Code} {sc : SCode} {sr : SRes} {cs : List CV} {sh : FSh} {t : TypeId} {k : Nat} {rows : List (List CV)} (M : List FuncId) (hm : P.follows .mixedOrders = true) (hf : P.funcs[f]? = some fn) (hb : fn.body = some c) {n : Nat} (hn : fn.ntmps = n) (hn2 : n ≤ 1000)
    (hcomp : compCode P M n c = some sc.erase) (hres : compRes P fn.results.toList = some [sr]) (hle : cs.length ≤ n) (h : STri (cfF P M n) sc (initT 0 cs) [] (retF sr sh t k rows)) : FC P f cs sh t k rows := fun w NA vs hna hs hv => by
  have e0 : tot (fun _ => none) (lookH []) = fun _ => none := by funext i; rfl
  have st0 : StAt (cfF P M n) ⟨w, fun _ => False, NA, w, fun _ => none, fun _ => none, hna, fun _ _ h => h⟩ (initT 0 cs) [] { tmps := vs ++ Array.replicate (fn.ntmps - vs.size) undef, defers := [] } w (fun _ => none) (fun _ => none) := by
    refine ⟨rfl, fun id t cells h => by simp at h, fun _ _ => rfl, fun _ _ _ => rfl, fun _ _ => rfl, .inl rfl, fun i hi => absurd rfl hi, fun i hi => absurd rfl hi, ⟨?_, ⟨?_, ?_, ⟨rfl, rfl, rfl, Nat.le_refl _, fun _ _ _ => rfl⟩, ?_⟩, fun i => ?_⟩, fun _ _ h => h.elim, ?_, [], rfl, List.nodup_nil, fun D hD => by cases hD⟩
    · show _ = n
      simp; omega
    · intro i j b h1; exact absurd (by rw [e0]) h1
    · intro id B hB; rw [e0] at hB; cases hB
    · rintro b ⟨i, h1, _⟩; exact absurd (by rw [e0]) h1
    · rw [initT_get, if_pos (Nat.zero_le _), Nat.sub_zero]
      cases hc : cs[i]? with
      | none => exact .dead _
      | some x =>
        have hi : i < vs.size := by rw [hs]; exact (List.getElem?_eq_some_iff.1 hc).1
        have : (vs ++ Array.replicate (fn.ntmps - vs.size) undef).getD i undef = vs[i] := by simp [hi, Array.getElem?_append_left hi]
        rw [this]
        refine .c x _ ((hv i x _ hc (Array.getElem?_eq_getElem hi)).move ⟨Nat.le_refl _, fun b _ hb => ⟨rfl, fun hm => ?_⟩⟩)
        rcases hm with hm | ⟨i, h1, _⟩
        · exact hb hm
        · exact h1 (by rw [e0])
    · rw [e0]; exact Trans.refl _ _ _ _
  refine calls_of_st (cf := cfF P M n) (cfF_ok P M n hn2) hm hf hb hcomp h (cx := ⟨w, fun _ => False, NA, w, fun _ => none, fun _ => none, hna, fun _ _ h => h⟩) (fun _ _ _ _ => rfl) (fun _ _ _ => rfl) (Nat.le_refl _) ⟨_, _, st0⟩ (fun e T' H' tmps w' F ρ hq st => ?_)
  obtain ⟨he, id, hx, hid⟩ := hq
  refine ⟨he, ?_⟩
  have hF : F = fun _ => none := st.iv
  subst hF
  have e1 : tot (fun _ => none) (lookH H') = lookH H' := by
    funext i
    cases h : lookH H' i with
    | none => rw [tot_none h]
    | some B => rw [tot_some h]
  have q1 := st.rep.heap
  have q2 := st.rep.tmp
  rw [e1] at q1 q2
  obtain ⟨v, u1, u2⟩ := res1_run (P := P) q1 q2 hres hx
  have hrun := results1 (P := P) u1
  have hext : Ext w w' := ⟨q1.fr.os, q1.fr.tape, q1.fr.output, q1.fr.size, fun b hb => q1.fr.block b hb (fun h => h)⟩
  have own : ∀ b, ρ id = some b → Own ρ (lookH H') b := fun b hb => ⟨id, by rw [hid]; simp, hb⟩
  have hmu : ∀ b, Mut NA (fun _ => ρ id) (one1 t k rows) b → Mut NA ρ (lookH H') b := fun b hm => by
    rcases mut_one.1 hm with h | h
    · exact .inl h
    · exact .inr (own b h)
  refine ⟨v, hrun, v, ρ id, rfl, hext, fun b hb => ?_, ?_, hole_mv hid (by simp [one1]) rfl hmu u2⟩
  · rcases Nat.lt_or_ge b w.heap.size with h | h
    · exact (q1.low b (own b hb) h).elim
    · exact h
  · rcases q1.blk id _ hid with ⟨b1, b2⟩ | ⟨b, cs, cap, b1, b2, b3, b4, b5, b6, b7⟩
    · exact .inl ⟨b1, b2⟩
    · exact .inr ⟨b, cs, cap, b1, b2, b3, b4, b5, b6, fun j row i x hr hx => by
        obtain ⟨v, c1, c2⟩ := b7 j row i x hr hx
        exact ⟨v, c1, rep_sub hmu c2⟩⟩
def off1 : SV → SV
  | .c x => .c x
  | .own id len => if id = 900 then .dead else .own id len
  | _ => .dead
def offX : SV → SV
  | .agg xs => .agg (xs.map off1)
  | x => off1 x
def retO (sr : SRes) (t : TypeId) (k : Nat) (rows : List (List CV)) (r : CV) (e : Exit) (T : TL) (H : HL) : Prop :=
  (e = .normal ∨ e = .ret) ∧ lookH H 900 = some (.arr t k rows) ∧ ∃ x y, resS1 (lookT T) (lookH H) sr = some x ∧ close (arr9 H) (offX x) = some y ∧ CLe y r
theorem retO_ret {sr : SRes} {t : TypeId} {k : Nat} {rows : List (List CV)} {r : CV} {T : TL} {H : HL} (h : lookH H 900 = some (.arr t k rows) ∧ ∃ x y, resS1 (lookT T) (lookH H) sr = some x ∧ close (arr9 H) (offX x) = some y ∧ CLe y r) : retO sr t k rows r .ret T H := ⟨.inr rfl, h⟩
theorem callG_b {P : Program} {site : Nat} {f : FuncId} {vs : List SV} {H : HL} {K : SV → Option (Nat × Blk) → Prop} {cs : List CV} {r : CV} (h : SC P f cs r) (hc : closeAll (lookH H) vs = some cs) (hp : (vs.all SV.pure || flatV r) = true) (hK : K (openC r) none) : callGP P site f vs H K .mk := callG_c h hc (flatV_or hp) hK
attribute [simp] holeS holeX off1 offX resS1
end Go.Proofs.Ytnfggkopledpcaa
/- The shadow code of functions whose calls are treated by themselves. -/
namespace Go.Proofs.Ytnfggkopledpcaa
open Go.RowKit
def fresh : List FuncId := [1000000 + 13, 1000000 + 24]
def g_turretlaw04_DialNarrow_0 : SCode := .reg [⟨(some 3), none, .box 57 (.tmp 0), [], false⟩,
  ⟨(some 5), none, .box 86 (.tmp 2), [], false⟩,
  ⟨(some 6), none, .mov (.const (.bool false)), [], false⟩] [1, 3, 5]
def g_turretlaw04_DialNarrow_1 : SCode := .reg [⟨(some 31), none, .load true 9 (.tmp 3), [], true⟩,
  ⟨(some 32), none, .callG 24 [(.tmp 31)], [], true⟩,
  ⟨(some 33), none, .load true 9 (.tmp 3), [1], true⟩,
  ⟨(some 34), none, .call 25 [(.tmp 33)], [], true⟩,
  ⟨(some 35), none, .load true 9 (.tmp 3), [1], true⟩,
  ⟨(some 36), none, .call 26 [(.tmp 35)], [], true⟩,
  ⟨(some 7), none, .alloc 26 [(.int .i64 0), (.int .i64 0), (.int .i64 0), (.slice none 0 0)], [0, 1, 2, 3, 4, 5], false⟩,
  ⟨(some 9), none, .alloc 23 [(.int .i64 0), (.int .i64 0)], [0, 1, 2, 3, 4, 5], false⟩,
  ⟨none, none, .store 4 (.tmp 7) (.tmp 32), [], false⟩,
  ⟨(some 8), none, .mov (.tmp 34), [], false⟩,
  ⟨none, none, .store 2 (.tmp 9) (.tmp 36), [], false⟩] [1, 5, 7, 8, 9]
def g_turretlaw04_DialNarrow_2 : SCode := .reg [⟨(some 37), none, .load true 4 (.tmp 7), [], true⟩,
  ⟨(some 38), none, .callG 13 [(.tmp 37)], [], true⟩,
  ⟨(some 39), none, .load true 2 (.tmp 9), [1], true⟩,
  ⟨(some 10), none, .alloc 26 [(.int .i64 0), (.int .i64 0), (.int .i64 0), (.slice none 0 0)], [0, 1, 2], false⟩,
  ⟨(some 11), none, .alloc 23 [(.int .i64 0), (.int .i64 0)], [0, 1, 2], false⟩,
  ⟨none, none, .store 4 (.tmp 10) (.tmp 38), [2], false⟩,
  ⟨none, none, .store 2 (.tmp 11) (.tmp 39), [], false⟩] [1, 5, 7, 8, 9, 10, 11]
def g_turretlaw04_DialNarrow_3 : SCode := .reg [⟨(some 40), none, .mov (.tmp 1), [], false⟩,
  ⟨(some 41), none, .conv .i64 (.tmp 40), [], false⟩,
  ⟨(some 42), none, .bin .quo (.tmp 41) (.const (.int .i64 4)), [], false⟩,
  ⟨(some 43), none, .fld 3 (.tmp 7), [], false⟩,
  ⟨(some 44), none, .load false 1 (.tmp 43), [], false⟩,
  ⟨(some 45), none, .len (.tmp 44), [], false⟩,
  ⟨(some 46), none, .bin .rem (.tmp 42) (.tmp 45), [], false⟩,
  ⟨(some 12), none, .mov (.tmp 46), [], false⟩] [1, 5, 7, 8, 9, 10, 11, 12]
def g_turretlaw04_DialNarrow_4 : SCode := .reg [⟨(some 47), none, .mov (.tmp 1), [], false⟩,
  ⟨(some 48), none, .bin .rem (.tmp 47) (.const (.int .u8 4)), [], false⟩] [5, 7, 8, 9, 10, 11, 12, 48]
def g_turretlaw04_DialNarrow_5 : SCode := .reg [⟨(some 71), none, .bin .eql (.tmp 48) (.const (.int .u8 0)), [], false⟩,
  ⟨(some 70), none, .mov (.tmp 71), [], false⟩] [5, 7, 8, 9, 10, 11, 12, 48, 70]
def g_turretlaw04_DialNarrow_6 : SCode := .reg [⟨(some 72), none, .fld 1 (.tmp 10), [], false⟩,
  ⟨(some 73), none, .fld 0 (.tmp 72), [], false⟩,
  ⟨(some 74), none, .load false 1 (.tmp 73), [], false⟩,
  ⟨(some 75), none, .fld 1 (.tmp 10), [], false⟩,
  ⟨(some 76), none, .fld 1 (.tmp 75), [], false⟩,
  ⟨(some 77), none, .load false 1 (.tmp 76), [], false⟩,
  ⟨(some 78), none, .fld 1 (.tmp 10), [], false⟩,
  ⟨(some 79), none, .fld 0 (.tmp 78), [], false⟩,
  ⟨(some 80), none, .load false 1 (.tmp 79), [], false⟩,
  ⟨(some 81), none, .bin .sub (.tmp 77) (.tmp 80), [], false⟩,
  ⟨(some 82), none, .bin .quo (.tmp 81) (.const (.int .i64 3)), [], false⟩,
  ⟨(some 83), none, .bin .add (.tmp 74) (.tmp 82), [], false⟩,
  ⟨(some 84), none, .fld 1 (.tmp 10), [], false⟩,
  ⟨(some 85), none, .fld 0 (.tmp 84), [], false⟩,
  ⟨none, none, .store 1 (.tmp 85) (.tmp 83), [], false⟩] [5, 7, 8, 9, 10, 11, 12]
def g_turretlaw04_DialNarrow_7 : SCode := .reg [⟨(some 87), none, .bin .eql (.tmp 48) (.const (.int .u8 1)), [], false⟩,
  ⟨(some 86), none, .mov (.tmp 87), [], false⟩] [5, 7, 8, 9, 10, 11, 12, 48, 86]
def g_turretlaw04_DialNarrow_8 : SCode := .reg [⟨(some 88), none, .fld 3 (.tmp 10), [], false⟩,
  ⟨(some 89), none, .load false 1 (.tmp 88), [], false⟩,
  ⟨(some 90), none, .mov (.tmp 12), [], false⟩,
  ⟨(some 91), none, .idxS 5 (.tmp 89) (.tmp 90), [], false⟩,
  ⟨(some 92), none, .fld 0 (.tmp 91), [], false⟩,
  ⟨(some 93), none, .fld 1 (.tmp 92), [], false⟩,
  ⟨(some 94), none, .load false 1 (.tmp 93), [], false⟩,
  ⟨(some 95), none, .fld 3 (.tmp 10), [], false⟩,
  ⟨(some 96), none, .load false 1 (.tmp 95), [], false⟩,
  ⟨(some 97), none, .mov (.tmp 12), [], false⟩,
  ⟨(some 98), none, .idxS 5 (.tmp 96) (.tmp 97), [], false⟩,
  ⟨(some 99), none, .fld 0 (.tmp 98), [], false⟩,
  ⟨(some 100), none, .fld 1 (.tmp 99), [], false⟩,
  ⟨(some 101), none, .load false 1 (.tmp 100), [], false⟩,
  ⟨(some 102), none, .fld 3 (.tmp 10), [], false⟩,
  ⟨(some 103), none, .load false 1 (.tmp 102), [], false⟩,
  ⟨(some 104), none, .mov (.tmp 12), [], false⟩,
  ⟨(some 105), none, .idxS 5 (.tmp 103) (.tmp 104), [], false⟩,
  ⟨(some 106), none, .fld 0 (.tmp 105), [], false⟩,
  ⟨(some 107), none, .fld 0 (.tmp 106), [], false⟩,
  ⟨(some 108), none, .load false 1 (.tmp 107), [], false⟩,
  ⟨(some 109), none, .bin .sub (.tmp 101) (.tmp 108), [], false⟩,
  ⟨(some 110), none, .bin .quo (.tmp 109) (.const (.int .i64 2)), [], false⟩,
  ⟨(some 111), none, .bin .sub (.tmp 94) (.tmp 110), [], false⟩,
  ⟨(some 112), none, .idxS 5 (.tmp 89) (.tmp 90), [], false⟩,
  ⟨(some 113), none, .fld 0 (.tmp 112), [], false⟩,
  ⟨(some 114), none, .fld 1 (.tmp 113), [], false⟩,
  ⟨none, none, .store 1 (.tmp 114) (.tmp 111), [], false⟩] [5, 7, 8, 9, 10, 11, 12]
def g_turretlaw04_DialNarrow_9 : SCode := .reg [⟨(some 116), none, .bin .eql (.tmp 48) (.const (.int .u8 2)), [], false⟩,
  ⟨(some 115), none, .mov (.tmp 116), [], false⟩] [5, 7, 8, 9, 10, 11, 12, 115]
def g_turretlaw04_DialNarrow_10 : SCode := .reg [⟨(some 117), none, .fld 0 (.tmp 9), [], false⟩,
  ⟨(some 118), none, .load false 1 (.tmp 117), [], false⟩,
  ⟨(some 119), none, .fld 1 (.tmp 9), [], false⟩,
  ⟨(some 120), none, .load false 1 (.tmp 119), [], false⟩,
  ⟨(some 121), none, .fld 0 (.tmp 9), [], false⟩,
  ⟨(some 122), none, .load false 1 (.tmp 121), [], false⟩,
  ⟨(some 123), none, .bin .sub (.tmp 120) (.tmp 122), [], false⟩,
  ⟨(some 124), none, .bin .quo (.tmp 123) (.const (.int .i64 3)), [], false⟩,
  ⟨(some 125), none, .bin .add (.tmp 118) (.tmp 124), [], false⟩,
  ⟨(some 126), none, .fld 1 (.tmp 9), [], false⟩,
  ⟨(some 127), none, .load false 1 (.tmp 126), [], false⟩,
  ⟨(some 128), none, .fld 1 (.tmp 9), [], false⟩,
  ⟨(some 129), none, .load false 1 (.tmp 128), [], false⟩,
  ⟨(some 130), none, .fld 0 (.tmp 9), [], false⟩,
  ⟨(some 131), none, .load false 1 (.tmp 130), [], false⟩,
  ⟨(some 132), none, .bin .sub (.tmp 129) (.tmp 131), [], false⟩,
  ⟨(some 133), none, .bin .quo (.tmp 132) (.const (.int .i64 4)), [], false⟩,
  ⟨(some 134), none, .bin .sub (.tmp 127) (.tmp 133), [], false⟩,
  ⟨(some 135), none, .call 30 [(.tmp 125), (.tmp 134)], [], false⟩,
  ⟨none, none, .store 2 (.tmp 11) (.tmp 135), [], false⟩] [5, 7, 8, 9, 10, 11, 12]
def g_turretlaw04_DialNarrow_11 : SCode := .reg [⟨(some 49), none, .fld 3 (.tmp 10), [], false⟩,
  ⟨(some 50), none, .load false 1 (.tmp 49), [], false⟩,
  ⟨(some 51), none, .mov (.tmp 12), [], false⟩,
  ⟨(some 52), none, .fld 3 (.tmp 10), [], false⟩,
  ⟨(some 53), none, .load false 1 (.tmp 52), [], false⟩,
  ⟨(some 54), none, .mov (.tmp 12), [], false⟩,
  ⟨(some 55), none, .idxS 5 (.tmp 53) (.tmp 54), [], false⟩,
  ⟨(some 56), none, .fld 2 (.tmp 55), [], false⟩,
  ⟨(some 57), none, .load false 1 (.tmp 56), [], false⟩,
  ⟨(some 58), none, .slcS 3 (.tmp 57) (some (.const (.int .i64 1))) none, [], false⟩,
  ⟨(some 59), none, .idxS 5 (.tmp 50) (.tmp 51), [], false⟩,
  ⟨(some 60), none, .fld 2 (.tmp 59), [], false⟩,
  ⟨none, none, .store 1 (.tmp 60) (.tmp 58), [], false⟩] [7, 8, 9, 10, 12]
def g_turretlaw04_DialNarrow_12 : SCode := .reg [⟨(some 61), none, .load true 4 (.tmp 7), [], false⟩,
  ⟨(some 62), none, .load true 4 (.tmp 10), [], false⟩,
  ⟨(some 63), none, .mov (.tmp 12), [], false⟩,
  ⟨(some 64), none, .mov (.tmp 8), [], false⟩,
  ⟨(some 65), none, .load true 2 (.tmp 9), [], false⟩,
  ⟨(some 66), none, .call 36 [(.tmp 61), (.tmp 62), (.tmp 63), (.tmp 64), (.tmp 65)], [], false⟩,
  ⟨(some 67), none, .mov (.tmp 66), [], false⟩,
  ⟨(some 68), (some (67, true)), .call 12 [], [], false⟩,
  ⟨(some 69), none, .pick (.tmp 67) (.tmp 68) (.const (.bool false)), [], false⟩,
  ⟨(some 6), none, .mov (.tmp 69), [], false⟩] [6]
def g_turretlaw04_DialNarrow_13 : SCode := .seq g_turretlaw04_DialNarrow_12 .ret
def g_turretlaw04_DialNarrow_14 : SCode := .seq g_turretlaw04_DialNarrow_11 g_turretlaw04_DialNarrow_13
def g_turretlaw04_DialNarrow_15 : SCode := .cond (.tmp 115) g_turretlaw04_DialNarrow_10 g_turretlaw04_DialNarrow_14
def g_turretlaw04_DialNarrow_16 : SCode := .seq g_turretlaw04_DialNarrow_9 g_turretlaw04_DialNarrow_15
def g_turretlaw04_DialNarrow_17 : SCode := .cond (.tmp 86) g_turretlaw04_DialNarrow_8 g_turretlaw04_DialNarrow_16
def g_turretlaw04_DialNarrow_18 : SCode := .seq g_turretlaw04_DialNarrow_7 g_turretlaw04_DialNarrow_17
def g_turretlaw04_DialNarrow_19 : SCode := .cond (.tmp 70) g_turretlaw04_DialNarrow_6 g_turretlaw04_DialNarrow_18
def g_turretlaw04_DialNarrow_20 : SCode := .seq g_turretlaw04_DialNarrow_5 g_turretlaw04_DialNarrow_19
def g_turretlaw04_DialNarrow_21 : SCode := .block 0 g_turretlaw04_DialNarrow_20
def g_turretlaw04_DialNarrow_22 : SCode := .seq g_turretlaw04_DialNarrow_4 g_turretlaw04_DialNarrow_21
def g_turretlaw04_DialNarrow_23 : SCode := .reg [⟨(some 137), none, .load true 4 (.tmp 7), [], true⟩,
  ⟨(some 138), none, .callG 13 [(.tmp 137)], [], true⟩,
  ⟨(some 139), none, .mov (.tmp 12), [], false⟩,
  ⟨(some 140), none, .mov (.tmp 8), [], false⟩,
  ⟨(some 141), none, .load true 2 (.tmp 9), [1], true⟩,
  ⟨(some 142), none, .call 14 [(.tmp 138), (.tmp 139), (.tmp 140), (.tmp 141)], [], true⟩,
  ⟨(some 136), none, .mov (.tmp 142), [], false⟩,
  ⟨(some 143), none, .ext (.tmp 136) 0, [], false⟩,
  ⟨(some 144), none, .ext (.tmp 136) 1, [], false⟩,
  ⟨(some 13), none, .alloc 23 [(.int .i64 0), (.int .i64 0)], [0, 1, 4, 5], false⟩,
  ⟨none, none, .store 2 (.tmp 13) (.tmp 143), [], false⟩,
  ⟨(some 14), none, .mov (.tmp 144), [], false⟩] [5, 7, 8, 9, 10, 11, 12, 13, 14]
def g_turretlaw04_DialNarrow_24 : SCode := .reg [⟨(some 146), none, .load true 4 (.tmp 10), [], true⟩,
  ⟨(some 147), none, .callG 13 [(.tmp 146)], [], true⟩,
  ⟨(some 148), none, .mov (.tmp 12), [], false⟩,
  ⟨(some 149), none, .mov (.tmp 8), [], false⟩,
  ⟨(some 150), none, .load true 2 (.tmp 11), [1], true⟩,
  ⟨(some 151), none, .call 14 [(.tmp 147), (.tmp 148), (.tmp 149), (.tmp 150)], [], true⟩,
  ⟨(some 145), none, .mov (.tmp 151), [], false⟩,
  ⟨(some 152), none, .ext (.tmp 145) 0, [], false⟩,
  ⟨(some 153), none, .ext (.tmp 145) 1, [], false⟩,
  ⟨(some 15), none, .alloc 23 [(.int .i64 0), (.int .i64 0)], [0, 1, 4, 5], false⟩,
  ⟨none, none, .store 2 (.tmp 15) (.tmp 152), [], false⟩,
  ⟨(some 16), none, .mov (.tmp 153), [], false⟩] [5, 7, 8, 9, 10, 11, 13, 14, 15, 16]
def g_turretlaw04_DialNarrow_25 : SCode := .reg [⟨(some 154), none, .mov (.tmp 14), [], false⟩,
  ⟨(some 155), none, .bin .neq (.tmp 154) (.const (.int .i64 0)), [], false⟩,
  ⟨(some 156), none, .mov (.tmp 155), [], false⟩,
  ⟨(some 157), (some (156, false)), .mov (.tmp 16), [], false⟩,
  ⟨(some 158), (some (156, false)), .bin .neq (.tmp 157) (.const (.int .i64 0)), [], false⟩,
  ⟨(some 159), none, .pick (.tmp 156) (.const (.bool true)) (.tmp 158), [], false⟩,
  ⟨(some 160), none, .mov (.tmp 159), [], false⟩,
  ⟨(some 161), (some (160, false)), .fld 0 (.tmp 15), [], false⟩,
  ⟨(some 162), (some (160, false)), .load false 1 (.tmp 161), [], false⟩,
  ⟨(some 163), (some (160, false)), .fld 0 (.tmp 13), [], false⟩,
  ⟨(some 164), (some (160, false)), .load false 1 (.tmp 163), [], false⟩,
  ⟨(some 165), (some (160, false)), .bin .lss (.tmp 162) (.tmp 164), [], false⟩,
  ⟨(some 166), none, .pick (.tmp 160) (.const (.bool true)) (.tmp 165), [], false⟩,
  ⟨(some 167), none, .mov (.tmp 166), [], false⟩,
  ⟨(some 168), (some (167, false)), .fld 1 (.tmp 15), [], false⟩,
  ⟨(some 169), (some (167, false)), .load false 1 (.tmp 168), [], false⟩,
  ⟨(some 170), (some (167, false)), .fld 1 (.tmp 13), [], false⟩,
  ⟨(some 171), (some (167, false)), .load false 1 (.tmp 170), [], false⟩,
  ⟨(some 172), (some (167, false)), .bin .gtr (.tmp 169) (.tmp 171), [], false⟩,
  ⟨(some 173), none, .pick (.tmp 167) (.const (.bool true)) (.tmp 172), [], false⟩] [5, 7, 8, 9, 10, 11, 173]
def g_turretlaw04_DialNarrow_26 : SCode := .reg [⟨(some 6), none, .mov (.const (.bool false)), [], false⟩] [6]
def g_turretlaw04_DialNarrow_27 : SCode := .seq g_turretlaw04_DialNarrow_26 .ret
def g_turretlaw04_DialNarrow_28 : SCode := .cond (.tmp 173) g_turretlaw04_DialNarrow_27 .skip
def g_turretlaw04_DialNarrow_29 : SCode := .seq g_turretlaw04_DialNarrow_25 g_turretlaw04_DialNarrow_28
def g_turretlaw04_DialNarrow_30 : SCode := .reg [⟨(some 174), none, .buildSl 70 2 [(.int .i64 0), (.int .i64 0)] 0 [], [], false⟩,
  ⟨(some 17), none, .mov (.tmp 174), [], false⟩] [5, 7, 8, 9, 10, 11, 17]
def g_turretlaw04_DialNarrow_31 : SCode := .reg [⟨(some 18), none, .mov (.const (.int .i64 0)), [], false⟩] [5, 7, 8, 9, 10, 11, 17, 18]
def g_turretlaw04_DialNarrow_32 : SCode := .reg [⟨(some 175), none, .mov (.tmp 18), [], false⟩,
  ⟨(some 176), none, .bin .lss (.tmp 175) (.const (.int .i64 4)), [], false⟩] [5, 7, 8, 9, 10, 11, 17, 18, 176]
def g_turretlaw04_DialNarrow_33 : SCode := .cond (.tmp 176) .skip (.exit 1)
def g_turretlaw04_DialNarrow_34 : SCode := .seq g_turretlaw04_DialNarrow_32 g_turretlaw04_DialNarrow_33
def g_turretlaw04_DialNarrow_35 : SCode := .reg [⟨(some 179), none, .mov (.tmp 17), [], false⟩,
  ⟨(some 180), none, .mov (.tmp 18), [], false⟩,
  ⟨(some 181), none, .fld 3 (.tmp 7), [], false⟩,
  ⟨(some 182), none, .load false 1 (.tmp 181), [], false⟩,
  ⟨(some 183), none, .len (.tmp 182), [], false⟩,
  ⟨(some 184), none, .bin .rem (.tmp 180) (.tmp 183), [], false⟩,
  ⟨(some 185), none, .mov (.tmp 8), [], false⟩,
  ⟨(some 186), none, .mov (.tmp 18), [], false⟩,
  ⟨(some 187), none, .idxA 4 1 (.tmp 5) (.tmp 186), [], false⟩,
  ⟨(some 188), none, .load false 1 (.tmp 187), [], false⟩,
  ⟨(some 189), none, .conv .i64 (.tmp 188), [], false⟩,
  ⟨(some 190), none, .bin .rem (.tmp 189) (.const (.int .i64 200)), [], false⟩,
  ⟨(some 191), none, .bin .add (.tmp 185) (.tmp 190), [], false⟩,
  ⟨(some 192), none, .bin .sub (.tmp 191) (.const (.int .i64 100)), [], false⟩,
  ⟨(some 193), none, .call 28 [(.tmp 192), (.const (.int .i64 43200))], [], false⟩,
  ⟨(some 194), none, .build [(.int .i64 0), (.int .i64 0)] [(0, 1, (.tmp 184)), (1, 1, (.tmp 193))], [], false⟩,
  ⟨(some 195), none, .buildSl 70 2 [(.int .i64 0), (.int .i64 0)] 1 [(0, (.tmp 194))], [], false⟩,
  ⟨(some 196), none, .append 70 2 16 (.tmp 179) (.tmp 195), [], false⟩,
  ⟨(some 17), none, .mov (.tmp 196), [], false⟩] [5, 7, 8, 9, 10, 11, 17, 18]
def g_turretlaw04_DialNarrow_36 : SCode := .block 2 g_turretlaw04_DialNarrow_35
def g_turretlaw04_DialNarrow_37 : SCode := .reg [⟨(some 177), none, .mov (.tmp 18), [], false⟩,
  ⟨(some 178), none, .bin .add (.tmp 177) (.const (.int .i64 1)), [], false⟩,
  ⟨(some 18), none, .mov (.tmp 178), [], false⟩] [5, 7, 8, 9, 10, 11, 17, 18]
def g_turretlaw04_DialNarrow_38 : SCode := .seq g_turretlaw04_DialNarrow_36 g_turretlaw04_DialNarrow_37
def g_turretlaw04_DialNarrow_39 : SCode := .seq g_turretlaw04_DialNarrow_34 g_turretlaw04_DialNarrow_38
def g_turretlaw04_DialNarrow_40 : SCode := .loop g_turretlaw04_DialNarrow_39
def g_turretlaw04_DialNarrow_41 : SCode := .block 1 g_turretlaw04_DialNarrow_40
def g_turretlaw04_DialNarrow_42 : SCode := .seq g_turretlaw04_DialNarrow_31 g_turretlaw04_DialNarrow_41
def g_turretlaw04_DialNarrow_43 : SCode := .reg [⟨(some 197), none, .mov (.tmp 8), [], false⟩,
  ⟨(some 198), none, .bin .sub (.tmp 197) (.const (.int .i64 100)), [], false⟩,
  ⟨(some 199), none, .max [(.const (.int .i64 0)), (.tmp 198)], [], false⟩,
  ⟨(some 200), none, .mov (.tmp 8), [], false⟩,
  ⟨(some 201), none, .bin .add (.tmp 200) (.const (.int .i64 100)), [], false⟩,
  ⟨(some 202), none, .call 30 [(.tmp 199), (.tmp 201)], [], false⟩,
  ⟨(some 19), none, .alloc 23 [(.int .i64 0), (.int .i64 0)], [], false⟩,
  ⟨none, none, .store 2 (.tmp 19) (.tmp 202), [], false⟩] [7, 9, 10, 11, 17, 19]
def g_turretlaw04_DialNarrow_44 : SCode := .reg [⟨(some 204), none, .load true 4 (.tmp 7), [], false⟩,
  ⟨(some 205), none, .callG 13 [(.tmp 204)], [], true⟩,
  ⟨(some 206), none, .mov (.tmp 17), [], false⟩,
  ⟨(some 207), none, .call 32 [(.tmp 206)], [], false⟩,
  ⟨(some 208), none, .load true 2 (.tmp 19), [1], false⟩,
  ⟨(some 209), none, .load true 2 (.tmp 9), [1], false⟩,
  ⟨(some 210), none, .call 31 [(.tmp 205), (.tmp 207), (.tmp 208), (.tmp 209)], [], false⟩,
  ⟨(some 203), none, .mov (.tmp 210), [], false⟩,
  ⟨(some 211), none, .ext (.tmp 203) 0, [], false⟩,
  ⟨(some 212), none, .ext (.tmp 203) 1, [], false⟩,
  ⟨(some 20), none, .mov (.tmp 211), [], false⟩,
  ⟨(some 21), none, .mov (.tmp 212), [], false⟩] [7, 9, 10, 11, 17, 19, 20, 21]
def g_turretlaw04_DialNarrow_45 : SCode := .reg [⟨(some 214), none, .load true 4 (.tmp 7), [], false⟩,
  ⟨(some 215), none, .callG 13 [(.tmp 214)], [], true⟩,
  ⟨(some 216), none, .mov (.tmp 17), [], false⟩,
  ⟨(some 217), none, .slcS 2 (.tmp 216) none (some (.const (.int .i64 3))), [], false⟩,
  ⟨(some 218), none, .call 32 [(.tmp 217)], [], false⟩,
  ⟨(some 219), none, .load true 2 (.tmp 19), [1], false⟩,
  ⟨(some 220), none, .load true 2 (.tmp 9), [1], false⟩,
  ⟨(some 221), none, .call 31 [(.tmp 215), (.tmp 218), (.tmp 219), (.tmp 220)], [], false⟩,
  ⟨(some 213), none, .mov (.tmp 221), [], false⟩,
  ⟨(some 222), none, .ext (.tmp 213) 0, [], false⟩,
  ⟨(some 223), none, .ext (.tmp 213) 1, [], false⟩,
  ⟨(some 22), none, .mov (.tmp 222), [], false⟩,
  ⟨(some 23), none, .mov (.tmp 223), [], false⟩] [7, 9, 10, 11, 17, 19, 20, 21, 22, 23]
def g_turretlaw04_DialNarrow_46 : SCode := .reg [⟨(some 224), none, .mov (.tmp 21), [], false⟩,
  ⟨(some 225), none, .bin .neq (.tmp 224) (.const (.int .i64 0)), [], false⟩,
  ⟨(some 226), none, .mov (.tmp 225), [], false⟩,
  ⟨(some 227), (some (226, true)), .mov (.tmp 21), [], false⟩,
  ⟨(some 228), (some (226, true)), .bin .neq (.tmp 227) (.const (.int .i64 7)), [], false⟩,
  ⟨(some 229), none, .pick (.tmp 226) (.tmp 228) (.const (.bool false)), [], false⟩,
  ⟨(some 230), none, .mov (.tmp 229), [], false⟩,
  ⟨(some 231), (some (230, false)), .mov (.tmp 23), [], false⟩,
  ⟨(some 232), (some (230, false)), .bin .neq (.tmp 231) (.const (.int .i64 0)), [], false⟩,
  ⟨(some 233), (some (230, false)), .mov (.tmp 232), [], false⟩,
  ⟨(some 234), (some (233, true)), .mov (.tmp 23), [], false⟩,
  ⟨(some 235), (some (233, true)), .bin .neq (.tmp 234) (.const (.int .i64 7)), [], false⟩,
  ⟨(some 236), (some (230, false)), .pick (.tmp 233) (.tmp 235) (.const (.bool false)), [], false⟩,
  ⟨(some 237), none, .pick (.tmp 230) (.const (.bool true)) (.tmp 236), [], false⟩,
  ⟨(some 238), none, .mov (.tmp 237), [], false⟩,
  ⟨(some 239), (some (238, false)), .mov (.tmp 21), [], false⟩,
  ⟨(some 240), (some (238, false)), .bin .eql (.tmp 239) (.const (.int .i64 0)), [], false⟩,
  ⟨(some 241), (some (238, false)), .mov (.tmp 240), [], false⟩,
  ⟨(some 242), (some (241, true)), .mov (.tmp 23), [], false⟩,
  ⟨(some 243), (some (241, true)), .bin .neq (.tmp 242) (.const (.int .i64 0)), [], false⟩,
  ⟨(some 244), (some (238, false)), .pick (.tmp 241) (.tmp 243) (.const (.bool false)), [], false⟩,
  ⟨(some 245), none, .pick (.tmp 238) (.const (.bool true)) (.tmp 244), [], false⟩] [7, 9, 10, 11, 17, 19, 20, 22, 245]
def g_turretlaw04_DialNarrow_47 : SCode := .reg [⟨(some 6), none, .mov (.const (.bool false)), [], false⟩] [6]
def g_turretlaw04_DialNarrow_48 : SCode := .seq g_turretlaw04_DialNarrow_47 .ret
def g_turretlaw04_DialNarrow_49 : SCode := .cond (.tmp 245) g_turretlaw04_DialNarrow_48 .skip
def g_turretlaw04_DialNarrow_50 : SCode := .seq g_turretlaw04_DialNarrow_46 g_turretlaw04_DialNarrow_49
def g_turretlaw04_DialNarrow_51 : SCode := .reg [⟨(some 24), none, .mov (.const (.int .i64 0)), [], false⟩] [7, 9, 10, 11, 17, 19, 20, 22, 24]
def g_turretlaw04_DialNarrow_52 : SCode := .reg [⟨(some 246), none, .mov (.tmp 24), [], false⟩,
  ⟨(some 247), none, .mov (.tmp 20), [], false⟩,
  ⟨(some 248), none, .len (.tmp 247), [], false⟩,
  ⟨(some 249), none, .bin .lss (.tmp 246) (.tmp 248), [], false⟩] [7, 9, 10, 11, 17, 19, 20, 22, 24, 249]
def g_turretlaw04_DialNarrow_53 : SCode := .cond (.tmp 249) .skip (.exit 3)
def g_turretlaw04_DialNarrow_54 : SCode := .seq g_turretlaw04_DialNarrow_52 g_turretlaw04_DialNarrow_53
def g_turretlaw04_DialNarrow_55 : SCode := .reg [⟨(some 252), none, .mov (.tmp 20), [], false⟩,
  ⟨(some 253), none, .mov (.tmp 24), [], false⟩,
  ⟨(some 254), none, .idxS 2 (.tmp 252) (.tmp 253), [], false⟩,
  ⟨(some 255), none, .fld 0 (.tmp 254), [], false⟩,
  ⟨(some 256), none, .load false 1 (.tmp 255), [], false⟩,
  ⟨(some 257), none, .mov (.tmp 22), [], false⟩,
  ⟨(some 258), none, .call 29 [(.tmp 256), (.tmp 257)], [], false⟩,
  ⟨(some 259), none, .un .not (.tmp 258), [], false⟩,
  ⟨(some 260), none, .mov (.tmp 259), [], false⟩,
  ⟨(some 261), (some (260, false)), .mov (.tmp 20), [], false⟩,
  ⟨(some 262), (some (260, false)), .mov (.tmp 24), [], false⟩,
  ⟨(some 263), (some (260, false)), .idxS 2 (.tmp 261) (.tmp 262), [], false⟩,
  ⟨(some 264), (some (260, false)), .fld 1 (.tmp 263), [], false⟩,
  ⟨(some 265), (some (260, false)), .load false 1 (.tmp 264), [], false⟩,
  ⟨(some 266), (some (260, false)), .mov (.tmp 22), [], false⟩,
  ⟨(some 267), (some (260, false)), .call 29 [(.tmp 265), (.tmp 266)], [], false⟩,
  ⟨(some 268), (some (260, false)), .un .not (.tmp 267), [], false⟩,
  ⟨(some 269), none, .pick (.tmp 260) (.const (.bool true)) (.tmp 268), [], false⟩] [7, 9, 10, 11, 17, 19, 20, 22, 24, 269]
def g_turretlaw04_DialNarrow_56 : SCode := .reg [⟨(some 6), none, .mov (.const (.bool false)), [], false⟩] [6]
def g_turretlaw04_DialNarrow_57 : SCode := .seq g_turretlaw04_DialNarrow_56 .ret
def g_turretlaw04_DialNarrow_58 : SCode := .cond (.tmp 269) g_turretlaw04_DialNarrow_57 .skip
def g_turretlaw04_DialNarrow_59 : SCode := .seq g_turretlaw04_DialNarrow_55 g_turretlaw04_DialNarrow_58
def g_turretlaw04_DialNarrow_60 : SCode := .block 4 g_turretlaw04_DialNarrow_59
def g_turretlaw04_DialNarrow_61 : SCode := .reg [⟨(some 250), none, .mov (.tmp 24), [], false⟩,
  ⟨(some 251), none, .bin .add (.tmp 250) (.const (.int .i64 1)), [], false⟩,
  ⟨(some 24), none, .mov (.tmp 251), [], false⟩] [7, 9, 10, 11, 17, 19, 20, 22, 24]
def g_turretlaw04_DialNarrow_62 : SCode := .seq g_turretlaw04_DialNarrow_60 g_turretlaw04_DialNarrow_61
def g_turretlaw04_DialNarrow_63 : SCode := .seq g_turretlaw04_DialNarrow_54 g_turretlaw04_DialNarrow_62
def g_turretlaw04_DialNarrow_64 : SCode := .loop g_turretlaw04_DialNarrow_63
def g_turretlaw04_DialNarrow_65 : SCode := .block 3 g_turretlaw04_DialNarrow_64
def g_turretlaw04_DialNarrow_66 : SCode := .seq g_turretlaw04_DialNarrow_51 g_turretlaw04_DialNarrow_65
def g_turretlaw04_DialNarrow_67 : SCode := .reg [⟨(some 271), none, .load true 4 (.tmp 7), [], false⟩,
  ⟨(some 272), none, .callG 13 [(.tmp 271)], [], true⟩,
  ⟨(some 273), none, .mov (.tmp 17), [], false⟩,
  ⟨(some 274), none, .call 32 [(.tmp 273)], [], false⟩,
  ⟨(some 275), none, .load true 2 (.tmp 19), [1], false⟩,
  ⟨(some 276), none, .load true 2 (.tmp 9), [1], false⟩,
  ⟨(some 277), none, .call 33 [(.tmp 272), (.tmp 274), (.tmp 275), (.tmp 276)], [], false⟩,
  ⟨(some 270), none, .mov (.tmp 277), [], false⟩,
  ⟨(some 278), none, .ext (.tmp 270) 0, [], false⟩,
  ⟨(some 279), none, .ext (.tmp 270) 1, [], false⟩,
  ⟨(some 25), none, .mov (.tmp 278), [], false⟩,
  ⟨(some 26), none, .mov (.tmp 279), [], false⟩] [10, 11, 17, 19, 25, 26]
def g_turretlaw04_DialNarrow_68 : SCode := .reg [⟨(some 281), none, .load true 4 (.tmp 10), [], false⟩,
  ⟨(some 282), none, .callG 13 [(.tmp 281)], [], true⟩,
  ⟨(some 283), none, .mov (.tmp 17), [], false⟩,
  ⟨(some 284), none, .call 32 [(.tmp 283)], [], false⟩,
  ⟨(some 285), none, .load true 2 (.tmp 19), [1], false⟩,
  ⟨(some 286), none, .load true 2 (.tmp 11), [1], false⟩,
  ⟨(some 287), none, .call 33 [(.tmp 282), (.tmp 284), (.tmp 285), (.tmp 286)], [], false⟩,
  ⟨(some 280), none, .mov (.tmp 287), [], false⟩,
  ⟨(some 288), none, .ext (.tmp 280) 0, [], false⟩,
  ⟨(some 289), none, .ext (.tmp 280) 1, [], false⟩,
  ⟨(some 27), none, .mov (.tmp 288), [], false⟩,
  ⟨(some 28), none, .mov (.tmp 289), [], false⟩] [25, 26, 27, 28]
def g_turretlaw04_DialNarrow_69 : SCode := .reg [⟨(some 290), none, .mov (.tmp 26), [], false⟩,
  ⟨(some 291), none, .bin .neq (.tmp 290) (.const (.int .i64 0)), [], false⟩,
  ⟨(some 292), none, .mov (.tmp 291), [], false⟩,
  ⟨(some 293), (some (292, false)), .mov (.tmp 28), [], false⟩,
  ⟨(some 294), (some (292, false)), .bin .neq (.tmp 293) (.const (.int .i64 0)), [], false⟩,
  ⟨(some 295), none, .pick (.tmp 292) (.const (.bool true)) (.tmp 294), [], false⟩] [25, 27, 295]
def g_turretlaw04_DialNarrow_70 : SCode := .reg [⟨(some 6), none, .mov (.const (.bool false)), [], false⟩] [6]
def g_turretlaw04_DialNarrow_71 : SCode := .seq g_turretlaw04_DialNarrow_70 .ret
def g_turretlaw04_DialNarrow_72 : SCode := .cond (.tmp 295) g_turretlaw04_DialNarrow_71 .skip
def g_turretlaw04_DialNarrow_73 : SCode := .seq g_turretlaw04_DialNarrow_69 g_turretlaw04_DialNarrow_72
def g_turretlaw04_DialNarrow_74 : SCode := .reg [⟨(some 29), none, .mov (.const (.int .i64 0)), [], false⟩] [25, 27, 29]
def g_turretlaw04_DialNarrow_75 : SCode := .reg [⟨(some 30), none, .mov (.const (.int .i64 0)), [], false⟩] [25, 27, 29, 30]
def g_turretlaw04_DialNarrow_76 : SCode := .reg [⟨(some 296), none, .mov (.tmp 30), [], false⟩,
  ⟨(some 297), none, .mov (.tmp 25), [], false⟩,
  ⟨(some 298), none, .len (.tmp 297), [], false⟩,
  ⟨(some 299), none, .bin .lss (.tmp 296) (.tmp 298), [], false⟩] [25, 27, 29, 30, 299]
def g_turretlaw04_DialNarrow_77 : SCode := .cond (.tmp 299) .skip (.exit 5)
def g_turretlaw04_DialNarrow_78 : SCode := .seq g_turretlaw04_DialNarrow_76 g_turretlaw04_DialNarrow_77
def g_turretlaw04_DialNarrow_79 : SCode := .reg [⟨(some 302), none, .mov (.tmp 29), [], false⟩,
  ⟨(some 303), none, .mov (.tmp 27), [], false⟩,
  ⟨(some 304), none, .len (.tmp 303), [], false⟩,
  ⟨(some 305), none, .bin .lss (.tmp 302) (.tmp 304), [], false⟩,
  ⟨(some 306), none, .mov (.tmp 305), [], false⟩,
  ⟨(some 307), (some (306, true)), .mov (.tmp 27), [], false⟩,
  ⟨(some 308), (some (306, true)), .mov (.tmp 29), [], false⟩,
  ⟨(some 309), (some (306, true)), .idxS 2 (.tmp 307) (.tmp 308), [], false⟩,
  ⟨(some 310), (some (306, true)), .idxA 2 1 (.tmp 309) (.const (.int .i64 0)), [], false⟩,
  ⟨(some 311), (some (306, true)), .load false 1 (.tmp 310), [], false⟩,
  ⟨(some 312), (some (306, true)), .mov (.tmp 25), [], false⟩,
  ⟨(some 313), (some (306, true)), .mov (.tmp 30), [], false⟩,
  ⟨(some 314), (some (306, true)), .idxS 2 (.tmp 312) (.tmp 313), [], false⟩,
  ⟨(some 315), (some (306, true)), .idxA 2 1 (.tmp 314) (.const (.int .i64 0)), [], false⟩,
  ⟨(some 316), (some (306, true)), .load false 1 (.tmp 315), [], false⟩,
  ⟨(some 317), (some (306, true)), .bin .lss (.tmp 311) (.tmp 316), [], false⟩,
  ⟨(some 318), (some (306, true)), .mov (.tmp 317), [], false⟩,
  ⟨(some 319), (some (318, false)), .mov (.tmp 27), [], false⟩,
  ⟨(some 320), (some (318, false)), .mov (.tmp 29), [], false⟩,
  ⟨(some 321), (some (318, false)), .idxS 2 (.tmp 319) (.tmp 320), [], false⟩,
  ⟨(some 322), (some (318, false)), .idxA 2 1 (.tmp 321) (.const (.int .i64 0)), [], false⟩,
  ⟨(some 323), (some (318, false)), .load false 1 (.tmp 322), [], false⟩,
  ⟨(some 324), (some (318, false)), .mov (.tmp 25), [], false⟩,
  ⟨(some 325), (some (318, false)), .mov (.tmp 30), [], false⟩,
  ⟨(some 326), (some (318, false)), .idxS 2 (.tmp 324) (.tmp 325), [], false⟩,
  ⟨(some 327), (some (318, false)), .idxA 2 1 (.tmp 326) (.const (.int .i64 0)), [], false⟩,
  ⟨(some 328), (some (318, false)), .load false 1 (.tmp 327), [], false⟩,
  ⟨(some 329), (some (318, false)), .bin .eql (.tmp 323) (.tmp 328), [], false⟩,
  ⟨(some 330), (some (318, false)), .mov (.tmp 329), [], false⟩,
  ⟨(some 331), (some (330, true)), .mov (.tmp 27), [], false⟩,
  ⟨(some 332), (some (330, true)), .mov (.tmp 29), [], false⟩,
  ⟨(some 333), (some (330, true)), .idxS 2 (.tmp 331) (.tmp 332), [], false⟩,
  ⟨(some 334), (some (330, true)), .idxA 2 1 (.tmp 333) (.const (.int .i64 1)), [], false⟩,
  ⟨(some 335), (some (330, true)), .load false 1 (.tmp 334), [], false⟩,
  ⟨(some 336), (some (330, true)), .mov (.tmp 25), [], false⟩,
  ⟨(some 337), (some (330, true)), .mov (.tmp 30), [], false⟩,
  ⟨(some 338), (some (330, true)), .idxS 2 (.tmp 336) (.tmp 337), [], false⟩,
  ⟨(some 339), (some (330, true)), .idxA 2 1 (.tmp 338) (.const (.int .i64 1)), [], false⟩,
  ⟨(some 340), (some (330, true)), .load false 1 (.tmp 339), [], false⟩,
  ⟨(some 341), (some (330, true)), .bin .lss (.tmp 335) (.tmp 340), [], false⟩,
  ⟨(some 342), (some (318, false)), .pick (.tmp 330) (.tmp 341) (.const (.bool false)), [], false⟩,
  ⟨(some 343), (some (306, true)), .pick (.tmp 318) (.const (.bool true)) (.tmp 342), [], false⟩,
  ⟨(some 344), none, .pick (.tmp 306) (.tmp 343) (.const (.bool false)), [], false⟩] [25, 27, 29, 30, 344]
def g_turretlaw04_DialNarrow_80 : SCode := .cond (.tmp 344) .skip (.exit 7)
def g_turretlaw04_DialNarrow_81 : SCode := .seq g_turretlaw04_DialNarrow_79 g_turretlaw04_DialNarrow_80
def g_turretlaw04_DialNarrow_82 : SCode := .reg [⟨(some 345), none, .mov (.tmp 29), [], false⟩,
  ⟨(some 346), none, .bin .add (.tmp 345) (.const (.int .i64 1)), [], false⟩,
  ⟨(some 29), none, .mov (.tmp 346), [], false⟩] [25, 27, 29, 30]
def g_turretlaw04_DialNarrow_83 : SCode := .block 8 g_turretlaw04_DialNarrow_82
def g_turretlaw04_DialNarrow_84 : SCode := .seq g_turretlaw04_DialNarrow_81 g_turretlaw04_DialNarrow_83
def g_turretlaw04_DialNarrow_85 : SCode := .loop g_turretlaw04_DialNarrow_84
def g_turretlaw04_DialNarrow_86 : SCode := .block 7 g_turretlaw04_DialNarrow_85
def g_turretlaw04_DialNarrow_87 : SCode := .reg [⟨(some 347), none, .mov (.tmp 29), [], false⟩,
  ⟨(some 348), none, .mov (.tmp 27), [], false⟩,
  ⟨(some 349), none, .len (.tmp 348), [], false⟩,
  ⟨(some 350), none, .bin .eql (.tmp 347) (.tmp 349), [], false⟩,
  ⟨(some 351), none, .mov (.tmp 350), [], false⟩,
  ⟨(some 352), (some (351, false)), .mov (.tmp 27), [], false⟩,
  ⟨(some 353), (some (351, false)), .mov (.tmp 29), [], false⟩,
  ⟨(some 354), (some (351, false)), .idxS 2 (.tmp 352) (.tmp 353), [], false⟩,
  ⟨(some 355), (some (351, false)), .load true 2 (.tmp 354), [], false⟩,
  ⟨(some 356), (some (351, false)), .mov (.tmp 25), [], false⟩,
  ⟨(some 357), (some (351, false)), .mov (.tmp 30), [], false⟩,
  ⟨(some 358), (some (351, false)), .idxS 2 (.tmp 356) (.tmp 357), [], false⟩,
  ⟨(some 359), (some (351, false)), .load true 2 (.tmp 358), [], false⟩,
  ⟨(some 360), (some (351, false)), .eqC true [true, true] (.tmp 355) (.tmp 359), [], false⟩,
  ⟨(some 361), none, .pick (.tmp 351) (.const (.bool true)) (.tmp 360), [], false⟩] [25, 27, 29, 30, 361]
def g_turretlaw04_DialNarrow_88 : SCode := .reg [⟨(some 6), none, .mov (.const (.bool false)), [], false⟩] [6]
def g_turretlaw04_DialNarrow_89 : SCode := .seq g_turretlaw04_DialNarrow_88 .ret
def g_turretlaw04_DialNarrow_90 : SCode := .cond (.tmp 361) g_turretlaw04_DialNarrow_89 .skip
def g_turretlaw04_DialNarrow_91 : SCode := .seq g_turretlaw04_DialNarrow_87 g_turretlaw04_DialNarrow_90
def g_turretlaw04_DialNarrow_92 : SCode := .seq g_turretlaw04_DialNarrow_86 g_turretlaw04_DialNarrow_91
def g_turretlaw04_DialNarrow_93 : SCode := .block 6 g_turretlaw04_DialNarrow_92
def g_turretlaw04_DialNarrow_94 : SCode := .reg [⟨(some 300), none, .mov (.tmp 30), [], false⟩,
  ⟨(some 301), none, .bin .add (.tmp 300) (.const (.int .i64 1)), [], false⟩,
  ⟨(some 30), none, .mov (.tmp 301), [], false⟩] [25, 27, 29, 30]
def g_turretlaw04_DialNarrow_95 : SCode := .seq g_turretlaw04_DialNarrow_93 g_turretlaw04_DialNarrow_94
def g_turretlaw04_DialNarrow_96 : SCode := .seq g_turretlaw04_DialNarrow_78 g_turretlaw04_DialNarrow_95
def g_turretlaw04_DialNarrow_97 : SCode := .loop g_turretlaw04_DialNarrow_96
def g_turretlaw04_DialNarrow_98 : SCode := .block 5 g_turretlaw04_DialNarrow_97
def g_turretlaw04_DialNarrow_99 : SCode := .seq g_turretlaw04_DialNarrow_75 g_turretlaw04_DialNarrow_98
def g_turretlaw04_DialNarrow_100 : SCode := .reg [⟨(some 362), none, .call 12 [], [], false⟩,
  ⟨(some 6), none, .mov (.tmp 362), [], false⟩] [6]
def g_turretlaw04_DialNarrow_101 : SCode := .seq g_turretlaw04_DialNarrow_100 .ret
def g_turretlaw04_DialNarrow_102 : SCode := .seq g_turretlaw04_DialNarrow_99 g_turretlaw04_DialNarrow_101
def g_turretlaw04_DialNarrow_103 : SCode := .seq g_turretlaw04_DialNarrow_74 g_turretlaw04_DialNarrow_102
def g_turretlaw04_DialNarrow_104 : SCode := .seq g_turretlaw04_DialNarrow_73 g_turretlaw04_DialNarrow_103
def g_turretlaw04_DialNarrow_105 : SCode := .seq g_turretlaw04_DialNarrow_68 g_turretlaw04_DialNarrow_104
def g_turretlaw04_DialNarrow_106 : SCode := .seq g_turretlaw04_DialNarrow_67 g_turretlaw04_DialNarrow_105
def g_turretlaw04_DialNarrow_107 : SCode := .seq g_turretlaw04_DialNarrow_66 g_turretlaw04_DialNarrow_106
def g_turretlaw04_DialNarrow_108 : SCode := .seq g_turretlaw04_DialNarrow_50 g_turretlaw04_DialNarrow_107
def g_turretlaw04_DialNarrow_109 : SCode := .seq g_turretlaw04_DialNarrow_45 g_turretlaw04_DialNarrow_108
def g_turretlaw04_DialNarrow_110 : SCode := .seq g_turretlaw04_DialNarrow_44 g_turretlaw04_DialNarrow_109
def g_turretlaw04_DialNarrow_111 : SCode := .seq g_turretlaw04_DialNarrow_43 g_turretlaw04_DialNarrow_110
def g_turretlaw04_DialNarrow_112 : SCode := .seq g_turretlaw04_DialNarrow_42 g_turretlaw04_DialNarrow_111
def g_turretlaw04_DialNarrow_113 : SCode := .seq g_turretlaw04_DialNarrow_30 g_turretlaw04_DialNarrow_112
def g_turretlaw04_DialNarrow_114 : SCode := .seq g_turretlaw04_DialNarrow_29 g_turretlaw04_DialNarrow_113
def g_turretlaw04_DialNarrow_115 : SCode := .seq g_turretlaw04_DialNarrow_24 g_turretlaw04_DialNarrow_114
def g_turretlaw04_DialNarrow_116 : SCode := .seq g_turretlaw04_DialNarrow_23 g_turretlaw04_DialNarrow_115
def g_turretlaw04_DialNarrow_117 : SCode := .seq g_turretlaw04_DialNarrow_22 g_turretlaw04_DialNarrow_116
def g_turretlaw04_DialNarrow_118 : SCode := .seq g_turretlaw04_DialNarrow_3 g_turretlaw04_DialNarrow_117
def g_turretlaw04_DialNarrow_119 : SCode := .seq g_turretlaw04_DialNarrow_2 g_turretlaw04_DialNarrow_118
def g_turretlaw04_DialNarrow_120 : SCode := .seq g_turretlaw04_DialNarrow_1 g_turretlaw04_DialNarrow_119
def g_turretlaw04_DialNarrow_121 : SCode := .seq g_turretlaw04_DialNarrow_0 g_turretlaw04_DialNarrow_120
theorem glaw_turretlaw04_DialNarrow (cs : List CV) (r : CV) (hl : cs.length ≤ 363) (h : STri (cfF Try.prog fresh 363) g_turretlaw04_DialNarrow_121 (initT 0 cs) [] (retQ rs_turretlaw04_DialNarrow r)) : SC Try.prog 7 cs r :=
  sc_of fresh follows Try.func7 rfl Try.ntmps7 (by decide) (by kernel_rfl) (by kernel_rfl) hl h
def g_turretlaw04_works_0 : SCode := .reg [⟨(some 1), none, .box 26 (.tmp 0), [], false⟩,
  ⟨(some 2), none, .alloc 26 [(.int .i64 0), (.int .i64 0), (.int .i64 0), (.slice none 0 0)], [], false⟩] [1, 2]
def g_turretlaw04_works_1 : SCode := .reg [⟨(some 5), none, .load true 4 (.tmp 1), [], false⟩,
  ⟨(some 3), none, .alloc 26 [(.int .i64 0), (.int .i64 0), (.int .i64 0), (.slice none 0 0)], [], false⟩,
  ⟨none, none, .store 4 (.tmp 3) (.tmp 5), [], false⟩] [1, 2, 3]
def g_turretlaw04_works_2 : SCode := .reg [⟨(some 6), none, .fld 3 (.tmp 3), [], false⟩,
  ⟨none, none, .store 1 (.tmp 6) (.const (.slice none 0 0)), [], false⟩] [1, 2, 3]
def g_turretlaw04_works_3 : SCode := .reg [⟨(some 4), none, .mov (.const (.int .i64 0)), [], false⟩] [1, 2, 3, 4]
def g_turretlaw04_works_4 : SCode := .reg [⟨(some 7), none, .mov (.tmp 4), [], false⟩,
  ⟨(some 8), none, .fld 3 (.tmp 1), [], false⟩,
  ⟨(some 9), none, .load false 1 (.tmp 8), [], false⟩,
  ⟨(some 10), none, .len (.tmp 9), [], false⟩,
  ⟨(some 11), none, .bin .lss (.tmp 7) (.tmp 10), [], false⟩] [1, 2, 3, 4, 11]
def g_turretlaw04_works_5 : SCode := .cond (.tmp 11) .skip (.exit 0)
def g_turretlaw04_works_6 : SCode := .seq g_turretlaw04_works_4 g_turretlaw04_works_5
def g_turretlaw04_works_7 : SCode := .reg [⟨(some 14), none, .fld 3 (.tmp 3), [], true⟩,
  ⟨(some 15), none, .load false 1 (.tmp 14), [], true⟩,
  ⟨(some 16), none, .fld 3 (.tmp 1), [], false⟩,
  ⟨(some 17), none, .load false 1 (.tmp 16), [], false⟩,
  ⟨(some 18), none, .mov (.tmp 4), [], false⟩,
  ⟨(some 19), none, .idxS 5 (.tmp 17) (.tmp 18), [], false⟩,
  ⟨(some 20), none, .load true 5 (.tmp 19), [], false⟩,
  ⟨(some 21), none, .call 35 [(.tmp 20)], [], false⟩,
  ⟨(some 22), none, .buildSl 80 5 [(.int .i64 0), (.int .i64 0), (.slice none 0 0), (.int .i64 0), (.int .i64 0)] 1 [(0, (.tmp 21))], [0, 1], false⟩,
  ⟨(some 23), none, .append 80 5 56 (.tmp 15) (.tmp 22), [], false⟩,
  ⟨(some 24), none, .fld 3 (.tmp 3), [], false⟩,
  ⟨none, none, .store 1 (.tmp 24) (.tmp 23), [], false⟩] [1, 2, 3, 4]
def g_turretlaw04_works_8 : SCode := .block 1 g_turretlaw04_works_7
def g_turretlaw04_works_9 : SCode := .reg [⟨(some 12), none, .mov (.tmp 4), [], false⟩,
  ⟨(some 13), none, .bin .add (.tmp 12) (.const (.int .i64 1)), [], false⟩,
  ⟨(some 4), none, .mov (.tmp 13), [], false⟩] [1, 2, 3, 4]
def g_turretlaw04_works_10 : SCode := .seq g_turretlaw04_works_8 g_turretlaw04_works_9
def g_turretlaw04_works_11 : SCode := .seq g_turretlaw04_works_6 g_turretlaw04_works_10
def g_turretlaw04_works_12 : SCode := .loop g_turretlaw04_works_11
def g_turretlaw04_works_13 : SCode := .block 0 g_turretlaw04_works_12
def g_turretlaw04_works_14 : SCode := .seq g_turretlaw04_works_3 g_turretlaw04_works_13
def g_turretlaw04_works_15 : SCode := .reg [⟨(some 25), none, .load true 4 (.tmp 3), [], false⟩,
  ⟨none, none, .store 4 (.tmp 2) (.tmp 25), [], false⟩] [2]
def g_turretlaw04_works_16 : SCode := .seq g_turretlaw04_works_15 .ret
def g_turretlaw04_works_17 : SCode := .seq g_turretlaw04_works_14 g_turretlaw04_works_16
def g_turretlaw04_works_18 : SCode := .seq g_turretlaw04_works_2 g_turretlaw04_works_17
def g_turretlaw04_works_19 : SCode := .seq g_turretlaw04_works_1 g_turretlaw04_works_18
def g_turretlaw04_works_20 : SCode := .seq g_turretlaw04_works_0 g_turretlaw04_works_19
theorem flaw_turretlaw04_works (cs : List CV) (sh : FSh) (t : TypeId) (k : Nat) (rows : List (List CV)) (hl : cs.length ≤ 26) (h : STri (cfF Try.prog [] 26) g_turretlaw04_works_20 (initT 0 cs) [] (retF (.cell 2 true 4) sh t k rows)) : FC Try.prog 13 cs sh t k rows :=
  fc_of [] follows Try.func13 rfl Try.ntmps13 (by decide) (by kernel_rfl) (by kernel_rfl) hl h
end Go.Proofs.Ytnfggkopledpcaa
/- Dial's laws: copies, and what they are compared with. -/
namespace Go.Proofs.Ytnfggkopledpcaa
open Go.RowKit
theorem lFace (f : Fc) (hl : f.links.length ≤ 1000000) : SC Try.prog 35 [cF f] (cF f) := by
  refine law_turretlaw04_face _ _ (by simp) ?_
  have hA : f.links.length ≤ 9223372036854775807 := by omega
  have hB : f.links.length * 24 ≤ 140737488355328 := by omega
  (repeat' (first | ((first | with_reducible refine st_skip ?_ | with_reducible refine st_exit ?_); (try simp only [seqQ, blockQ, loopQ, forQ, whileQ, reduceIte, Nat.reduceEqDiff])) | (with_reducible refine st_ret ?_; ((try simp only [seqQ, blockQ, loopQ, forQ, whileQ]); first | (with_reducible refine retM_ret ?_) | refine retQ_ret ?_; simp [hA, hB])) | refine st_seq ?_ | refine st_block ?_ | ((first | refine st_reg ?_ | refine buildP_own ?_) <;> (simp -dsimp [hA, hB]; (repeat (simp -dsimp (disch := (first | omega | assumption | (refine Bool.eq_false_iff.1 ?_; assumption))) only [wrap_in, if_pos, if_neg]; (try simp -dsimp [hA, hB]))))) | ((first | refine guardP_of (fun hc => ?_) (fun hc => ?_) | refine st_cond rfl (fun hc => ?_) (fun hc => ?_)) <;> (try simp only [decide_eq_true_eq, decide_eq_false_iff_not, Bool.true_eq_false, Bool.false_eq_true, bne_iff_ne, ne_eq, bne_eq_false_iff_eq, beq_iff_eq, beq_eq_false_iff_ne, Bool.not_eq_true, Bool.not_eq_false, Bool.not_eq_eq_eq_not, Bool.not_true, Bool.not_false, Decidable.not_not] at hc) <;> (try (exfalso; first | omega | exact bool_tf hc (by assumption) | exact bool_ft hc (by assumption) | exact absurd (by assumption) hc)) <;> (first | with_reducible show STri _ _ _ _ _ _ | (simp -dsimp [hA, hB, hc]; (repeat (simp -dsimp (disch := (first | omega | assumption | (refine Bool.eq_false_iff.1 ?_; assumption))) only [wrap_in, if_pos, if_neg]; (try simp -dsimp [hA, hB, hc]))))))))
  all_goals exact .refl _
theorem lReadings (l : List (Int × Int)) (hl : l.length ≤ 1000000) : SC Try.prog 32 [slS l] (slS l) := by
  refine law_turretlaw04_readings _ _ (by simp) ?_
  have hA : l.length ≤ 9223372036854775807 := by omega
  have hB : l.length * 16 ≤ 140737488355328 := by omega
  (repeat' (first | ((first | with_reducible refine st_skip ?_ | with_reducible refine st_exit ?_); (try simp only [seqQ, blockQ, loopQ, forQ, whileQ, reduceIte, Nat.reduceEqDiff])) | (with_reducible refine st_ret ?_; ((try simp only [seqQ, blockQ, loopQ, forQ, whileQ]); first | (with_reducible refine retM_ret ?_) | refine retQ_ret ?_; simp [hA, hB])) | refine st_seq ?_ | refine st_block ?_ | ((first | refine st_reg ?_ | refine buildP_own ?_) <;> (simp -dsimp [hA, hB]; (repeat (simp -dsimp (disch := (first | omega | assumption | (refine Bool.eq_false_iff.1 ?_; assumption))) only [wrap_in, if_pos, if_neg]; (try simp -dsimp [hA, hB]))))) | ((first | refine guardP_of (fun hc => ?_) (fun hc => ?_) | refine st_cond rfl (fun hc => ?_) (fun hc => ?_)) <;> (try simp only [decide_eq_true_eq, decide_eq_false_iff_not, Bool.true_eq_false, Bool.false_eq_true, bne_iff_ne, ne_eq, bne_eq_false_iff_eq, beq_iff_eq, beq_eq_false_iff_ne, Bool.not_eq_true, Bool.not_eq_false, Bool.not_eq_eq_eq_not, Bool.not_true, Bool.not_false, Decidable.not_not] at hc) <;> (try (exfalso; first | omega | exact bool_tf hc (by assumption) | exact bool_ft hc (by assumption) | exact absurd (by assumption) hc)) <;> (first | with_reducible show STri _ _ _ _ _ _ | (simp -dsimp [hA, hB, hc]; (repeat (simp -dsimp (disch := (first | omega | assumption | (refine Bool.eq_false_iff.1 ?_; assumption))) only [wrap_in, if_pos, if_neg]; (try simp -dsimp [hA, hB, hc]))))))))
  all_goals exact .refl _
def rowsF (fs : List Fc) (k : Nat) : List (List CV) := (fs.take k).map rowF
theorem rowsF_len {fs : List Fc} {k : Nat} (h : k ≤ fs.length) : (rowsF fs k).length = k := by simp [rowsF]; omega
theorem rowsF_succ {fs : List Fc} {k : Nat} (h : k < fs.length) : rowsF fs (k + 1) = rowsF fs k ++ [rowF fs[k]] := by
  unfold rowsF; rw [List.take_succ_eq_append_getElem h, List.map_append]; rfl
theorem lWorks (w : Dw) (hw : DwLen w) : SC Try.prog 13 [cDw w] (cDw w) := by
  refine law_turretlaw04_works _ _ (by simp) ?_
  have hn := hw.n
  (repeat' (first | ((first | with_reducible refine st_skip ?_ | with_reducible refine st_exit ?_); (try simp only [seqQ, blockQ, loopQ, forQ, whileQ, reduceIte, Nat.reduceEqDiff])) | (with_reducible refine st_ret ?_; ((try simp only [seqQ, blockQ, loopQ, forQ, whileQ]); first | (with_reducible refine retM_ret ?_) | refine retQ_ret ?_; simp)) | refine st_seq ?_ | refine st_block ?_ | ((first | refine st_reg ?_ | refine buildP_own ?_) <;> (simp -dsimp; (repeat (simp -dsimp (disch := (first | omega | assumption | (refine Bool.eq_false_iff.1 ?_; assumption))) only [wrap_in, if_pos, if_neg]; (try simp -dsimp))))) | ((first | refine guardP_of (fun hc => ?_) (fun hc => ?_) | refine st_cond rfl (fun hc => ?_) (fun hc => ?_)) <;> (try simp only [decide_eq_true_eq, decide_eq_false_iff_not, Bool.true_eq_false, Bool.false_eq_true, bne_iff_ne, ne_eq, bne_eq_false_iff_eq, beq_iff_eq, beq_eq_false_iff_ne, Bool.not_eq_true, Bool.not_eq_false, Bool.not_eq_eq_eq_not, Bool.not_true, Bool.not_false, Decidable.not_not] at hc) <;> (try (exfalso; first | omega | exact bool_tf hc (by assumption) | exact bool_ft hc (by assumption) | exact absurd (by assumption) hc)) <;> (first | with_reducible show STri _ _ _ _ _ _ | (simp -dsimp [hc]; (repeat (simp -dsimp (disch := (first | omega | assumption | (refine Bool.eq_false_iff.1 ?_; assumption))) only [wrap_in, if_pos, if_neg]; (try simp -dsimp [hc]))))))))
  refine st_nilB 3 3 200 80 5 rfl (by simp) rfl (by simp [newOK]) ?_
  refine st_for [1, 2, 3, 200] w.faces.length (fun k T H => T = [(1, .ptr 1 0), (2, .ptr 2 0), (3, .ptr 3 0), (4, .c (I k))] ∧ H = [(1, .box 26 [.c (I w.jump), .c (I w.elo), .c (I w.ehi), .c (slF w.faces)]), (2, .box 26 [.c (I 0), .c (I 0), .c (I 0), .c (.val (.slice none 0 0))]),
    (3, .box 26 [.c (I w.jump), .c (I w.elo), .c (I w.ehi), .own 200 k]), (200, .arr 80 5 (rowsF w.faces k))]) (by simp) ⟨by simp, by simp [rowsF]⟩ ?_
  rintro k T H hk ⟨rfl, rfl⟩
  have hlen := rowsF_len hk
  by_cases hlt : k < w.faces.length
  · have hf := lFace w.faces[k] (hw.l _ (List.getElem_mem hlt))
    have hs := rowsF_succ hlt
    have hA : k + 1 ≤ 9223372036854775807 := by omega
    have hB : (k + 1) * 56 ≤ 140737488355328 := by omega
    (repeat' (first | ((first | with_reducible refine st_skip ?_ | with_reducible refine st_exit ?_); (try simp only [seqQ, blockQ, loopQ, forQ, whileQ, reduceIte, Nat.reduceEqDiff])) | (with_reducible refine st_ret ?_; ((try simp only [seqQ, blockQ, loopQ, forQ, whileQ]); first | (with_reducible refine retM_ret ?_) | refine retQ_ret ?_; simp [hlt, hlen, hA, hB])) | refine st_seq ?_ | refine st_block ?_ | ((first | refine st_reg ?_ | refine buildP_own ?_ | refine callP_b (hf) rfl ?_) <;> (simp -dsimp [hlt, hlen, hA, hB]; (repeat (simp -dsimp (disch := (first | omega | assumption | (refine Bool.eq_false_iff.1 ?_; assumption))) only [wrap_in, if_pos, if_neg]; (try simp -dsimp [hlt, hlen, hA, hB]))))) | ((first | refine guardP_of (fun hc => ?_) (fun hc => ?_) | refine st_cond rfl (fun hc => ?_) (fun hc => ?_)) <;> (try simp only [decide_eq_true_eq, decide_eq_false_iff_not, Bool.true_eq_false, Bool.false_eq_true, bne_iff_ne, ne_eq, bne_eq_false_iff_eq, beq_iff_eq, beq_eq_false_iff_ne, Bool.not_eq_true, Bool.not_eq_false, Bool.not_eq_eq_eq_not, Bool.not_true, Bool.not_false, Decidable.not_not] at hc) <;> (try (exfalso; first | omega | exact bool_tf hc (by assumption) | exact bool_ft hc (by assumption) | exact absurd (by assumption) hc)) <;> (first | with_reducible show STri _ _ _ _ _ _ | (simp -dsimp [hlt, hlen, hA, hB, hc]; (repeat (simp -dsimp (disch := (first | omega | assumption | (refine Bool.eq_false_iff.1 ?_; assumption))) only [wrap_in, if_pos, if_neg]; (try simp -dsimp [hlt, hlen, hA, hB, hc]))))))))
    all_goals exact ⟨hlt, by simp, by simp, by simp [hs]⟩
  · have hke : k = w.faces.length := by omega
    subst hke
    have hall : rowsF w.faces w.faces.length = w.faces.map rowF := by simp [rowsF]
    (repeat' (first | ((first | with_reducible refine st_skip ?_ | with_reducible refine st_exit ?_); (try simp only [seqQ, blockQ, loopQ, forQ, whileQ, reduceIte, Nat.reduceEqDiff])) | (with_reducible refine st_ret ?_; ((try simp only [seqQ, blockQ, loopQ, forQ, whileQ]); first | (with_reducible refine retM_ret ?_) | refine retQ_ret ?_; simp [hlen])) | refine st_seq ?_ | refine st_block ?_ | ((first | refine st_reg ?_ | refine buildP_own ?_) <;> (simp -dsimp [hlen]; (repeat (simp -dsimp (disch := (first | omega | assumption | (refine Bool.eq_false_iff.1 ?_; assumption))) only [wrap_in, if_pos, if_neg]; (try simp -dsimp [hlen]))))) | ((first | refine guardP_of (fun hc => ?_) (fun hc => ?_) | refine st_cond rfl (fun hc => ?_) (fun hc => ?_)) <;> (try simp only [decide_eq_true_eq, decide_eq_false_iff_not, Bool.true_eq_false, Bool.false_eq_true, bne_iff_ne, ne_eq, bne_eq_false_iff_eq, beq_iff_eq, beq_eq_false_iff_ne, Bool.not_eq_true, Bool.not_eq_false, Bool.not_eq_eq_eq_not, Bool.not_true, Bool.not_false, Decidable.not_not] at hc) <;> (try (exfalso; first | omega | exact bool_tf hc (by assumption) | exact bool_ft hc (by assumption) | exact absurd (by assumption) hc)) <;> (first | with_reducible show STri _ _ _ _ _ _ | (simp -dsimp [hlen, hc]; (repeat (simp -dsimp (disch := (first | omega | assumption | (refine Bool.eq_false_iff.1 ?_; assumption))) only [wrap_in, if_pos, if_neg]; (try simp -dsimp [hlen, hc]))))))))
    rw [hall]
    exact .refl _
def bxW (w : Dw) : Blk := .box 26 [.c (I w.jump), .c (I w.elo), .c (I w.ehi), .c (slF w.faces)]
attribute [simp] bxW
end Go.Proofs.Ytnfggkopledpcaa
/- Dial's plain laws: a tower. -/
namespace Go.Proofs.Ytnfggkopledpcaa
open Go.RowKit
abbrev U8 (n : Int) : CV := .val (.int .u8 n)
abbrev U16 (n : Int) : CV := .val (.int .u16 n)
structure Fv where
  (a b c d e g : Int)
structure Tw where
  (j f e0 e1 : Int)
  (faces : List Fv)
  (t w0 w1 : Int)
  truth : List Int
def rowV (v : Fv) : List CV := [U8 v.a, U8 v.b, U8 v.c, U8 v.d, U8 v.e, U8 v.g]
def rowB (n : Int) : List CV := [U8 n]
def cTw (x : Tw) : CV := .agg [U8 x.j, U8 x.f, U8 x.e0, U8 x.e1, .sl 6 (x.faces.map rowV), U16 x.t, U8 x.w0, U8 x.w1, .sl 1 (x.truth.map rowB)]
attribute [simp] rowV
structure FvOk (v : Fv) : Prop where
  a : 0 ≤ v.a ∧ v.a ≤ 255
  b : 0 ≤ v.b ∧ v.b ≤ 255
  c : 0 ≤ v.c ∧ v.c ≤ 255
  d : 0 ≤ v.d ∧ v.d ≤ 255
  e : 0 ≤ v.e ∧ v.e ≤ 255
  g : 0 ≤ v.g ∧ v.g ≤ 255
structure TwOk (x : Tw) : Prop where
  j : 0 ≤ x.j ∧ x.j ≤ 255
  e0 : 0 ≤ x.e0 ∧ x.e0 ≤ 255
  e1 : 0 ≤ x.e1 ∧ x.e1 ≤ 255
  faces : ∀ v ∈ x.faces, FvOk v
  fl : x.faces.length ≤ 9223372036854775807
  t : 0 ≤ x.t ∧ x.t ≤ 65535
  w0 : 0 ≤ x.w0 ∧ x.w0 ≤ 255
  w1 : 0 ≤ x.w1 ∧ x.w1 ≤ 255
  truth : ∀ n ∈ x.truth, 0 ≤ n ∧ n ≤ 255
  tl : x.truth.length ≤ 9223372036854775807
theorem lAt (x : Tw) (hx : TwOk x) : SC Try.prog 25 [cTw x] (I x.t) := by
  refine law_turretlaw04_Tower_at _ _ (by simp) ?_
  have h := hx.t
  unfold cTw
  (repeat' (first | ((first | with_reducible refine st_skip ?_ | with_reducible refine st_exit ?_); (try simp only [seqQ, blockQ, loopQ, forQ, whileQ, reduceIte, Nat.reduceEqDiff])) | (with_reducible refine st_ret ?_; ((try simp only [seqQ, blockQ, loopQ, forQ, whileQ]); first | (with_reducible refine retM_ret ?_) | refine retQ_ret ?_; simp)) | refine st_seq ?_ | refine st_block ?_ | ((first | refine st_reg ?_ | refine buildP_own ?_) <;> (simp -dsimp; (repeat (simp -dsimp (disch := (first | omega | assumption | (refine Bool.eq_false_iff.1 ?_; assumption))) only [wrap_in, if_pos, if_neg]; (try simp -dsimp))))) | ((first | refine guardP_of (fun hc => ?_) (fun hc => ?_) | refine st_cond rfl (fun hc => ?_) (fun hc => ?_)) <;> (try simp only [decide_eq_true_eq, decide_eq_false_iff_not, Bool.true_eq_false, Bool.false_eq_true, bne_iff_ne, ne_eq, bne_eq_false_iff_eq, beq_iff_eq, beq_eq_false_iff_ne, Bool.not_eq_true, Bool.not_eq_false, Bool.not_eq_eq_eq_not, Bool.not_true, Bool.not_false, Decidable.not_not] at hc) <;> (try (exfalso; first | omega | exact bool_tf hc (by assumption) | exact bool_ft hc (by assumption) | exact absurd (by assumption) hc)) <;> (first | with_reducible show STri _ _ _ _ _ _ | (simp -dsimp [hc]; (repeat (simp -dsimp (disch := (first | omega | assumption | (refine Bool.eq_false_iff.1 ?_; assumption))) only [wrap_in, if_pos, if_neg]; (try simp -dsimp [hc]))))))))
  all_goals exact .refl _
theorem lWind (x : Tw) (hx : TwOk x) : SC Try.prog 26 [cTw x] (cS (x.w0 - 128) (x.w0 - 128 + x.w1 % 100)) := by
  refine law_turretlaw04_Tower_wind _ _ (by simp) ?_
  have h := hx.w0
  have h1 := hx.w1
  unfold cTw
  have hs := lSpan (x.w0 - 128) (x.w0 - 128 + x.w1 % 100)
  have m1 : x.w1.tmod 100 = x.w1 % 100 := Int.tmod_eq_emod_of_nonneg (by omega)
  (repeat' (first | ((first | with_reducible refine st_skip ?_ | with_reducible refine st_exit ?_); (try simp only [seqQ, blockQ, loopQ, forQ, whileQ, reduceIte, Nat.reduceEqDiff])) | (with_reducible refine st_ret ?_; ((try simp only [seqQ, blockQ, loopQ, forQ, whileQ]); first | (with_reducible refine retM_ret ?_) | refine retQ_ret ?_; simp [m1])) | refine st_seq ?_ | refine st_block ?_ | ((first | refine st_reg ?_ | refine buildP_own ?_ | refine callP_b (hs) rfl ?_) <;> (simp -dsimp [m1]; (repeat (simp -dsimp (disch := (first | omega | assumption | (refine Bool.eq_false_iff.1 ?_; assumption))) only [wrap_in, if_pos, if_neg]; (try simp -dsimp [m1]))))) | ((first | refine guardP_of (fun hc => ?_) (fun hc => ?_) | refine st_cond rfl (fun hc => ?_) (fun hc => ?_)) <;> (try simp only [decide_eq_true_eq, decide_eq_false_iff_not, Bool.true_eq_false, Bool.false_eq_true, bne_iff_ne, ne_eq, bne_eq_false_iff_eq, beq_iff_eq, beq_eq_false_iff_ne, Bool.not_eq_true, Bool.not_eq_false, Bool.not_eq_eq_eq_not, Bool.not_true, Bool.not_false, Decidable.not_not] at hc) <;> (try (exfalso; first | omega | exact bool_tf hc (by assumption) | exact bool_ft hc (by assumption) | exact absurd (by assumption) hc)) <;> (first | with_reducible show STri _ _ _ _ _ _ | (simp -dsimp [m1, hc]; (repeat (simp -dsimp (disch := (first | omega | assumption | (refine Bool.eq_false_iff.1 ?_; assumption))) only [wrap_in, if_pos, if_neg]; (try simp -dsimp [m1, hc]))))))))
  all_goals exact .refl _
theorem lRest (n b : Int) (h1 : -1000000000000 ≤ n) (h2 : n ≤ 1000000000000) (h3 : 0 < b) (h4 : b ≤ 1000000000000) : SC Try.prog 28 [I n, I b] (I (n % b)) := by
  refine law_turretlaw04_rest _ _ (by simp) ?_
  obtain ⟨g1, g2⟩ := tmod_lt n b h3
  have hm := mod_eq n b h3
  have h5 := Int.emod_nonneg n (show b ≠ 0 by omega)
  have h6 := Int.emod_lt_of_pos n h3
  have hb : ¬ b = 0 := by omega
  (repeat' (first | ((first | with_reducible refine st_skip ?_ | with_reducible refine st_exit ?_); (try simp only [seqQ, blockQ, loopQ, forQ, whileQ, reduceIte, Nat.reduceEqDiff])) | (with_reducible refine st_ret ?_; ((try simp only [seqQ, blockQ, loopQ, forQ, whileQ]); first | (with_reducible refine retM_ret ?_) | refine retQ_ret ?_; simp [hb, hm])) | refine st_seq ?_ | refine st_block ?_ | ((first | refine st_reg ?_ | refine buildP_own ?_) <;> (simp -dsimp [hb, hm]; (repeat (simp -dsimp (disch := (first | omega | assumption | (refine Bool.eq_false_iff.1 ?_; assumption))) only [wrap_in, if_pos, if_neg]; (try simp -dsimp [hb, hm]))))) | ((first | refine guardP_of (fun hc => ?_) (fun hc => ?_) | refine st_cond rfl (fun hc => ?_) (fun hc => ?_)) <;> (try simp only [decide_eq_true_eq, decide_eq_false_iff_not, Bool.true_eq_false, Bool.false_eq_true, bne_iff_ne, ne_eq, bne_eq_false_iff_eq, beq_iff_eq, beq_eq_false_iff_ne, Bool.not_eq_true, Bool.not_eq_false, Bool.not_eq_eq_eq_not, Bool.not_true, Bool.not_false, Decidable.not_not] at hc) <;> (try (exfalso; first | omega | exact bool_tf hc (by assumption) | exact bool_ft hc (by assumption) | exact absurd (by assumption) hc)) <;> (first | with_reducible show STri _ _ _ _ _ _ | (simp -dsimp [hb, hm, hc]; (repeat (simp -dsimp (disch := (first | omega | assumption | (refine Bool.eq_false_iff.1 ?_; assumption))) only [wrap_in, if_pos, if_neg]; (try simp -dsimp [hb, hm, hc]))))))))
  all_goals exact .refl _
def linksV (v : Fv) : List Lk := ⟨v.e % 40, 1 + v.g % 12, 1 + v.g / 12 % 3⟩ :: if 128 ≤ v.g then [⟨v.d % 30, 1, 1⟩] else []
def faceV (v : Fv) : Fc := ⟨v.a % 30 - 15, v.a % 30 - 15 + v.b % 10, linksV v, v.c - 128, v.d % 60⟩
def Fv.zero : Fv := ⟨0, 0, 0, 0, 0, 0⟩
def twN (x : Tw) : Nat := if x.faces.length = 0 then 1 else if x.faces.length < 3 then x.faces.length else 3
def twF (x : Tw) (k : Nat) : List Fc := (List.range k).map fun i => faceV (x.faces.getD i .zero)
def jmpI (n : Int) : Int := [1, 2, 10, 30, 60, 120].getD (n % 6).toNat 0
def twW (x : Tw) : Dw := ⟨jmpI x.j, x.e0 % 60 - 30, x.e0 % 60 - 30 + x.e1 % 40, twF x (twN x)⟩
def bxT (x : Tw) : Blk := .box 57 [.c (U8 x.j), .c (U8 x.f), .c (U8 x.e0), .c (U8 x.e1), .c (.sl 6 (x.faces.map rowV)), .c (U16 x.t), .c (U8 x.w0), .c (U8 x.w1), .c (.sl 1 (x.truth.map rowB))]
attribute [simp] bxT
theorem twF_succ (x : Tw) (k : Nat) : twF x (k + 1) = twF x k ++ [faceV (x.faces.getD k .zero)] := by simp [twF, List.range_succ]
set_option maxHeartbeats 1000000 in
theorem lTower (x : Tw) (hx : TwOk x) : SC Try.prog 24 [cTw x] (cDw (twW x)) := by
  refine law_turretlaw04_Tower_works _ _ (by simp) ?_
  unfold cTw
  have j1 := hx.j
  have g0 := hx.e0
  have g1 := hx.e1
  have m1 : x.j.tmod 6 = x.j % 6 := Int.tmod_eq_emod_of_nonneg (by omega)
  have m2 : x.e0.tmod 60 = x.e0 % 60 := Int.tmod_eq_emod_of_nonneg (by omega)
  have m3 : x.e1.tmod 40 = x.e1 % 40 := Int.tmod_eq_emod_of_nonneg (by omega)
  have hs := lSpan (x.e0 % 60 - 30) (x.e0 % 60 - 30 + x.e1 % 40)
  have hg : List.take 1 (List.drop (x.j % 6).toNat [SV.c (I 1), SV.c (I 2), SV.c (I 10), SV.c (I 30), SV.c (I 60), SV.c (I 120)]) = [SV.c (I (jmpI x.j))] := by
    have : x.j % 6 = 0 ∨ x.j % 6 = 1 ∨ x.j % 6 = 2 ∨ x.j % 6 = 3 ∨ x.j % 6 = 4 ∨ x.j % 6 = 5 := by omega
    unfold jmpI
    rcases this with h | h | h | h | h | h <;> rw [h] <;> rfl
  (repeat' (first | ((first | with_reducible refine st_skip ?_ | with_reducible refine st_exit ?_); (try simp only [seqQ, blockQ, loopQ, forQ, whileQ, reduceIte, Nat.reduceEqDiff])) | (with_reducible refine st_ret ?_; ((try simp only [seqQ, blockQ, loopQ, forQ, whileQ]); first | (with_reducible refine retM_ret ?_) | refine retQ_ret ?_; simp [m1, m2, m3, hg])) | refine st_seq ?_ | refine st_block ?_ | ((first | refine st_reg ?_ | refine buildP_own ?_ | refine callP_b (hs) rfl ?_) <;> (simp -dsimp [m1, m2, m3, hg]; (repeat (simp -dsimp (disch := (first | omega | assumption | (refine Bool.eq_false_iff.1 ?_; assumption))) only [wrap_in, if_pos, if_neg]; (try simp -dsimp [m1, m2, m3, hg]))))) | ((first | refine guardP_of (fun hc => ?_) (fun hc => ?_) | refine st_cond rfl (fun hc => ?_) (fun hc => ?_)) <;> (try simp only [decide_eq_true_eq, decide_eq_false_iff_not, Bool.true_eq_false, Bool.false_eq_true, bne_iff_ne, ne_eq, bne_eq_false_iff_eq, beq_iff_eq, beq_eq_false_iff_ne, Bool.not_eq_true, Bool.not_eq_false, Bool.not_eq_eq_eq_not, Bool.not_true, Bool.not_false, Decidable.not_not] at hc) <;> (try (exfalso; first | omega | exact bool_tf hc (by assumption) | exact bool_ft hc (by assumption) | exact absurd (by assumption) hc)) <;> (first | with_reducible show STri _ _ _ _ _ _ | (simp -dsimp [m1, m2, m3, hg, hc]; (repeat (simp -dsimp (disch := (first | omega | assumption | (refine Bool.eq_false_iff.1 ?_; assumption))) only [wrap_in, if_pos, if_neg]; (try simp -dsimp [m1, m2, m3, hg, hc]))))))))
  refine st_nilB 3 3 200 80 5 rfl (by simp) rfl (by simp [newOK]) ?_
  refine st_for [1, 2, 3, 200] (twN x) (fun k T H => T = [(1, .ptr 1 0), (2, .ptr 2 0), (3, .ptr 3 0), (4, .c (I k))] ∧ H = [(1, bxT x), (2, .box 26 [.c (I 0), .c (I 0), .c (I 0), .c (.val (.slice none 0 0))]),
    (3, .box 26 [.c (I (jmpI x.j)), .c (I (x.e0 % 60 - 30)), .c (I (x.e0 % 60 - 30 + x.e1 % 40)), .own 200 k]), (200, .arr 80 5 ((twF x k).map rowF))]) (by simp) ⟨by simp, by simp [twF]⟩ ?_
  rintro k T H hk ⟨rfl, rfl⟩
  have hfl := hx.fl
  have hn3 : twN x ≤ 3 := by unfold twN; (repeat' split) <;> omega
  have hlen : (twF x k).length = k := by simp [twF]
  by_cases hlt : k < twN x
  · have hs := twF_succ x k
    have hA : k + 1 ≤ 9223372036854775807 := by omega
    have hB : (k + 1) * 56 ≤ 140737488355328 := by omega
    by_cases hv : k < x.faces.length
    · have hvo := hx.faces _ (List.getElem_mem hv)
      have hgd : x.faces.getD k .zero = x.faces[k] := by simp [hv]
      rw [hgd] at hs
      have hgr : ∀ h : k < (x.faces.map rowV).length, (x.faces.map rowV)[k]'h = rowV x.faces[k] := fun h => by simp
      have hq : x.faces[k]? = some x.faces[k] := by simp
      generalize x.faces[k] = v at *
      obtain ⟨⟨a1, a2⟩, ⟨b1, b2⟩, ⟨c1, c2⟩, ⟨d1, d2⟩, ⟨e1, e2⟩, ⟨g3, g4⟩⟩ := hvo
      have n1 : v.a.tmod 30 = v.a % 30 := Int.tmod_eq_emod_of_nonneg a1
      have n2 : v.b.tmod 10 = v.b % 10 := Int.tmod_eq_emod_of_nonneg b1
      have n3 : v.d.tmod 60 = v.d % 60 := Int.tmod_eq_emod_of_nonneg d1
      have n4 : v.e.tmod 40 = v.e % 40 := Int.tmod_eq_emod_of_nonneg e1
      have n5 : v.g.tmod 12 = v.g % 12 := Int.tmod_eq_emod_of_nonneg g3
      have n6 : v.g.tdiv 12 = v.g / 12 := Int.tdiv_eq_ediv_of_nonneg g3
      have n7 : (v.g / 12).tmod 3 = v.g / 12 % 3 := Int.tmod_eq_emod_of_nonneg (by omega)
      have n8 : v.d.tmod 30 = v.d % 30 := Int.tmod_eq_emod_of_nonneg d1
      have hsp := lSpan (v.a % 30 - 15) (v.a % 30 - 15 + v.b % 10)
      by_cases hk0 : k = 0
      · subst hk0
        (repeat' (first | ((with_reducible show STri _ c_turretlaw04_Tower_works_17 _ _ _); refine st_shut1 100 rfl (by simp [dropOK, dropK]) (by simp [ClosO, ownS, dropK, SV.outD]) (by simp [ShutH, ShutB, ownL, ownS, dropK, SV.outD, outDL, Blk.outD]) ?_; simp) | ((first | with_reducible refine st_skip ?_ | with_reducible refine st_exit ?_); (try simp only [seqQ, blockQ, loopQ, forQ, whileQ, reduceIte, Nat.reduceEqDiff])) | (with_reducible refine st_ret ?_; ((try simp only [seqQ, blockQ, loopQ, forQ, whileQ]); first | (with_reducible refine retM_ret ?_) | refine retQ_ret ?_; simp [hlt, hv, hgr, hq, n1, n2, n3, n4, n5, n6, n7, n8, hA, hB, hlen])) | refine st_seq ?_ | refine st_block ?_ | ((first | refine st_reg ?_ | refine buildP_own ?_ | refine callP_b (hsp) rfl ?_) <;> (simp -dsimp [hlt, hv, hgr, hq, n1, n2, n3, n4, n5, n6, n7, n8, hA, hB, hlen]; (repeat (simp -dsimp (disch := (first | omega | assumption | (refine Bool.eq_false_iff.1 ?_; assumption))) only [wrap_in, if_pos, if_neg]; (try simp -dsimp [hlt, hv, hgr, hq, n1, n2, n3, n4, n5, n6, n7, n8, hA, hB, hlen]))))) | ((first | refine guardP_of (fun hc => ?_) (fun hc => ?_) | refine st_cond rfl (fun hc => ?_) (fun hc => ?_)) <;> (try simp only [decide_eq_true_eq, decide_eq_false_iff_not, Bool.true_eq_false, Bool.false_eq_true, bne_iff_ne, ne_eq, bne_eq_false_iff_eq, beq_iff_eq, beq_eq_false_iff_ne, Bool.not_eq_true, Bool.not_eq_false, Bool.not_eq_eq_eq_not, Bool.not_true, Bool.not_false, Decidable.not_not] at hc) <;> (try (exfalso; first | omega | exact bool_tf hc (by assumption) | exact bool_ft hc (by assumption) | exact absurd (by assumption) hc)) <;> (first | with_reducible show STri _ _ _ _ _ _ | (simp -dsimp [hlt, hv, hgr, hq, n1, n2, n3, n4, n5, n6, n7, n8, hA, hB, hlen, hc]; (repeat (simp -dsimp (disch := (first | omega | assumption | (refine Bool.eq_false_iff.1 ?_; assumption))) only [wrap_in, if_pos, if_neg]; (try simp -dsimp [hlt, hv, hgr, hq, n1, n2, n3, n4, n5, n6, n7, n8, hA, hB, hlen, hc]))))))))
        all_goals exact ⟨hlt, by simp, by simp, by rw [hs]; simp [faceV, linksV, hc]⟩
      · (repeat' (first | ((with_reducible show STri _ c_turretlaw04_Tower_works_17 _ _ _); refine st_shut1 100 rfl (by simp [dropOK, dropK]) (by simp [ClosO, ownS, dropK, SV.outD]) (by simp [ShutH, ShutB, ownL, ownS, dropK, SV.outD, outDL, Blk.outD]) ?_; simp) | ((first | with_reducible refine st_skip ?_ | with_reducible refine st_exit ?_); (try simp only [seqQ, blockQ, loopQ, forQ, whileQ, reduceIte, Nat.reduceEqDiff])) | (with_reducible refine st_ret ?_; ((try simp only [seqQ, blockQ, loopQ, forQ, whileQ]); first | (with_reducible refine retM_ret ?_) | refine retQ_ret ?_; simp [hlt, hv, hgr, n1, n2, n3, n4, n5, n6, n7, n8, hA, hB, hlen])) | refine st_seq ?_ | refine st_block ?_ | ((first | refine st_reg ?_ | refine buildP_own ?_ | refine callP_b (hsp) rfl ?_) <;> (simp -dsimp [hlt, hv, hgr, n1, n2, n3, n4, n5, n6, n7, n8, hA, hB, hlen]; (repeat (simp -dsimp (disch := (first | omega | assumption | (refine Bool.eq_false_iff.1 ?_; assumption))) only [wrap_in, if_pos, if_neg]; (try simp -dsimp [hlt, hv, hgr, n1, n2, n3, n4, n5, n6, n7, n8, hA, hB, hlen]))))) | ((first | refine guardP_of (fun hc => ?_) (fun hc => ?_) | refine st_cond rfl (fun hc => ?_) (fun hc => ?_)) <;> (try simp only [decide_eq_true_eq, decide_eq_false_iff_not, Bool.true_eq_false, Bool.false_eq_true, bne_iff_ne, ne_eq, bne_eq_false_iff_eq, beq_iff_eq, beq_eq_false_iff_ne, Bool.not_eq_true, Bool.not_eq_false, Bool.not_eq_eq_eq_not, Bool.not_true, Bool.not_false, Decidable.not_not] at hc) <;> (try (exfalso; first | omega | exact bool_tf hc (by assumption) | exact bool_ft hc (by assumption) | exact absurd (by assumption) hc)) <;> (first | with_reducible show STri _ _ _ _ _ _ | (simp -dsimp [hlt, hv, hgr, n1, n2, n3, n4, n5, n6, n7, n8, hA, hB, hlen, hc]; (repeat (simp -dsimp (disch := (first | omega | assumption | (refine Bool.eq_false_iff.1 ?_; assumption))) only [wrap_in, if_pos, if_neg]; (try simp -dsimp [hlt, hv, hgr, n1, n2, n3, n4, n5, n6, n7, n8, hA, hB, hlen, hc]))))))))
        all_goals exact ⟨hlt, by simp, by simp, by rw [hs]; simp [faceV, linksV, hc]⟩
    · have hk0 : k = 0 ∧ x.faces.length = 0 := by
        unfold twN at hlt
        split at hlt
        · omega
        · split at hlt <;> omega
      obtain ⟨rfl, hl0⟩ := hk0
      have hf0 : x.faces = [] := List.length_eq_zero_iff.1 hl0
      have hgd : x.faces.getD 0 .zero = Fv.zero := by rw [hf0]; rfl
      rw [hgd] at hs
      have hsp := lSpan (-15) (-15)
      (repeat' (first | ((with_reducible show STri _ c_turretlaw04_Tower_works_17 _ _ _); refine st_shut1 100 rfl (by simp [dropOK, dropK]) (by simp [ClosO, ownS, dropK, SV.outD]) (by simp [ShutH, ShutB, ownL, ownS, dropK, SV.outD, outDL, Blk.outD]) ?_; simp) | ((first | with_reducible refine st_skip ?_ | with_reducible refine st_exit ?_); (try simp only [seqQ, blockQ, loopQ, forQ, whileQ, reduceIte, Nat.reduceEqDiff])) | (with_reducible refine st_ret ?_; ((try simp only [seqQ, blockQ, loopQ, forQ, whileQ]); first | (with_reducible refine retM_ret ?_) | refine retQ_ret ?_; simp [hlt, hf0, hA, hB, hlen])) | refine st_seq ?_ | refine st_block ?_ | ((first | refine st_reg ?_ | refine buildP_own ?_ | refine callP_b (hsp) rfl ?_) <;> (simp -dsimp [hlt, hf0, hA, hB, hlen]; (repeat (simp -dsimp (disch := (first | omega | assumption | (refine Bool.eq_false_iff.1 ?_; assumption))) only [wrap_in, if_pos, if_neg]; (try simp -dsimp [hlt, hf0, hA, hB, hlen]))))) | ((first | refine guardP_of (fun hc => ?_) (fun hc => ?_) | refine st_cond rfl (fun hc => ?_) (fun hc => ?_)) <;> (try simp only [decide_eq_true_eq, decide_eq_false_iff_not, Bool.true_eq_false, Bool.false_eq_true, bne_iff_ne, ne_eq, bne_eq_false_iff_eq, beq_iff_eq, beq_eq_false_iff_ne, Bool.not_eq_true, Bool.not_eq_false, Bool.not_eq_eq_eq_not, Bool.not_true, Bool.not_false, Decidable.not_not] at hc) <;> (try (exfalso; first | omega | exact bool_tf hc (by assumption) | exact bool_ft hc (by assumption) | exact absurd (by assumption) hc)) <;> (first | with_reducible show STri _ _ _ _ _ _ | (simp -dsimp [hlt, hf0, hA, hB, hlen, hc]; (repeat (simp -dsimp (disch := (first | omega | assumption | (refine Bool.eq_false_iff.1 ?_; assumption))) only [wrap_in, if_pos, if_neg]; (try simp -dsimp [hlt, hf0, hA, hB, hlen, hc]))))))))
      all_goals exact ⟨hlt, by simp, by simp, by rw [hs]; simp [faceV, linksV, Fv.zero]⟩
  · have hkn : k = twN x := by omega
    have hb : ¬ k = 0 ∧ ¬ (k < x.faces.length ∧ k < 3) := by
      unfold twN at hkn
      split at hkn
      · omega
      · split at hkn <;> omega
    obtain ⟨b1, b2⟩ := hb
    (repeat' (first | ((first | with_reducible refine st_skip ?_ | with_reducible refine st_exit ?_); (try simp only [seqQ, blockQ, loopQ, forQ, whileQ, reduceIte, Nat.reduceEqDiff])) | (with_reducible refine st_ret ?_; ((try simp only [seqQ, blockQ, loopQ, forQ, whileQ]); first | (with_reducible refine retM_ret ?_) | refine retQ_ret ?_; simp [b1, b2, hlen])) | refine st_seq ?_ | refine st_block ?_ | ((first | refine st_reg ?_ | refine buildP_own ?_) <;> (simp -dsimp [b1, b2, hlen]; (repeat (simp -dsimp (disch := (first | omega | assumption | (refine Bool.eq_false_iff.1 ?_; assumption))) only [wrap_in, if_pos, if_neg]; (try simp -dsimp [b1, b2, hlen]))))) | ((first | refine guardP_of (fun hc => ?_) (fun hc => ?_) | refine st_cond rfl (fun hc => ?_) (fun hc => ?_)) <;> (try simp only [decide_eq_true_eq, decide_eq_false_iff_not, Bool.true_eq_false, Bool.false_eq_true, bne_iff_ne, ne_eq, bne_eq_false_iff_eq, beq_iff_eq, beq_eq_false_iff_ne, Bool.not_eq_true, Bool.not_eq_false, Bool.not_eq_eq_eq_not, Bool.not_true, Bool.not_false, Decidable.not_not] at hc) <;> (try (exfalso; first | omega | exact bool_tf hc (by assumption) | exact bool_ft hc (by assumption) | exact absurd (by assumption) hc)) <;> (first | with_reducible show STri _ _ _ _ _ _ | (simp -dsimp [b1, b2, hlen, hc]; (repeat (simp -dsimp (disch := (first | omega | assumption | (refine Bool.eq_false_iff.1 ?_; assumption))) only [wrap_in, if_pos, if_neg]; (try simp -dsimp [b1, b2, hlen, hc]))))))))
    all_goals (subst hkn; exact CLe.of_eq rfl)
end Go.Proofs.Ytnfggkopledpcaa
/- Dial's plain laws, II: a tower's works are valid. -/
namespace Go.Proofs.Ytnfggkopledpcaa
open Go.RowKit
theorem slack1 (s num den : Int) (h1 : 0 ≤ s) (h2 : s < 40) (h3 : 1 ≤ num) (h4 : num ≤ 12) (h5 : 1 ≤ den) (h6 : den ≤ 3) : slackI [⟨s, num, den⟩] ≤ 3600 := by
  have hp : s * 3600 * den ≤ 39 * 3600 * 3 := by
    have := Int.mul_le_mul (show s * 3600 ≤ 39 * 3600 by omega) h6 (by omega) (by decide)
    omega
  have hn : 0 ≤ s * 3600 * den := Int.mul_nonneg (by omega) (by omega)
  have e1 : (Int.gcd 1 num : Int) = 1 := by simp
  have hD : denK [⟨s, num, den⟩] 1 = num := by simp [denK, stepD]
  have hN : numK [⟨s, num, den⟩] 1 = s * 3600 * den := by
    have : num.tdiv num = 1 := Int.tdiv_self (by omega)
    simp [numK, stepN, hD, this]
  unfold slackI overI
  simp only [List.length_singleton, hD, hN]
  generalize s * 3600 * den = z at *
  have : (z + 1000 * num - 1).tdiv (1000 * num) = (z + 1000 * num - 1) / (1000 * num) := Int.tdiv_eq_ediv_of_nonneg (by omega)
  rw [this]
  have : (z + 1000 * num - 1) / (1000 * num) < 3600 := Int.ediv_lt_of_lt_mul (by omega) (by omega)
  omega
theorem slack2 (s num den r : Int) (h1 : 0 ≤ s) (h2 : s < 40) (h3 : 1 ≤ num) (h4 : num ≤ 12) (h5 : 1 ≤ den) (h6 : den ≤ 3) (r1 : 0 ≤ r) (r2 : r < 30) : slackI [⟨s, num, den⟩, ⟨r, 1, 1⟩] ≤ 3600 := by
  have hp : s * 3600 * den ≤ 39 * 3600 * 3 := by
    have := Int.mul_le_mul (show s * 3600 ≤ 39 * 3600 by omega) h6 (by omega) (by decide)
    omega
  have hn : 0 ≤ s * 3600 * den := Int.mul_nonneg (by omega) (by omega)
  have hD : denK [⟨s, num, den⟩, ⟨r, 1, 1⟩] 2 = num := by simp [denK, stepD]
  have hN : numK [⟨s, num, den⟩, ⟨r, 1, 1⟩] 2 = s * 3600 * den + r * 3600 * num := by
    have : num.tdiv num = 1 := Int.tdiv_self (by omega)
    simp [numK, stepN, hD, this]
  unfold slackI overI
  simp only [List.length_cons, List.length_nil, Nat.zero_add, Nat.reduceAdd, hD, hN]
  have q1 : r * 3600 * num ≤ 29 * 3600 * 12 := by
    have := Int.mul_le_mul (show r * 3600 ≤ 29 * 3600 by omega) h4 (by omega) (by decide)
    omega
  have q2 : 0 ≤ r * 3600 * num := Int.mul_nonneg (by omega) (by omega)
  generalize s * 3600 * den = z at *
  generalize r * 3600 * num = y at *
  have : (z + y + 1000 * num - 1).tdiv (1000 * num) = (z + y + 1000 * num - 1) / (1000 * num) := Int.tdiv_eq_ediv_of_nonneg (by omega)
  rw [this]
  have : (z + y + 1000 * num - 1) / (1000 * num) < 3600 := Int.ediv_lt_of_lt_mul (by omega) (by omega)
  omega
theorem face_ok {v : Fv} (h : FvOk v) : fcOK (faceV v) = true := by
  obtain ⟨⟨a1, a2⟩, ⟨b1, b2⟩, ⟨c1, c2⟩, ⟨d1, d2⟩, ⟨e1, e2⟩, ⟨g3, g4⟩⟩ := h
  have hl : (linksV v).all lkB = true := by
    unfold linksV
    split <;> simp [lkB, inB] <;> omega
  have hs : slackI (linksV v) ≤ 3600 := by
    unfold linksV
    split
    · exact slack2 _ _ _ _ (by omega) (by omega) (by omega) (by omega) (by omega) (by omega) (by omega) (by omega)
    · exact slack1 _ _ _ (by omega) (by omega) (by omega) (by omega) (by omega) (by omega)
  have hn : (linksV v).length ≤ 4 := by unfold linksV; split <;> simp
  simp only [fcOK, fcB, faceV, hl, spanB, inB, Bool.and_eq_true, decide_eq_true_eq, and_true]
  repeat' apply And.intro
  all_goals first | exact decide_eq_true (by omega) | omega
theorem zero_ok : FvOk Fv.zero := by constructor <;> simp [Fv.zero]
theorem tw_face {x : Tw} (hx : TwOk x) (i : Nat) : FvOk (x.faces.getD i .zero) := by
  rw [List.getD_eq_getElem?_getD]
  cases h : x.faces[i]? with
  | none => exact zero_ok
  | some v => exact hx.faces v (List.mem_of_getElem? h)
theorem twN_bd (x : Tw) : 1 ≤ twN x ∧ twN x ≤ 3 := by unfold twN; (repeat' split) <;> omega
theorem twF_len (x : Tw) (k : Nat) : (twF x k).length = k := by simp [twF]
theorem tw_ok {x : Tw} (hx : TwOk x) : dwB (twW x) = true := by
  have hj : (1 ≤ jmpI x.j ∧ jmpI x.j ≤ 3600) ∧ 3600 % jmpI x.j = 0 := by
    have : x.j % 6 = 0 ∨ x.j % 6 = 1 ∨ x.j % 6 = 2 ∨ x.j % 6 = 3 ∨ x.j % 6 = 4 ∨ x.j % 6 = 5 := by omega
    unfold jmpI
    rcases this with h | h | h | h | h | h <;> rw [h] <;> decide
  obtain ⟨n1, n2⟩ := twN_bd x
  have g0 := hx.e0
  have g1 := hx.e1
  have hf : (twF x (twN x)).all fcOK = true := List.all_eq_true.2 fun f hf => by
    obtain ⟨i, _, rfl⟩ := List.mem_map.1 hf
    exact face_ok (tw_face hx i)
  have hl : (twW x).faces.length = twN x := twF_len x _
  simp only [dwB, hl]
  simp only [twW, hf, spanB, inB, Bool.and_eq_true, decide_eq_true_eq, beq_iff_eq, and_true, hj.2]
  repeat' apply And.intro
  all_goals first | exact decide_eq_true (by omega) | omega
theorem tw_len {x : Tw} (hx : TwOk x) : DwLen (twW x) := by
  have hl : (twW x).faces.length = twN x := twF_len x _
  obtain ⟨n1, n2⟩ := twN_bd x
  refine ⟨by omega, fun f hf => ?_⟩
  obtain ⟨i, _, rfl⟩ := List.mem_map.1 hf
  show (linksV _).length ≤ _
  unfold linksV; split <;> simp
end Go.Proofs.Ytnfggkopledpcaa
/- Dial's plain laws, VII: works that the caller changes. -/
namespace Go.Proofs.Ytnfggkopledpcaa
open Go.RowKit
end Go.Proofs.Ytnfggkopledpcaa
/- Dial: the ends of what a dial can be off by. -/
namespace Go.Proofs.Ytnfggkopledpcaa
open Go.RowKit
def rhLo (k : Lo) (e : Int) : Int := handLo k.f (slackI k.f.links) (dAt k e) k.wlo - k.at'
def rhHi (k : Lo) (e : Int) : Int := handHi k.f (slackI k.f.links) (dAt k e) k.wlo k.whi - k.at'
theorem rh_bd {k : Lo} (hk : LoSm k) (hok : fcOK k.f = true) (e : Int) (h1 : k.w.elo ≤ e) (h2 : e ≤ k.w.ehi) : (-10000000000 ≤ rhLo k e ∧ rhLo k e ≤ 10000000000) ∧ -10000000000 ≤ rhHi k e ∧ rhHi k e ≤ 10000000000 := by
  have hs := fc_sm hok
  have b1 := hs.a
  have b2 := hs.b
  have b3 := hs.c
  have b4 := hs.d
  have b5 := hs.k
  have b6 := hs.j
  have j1 := hk.w.a
  have j2 := hk.w.b
  have e1 := hk.w.c
  have e4 := hk.w.f
  obtain ⟨g1, g2, g3, g4⟩ := lag_le k.f (slackI k.f.links) (dAt k e) k.wlo k.whi b6
  obtain ⟨d1, d2⟩ := down_le (n := k.at' + e) (b := k.w.jump) (by omega)
  unfold rhLo rhHi handLo handHi
  unfold dAt at *
  omega
theorem selMin {l : List (Int × Int)} : ∀ {k : Nat}, 1 ≤ k → k ≤ l.length → ∀ (i : Nat) (h : i < l.length), i < k → (selK (minB fun x y => x.1 - y.1) l k).1 ≤ l[i].1
  | 0, h, _, _, _, _ => by omega
  | 1, _, hl, i, h, hi => by
    have : i = 0 := by omega
    subst this
    rw [selK_one _ h]; exact Int.le_refl _
  | k + 2, _, hl, i, h, hi => by
    have ih := selMin (l := l) (k := k + 1) (by omega) (by omega)
    rw [selK_succ _ (by omega) (by omega)]
    by_cases hc : (minB fun x y => x.1 - y.1) l[k + 1] (selK (minB fun x y => x.1 - y.1) l (k + 1)) = true
    · rw [if_pos hc]
      simp only [minB, decide_eq_true_eq] at hc
      by_cases hik : i = k + 1
      · subst hik; exact Int.le_refl _
      · have := ih i h (by omega); omega
    · rw [if_neg hc]
      simp only [minB, decide_eq_true_eq] at hc
      by_cases hik : i = k + 1
      · subst hik; omega
      · exact ih i h (by omega)
theorem selMax {l : List (Int × Int)} : ∀ {k : Nat}, 1 ≤ k → k ≤ l.length → ∀ (i : Nat) (h : i < l.length), i < k → l[i].2 ≤ (selK (maxB fun x y => x.2 - y.2) l k).2
  | 0, h, _, _, _, _ => by omega
  | 1, _, hl, i, h, hi => by
    have : i = 0 := by omega
    subst this
    rw [selK_one _ h]; exact Int.le_refl _
  | k + 2, _, hl, i, h, hi => by
    have ih := selMax (l := l) (k := k + 1) (by omega) (by omega)
    rw [selK_succ _ (by omega) (by omega)]
    by_cases hc : (maxB fun x y => x.2 - y.2) l[k + 1] (selK (maxB fun x y => x.2 - y.2) l (k + 1)) = true
    · rw [if_pos hc]
      simp only [maxB, decide_eq_true_eq] at hc
      by_cases hik : i = k + 1
      · subst hik; exact Int.le_refl _
      · have := ih i h (by omega); omega
    · rw [if_neg hc]
      simp only [maxB, decide_eq_true_eq] at hc
      by_cases hik : i = k + 1
      · subst hik; omega
      · exact ih i h (by omega)
theorem down_mono {a b j : Int} (h : a ≤ b) (hj : 0 < j) : downI a j ≤ downI b j := by
  have e : ∀ n, downI n j = n / j * j := fun n => by
    unfold downI
    have := Int.emod_add_mul_ediv n j
    rw [Int.mul_comm (n / j) j]; omega
  rw [e, e]
  exact Int.mul_le_mul_of_nonneg_right (Int.ediv_le_ediv hj h) (by omega)
theorem dr_to {k : Lo} (hk : LoSm k) {e : Int} (h1 : k.w.elo ≤ e) (h2 : e ≤ k.w.ehi) : dAt k e ∈ drL k.w k.at' k.at' := by
  have j1 := hk.w.a
  obtain ⟨q0, hq0⟩ := down_is (k.at' + k.w.elo) k.w.jump
  obtain ⟨q, hq⟩ := down_is (k.at' + e) k.w.jump
  have hm := down_mono (show k.at' + k.w.elo ≤ k.at' + e by omega) (show 0 < k.w.jump by omega)
  obtain ⟨_, d2⟩ := down_le (n := k.at' + e) (b := k.w.jump) (by omega)
  have hqq : q0 ≤ q := by
    rw [hq0, hq] at hm
    exact Int.le_of_mul_le_mul_right hm (by omega)
  have hat : drAt k.w k.at' (q - q0).toNat = dAt k e := by
    unfold drAt dAt
    rw [hq0, hq, Int.toNat_of_nonneg (by omega), Int.sub_mul]; omega
  unfold drL
  refine List.mem_map.2 ⟨(q - q0).toNat, List.mem_range.2 ((dr_lt (by omega)).2 ?_), hat⟩
  rw [hat]
  unfold dAt
  omega
theorem off_le {k : Lo} (hk : LoSm k) {e : Int} (h1 : k.w.elo ≤ e) (h2 : e ≤ k.w.ehi) : offLo k ≤ rhLo k e ∧ rhHi k e ≤ offHi k := by
  obtain ⟨l1, _⟩ := haL_len hk
  have hm : (handLo k.f (slackI k.f.links) (dAt k e) k.wlo, handHi k.f (slackI k.f.links) (dAt k e) k.wlo k.whi) ∈ haL k := List.mem_map.2 ⟨_, dr_to hk h1 h2, rfl⟩
  obtain ⟨i, hi, he⟩ := List.getElem_of_mem hm
  have q1 := selMin (l := haL k) (k := (haL k).length) (by omega) (Nat.le_refl _) i hi hi
  have q2 := selMax (l := haL k) (k := (haL k).length) (by omega) (Nat.le_refl _) i hi hi
  rw [he] at q1 q2
  unfold offLo offHi rhLo rhHi
  simp only at q1 q2
  omega
theorem off_at {k : Lo} (hk : LoSm k) : (∃ e, k.w.elo ≤ e ∧ e ≤ k.w.ehi ∧ rhLo k e = offLo k) ∧ ∃ e, k.w.elo ≤ e ∧ e ≤ k.w.ehi ∧ rhHi k e = offHi k := by
  obtain ⟨l1, _⟩ := haL_len hk
  constructor
  · have hm := selK_mem (minB fun x y => x.1 - y.1) l1 (k := (haL k).length) (by omega) (Nat.le_refl _)
    obtain ⟨d, hd, he⟩ := List.mem_map.1 hm
    obtain ⟨e, h1, h2, h3⟩ := dr_from hk hd
    refine ⟨e, h1, h2, ?_⟩
    unfold rhLo offLo
    rw [h3, ← he]
  · have hm := selK_mem (maxB fun x y => x.2 - y.2) l1 (k := (haL k).length) (by omega) (Nat.le_refl _)
    obtain ⟨d, hd, he⟩ := List.mem_map.1 hm
    obtain ⟨e, h1, h2, h3⟩ := dr_from hk hd
    refine ⟨e, h1, h2, ?_⟩
    unfold rhHi offHi
    rw [h3, ← he]
end Go.Proofs.Ytnfggkopledpcaa
/- Dial: the times are those at which all readings can be right. -/
namespace Go.Proofs.Ytnfggkopledpcaa
open Go.RowKit
theorem dr_to2 {w : Dw} (hw : DwSm w) {lo hi a e : Int} (a1 : lo ≤ a) (a2 : a ≤ hi) (h1 : w.elo ≤ e) (h2 : e ≤ w.ehi) : downI (a + e) w.jump ∈ drL w lo hi := by
  have j1 := hw.a
  obtain ⟨q0, hq0⟩ := down_is (lo + w.elo) w.jump
  obtain ⟨q, hq⟩ := down_is (a + e) w.jump
  have hm := down_mono (show lo + w.elo ≤ a + e by omega) (show 0 < w.jump by omega)
  obtain ⟨_, d2⟩ := down_le (n := a + e) (b := w.jump) (by omega)
  have hqq : q0 ≤ q := by
    rw [hq0, hq] at hm
    exact Int.le_of_mul_le_mul_right hm (by omega)
  have hat : drAt w lo (q - q0).toNat = downI (a + e) w.jump := by
    unfold drAt
    rw [hq0, hq, Int.toNat_of_nonneg (by omega), Int.sub_mul]; omega
  unfold drL
  refine List.mem_map.2 ⟨(q - q0).toNat, List.mem_range.2 ((dr_lt (by omega)).2 ?_), hat⟩
  rw [hat]
  omega
theorem tim_mem {n : Nt} (ok : NtOk n) {a e : Int} (a1 : n.nlo ≤ a) (a2 : a ≤ n.nhi) (h1 : n.w.elo ≤ e) (h2 : e ≤ n.w.ehi) (hc : allCan n (downI (a + e) n.w.jump) = true) : Memb (timRaw n) a := by
  have dw := dw_sm ok.w
  have j1 := dw.a
  obtain ⟨d1, d2⟩ := down_le (n := a + e) (b := n.w.jump) (by omega)
  have hb : (timeAt n (downI (a + e) n.w.jump)).1 ≤ a ∧ a ≤ (timeAt n (downI (a + e) n.w.jump)).2 := by
    unfold timeAt
    simp only
    constructor <;> split <;> omega
  exact ⟨_, mem_timRaw (dr_to2 dw a1 a2 h1 h2) hc (by omega), hb⟩
theorem timRaw_in {n : Nt} {x : Int × Int} (h : x ∈ timRaw n) : n.nlo ≤ x.1 ∧ x.2 ≤ n.nhi ∧ x.1 ≤ x.2 := by
  obtain ⟨d, hd, rfl, _, h3⟩ := timRaw_mem h
  refine ⟨?_, ?_, h3⟩
  · unfold timeAt; simp only; split <;> omega
  · unfold timeAt; simp only; split <;> omega
theorem timL_fine {n : Nt} (ok : NtOk n) : Sep (timL n) ∧ (∀ a, Memb (timL n) a ↔ Memb (timRaw n) a) ∧ (∀ x ∈ timL n, n.nlo ≤ x.1 ∧ x.2 ≤ n.nhi) ∧ (timL n).length ≤ 20000 := by
  obtain ⟨s1, s2⟩ := joinL_sep (xs := timRaw n) fun x hx => (timRaw_in hx).2.2
  refine ⟨s1, s2, fun x hx => ?_, ?_⟩
  · have h0 := s1.2 x hx
    obtain ⟨y, hy, h1, _⟩ := (s2 x.1).1 ⟨x, hx, Int.le_refl _, h0⟩
    obtain ⟨z, hz, _, h2⟩ := (s2 x.2).1 ⟨x, hx, h0, Int.le_refl _⟩
    have := timRaw_in hy
    have := timRaw_in hz
    omega
  · have h1 := joinK_len ((timRaw n).mergeSort fun x y => !ltS y x) (timRaw n).length
    have h2 := timK_len n (drL n.w n.nlo n.nhi).length
    have h3 := drN_le7 (dw_sm ok.w) ok.n4
    have h4 : (drL n.w n.nlo n.nhi).length = drN n.w n.nlo n.nhi := by simp [drL]
    show (joinK _ _).length ≤ _
    unfold timRaw at *
    omega
end Go.Proofs.Ytnfggkopledpcaa
/- Dial: the times, told by seconds. -/
namespace Go.Proofs.Ytnfggkopledpcaa
open Go.RowKit
theorem dr_from2 {w : Dw} (hw : DwSm w) {lo hi d : Int} (hlh : lo ≤ hi) (hd : d ∈ drL w lo hi) : ∃ a e, lo ≤ a ∧ a ≤ hi ∧ w.elo ≤ e ∧ e ≤ w.ehi ∧ downI (a + e) w.jump = d := by
  have j1 := hw.a
  have g := hw.g
  obtain ⟨k, hk, rfl⟩ := List.mem_map.1 hd
  rw [List.mem_range] at hk
  have hle := (dr_lt (lo := lo) (hi := hi) (w := w) (k := k) (by omega)).1 hk
  obtain ⟨q0, hq0⟩ := down_is (lo + w.elo) w.jump
  obtain ⟨d1, d2⟩ := down_le (n := lo + w.elo) (b := w.jump) (by omega)
  have hdr : drAt w lo k = (q0 + k) * w.jump := by unfold drAt; rw [hq0, Int.add_mul]
  have hge : downI (lo + w.elo) w.jump ≤ drAt w lo k := by
    unfold drAt
    have : 0 ≤ (k : Int) * w.jump := Int.mul_nonneg (by omega) (by omega)
    omega
  have hdown : ∀ s, drAt w lo k ≤ s → s < drAt w lo k + w.jump → downI s w.jump = drAt w lo k := fun s h1 h2 => by
    unfold downI
    have e : s % w.jump = s - drAt w lo k := by
      have h3 : s = (s - drAt w lo k) + (q0 + k) * w.jump := by rw [← hdr]; omega
      have h4 : s % w.jump = (s - drAt w lo k) % w.jump := by
        conv => lhs; rw [h3]
        exact Int.add_mul_emod_self_right _ _ _
      rw [h4]; exact Int.emod_eq_of_lt (by omega) (by omega)
    omega
  by_cases hc : drAt w lo k ≤ lo + w.elo
  · exact ⟨lo, w.elo, Int.le_refl _, hlh, Int.le_refl _, g, hdown _ hc (by omega)⟩
  · by_cases hc2 : drAt w lo k ≤ lo + w.ehi
    · exact ⟨lo, drAt w lo k - lo, Int.le_refl _, hlh, by omega, by omega, by rw [show lo + (drAt w lo k - lo) = drAt w lo k by omega]; exact hdown _ (Int.le_refl _) (by omega)⟩
    · exact ⟨drAt w lo k - w.ehi, w.ehi, by omega, by omega, g, Int.le_refl _, by rw [show drAt w lo k - w.ehi + w.ehi = drAt w lo k by omega]; exact hdown _ (Int.le_refl _) (by omega)⟩
theorem tim_iff {n : Nt} (ok : NtOk n) (a : Int) : Memb (timRaw n) a ↔ (n.nlo ≤ a ∧ a ≤ n.nhi) ∧ ∃ e, n.w.elo ≤ e ∧ e ≤ n.w.ehi ∧ allCan n (downI (a + e) n.w.jump) = true := by
  have dw := dw_sm ok.w
  have j1 := dw.a
  have g := dw.g
  constructor
  · rintro ⟨x, hx, h1, h2⟩
    have hin := timRaw_in hx
    obtain ⟨d, hd, rfl, hc, _⟩ := timRaw_mem hx
    refine ⟨by omega, ?_⟩
    have b1 : d - n.w.ehi ≤ a := by
      unfold timeAt at h1; simp only at h1; split at h1 <;> omega
    have b2 : a ≤ d + n.w.jump - 1 - n.w.elo := by
      unfold timeAt at h2; simp only at h2; split at h2 <;> omega
    obtain ⟨a', e', _, _, _, _, hde⟩ := dr_from2 dw ok.n2 hd
    obtain ⟨q, hq⟩ := down_is (a' + e') n.w.jump
    rw [hde] at hq
    have hdown : ∀ s, d ≤ s → s < d + n.w.jump → downI s n.w.jump = d := fun s h1 h2 => by
      unfold downI
      have e : s % n.w.jump = s - d := by
        have h3 : s = (s - d) + q * n.w.jump := by rw [← hq]; omega
        have h4 : s % n.w.jump = (s - d) % n.w.jump := by
          conv => lhs; rw [h3]
          exact Int.add_mul_emod_self_right _ _ _
        rw [h4]; exact Int.emod_eq_of_lt (by omega) (by omega)
      omega
    by_cases hc2 : n.w.elo ≤ d - a
    · exact ⟨d - a, hc2, by omega, by rw [show a + (d - a) = d by omega, hdown d (Int.le_refl _) (by omega)]; exact hc⟩
    · exact ⟨n.w.elo, Int.le_refl _, g, by rw [hdown (a + n.w.elo) (by omega) (by omega)]; exact hc⟩
  · rintro ⟨⟨h1, h2⟩, e, h3, h4, h5⟩
    exact tim_mem ok h1 h2 h3 h4 h5
end Go.Proofs.Ytnfggkopledpcaa
/- DialTimes in plain Lean, II: pairs. -/
namespace Go.Proofs.Ytnfggkopledpcaa
open Go.RowKit
def rpI (n : Nt) (i k : Nat) : List (Int × Int) := ((List.range k).filter fun k => decide (i < k) && noMeet n k i).map fun k : Nat => ((i : Int), (k : Int))
def rpO (n : Nt) (i : Nat) : List (Int × Int) := (List.range i).flatMap fun i' => rpI n i' n.l.length
theorem rpO_succ (n : Nt) (i : Nat) : rpO n (i + 1) = rpO n i ++ rpI n i n.l.length := by
  unfold rpO
  rw [List.range_succ, List.flatMap_append]; simp
theorem rpI_len (n : Nt) (i k : Nat) : (rpI n i k).length ≤ k := by
  unfold rpI
  rw [List.length_map]
  exact Nat.le_trans (List.length_filter_le _ _) (by simp)
theorem rpO_len (n : Nt) : ∀ i, (rpO n i).length ≤ i * n.l.length := by
  intro i
  induction i with
  | zero => simp [rpO]
  | succ i ih =>
    rw [rpO_succ, List.length_append]
    have := rpI_len n i n.l.length
    rw [Nat.add_mul]; omega
theorem mem_rpO {n : Nt} {m : Nat} {x : Int × Int} : x ∈ rpO n m ↔ ∃ i k : Nat, i < m ∧ k < n.l.length ∧ i < k ∧ noMeet n k i = true ∧ x = ((i : Int), (k : Int)) := by
  unfold rpO rpI
  simp only [List.mem_flatMap, List.mem_range, List.mem_map, List.mem_filter, Bool.and_eq_true, decide_eq_true_eq]
  constructor
  · rintro ⟨i, h1, k, ⟨h2, h3, h4⟩, rfl⟩; exact ⟨i, k, h1, h2, h3, h4, rfl⟩
  · rintro ⟨i, k, h1, h2, h3, h4, rfl⟩; exact ⟨i, h1, k, ⟨h2, h3, h4⟩, rfl⟩
theorem mem_prRaw {n : Nt} {x : Int × Int} : x ∈ prRaw n ↔ ∃ i k : Nat, i < n.l.length ∧ k < i ∧ noMeet n i k = true ∧ x = ((k : Int), (i : Int)) := by
  unfold prRaw prOut prIn
  simp only [List.mem_flatMap, List.mem_range, List.mem_map, List.mem_filter]
  constructor
  · rintro ⟨i, h1, k, ⟨h2, h3⟩, rfl⟩; exact ⟨i, k, h1, h2, h3, rfl⟩
  · rintro ⟨i, k, h1, h2, h3, rfl⟩; exact ⟨i, h1, k, ⟨h2, h3⟩, rfl⟩
theorem prRaw_nodup (n : Nt) : (prRaw n).Nodup := by
  have : ∀ m, (prOut n m).Pairwise fun x y => x.2 < y.2 ∨ (x.2 = y.2 ∧ x.1 < y.1) := fun m => by
    induction m with
    | zero => simp [prOut]
    | succ m ih =>
      rw [prOut_succ, List.pairwise_append]
      refine ⟨ih, ?_, fun x hx y hy => ?_⟩
      · unfold prIn
        refine List.pairwise_map.2 (((List.pairwise_lt_range).sublist List.filter_sublist).imp fun h => .inr ⟨rfl, by simp only; omega⟩)
      · unfold prOut prIn at hx
        unfold prIn at hy
        simp only [List.mem_flatMap, List.mem_range, List.mem_map] at hx hy
        obtain ⟨i, h1, k, _, rfl⟩ := hx
        obtain ⟨k', _, rfl⟩ := hy
        left; simp only; omega
  refine (this n.l.length).imp fun h e => ?_
  subst e; omega
theorem rpO_sorted (n : Nt) : ∀ m, (rpO n m).Pairwise fun x y => ltP x y = true := fun m => by
  induction m with
  | zero => simp [rpO]
  | succ m ih =>
    rw [rpO_succ, List.pairwise_append]
    refine ⟨ih, ?_, fun x hx y hy => ?_⟩
    · unfold rpI
      refine List.pairwise_map.2 (((List.pairwise_lt_range).sublist List.filter_sublist).imp fun h => by simp [ltP]; omega)
    · obtain ⟨i, k, h1, _, _, _, rfl⟩ := mem_rpO.1 hx
      unfold rpI at hy
      simp only [List.mem_map] at hy
      obtain ⟨k', _, rfl⟩ := hy
      simp [ltP]; omega
theorem pairs_eq (n : Nt) : rpO n n.l.length = sortP (prRaw n) := by
  have hs := rpO_sorted n n.l.length
  have hnd : (rpO n n.l.length).Nodup := hs.imp fun h e => by subst e; simp [ltP] at h
  refine sortP_of ((List.perm_ext_iff_of_nodup hnd (prRaw_nodup n)).2 fun x => ?_) (hs.imp fun h => by simp [ltP] at h ⊢; omega)
  rw [mem_rpO, mem_prRaw]
  constructor
  · rintro ⟨i, k, h1, h2, h3, h4, rfl⟩; exact ⟨k, i, h2, h3, h4, rfl⟩
  · rintro ⟨i, k, h1, h2, h3, rfl⟩; exact ⟨k, i, by omega, h1, h2, h3, rfl⟩
theorem prRaw_le {n : Nt} (h : n.l.length ≤ 5) : (prRaw n).length ≤ 12 := by
  have : ∀ m, (prOut n m).length * 2 ≤ m * m := fun m => by
    induction m with
    | zero => simp [prOut]
    | succ m ih =>
      rw [prOut_succ, List.length_append]
      have h1 := prIn_len n m m
      have e : (m + 1) * (m + 1) = m * m + 2 * m + 1 := by rw [Nat.mul_add, Nat.add_mul]; omega
      omega
  have h1 := this n.l.length
  have h2 : n.l.length * n.l.length ≤ 5 * 5 := Nat.mul_le_mul h h
  unfold prRaw; omega
end Go.Proofs.Ytnfggkopledpcaa
/- Dial: the least wind lies within. -/
namespace Go.Proofs.Ytnfggkopledpcaa
open Go.RowKit
theorem off_bd {k : Lo} (hk : LoSm k) (hok : fcOK k.f = true) : (-10000000000 ≤ offLo k ∧ offLo k ≤ 10000000000) ∧ -10000000000 ≤ offHi k ∧ offHi k ≤ 10000000000 := by
  obtain ⟨⟨e1, a1, a2, a3⟩, e2, b1, b2, b3⟩ := off_at hk
  have r1 := (rh_bd hk hok e1 a1 a2).1
  have r2 := (rh_bd hk hok e2 b1 b2).2
  rw [← a3, ← b3]
  exact ⟨r1, r2⟩
end Go.Proofs.Ytnfggkopledpcaa
/- Dial's plain laws, X: what is known better. -/
namespace Go.Proofs.Ytnfggkopledpcaa
open Go.RowKit Go.Sort
structure NarF (f g : Fc) : Prop where
  lo : f.lo ≤ g.lo
  hi : g.hi ≤ f.hi
  ln : g.links = f.links
  we : g.weight = f.weight
  fr : g.friction = f.friction
structure Nar (w v : Dw) (wlo whi glo ghi : Int) : Prop where
  j : v.jump = w.jump
  e1 : w.elo ≤ v.elo
  e2 : v.ehi ≤ w.ehi
  n : v.faces.length = w.faces.length
  f : ∀ i, NarF (w.faces.getD i .zero) (v.faces.getD i .zero)
  w1 : wlo ≤ glo
  w2 : glo ≤ ghi
  w3 : ghi ≤ whi
theorem nar_hand {f g : Fc} (h : NarF f g) {s d wlo whi glo ghi : Int} (hs : 0 ≤ s) (hf : 0 ≤ f.friction) (w1 : wlo ≤ glo) (w2 : glo ≤ ghi) (w3 : ghi ≤ whi) : handLo f s d wlo ≤ handLo g s d glo ∧ handHi g s d glo ghi ≤ handHi f s d wlo whi := by
  have h1 := h.lo
  have h2 := h.hi
  have hF : forceI g d = forceI f d := by unfold forceI; rw [h.we]
  unfold handLo handHi lagLo lagHi
  rw [hF, h.fr]
  constructor
  · split <;> split <;> omega
  · (repeat' split) <;> omega
theorem nar_off {w v : Dw} {n : Nat} {a wlo whi glo ghi : Int} (h : Nar w v wlo whi glo ghi) (hk : LoSm (lookOf w n a wlo whi)) (hk2 : LoSm (lookOf v n a glo ghi)) : offLo (lookOf w n a wlo whi) ≤ offLo (lookOf v n a glo ghi) ∧ offHi (lookOf v n a glo ghi) ≤ offHi (lookOf w n a wlo whi) := by
  obtain ⟨⟨e1, a1, a2, a3⟩, e2, b1, b2, b3⟩ := off_at hk2
  have q1 := h.e1
  have q2 := h.e2
  have a1 : v.elo ≤ e1 := a1
  have a2 : e1 ≤ v.ehi := a2
  have b1 : v.elo ≤ e2 := b1
  have b2 : e2 ≤ v.ehi := b2
  have c1 := (off_le hk (e := e1) (by show w.elo ≤ e1; omega) (by show e1 ≤ w.ehi; omega)).1
  have c2 := (off_le hk (e := e2) (by show w.elo ≤ e2; omega) (by show e2 ≤ w.ehi; omega)).2
  rw [← a3, ← b3]
  have hf := h.f n
  have hs : 0 ≤ slackI (w.faces.getD n .zero).links := by have := hk.f.j; simpa [lookOf] using this
  have hfr : 0 ≤ (w.faces.getD n .zero).friction := by have := hk.f.h; simpa [lookOf] using this
  have hd : ∀ e, dAt (lookOf v n a glo ghi) e = dAt (lookOf w n a wlo whi) e := fun e => by
    show downI (a + e) v.jump = downI (a + e) w.jump
    rw [h.j]
  have hh : ∀ e, rhLo (lookOf w n a wlo whi) e ≤ rhLo (lookOf v n a glo ghi) e ∧ rhHi (lookOf v n a glo ghi) e ≤ rhHi (lookOf w n a wlo whi) e := fun e => by
    obtain ⟨p1, p2⟩ := nar_hand hf (d := dAt (lookOf w n a wlo whi) e) hs hfr h.w1 h.w2 h.w3
    unfold rhLo rhHi
    rw [hd]
    have e1 : (lookOf v n a glo ghi).f = v.faces.getD n .zero := by simp [lookOf]
    have e2 : (lookOf w n a wlo whi).f = w.faces.getD n .zero := by simp [lookOf]
    rw [e1, e2, hf.ln]
    exact ⟨Int.sub_le_sub_right p1 _, Int.sub_le_sub_right p2 _⟩
  exact ⟨Int.le_trans c1 (hh e1).1, Int.le_trans (hh e2).2 c2⟩
def narN (n : Nt) (v : Dw) (glo ghi : Int) : Nt := { n with w := v, wlo := glo, whi := ghi }
theorem nar_can {n : Nt} {v : Dw} {glo ghi : Int} (h : Nar n.w v n.wlo n.whi glo ghi) (hd : dwB n.w = true) {x : Int × Int} (hx : x.1.toNat < n.w.faces.length) {d : Int} (hc : canB (narN n v glo ghi) x d = true) : canB n x d = true := by
  have hok : fcOK (n.w.faces.getD x.1.toNat .zero) = true := by
    have e : n.w.faces.getD x.1.toNat .zero = n.w.faces[x.1.toNat] := by simp [hx]
    rw [e]; exact dw_face hd (List.getElem_mem hx)
  have hs := (fc_sm hok).j
  have hfr := (fc_sm hok).h
  obtain ⟨p1, p2⟩ := nar_hand (h.f x.1.toNat) (d := d) hs hfr h.w1 h.w2 h.w3
  unfold canB at hc ⊢
  replace hc := of_decide_eq_true hc
  refine decide_eq_true ?_
  change (x.2 - handLo (v.faces.getD x.1.toNat .zero) (slackI (v.faces.getD x.1.toNat .zero).links) d glo) % 43200 ≤ handHi (v.faces.getD x.1.toNat .zero) (slackI (v.faces.getD x.1.toNat .zero).links) d glo ghi - handLo (v.faces.getD x.1.toNat .zero) (slackI (v.faces.getD x.1.toNat .zero).links) d glo at hc
  rw [(h.f x.1.toNat).ln] at hc
  have key : ∀ s a b a' b' : Int, a ≤ a' → b' ≤ b → (s - a') % 43200 ≤ b' - a' → (s - a) % 43200 ≤ b - a := fun s a b a' b' _ _ _ => by omega
  exact key _ _ _ _ _ p1 p2 hc
theorem nar_dr {w v : Dw} {wlo whi glo ghi lo hi d : Int} (h : Nar w v wlo whi glo ghi) (hw : DwSm w) (hv : DwSm v) (hlh : lo ≤ hi) (hd : d ∈ drL v lo hi) : d ∈ drL w lo hi := by
  obtain ⟨a, e, h1, h2, h3, h4, rfl⟩ := dr_from2 hv hlh hd
  have q1 := h.e1
  have q2 := h.e2
  rw [h.j]
  exact dr_to2 hw h1 h2 (by omega) (by omega)
theorem nar_meet {n : Nt} {v : Dw} {glo ghi : Int} (ok : NtOk n) (hv : dwB v = true) (h : Nar n.w v n.wlo n.whi glo ghi) {i k : Nat} (hi : i < n.l.length) (hk : k < n.l.length) (hm : noMeet n k i = true) : noMeet (narN n v glo ghi) k i = true := by
  have e1 : gp n.l i = n.l[i] := by simp [gp, hi]
  have e2 : gp n.l k = n.l[k] := by simp [gp, hk]
  have r1 := (ok.rd _ (List.getElem_mem hi)).1.2
  have r2 := (ok.rd _ (List.getElem_mem hk)).1.2
  rw [← e1] at r1
  rw [← e2] at r2
  unfold noMeet at hm ⊢
  simp only [Bool.not_eq_true', List.any_eq_false, List.contains_eq_mem, decide_eq_true_eq] at hm ⊢
  intro d hd hd2
  have hd : d ∈ (drL v n.nlo n.nhi).filter (canB (narN n v glo ghi) (gp n.l i)) := hd
  have hd2 : d ∈ (drL v n.nlo n.nhi).filter (canB (narN n v glo ghi) (gp n.l k)) := hd2
  obtain ⟨h1, h2⟩ := List.mem_filter.1 hd
  obtain ⟨_, h3⟩ := List.mem_filter.1 hd2
  have hdr := nar_dr h (dw_sm ok.w) (dw_sm hv) ok.n2 h1
  exact hm d (List.mem_filter.2 ⟨hdr, nar_can h ok.w r1 h2⟩) (List.mem_filter.2 ⟨hdr, nar_can h ok.w r2 h3⟩)
theorem nar_pairs {n : Nt} {v : Dw} {glo ghi : Int} (ok : NtOk n) (hv : dwB v = true) (h : Nar n.w v n.wlo n.whi glo ghi) : ∀ x ∈ rpO n n.l.length, x ∈ rpO (narN n v glo ghi) n.l.length := fun x hx => by
  obtain ⟨i, k, h1, h2, h3, h4, rfl⟩ := mem_rpO.1 hx
  exact mem_rpO.2 ⟨i, k, h1, h2, h3, nar_meet ok hv h h1 h2 h4, rfl⟩
def fewN (n : Nt) (k : Nat) : Nt := { n with l := n.l.take k }
theorem few_ok {n : Nt} (ok : NtOk n) (k : Nat) : NtOk (fewN n k) :=
  ⟨ok.w, by have := ok.len; show (n.l.take k).length ≤ 20; rw [List.length_take]; omega, fun x hx => ok.rd x (List.mem_of_mem_take hx), ok.n1, ok.n2, ok.n3, ok.n4, ok.w1, ok.w2, ok.w3⟩
theorem few_times {n : Nt} (ok : NtOk n) (k : Nat) {a : Int} (h : Memb (timRaw n) a) : Memb (timRaw (fewN n k)) a := by
  obtain ⟨h1, e, h2, h3, h4⟩ := (tim_iff ok a).1 h
  refine (tim_iff (few_ok ok k) a).2 ⟨h1, e, h2, h3, ?_⟩
  have h4 := List.all_eq_true.1 h4
  exact List.all_eq_true.2 fun x hx => h4 x (List.mem_of_mem_take hx)
theorem few_in {n : Nt} (ok : NtOk n) (k : Nat) : ∀ x ∈ timL n, Memb (timL (fewN n k)) x.1 ∧ Memb (timL (fewN n k)) x.2 := fun x hx => by
  obtain ⟨s1, s2, _⟩ := timL_fine ok
  obtain ⟨_, t2, _⟩ := timL_fine (few_ok ok k)
  have h0 := s1.2 x hx
  exact ⟨(t2 _).2 (few_times ok k ((s2 _).1 ⟨x, hx, Int.le_refl _, h0⟩)), (t2 _).2 (few_times ok k ((s2 _).1 ⟨x, hx, h0, Int.le_refl _⟩))⟩
theorem few_nil {n : Nt} (ok : NtOk n) (k : Nat) (h : timRaw (fewN n k) = []) : timRaw n = [] := by
  cases hr : timRaw n with
  | nil => rfl
  | cons x r =>
    have hx := timRaw_in (n := n) (x := x) (by rw [hr]; simp)
    have := few_times ok k (a := x.1) ⟨x, by rw [hr]; simp, Int.le_refl _, hx.2.2⟩
    rw [h] at this
    obtain ⟨y, hy, _⟩ := this
    cases hy
theorem idx_lt {p q : List (Int × Int)} (h : ∀ x ∈ p, x ∈ q) {k : Nat} (hk : k < p.length) : q.idxOf p[k] < q.length := List.idxOf_lt_length_of_mem (h _ (List.getElem_mem hk))
theorem idx_get {p q : List (Int × Int)} (h : ∀ x ∈ p, x ∈ q) {k : Nat} (hk : k < p.length) : q[q.idxOf p[k]]'(idx_lt h hk) = p[k] := List.getElem_idxOf (idx_lt h hk)
def atK (p q : List (Int × Int)) : Nat → Nat
  | 0 => 0
  | k + 1 => q.idxOf (p.getD k (0, 0))
theorem ltP_or {x y : Int × Int} : ltP x y = true ↔ x.1 < y.1 ∨ (x.1 = y.1 ∧ x.2 < y.2) := by
  unfold ltP; simp
theorem atK_le {p q : List (Int × Int)} (h : ∀ x ∈ p, x ∈ q) (hp : p.Pairwise fun x y => ltP x y = true) (hq : q.Pairwise fun x y => ltP x y = true) {k : Nat} (hk : k < p.length) : atK p q k ≤ q.idxOf p[k] := by
  cases k with
  | zero => exact Nat.zero_le _
  | succ k =>
    have hk' : k < p.length := by omega
    have e : p.getD k (0, 0) = p[k] := by simp [hk']
    show q.idxOf (p.getD k (0, 0)) ≤ _
    rw [e]
    have h1 := List.pairwise_iff_getElem.1 hp k (k + 1) hk' hk (by omega)
    rcases Nat.lt_or_ge (q.idxOf p[k + 1]) (q.idxOf p[k]) with hlt | hge
    · have h2 := List.pairwise_iff_getElem.1 hq _ _ (idx_lt h hk) (idx_lt h hk') hlt
      rw [idx_get h hk, idx_get h hk'] at h2
      rw [ltP_or] at h1 h2
      omega
    · exact hge
theorem idx_before {p q : List (Int × Int)} (h : ∀ x ∈ p, x ∈ q) (hq : q.Pairwise fun x y => ltP x y = true) {k m : Nat} (hk : k < p.length) (hm : m < q.idxOf p[k]) (hm2 : m < q.length) : q[m].1 < p[k].1 ∨ (q[m].1 = p[k].1 ∧ q[m].2 < p[k].2) := by
  have h2 := List.pairwise_iff_getElem.1 hq _ _ hm2 (idx_lt h hk) hm
  rw [idx_get h hk] at h2
  exact ltP_or.1 h2
end Go.Proofs.Ytnfggkopledpcaa
/- Dial's plain laws, III: inside. -/
namespace Go.Proofs.Ytnfggkopledpcaa
open Go.RowKit
def memB (l : List (Int × Int)) (n : Int) : Bool := l.any fun x => decide (x.1 ≤ n) && decide (n ≤ x.2)
theorem memB_iff {l : List (Int × Int)} {n : Int} : memB l n = true ↔ Memb l n := by
  unfold memB Memb
  rw [List.any_eq_true]
  constructor
  · rintro ⟨x, hx, h⟩
    simp only [Bool.and_eq_true, decide_eq_true_eq] at h
    exact ⟨x, hx, h⟩
  · rintro ⟨x, hx, h⟩
    exact ⟨x, hx, by simp only [Bool.and_eq_true, decide_eq_true_eq]; exact h⟩
def memK (l : List (Int × Int)) (n : Int) (k : Nat) : Bool := memB (l.take k) n
theorem memK_succ {l : List (Int × Int)} {n : Int} {k : Nat} (h : k < l.length) : memK l n (k + 1) = (memK l n k || (decide (l[k].1 ≤ n) && decide (n ≤ l[k].2))) := by
  unfold memK memB
  rw [List.take_succ_eq_append_getElem h, List.any_append]; simp
theorem lInside (n : Int) (l : List (Int × Int)) (hs : Sep l) (hm : SmS l) (hl : l.length ≤ 1000000) : SC Try.prog 29 [I n, slS l] (B (memB l n)) := by
  refine law_turretlaw04_inside _ _ (by simp) ?_
  (repeat' (first | ((first | with_reducible refine st_skip ?_ | with_reducible refine st_exit ?_); (try simp only [seqQ, blockQ, loopQ, forQ, whileQ, reduceIte, Nat.reduceEqDiff])) | (with_reducible refine st_ret ?_; ((try simp only [seqQ, blockQ, loopQ, forQ, whileQ]); first | (with_reducible refine retM_ret ?_) | refine retQ_ret ?_; simp)) | refine st_seq ?_ | refine st_block ?_ | ((first | refine st_reg ?_ | refine buildP_own ?_) <;> (simp -dsimp; (repeat (simp -dsimp (disch := (first | omega | assumption | (refine Bool.eq_false_iff.1 ?_; assumption))) only [wrap_in, if_pos, if_neg]; (try simp -dsimp))))) | ((first | refine guardP_of (fun hc => ?_) (fun hc => ?_) | refine st_cond rfl (fun hc => ?_) (fun hc => ?_)) <;> (try simp only [decide_eq_true_eq, decide_eq_false_iff_not, Bool.true_eq_false, Bool.false_eq_true, bne_iff_ne, ne_eq, bne_eq_false_iff_eq, beq_iff_eq, beq_eq_false_iff_ne, Bool.not_eq_true, Bool.not_eq_false, Bool.not_eq_eq_eq_not, Bool.not_true, Bool.not_false, Decidable.not_not] at hc) <;> (try (exfalso; first | omega | exact bool_tf hc (by assumption) | exact bool_ft hc (by assumption) | exact absurd (by assumption) hc)) <;> (first | with_reducible show STri _ _ _ _ _ _ | (simp -dsimp [hc]; (repeat (simp -dsimp (disch := (first | omega | assumption | (refine Bool.eq_false_iff.1 ?_; assumption))) only [wrap_in, if_pos, if_neg]; (try simp -dsimp [hc]))))))))
  refine st_for [] l.length (fun k T H => T = [(0, .c (I n)), (1, .c (slS l)), (5, .c (B (memK l n k))), (6, .c (I k))] ∧ H = []) (by simp) ⟨by simp [memK, memB], by simp⟩ ?_
  rintro k T H hk ⟨rfl, rfl⟩
  by_cases hlt : k < l.length
  · have hst := memK_succ (n := n) hlt
    have h1 := hs.2 _ (List.getElem_mem hlt)
    have h2 := hm _ (List.getElem_mem hlt)
    have hgr : ∀ h : k < (l.map rowS).length, (l.map rowS)[k]'h = rowS l[k] := fun h => by simp
    have hq : l[k]? = some l[k] := by simp
    generalize hb : memK l n k = b at *
    by_cases h0 : k = 0
    · subst h0
      generalize l[0] = y at *
      (repeat' (first | ((first | with_reducible refine st_skip ?_ | with_reducible refine st_exit ?_); (try simp only [seqQ, blockQ, loopQ, forQ, whileQ, reduceIte, Nat.reduceEqDiff])) | (with_reducible refine st_ret ?_; ((try simp only [seqQ, blockQ, loopQ, forQ, whileQ]); first | (with_reducible refine retM_ret ?_) | refine retQ_ret ?_; simp [hlt, hgr, hq])) | refine st_seq ?_ | refine st_block ?_ | ((first | refine st_reg ?_ | refine buildP_own ?_) <;> (simp -dsimp [hlt, hgr, hq]; (repeat (simp -dsimp (disch := (first | omega | assumption | (refine Bool.eq_false_iff.1 ?_; assumption))) only [wrap_in, if_pos, if_neg]; (try simp -dsimp [hlt, hgr, hq]))))) | ((first | refine guardP_of (fun hc => ?_) (fun hc => ?_) | refine st_cond rfl (fun hc => ?_) (fun hc => ?_)) <;> (try simp only [decide_eq_true_eq, decide_eq_false_iff_not, Bool.true_eq_false, Bool.false_eq_true, bne_iff_ne, ne_eq, bne_eq_false_iff_eq, beq_iff_eq, beq_eq_false_iff_ne, Bool.not_eq_true, Bool.not_eq_false, Bool.not_eq_eq_eq_not, Bool.not_true, Bool.not_false, Decidable.not_not] at hc) <;> (try (exfalso; first | omega | exact bool_tf hc (by assumption) | exact bool_ft hc (by assumption) | exact absurd (by assumption) hc)) <;> (first | with_reducible show STri _ _ _ _ _ _ | (simp -dsimp [hlt, hgr, hq, hc]; (repeat (simp -dsimp (disch := (first | omega | assumption | (refine Bool.eq_false_iff.1 ?_; assumption))) only [wrap_in, if_pos, if_neg]; (try simp -dsimp [hlt, hgr, hq, hc]))))))))
      all_goals exact ⟨hlt, by simp, by rw [hst]; simp_all <;> omega, by simp⟩
    · obtain ⟨p, rfl⟩ : ∃ p, k = p + 1 := ⟨k - 1, by omega⟩
      have hp : p < l.length := by omega
      have h3 := List.pairwise_iff_getElem.1 hs.1 p (p + 1) hp hlt (by omega)
      have h4 := hm _ (List.getElem_mem hp)
      have hgp : ∀ h : p < (l.map rowS).length, (l.map rowS)[p]'h = rowS l[p] := fun h => by simp
      generalize l[p + 1] = y at *
      generalize l[p] = z at *
      (repeat' (first | ((first | with_reducible refine st_skip ?_ | with_reducible refine st_exit ?_); (try simp only [seqQ, blockQ, loopQ, forQ, whileQ, reduceIte, Nat.reduceEqDiff])) | (with_reducible refine st_ret ?_; ((try simp only [seqQ, blockQ, loopQ, forQ, whileQ]); first | (with_reducible refine retM_ret ?_) | refine retQ_ret ?_; simp [hlt, hp, hgr, hgp])) | refine st_seq ?_ | refine st_block ?_ | ((first | refine st_reg ?_ | refine buildP_own ?_) <;> (simp -dsimp [hlt, hp, hgr, hgp]; (repeat (simp -dsimp (disch := (first | omega | assumption | (refine Bool.eq_false_iff.1 ?_; assumption))) only [wrap_in, if_pos, if_neg]; (try simp -dsimp [hlt, hp, hgr, hgp]))))) | ((first | refine guardP_of (fun hc => ?_) (fun hc => ?_) | refine st_cond rfl (fun hc => ?_) (fun hc => ?_)) <;> (try simp only [decide_eq_true_eq, decide_eq_false_iff_not, Bool.true_eq_false, Bool.false_eq_true, bne_iff_ne, ne_eq, bne_eq_false_iff_eq, beq_iff_eq, beq_eq_false_iff_ne, Bool.not_eq_true, Bool.not_eq_false, Bool.not_eq_eq_eq_not, Bool.not_true, Bool.not_false, Decidable.not_not] at hc) <;> (try (exfalso; first | omega | exact bool_tf hc (by assumption) | exact bool_ft hc (by assumption) | exact absurd (by assumption) hc)) <;> (first | with_reducible show STri _ _ _ _ _ _ | (simp -dsimp [hlt, hp, hgr, hgp, hc]; (repeat (simp -dsimp (disch := (first | omega | assumption | (refine Bool.eq_false_iff.1 ?_; assumption))) only [wrap_in, if_pos, if_neg]; (try simp -dsimp [hlt, hp, hgr, hgp, hc]))))))))
      all_goals exact ⟨hlt, by simp, by rw [hst]; simp_all <;> omega, by simp⟩
  · have hke : k = l.length := by omega
    subst hke
    have hall : memK l n l.length = memB l n := by simp [memK]
    (repeat' (first | ((first | with_reducible refine st_skip ?_ | with_reducible refine st_exit ?_); (try simp only [seqQ, blockQ, loopQ, forQ, whileQ, reduceIte, Nat.reduceEqDiff])) | (with_reducible refine st_ret ?_; ((try simp only [seqQ, blockQ, loopQ, forQ, whileQ]); first | (with_reducible refine retM_ret ?_) | refine retQ_ret ?_; simp [hlt, hall])) | refine st_seq ?_ | refine st_block ?_ | ((first | refine st_reg ?_ | refine buildP_own ?_) <;> (simp -dsimp [hlt, hall]; (repeat (simp -dsimp (disch := (first | omega | assumption | (refine Bool.eq_false_iff.1 ?_; assumption))) only [wrap_in, if_pos, if_neg]; (try simp -dsimp [hlt, hall]))))) | ((first | refine guardP_of (fun hc => ?_) (fun hc => ?_) | refine st_cond rfl (fun hc => ?_) (fun hc => ?_)) <;> (try simp only [decide_eq_true_eq, decide_eq_false_iff_not, Bool.true_eq_false, Bool.false_eq_true, bne_iff_ne, ne_eq, bne_eq_false_iff_eq, beq_iff_eq, beq_eq_false_iff_ne, Bool.not_eq_true, Bool.not_eq_false, Bool.not_eq_eq_eq_not, Bool.not_true, Bool.not_false, Decidable.not_not] at hc) <;> (try (exfalso; first | omega | exact bool_tf hc (by assumption) | exact bool_ft hc (by assumption) | exact absurd (by assumption) hc)) <;> (first | with_reducible show STri _ _ _ _ _ _ | (simp -dsimp [hlt, hall, hc]; (repeat (simp -dsimp (disch := (first | omega | assumption | (refine Bool.eq_false_iff.1 ?_; assumption))) only [wrap_in, if_pos, if_neg]; (try simp -dsimp [hlt, hall, hc]))))))))
    all_goals exact .refl _
end Go.Proofs.Ytnfggkopledpcaa
/- Dial: what a dial can show, as integers. -/
namespace Go.Proofs.Ytnfggkopledpcaa
open Go.RowKit
end Go.Proofs.Ytnfggkopledpcaa
/- Dial's plain laws: looks of a tower. -/
namespace Go.Proofs.Ytnfggkopledpcaa
open Go.RowKit
def twLo (x : Tw) (i : Nat) (a : Int) : Lo := lookOf (twW x) i a (x.w0 - 128) (x.w0 - 128 + x.w1 % 100)
theorem tw_look {x : Tw} (hx : TwOk x) {i : Nat} (hi : i < twN x) {a : Int} (a1 : 0 ≤ a) (a2 : a ≤ 3155760000) : lookErr (twW x) i a (x.w0 - 128) (x.w0 - 128 + x.w1 % 100) = 0 := by
  have hl : (twW x).faces.length = twN x := twF_len x _
  have w0 := hx.w0
  have w1 := hx.w1
  have hq : inB 0 (((twW x).faces.length : Int) - 1) i = true := by rw [hl]; simp [inB]; omega
  have hq2 : inB 0 3155760000 a = true := by simp [inB]; omega
  have hq3 : spanB (-10000) 10000 (x.w0 - 128) (x.w0 - 128 + x.w1 % 100) = true := by
    simp only [spanB, Bool.and_eq_true]
    exact ⟨⟨decide_eq_true (by omega), decide_eq_true (by omega)⟩, decide_eq_true (by omega)⟩
  simp [lookErr, tw_ok hx, hq, hq2, hq3]
theorem tw_f {x : Tw} {i : Nat} (hi : i < twN x) (a : Int) : (twLo x i a).f = faceV (x.faces.getD i .zero) ∧ ∀ h : i < (twW x).faces.length, (twW x).faces[i]'h = faceV (x.faces.getD i .zero) := by
  have h2 : ∀ h : i < (twW x).faces.length, (twW x).faces[i]'h = faceV (x.faces.getD i .zero) := fun h => by
    show (twF x (twN x))[i]'h = _
    unfold twF; simp
  refine ⟨?_, h2⟩
  have hl : (twW x).faces.length = twN x := twF_len x _
  show (twW x).faces.getD (i : Int).toNat .zero = _
  rw [Int.toNat_natCast, List.getD_eq_getElem?_getD, List.getElem?_eq_getElem (by omega), Option.getD_some]
  exact h2 (by omega)
theorem tw_lohi {x : Tw} (hx : TwOk x) (i : Nat) : (faceV (x.faces.getD i .zero)).lo ≤ (faceV (x.faces.getD i .zero)).hi := by
  obtain ⟨_, ⟨b1, _⟩, _⟩ := tw_face hx i
  generalize x.faces.getD i .zero = v at *
  show v.a % 30 - 15 ≤ v.a % 30 - 15 + v.b % 10
  omega
theorem tw_links (x : Tw) (i : Nat) : (faceV (x.faces.getD i .zero)).links.length ≤ 1000000 := by
  show (linksV _).length ≤ _
  unfold linksV; split <;> simp
end Go.Proofs.Ytnfggkopledpcaa
/- Dial's plain laws, XI: a link less. -/
namespace Go.Proofs.Ytnfggkopledpcaa
open Go.RowKit
theorem lWorksF (w : Dw) (hw : DwLen w) : FC Try.prog 13 [cDw w] (some [some (I w.jump), some (I w.elo), some (I w.ehi), none]) 80 5 (w.faces.map rowF) := by
  refine flaw_turretlaw04_works _ _ _ _ _ (by simp) ?_
  have hn := hw.n
  (repeat' (first | ((first | with_reducible refine st_skip ?_ | with_reducible refine st_exit ?_); (try simp only [seqQ, blockQ, loopQ, forQ, whileQ, reduceIte, Nat.reduceEqDiff])) | (with_reducible refine st_ret ?_; ((try simp only [seqQ, blockQ, loopQ, forQ, whileQ]); first | (with_reducible refine retM_ret ?_) | (with_reducible refine retF_ret ?_) | (with_reducible refine retO_ret ?_) | refine retQ_ret ?_; simp)) | refine st_seq ?_ | refine st_block ?_ | ((first | refine st_reg ?_ | refine buildP_own ?_) <;> (simp -dsimp; (repeat (simp -dsimp (disch := (first | omega | assumption | (refine Bool.eq_false_iff.1 ?_; assumption))) only [wrap_in, if_pos, if_neg]; (try simp -dsimp))))) | ((first | refine guardP_of (fun hc => ?_) (fun hc => ?_) | refine st_cond rfl (fun hc => ?_) (fun hc => ?_)) <;> (try simp only [decide_eq_true_eq, decide_eq_false_iff_not, Bool.true_eq_false, Bool.false_eq_true, bne_iff_ne, ne_eq, bne_eq_false_iff_eq, beq_iff_eq, beq_eq_false_iff_ne, Bool.not_eq_true, Bool.not_eq_false, Bool.not_eq_eq_eq_not, Bool.not_true, Bool.not_false, Decidable.not_not] at hc) <;> (try (exfalso; first | omega | exact bool_tf hc (by assumption) | exact bool_ft hc (by assumption) | exact absurd (by assumption) hc)) <;> (first | with_reducible show STri _ _ _ _ _ _ | (simp -dsimp [hc]; (repeat (simp -dsimp (disch := (first | omega | assumption | (refine Bool.eq_false_iff.1 ?_; assumption))) only [wrap_in, if_pos, if_neg]; (try simp -dsimp [hc]))))))))
  refine st_nilB 3 3 200 80 5 rfl (by simp) rfl (by simp [newOK]) ?_
  refine st_for [1, 2, 3, 200] w.faces.length (fun k T H => T = [(1, .ptr 1 0), (2, .ptr 2 0), (3, .ptr 3 0), (4, .c (I k))] ∧ H = [(1, .box 26 [.c (I w.jump), .c (I w.elo), .c (I w.ehi), .c (slF w.faces)]), (2, .box 26 [.c (I 0), .c (I 0), .c (I 0), .c (.val (.slice none 0 0))]),
    (3, .box 26 [.c (I w.jump), .c (I w.elo), .c (I w.ehi), .own 200 k]), (200, .arr 80 5 (rowsF w.faces k))]) (by simp) ⟨by simp, by simp [rowsF]⟩ ?_
  rintro k T H hk ⟨rfl, rfl⟩
  have hlen := rowsF_len hk
  by_cases hlt : k < w.faces.length
  · have hf := lFace w.faces[k] (hw.l _ (List.getElem_mem hlt))
    have hs := rowsF_succ hlt
    have hA : k + 1 ≤ 9223372036854775807 := by omega
    have hB : (k + 1) * 56 ≤ 140737488355328 := by omega
    (repeat' (first | ((first | with_reducible refine st_skip ?_ | with_reducible refine st_exit ?_); (try simp only [seqQ, blockQ, loopQ, forQ, whileQ, reduceIte, Nat.reduceEqDiff])) | (with_reducible refine st_ret ?_; ((try simp only [seqQ, blockQ, loopQ, forQ, whileQ]); first | (with_reducible refine retM_ret ?_) | (with_reducible refine retF_ret ?_) | (with_reducible refine retO_ret ?_) | refine retQ_ret ?_; simp [hlt, hlen, hA, hB])) | refine st_seq ?_ | refine st_block ?_ | ((first | refine st_reg ?_ | refine buildP_own ?_ | refine callP_b (hf) rfl ?_) <;> (simp -dsimp [hlt, hlen, hA, hB]; (repeat (simp -dsimp (disch := (first | omega | assumption | (refine Bool.eq_false_iff.1 ?_; assumption))) only [wrap_in, if_pos, if_neg]; (try simp -dsimp [hlt, hlen, hA, hB]))))) | ((first | refine guardP_of (fun hc => ?_) (fun hc => ?_) | refine st_cond rfl (fun hc => ?_) (fun hc => ?_)) <;> (try simp only [decide_eq_true_eq, decide_eq_false_iff_not, Bool.true_eq_false, Bool.false_eq_true, bne_iff_ne, ne_eq, bne_eq_false_iff_eq, beq_iff_eq, beq_eq_false_iff_ne, Bool.not_eq_true, Bool.not_eq_false, Bool.not_eq_eq_eq_not, Bool.not_true, Bool.not_false, Decidable.not_not] at hc) <;> (try (exfalso; first | omega | exact bool_tf hc (by assumption) | exact bool_ft hc (by assumption) | exact absurd (by assumption) hc)) <;> (first | with_reducible show STri _ _ _ _ _ _ | (simp -dsimp [hlt, hlen, hA, hB, hc]; (repeat (simp -dsimp (disch := (first | omega | assumption | (refine Bool.eq_false_iff.1 ?_; assumption))) only [wrap_in, if_pos, if_neg]; (try simp -dsimp [hlt, hlen, hA, hB, hc]))))))))
    all_goals exact ⟨hlt, by simp, by simp, by simp [hs]⟩
  · have hke : k = w.faces.length := by omega
    subst hke
    have hall : rowsF w.faces w.faces.length = w.faces.map rowF := by simp [rowsF]
    (repeat' (first | ((first | with_reducible refine st_skip ?_ | with_reducible refine st_exit ?_); (try simp only [seqQ, blockQ, loopQ, forQ, whileQ, reduceIte, Nat.reduceEqDiff])) | (with_reducible refine st_ret ?_; ((try simp only [seqQ, blockQ, loopQ, forQ, whileQ]); first | (with_reducible refine retM_ret ?_) | (with_reducible refine retF_ret ?_) | (with_reducible refine retO_ret ?_) | refine retQ_ret ?_; simp [hlen])) | refine st_seq ?_ | refine st_block ?_ | ((first | refine st_reg ?_ | refine buildP_own ?_) <;> (simp -dsimp [hlen]; (repeat (simp -dsimp (disch := (first | omega | assumption | (refine Bool.eq_false_iff.1 ?_; assumption))) only [wrap_in, if_pos, if_neg]; (try simp -dsimp [hlen]))))) | ((first | refine guardP_of (fun hc => ?_) (fun hc => ?_) | refine st_cond rfl (fun hc => ?_) (fun hc => ?_)) <;> (try simp only [decide_eq_true_eq, decide_eq_false_iff_not, Bool.true_eq_false, Bool.false_eq_true, bne_iff_ne, ne_eq, bne_eq_false_iff_eq, beq_iff_eq, beq_eq_false_iff_ne, Bool.not_eq_true, Bool.not_eq_false, Bool.not_eq_eq_eq_not, Bool.not_true, Bool.not_false, Decidable.not_not] at hc) <;> (try (exfalso; first | omega | exact bool_tf hc (by assumption) | exact bool_ft hc (by assumption) | exact absurd (by assumption) hc)) <;> (first | with_reducible show STri _ _ _ _ _ _ | (simp -dsimp [hlen, hc]; (repeat (simp -dsimp (disch := (first | omega | assumption | (refine Bool.eq_false_iff.1 ?_; assumption))) only [wrap_in, if_pos, if_neg]; (try simp -dsimp [hlen, hc]))))))))
    rw [hall]
    exact ⟨200, by simp, rfl⟩
theorem slack_nil : slackI [] = 0 := by
  have hD : denK [] 0 = 1 := by simp [denK]
  have hN : numK [] 0 = 0 := by simp [numK]
  unfold slackI overI
  simp only [List.length_nil, hD, hN]
  decide
theorem slack_tail2 (s num den r : Int) (h1 : 0 ≤ s) (h3 : 1 ≤ num) (h5 : 1 ≤ den) (r1 : 0 ≤ r) : slackI [⟨r, 1, 1⟩] ≤ slackI [⟨s, num, den⟩, ⟨r, 1, 1⟩] := by
  have hn : 0 ≤ s * 3600 * den := Int.mul_nonneg (by omega) (by omega)
  have hD : denK [⟨s, num, den⟩, ⟨r, 1, 1⟩] 2 = num := by simp [denK, stepD]
  have hN : numK [⟨s, num, den⟩, ⟨r, 1, 1⟩] 2 = s * 3600 * den + r * 3600 * num := by
    have : num.tdiv num = 1 := Int.tdiv_self (by omega)
    simp [numK, stepN, hD, this]
  have hD1 : denK [⟨r, 1, 1⟩] 1 = 1 := by simp [denK, stepD]
  have hN1 : numK [⟨r, 1, 1⟩] 1 = r * 3600 := by simp [numK, stepN, hD1]
  unfold slackI overI
  simp only [List.length_cons, List.length_nil, Nat.zero_add, Nat.reduceAdd, hD, hN, hD1, hN1]
  have hp : 0 ≤ r * 3600 * num := Int.mul_nonneg (by omega) (by omega)
  generalize s * 3600 * den = z at *
  rw [Int.tdiv_eq_ediv_of_nonneg (by omega), Int.tdiv_eq_ediv_of_nonneg (by omega)]
  refine Int.le_ediv_of_mul_le (by omega) ?_
  have hq : (r * 3600 + 1000 * 1 - 1) / (1000 * 1) * 1000 ≤ r * 3600 + 999 := by
    have := Int.ediv_mul_le (r * 3600 + 1000 * 1 - 1) (show (1000 * 1 : Int) ≠ 0 by decide)
    omega
  generalize (r * 3600 + 1000 * 1 - 1) / (1000 * 1) = q at *
  have := Int.mul_le_mul_of_nonneg_right hq (show 0 ≤ num by omega)
  rw [Int.add_mul, Int.mul_assoc q] at this
  omega
theorem slack_tail {v : Fv} (h : FvOk v) : slackI (linksV v).tail ≤ slackI (linksV v) := by
  obtain ⟨⟨a1, a2⟩, ⟨b1, b2⟩, ⟨c1, c2⟩, ⟨d1, d2⟩, ⟨e1, e2⟩, ⟨g3, g4⟩⟩ := h
  have hok := (fc_sm (face_ok (v := v) ⟨⟨a1, a2⟩, ⟨b1, b2⟩, ⟨c1, c2⟩, ⟨d1, d2⟩, ⟨e1, e2⟩, ⟨g3, g4⟩⟩)).j
  have hok : 0 ≤ slackI (linksV v) := hok
  unfold linksV at hok ⊢
  split
  · exact slack_tail2 _ _ _ _ (by omega) (by omega) (by omega) (by omega)
  · rename_i hg
    rw [if_neg hg] at hok
    rw [List.tail_cons, slack_nil]
    exact hok
structure LessF (f g : Fc) : Prop where
  lo : g.lo = f.lo
  hi : g.hi = f.hi
  we : g.weight = f.weight
  fr : g.friction = f.friction
  sl : slackI g.links ≤ slackI f.links
theorem less_off {k1 k2 : Lo} (hk1 : LoSm k1) (hk2 : LoSm k2) (h : LessF k1.f k2.f) (j : k2.w.jump = k1.w.jump) (e0 : k2.w.elo = k1.w.elo) (e1 : k2.w.ehi = k1.w.ehi) (a : k2.at' = k1.at') (w1 : k2.wlo = k1.wlo) (w2 : k2.whi = k1.whi) :
    offLo k1 ≤ offLo k2 ∧ offHi k1 ≤ offHi k2 ∧ offHi k2 - offHi k1 ≤ slackI k1.f.links - slackI k2.f.links := by
  obtain ⟨⟨p1, a1, a2, a3⟩, p2, b1, b2, b3⟩ := off_at hk1
  obtain ⟨⟨q1, c1, c2, c3⟩, q2, d1, d2, d3⟩ := off_at hk2
  have o1 := (off_le hk1 (e := q1) (by omega) (by omega)).1
  have o2 := (off_le hk2 (e := p2) (by omega) (by omega)).2
  have o3 := (off_le hk1 (e := q2) (by omega) (by omega)).2
  have hs := hk2.f.j
  have hsl := h.sl
  have hd : ∀ e, dAt k2 e = dAt k1 e := fun e => by unfold dAt; rw [j, a]
  have key : ∀ e, rhLo k1 e ≤ rhLo k2 e ∧ rhHi k1 e ≤ rhHi k2 e ∧ rhHi k2 e - rhHi k1 e ≤ slackI k1.f.links - slackI k2.f.links := fun e => by
    unfold rhLo rhHi
    rw [hd, a, w1, w2]
    have hF : ∀ d, forceI k2.f d = forceI k1.f d := fun d => by unfold forceI; rw [h.we]
    unfold handLo handHi lagLo lagHi
    rw [hF, h.fr, h.lo, h.hi]
    (repeat' split) <;> omega
  have k1' := key q1
  have k2' := key p2
  have k3' := key q2
  omega
set_option maxRecDepth 100000 in
set_option maxHeartbeats 2000000 in
theorem lSmaller (w v : Dw) (hw : DwLen w) (hv : DwLen v) (hwo : dwB w = true) (hvo : dwB v = true) (n : Nat) (hn : n < w.faces.length) (hn2 : n < v.faces.length) (a wlo whi : Int) (h1 : lookErr w n a wlo whi = 0) (h2 : lookErr v n a wlo whi = 0) (hs : slackI (v.faces[n]'hn2).links ≤ slackI w.faces[n].links)
    (ho : offLo (lookOf w n a wlo whi) ≤ offLo (lookOf v n a wlo whi) ∧ offHi (lookOf w n a wlo whi) ≤ offHi (lookOf v n a wlo whi) ∧ offHi (lookOf v n a wlo whi) - offHi (lookOf w n a wlo whi) ≤ slackI w.faces[n].links - slackI (v.faces[n]'hn2).links) :
    SC Try.prog 36 [cDw w, cDw v, I n, I a, cS wlo whi] (B true) := by
  refine law_turretlaw04_smaller _ _ (by simp) ?_
  have fw := dw_face hwo (List.getElem_mem hn)
  have fv := dw_face hvo (List.getElem_mem hn2)
  have s1 := lFace w.faces[n] (hw.l _ (List.getElem_mem hn))
  have s2 := lFace (v.faces[n]'hn2) (hv.l _ (List.getElem_mem hn2))
  have t1 := sSlack w.faces[n] (hw.l _ (List.getElem_mem hn))
  have t2 := sSlack (v.faces[n]'hn2) (hv.l _ (List.getElem_mem hn2))
  unfold rSlack at t1 t2
  rw [if_pos fw] at t1
  rw [if_pos fv] at t2
  have u1 := lWorks w hw
  have u2 := lWorks v hv
  have c1 := sOff w hw n a wlo whi
  have c2 := sOff v hv n a wlo whi
  unfold rOff at c1 c2
  rw [if_pos h1] at c1
  rw [if_pos h2] at c2
  have k1 := look_sm h1
  have k2 := look_sm h2
  have z1 := (fc_sm fw).j
  have z2 := (fc_sm fw).k
  have z3 := (fc_sm fv).j
  have z4 := (fc_sm fv).k
  have ef : ∀ (w : Dw) (hn : n < w.faces.length), (lookOf w n a wlo whi).f = w.faces[n]'hn := fun w hn => by simp [lookOf, hn]
  obtain ⟨⟨b1, b2⟩, b3, b4⟩ := off_bd k1 (by rw [ef w hn]; exact fw)
  obtain ⟨⟨d1, d2⟩, d3, d4⟩ := off_bd k2 (by rw [ef v hn2]; exact fv)
  obtain ⟨o1, o2, o3⟩ := ho
  have g1 : ∀ h : n < (w.faces.map rowF).length, (w.faces.map rowF)[n]'h = rowF w.faces[n] := fun h => by simp
  have g2 : ∀ h : n < (v.faces.map rowF).length, (v.faces.map rowF)[n]'h = rowF (v.faces[n]'hn2) := fun h => by simp
  generalize w.faces[n] = f at *
  generalize v.faces[n]'hn2 = g at *
  generalize offLo (lookOf w n a wlo whi) = y1 at *
  generalize offHi (lookOf w n a wlo whi) = y2 at *
  generalize offLo (lookOf v n a wlo whi) = y3 at *
  generalize offHi (lookOf v n a wlo whi) = y4 at *
  (repeat' (first | ((first | with_reducible refine st_skip ?_ | with_reducible refine st_exit ?_); (try simp only [seqQ, blockQ, loopQ, forQ, whileQ, reduceIte, Nat.reduceEqDiff])) | (with_reducible refine st_ret ?_; ((try simp only [seqQ, blockQ, loopQ, forQ, whileQ]); first | (with_reducible refine retM_ret ?_) | (with_reducible refine retF_ret ?_) | (with_reducible refine retO_ret ?_) | refine retQ_ret ?_; simp [hn, hn2, g1, g2, hs, o1, o2, o3])) | refine st_seq ?_ | refine st_block ?_ | ((first | refine st_reg ?_ | refine buildP_own ?_ | refine callP_b (s1) rfl ?_ | refine callP_b (s2) rfl ?_ | refine callP_b (t1) rfl ?_ | refine callP_b (t2) rfl ?_ | refine callP_b (u1) rfl ?_ | refine callP_b (u2) rfl ?_ | refine callP_b (c1) rfl ?_ | refine callP_b (c2) rfl ?_) <;> (simp -dsimp [hn, hn2, g1, g2, hs, o1, o2, o3]; (repeat (simp -dsimp (disch := (first | omega | assumption | (refine Bool.eq_false_iff.1 ?_; assumption))) only [wrap_in, if_pos, if_neg]; (try simp -dsimp [hn, hn2, g1, g2, hs, o1, o2, o3]))))) | ((first | refine guardP_of (fun hc => ?_) (fun hc => ?_) | refine st_cond rfl (fun hc => ?_) (fun hc => ?_)) <;> (try simp only [decide_eq_true_eq, decide_eq_false_iff_not, Bool.true_eq_false, Bool.false_eq_true, bne_iff_ne, ne_eq, bne_eq_false_iff_eq, beq_iff_eq, beq_eq_false_iff_ne, Bool.not_eq_true, Bool.not_eq_false, Bool.not_eq_eq_eq_not, Bool.not_true, Bool.not_false, Decidable.not_not] at hc) <;> (try (exfalso; first | omega | exact bool_tf hc (by assumption) | exact bool_ft hc (by assumption) | exact absurd (by assumption) hc)) <;> (first | with_reducible show STri _ _ _ _ _ _ | (simp -dsimp [hn, hn2, g1, g2, hs, o1, o2, o3, hc]; (repeat (simp -dsimp (disch := (first | omega | assumption | (refine Bool.eq_false_iff.1 ?_; assumption))) only [wrap_in, if_pos, if_neg]; (try simp -dsimp [hn, hn2, g1, g2, hs, o1, o2, o3, hc]))))))))
  all_goals exact .refl _
end Go.Proofs.Ytnfggkopledpcaa
/- Dial's plain laws, V: a truth is told. -/
namespace Go.Proofs.Ytnfggkopledpcaa
open Go.RowKit
end Go.Proofs.Ytnfggkopledpcaa
/- Dial's plain laws, VI: what is told is possible. -/
namespace Go.Proofs.Ytnfggkopledpcaa
open Go.RowKit
end Go.Proofs.Ytnfggkopledpcaa
/- Dial's plain laws, VII: DialTruths. -/
namespace Go.Proofs.Ytnfggkopledpcaa
open Go.RowKit
end Go.Proofs.Ytnfggkopledpcaa
/- Dial's plain laws, VIII: DialSteady. -/
namespace Go.Proofs.Ytnfggkopledpcaa
open Go.RowKit
def rowsAt (fs : List Fc) (i : Nat) (g : Fc) : List (List CV) := (fs.set i g).map rowF
theorem rowsAt_len (fs : List Fc) (i : Nat) (g : Fc) : (rowsAt fs i g).length = fs.length := by simp [rowsAt]
theorem rowsAt_get {fs : List Fc} {i : Nat} (h : i < fs.length) (g : Fc) : (rowsAt fs i g)[i]? = some (rowF g) := by simp [rowsAt, h]
theorem rowsAt_set (fs : List Fc) (i : Nat) (g : Fc) (a b : Int) (l : List Lk) (c d : Int) : (rowsAt fs i g).set i [I a, I b, slL l, I c, I d] = rowsAt fs i ⟨a, b, l, c, d⟩ := by
  have : [I a, I b, slL l, I c, I d] = rowF ⟨a, b, l, c, d⟩ := rfl
  rw [this]
  unfold rowsAt
  rw [← List.map_set, List.set_set]
theorem rowsAt_self {fs : List Fc} {i : Nat} (h : i < fs.length) : fs.map rowF = rowsAt fs i fs[i] := by unfold rowsAt; rw [List.set_getElem_self]
section
variable {x : Tw} (hx : TwOk x) {i : Nat} (hi : i < twN x) {W : Int} (hW : -10000 ≤ W ∧ W ≤ 10000)
include hx hi hW
end
end Go.Proofs.Ytnfggkopledpcaa
/- Dial's plain laws, IX: DialSteady, the walk. -/
namespace Go.Proofs.Ytnfggkopledpcaa
open Go.RowKit
end Go.Proofs.Ytnfggkopledpcaa
/- Dial's plain laws, VIII: half a day later. -/
namespace Go.Proofs.Ytnfggkopledpcaa
open Go.RowKit
end Go.Proofs.Ytnfggkopledpcaa
/- Dial's plain laws, IX: DialTurned. -/
namespace Go.Proofs.Ytnfggkopledpcaa
open Go.RowKit
theorem nt_of {n : Nt} (ok : NtOk n) : ntErr n = 0 := by
  have e1 : rdErr n.w.faces.length n.l = 0 := by
    refine rd_none fun y hy => ?_
    rw [List.take_length] at hy
    obtain ⟨⟨h1, h2⟩, h3, h4⟩ := ok.rd y hy
    have g1 : inB 0 ((n.w.faces.length : Int) - 1) y.1 = true := by simp [inB]; omega
    have g2 : inB 0 43199 y.2 = true := by simp [inB]; omega
    simp [rdE, g1, g2]
  have q1 := ok.n1
  have q2 := ok.n2
  have q3 := ok.n3
  have q4 := ok.n4
  have q5 := ok.w1
  have q6 := ok.w2
  have q7 := ok.w3
  have q8 := ok.len
  have e2 : spanB 0 3155760000 n.nlo n.nhi = true := by
    simp only [spanB, Bool.and_eq_true]
    exact ⟨⟨decide_eq_true (by omega), decide_eq_true (by omega)⟩, decide_eq_true (by omega)⟩
  have e3 : spanB (-10000) 10000 n.wlo n.whi = true := by
    simp only [spanB, Bool.and_eq_true]
    exact ⟨⟨decide_eq_true (by omega), decide_eq_true (by omega)⟩, decide_eq_true (by omega)⟩
  unfold ntErr
  simp only [ok.w, e1, e2, e3]
  rw [if_neg (by simp), if_neg (by omega), if_neg (by simp), if_neg (by simp; omega), if_neg (by simp)]
end Go.Proofs.Ytnfggkopledpcaa
/- Dial's plain laws, XII: DialNarrow, behind the switch. -/
namespace Go.Proofs.Ytnfggkopledpcaa
open Go.RowKit Go.Sort
def rdN (a s : Int) : Int := (a + s % 200 - 100) % 43200
def naL (m : Nat) (a s0 s1 s2 s3 : Int) : List (Int × Int) := [(0 % (m : Int), rdN a s0), (1 % (m : Int), rdN a s1), (2 % (m : Int), rdN a s2), (3 % (m : Int), rdN a s3)]
def loN (a : Int) : Int := if 0 < a - 100 then a - 100 else 0
def naN (x : Tw) (s0 s1 s2 s3 : Int) : Nt := ⟨twW x, naL (twN x) x.t s0 s1 s2 s3, loN x.t, x.t + 100, x.w0 - 128, x.w0 - 128 + x.w1 % 100⟩
theorem na_ok {x : Tw} (hx : TwOk x) (s0 s1 s2 s3 : Int) : NtOk (naN x s0 s1 s2 s3) := by
  have hl : (twW x).faces.length = twN x := twF_len x _
  obtain ⟨p1, p2⟩ := twN_bd x
  have w0 := hx.w0
  have w1 := hx.w1
  have t1 := hx.t
  have hlo : 0 ≤ loN x.t ∧ loN x.t ≤ x.t ∧ x.t - 100 ≤ loN x.t := by unfold loN; split <;> omega
  refine ⟨tw_ok hx, by show 4 ≤ 20; decide, fun y hy => ?_, hlo.1, by show loN x.t ≤ x.t + 100; omega, by show x.t + 100 ≤ 3155760000; omega, by show x.t + 100 - loN x.t ≤ 7200; omega, by show -10000 ≤ x.w0 - 128; omega, by show x.w0 - 128 ≤ x.w0 - 128 + x.w1 % 100; omega, by show x.w0 - 128 + x.w1 % 100 ≤ 10000; omega⟩
  show (0 ≤ y.1 ∧ y.1.toNat < (twW x).faces.length) ∧ _
  rw [hl]
  have hy : y ∈ naL (twN x) x.t s0 s1 s2 s3 := hy
  have hm : ∀ i : Int, 0 ≤ i % (twN x : Int) ∧ i % (twN x : Int) < twN x := fun i => ⟨Int.emod_nonneg i (by omega), Int.emod_lt_of_pos i (by omega)⟩
  have q0 := hm 0
  have q1 := hm 1
  have q2 := hm 2
  have q3 := hm 3
  simp only [naL, List.mem_cons, List.not_mem_nil, or_false] at hy
  rcases hy with rfl | rfl | rfl | rfl
  all_goals (simp only [rdN]; omega)
structure NarW (x : Tw) (v : Dw) (glo ghi : Int) : Prop where
  nar : Nar (twW x) v (x.w0 - 128) (x.w0 - 128 + x.w1 % 100) glo ghi
  ok : dwB v = true
  len : DwLen v
theorem nar_nt {x : Tw} {v : Dw} {glo ghi : Int} (hx : TwOk x) (h : NarW x v glo ghi) (s0 s1 s2 s3 : Int) : NtOk (narN (naN x s0 s1 s2 s3) v glo ghi) := by
  have ok := na_ok hx s0 s1 s2 s3
  have w0 := hx.w0
  have w1 := hx.w1
  have q1 := h.nar.w1
  have q2 := h.nar.w2
  have q3 := h.nar.w3
  refine ⟨h.ok, ok.len, fun y hy => ?_, ok.n1, ok.n2, ok.n3, ok.n4, by show -10000 ≤ glo; omega, q2, by show ghi ≤ 10000; omega⟩
  have := ok.rd y hy
  show (0 ≤ y.1 ∧ y.1.toNat < v.faces.length) ∧ _
  rw [h.nar.n]
  exact this
def bxS (a b : Int) : Blk := .box 23 [.c (I a), .c (I b)]
attribute [simp] bxS
set_option maxHeartbeats 8000000 in
set_option maxRecDepth 100000 in
theorem lNarRest (x : Tw) (hx : TwOk x) (s0 s1 s2 s3 : Int) (hs0 : 0 ≤ s0 ∧ s0 ≤ 65535) (hs1 : 0 ≤ s1 ∧ s1 ≤ 65535) (hs2 : 0 ≤ s2 ∧ s2 ≤ 65535) (hs3 : 0 ≤ s3 ∧ s3 ≤ 65535) (i : Nat) (hi : i < twN x) (v : Dw) (glo ghi : Int) (hv : NarW x v glo ghi) :
    STri (cfF Try.prog fresh 363) g_turretlaw04_DialNarrow_116 [(5, .ptr 5 0), (7, .ptr 7 0), (8, .c (I x.t)), (9, .ptr 9 0), (10, .ptr 10 0), (11, .ptr 11 0), (12, .c (I i))]
      [(5, .box 86 [.c (U16 s0), .c (U16 s1), .c (U16 s2), .c (U16 s3)]), (7, bxW (twW x)), (9, bxS (x.w0 - 128) (x.w0 - 128 + x.w1 % 100)), (10, bxW v), (11, bxS glo ghi)] (retQ rs_turretlaw04_DialNarrow (B true)) := by
  obtain ⟨p1, p2⟩ := twN_bd x
  have hl : (twW x).faces.length = twN x := twF_len x _
  have t1 := hx.t
  have w0 := hx.w0
  have w1 := hx.w1
  have hw := tw_len hx
  have a2 := sKnown
  have hvl := hv.len
  have q1 := hv.nar.w1
  have q2 := hv.nar.w2
  have q3 := hv.nar.w3
  have c5 := lWorks (twW x) hw
  have c6 := lWorks v hvl
  have h1 := tw_look hx hi t1.1 (by omega)
  have h2 : lookErr v i x.t glo ghi = 0 := by
    have hq : inB 0 ((v.faces.length : Int) - 1) i = true := by rw [hv.nar.n, hl]; simp [inB]; omega
    have hq2 : inB 0 3155760000 x.t = true := by simp [inB]; omega
    have hq3 : spanB (-10000) 10000 glo ghi = true := by
      simp only [spanB, Bool.and_eq_true]
      exact ⟨⟨decide_eq_true (by omega), decide_eq_true (by omega)⟩, decide_eq_true (by omega)⟩
    simp [lookErr, hv.ok, hq, hq2, hq3]
  obtain ⟨o1, o2⟩ := nar_off hv.nar (look_sm h1) (look_sm h2)
  have c7 := sOff (twW x) hw i x.t (x.w0 - 128) (x.w0 - 128 + x.w1 % 100)
  have c8 := sOff v hvl i x.t glo ghi
  unfold rOff at c7 c8
  rw [if_pos h1] at c7
  rw [if_pos h2] at c8
  generalize offLo (lookOf (twW x) i x.t (x.w0 - 128) (x.w0 - 128 + x.w1 % 100)) = y1 at *
  generalize offHi (lookOf (twW x) i x.t (x.w0 - 128) (x.w0 - 128 + x.w1 % 100)) = y2 at *
  generalize offLo (lookOf v i x.t glo ghi) = y3 at *
  generalize offHi (lookOf v i x.t glo ghi) = y4 at *
  have z1 : ¬ y3 < y1 := by omega
  have z2 : ¬ y2 < y4 := by omega
  -- the readings
  have ok := na_ok hx s0 s1 s2 s3
  have okv := nar_nt hx hv s0 s1 s2 s3
  have ok3 := few_ok ok 3
  have T4 := sTimes (naN x s0 s1 s2 s3) hw (by show 4 ≤ 1000000; decide)
  have T3 := sTimes (fewN (naN x s0 s1 s2 s3) 3) hw (by show 3 ≤ 1000000; decide)
  unfold rTimes at T4 T3
  rw [if_pos (nt_of ok)] at T4
  rw [if_pos (nt_of ok3)] at T3
  have P1 := sPairs (naN x s0 s1 s2 s3) hw (by show 4 ≤ 1000000; decide) (prRaw_le (by show 4 ≤ 5; decide))
  have P2 := sPairs (narN (naN x s0 s1 s2 s3) v glo ghi) hvl (by show 4 ≤ 1000000; decide) (prRaw_le (by show 4 ≤ 5; decide))
  unfold rPairs at P1 P2
  rw [if_pos (nt_of ok), ← pairs_eq] at P1
  rw [if_pos (nt_of okv), ← pairs_eq] at P2
  have hpq := nar_pairs ok hv.ok hv.nar
  have hps := rpO_sorted (naN x s0 s1 s2 s3) (naN x s0 s1 s2 s3).l.length
  have hqs := rpO_sorted (narN (naN x s0 s1 s2 s3) v glo ghi) (naN x s0 s1 s2 s3).l.length
  have hpl := rpO_len (naN x s0 s1 s2 s3) (naN x s0 s1 s2 s3).l.length
  have hql := rpO_len (narN (naN x s0 s1 s2 s3) v glo ghi) (naN x s0 s1 s2 s3).l.length
  change _ ≤ 4 * 4 at hpl hql
  change SC _ _ _ (.tup [slS (rpO (narN (naN x s0 s1 s2 s3) v glo ghi) (naN x s0 s1 s2 s3).l.length), I 0]) at P2
  have hpm : ∀ y ∈ rpO (naN x s0 s1 s2 s3) (naN x s0 s1 s2 s3).l.length, (0 ≤ y.1 ∧ y.1 ≤ 4) ∧ 0 ≤ y.2 ∧ y.2 ≤ 4 := fun y hy => by
    obtain ⟨a, b, r1, r2, _, _, rfl⟩ := mem_rpO.1 hy
    change a < 4 at r1
    change b < 4 at r2
    simp only; omega
  generalize rpO (naN x s0 s1 s2 s3) (naN x s0 s1 s2 s3).l.length = p at *
  generalize rpO (narN (naN x s0 s1 s2 s3) v glo ghi) (naN x s0 s1 s2 s3).l.length = q at *
  obtain ⟨tl1, _, tl3, tl4⟩ := timL_fine ok
  obtain ⟨um1, _, um3, um4⟩ := timL_fine ok3
  have hin := few_in ok 3
  have hnil := few_nil ok 3
  have usm : SmS (timL (fewN (naN x s0 s1 s2 s3) 3)) := fun y hy => by
    have h1 := um3 y hy
    have h2 := um1.2 y hy
    have h3 : loN x.t ≤ y.1 := h1.1
    have h4 : y.2 ≤ x.t + 100 := h1.2
    have h5 : 0 ≤ loN x.t := ok.n1
    omega
  have tsm : ∀ y ∈ timL (naN x s0 s1 s2 s3), (-1000 ≤ y.1 ∧ y.1 ≤ 100000) ∧ -1000 ≤ y.2 ∧ y.2 ≤ 100000 := fun y hy => by
    have h1 := tl3 y hy
    have h2 := tl1.2 y hy
    have h3 : loN x.t ≤ y.1 := h1.1
    have h4 : y.2 ≤ x.t + 100 := h1.2
    have h5 : 0 ≤ loN x.t := ok.n1
    omega
  have hI : ∀ n, SC Try.prog 29 [I n, slS (timL (fewN (naN x s0 s1 s2 s3) 3))] (B (memB (timL (fewN (naN x s0 s1 s2 s3) 3)) n)) := fun n => lInside n _ um1 usm (by omega)
  have hnil4 : timRaw (naN x s0 s1 s2 s3) = [] → timL (naN x s0 s1 s2 s3) = [] := fun h => by unfold timL; rw [h]; simp [joinL, joinK]
  have hnil3 : timRaw (fewN (naN x s0 s1 s2 s3) 3) = [] → timL (fewN (naN x s0 s1 s2 s3) 3) = [] := fun h => by unfold timL; rw [h]; simp [joinL, joinK]
  obtain ⟨er4, er3, he4, he3, he43, T4', T3'⟩ : ∃ er4 er3 : Int, (er4 = 0 ∨ er4 = 7) ∧ (er3 = 0 ∨ er3 = 7) ∧ (er4 = 0 → er3 = 0) ∧
      SC Try.prog 31 [cDw (twW x), slS (naL (twN x) x.t s0 s1 s2 s3), cS (loN x.t) (x.t + 100), cS (x.w0 - 128) (x.w0 - 128 + x.w1 % 100)] (.tup [slS (timL (naN x s0 s1 s2 s3)), I er4]) ∧
      SC Try.prog 31 [cDw (twW x), slS ((naL (twN x) x.t s0 s1 s2 s3).take 3), cS (loN x.t) (x.t + 100), cS (x.w0 - 128) (x.w0 - 128 + x.w1 % 100)] (.tup [slS (timL (fewN (naN x s0 s1 s2 s3) 3)), I er3]) := by
    by_cases r3 : timRaw (fewN (naN x s0 s1 s2 s3) 3) = []
    · have r4 := hnil r3
      rw [if_pos r3] at T3
      rw [if_pos r4] at T4
      rw [hnil4 r4, hnil3 r3]
      exact ⟨7, 7, .inr rfl, .inr rfl, fun h => by omega, T4, T3⟩
    · rw [if_neg r3] at T3
      by_cases r4 : timRaw (naN x s0 s1 s2 s3) = []
      · rw [if_pos r4] at T4
        rw [hnil4 r4]
        exact ⟨7, 0, .inr rfl, .inl rfl, fun h => rfl, T4, T3⟩
      · rw [if_neg r4] at T4
        exact ⟨0, 0, .inl rfl, .inl rfl, fun h => rfl, T4, T3⟩
  have hin1 : ∀ y ∈ timL (naN x s0 s1 s2 s3), memB (timL (fewN (naN x s0 s1 s2 s3) 3)) y.1 = true ∧ memB (timL (fewN (naN x s0 s1 s2 s3) 3)) y.2 = true := fun y hy => ⟨memB_iff.2 (hin y hy).1, memB_iff.2 (hin y hy).2⟩
  have P1 : SC Try.prog 33 [cDw (twW x), slS (naL (twN x) x.t s0 s1 s2 s3), cS (loN x.t) (x.t + 100), cS (x.w0 - 128) (x.w0 - 128 + x.w1 % 100)] (.tup [slS p, I 0]) := P1
  have P2 : SC Try.prog 33 [cDw v, slS (naL (twN x) x.t s0 s1 s2 s3), cS (loN x.t) (x.t + 100), cS glo ghi] (.tup [slS q, I 0]) := P2
  have l1 := lReadings (naL (twN x) x.t s0 s1 s2 s3) (by show 4 ≤ 1000000; decide)
  have l2 := lReadings ((naL (twN x) x.t s0 s1 s2 s3).take 3) (by show 3 ≤ 1000000; decide)
  have l3 := lSpan (loN x.t) (x.t + 100)
  have hlo : (if 0 < x.t - 100 then x.t - 100 else 0) = loN x.t := rfl
  have hlob : 0 ≤ loN x.t ∧ loN x.t ≤ x.t := by unfold loN; split <;> omega
  generalize timL (naN x s0 s1 s2 s3) = tl at *
  generalize timL (fewN (naN x s0 s1 s2 s3) 3) = um at *
  clear T4 T3 ok okv ok3 tl1 tl3 um1 um3 hin hnil usm hnil4 hnil3 h1 h2
  have hnv := hv.nar.n
  generalize hW : twW x = W at *
  generalize hA : x.t = A at *
  generalize hlA : loN A = LA at *
  (repeat' (first | ((first | with_reducible refine st_skip ?_ | with_reducible refine st_exit ?_); (try simp only [seqQ, blockQ, loopQ, forQ, whileQ, reduceIte, Nat.reduceEqDiff])) | (with_reducible refine st_ret ?_; ((try simp only [seqQ, blockQ, loopQ, forQ, whileQ]); first | (with_reducible refine retM_ret ?_) | refine retQ_ret ?_; simp [z1, z2])) | refine st_seq ?_ | refine st_block ?_ | ((first | refine st_reg ?_ | refine buildP_own ?_ | ((with_reducible show callGP _ _ _ _ _ _ _); refine callG_b (c5) ?hcc ?hpp ?_; (case hcc => (first | rfl | (simp <;> fail))); (case hpp => (first | rfl | (simp <;> fail)))) | ((with_reducible show callGP _ _ _ _ _ _ _); refine callG_b (c6) ?hcc ?hpp ?_; (case hcc => (first | rfl | (simp <;> fail))); (case hpp => (first | rfl | (simp <;> fail)))) | ((with_reducible show callGP _ _ _ _ _ _ _); refine callG_b (c7) ?hcc ?hpp ?_; (case hcc => (first | rfl | (simp <;> fail))); (case hpp => (first | rfl | (simp <;> fail)))) | ((with_reducible show callGP _ _ _ _ _ _ _); refine callG_b (c8) ?hcc ?hpp ?_; (case hcc => (first | rfl | (simp <;> fail))); (case hpp => (first | rfl | (simp <;> fail)))) | refine callP_b (c5) rfl ?_ | refine callP_b (c6) rfl ?_ | refine callP_b (c7) rfl ?_ | refine callP_b (c8) rfl ?_) <;> (simp -dsimp [z1, z2]; (repeat (simp -dsimp (disch := (first | omega | assumption | (refine Bool.eq_false_iff.1 ?_; assumption))) only [wrap_in, if_pos, if_neg]; (try simp -dsimp [z1, z2]))))) | ((first | refine guardP_of (fun hc => ?_) (fun hc => ?_) | refine st_cond rfl (fun hc => ?_) (fun hc => ?_)) <;> (try simp only [decide_eq_true_eq, decide_eq_false_iff_not, Bool.true_eq_false, Bool.false_eq_true, bne_iff_ne, ne_eq, bne_eq_false_iff_eq, beq_iff_eq, beq_eq_false_iff_ne, Bool.not_eq_true, Bool.not_eq_false, Bool.not_eq_eq_eq_not, Bool.not_true, Bool.not_false, Decidable.not_not] at hc) <;> (try (exfalso; first | omega | exact bool_tf hc (by assumption) | exact bool_ft hc (by assumption) | exact absurd (by assumption) hc)) <;> (first | with_reducible show STri _ _ _ _ _ _ | (simp -dsimp [z1, z2, hc]; (repeat (simp -dsimp (disch := (first | omega | assumption | (refine Bool.eq_false_iff.1 ?_; assumption))) only [wrap_in, if_pos, if_neg]; (try simp -dsimp [z1, z2, hc]))))))))
  have hlen4 : (naL (twN x) A s0 s1 s2 s3).length = 4 := rfl
  refine st_for [5, 7, 9, 10, 11, 174] 4 (fun m T H => T = [(5, .ptr 5 0), (7, .ptr 7 0), (8, .c (I A)), (9, .ptr 9 0), (10, .ptr 10 0), (11, .ptr 11 0), (17, .own 174 m), (18, .c (I m))] ∧
    H = [(5, .box 86 [.c (U16 s0), .c (U16 s1), .c (U16 s2), .c (U16 s3)]), (7, bxW W), (9, bxS (x.w0 - 128) (x.w0 - 128 + x.w1 % 100)), (10, bxW v), (11, bxS glo ghi), (174, .arr 70 2 (((naL (twN x) A s0 s1 s2 s3).take m).map rowS))]) (by simp) ⟨by simp, by simp⟩ ?_
  rintro m T H hm ⟨rfl, rfl⟩
  have hnz : ¬ (twN x : Int) = 0 := by omega
  have hnz2 : ¬ twN x = 0 := by omega
  have hmd : ∀ k : Int, 0 ≤ k → k.tmod (twN x) = k % (twN x : Int) := fun k hk => Int.tmod_eq_emod_of_nonneg hk
  have m0 := hmd 0 (by decide)
  have m1 := hmd 1 (by decide)
  have m2 := hmd 2 (by decide)
  have m3 := hmd 3 (by decide)
  have u0 : s0.tmod 200 = s0 % 200 := Int.tmod_eq_emod_of_nonneg hs0.1
  have u1 : s1.tmod 200 = s1 % 200 := Int.tmod_eq_emod_of_nonneg hs1.1
  have u2 : s2.tmod 200 = s2 % 200 := Int.tmod_eq_emod_of_nonneg hs2.1
  have u3 : s3.tmod 200 = s3 % 200 := Int.tmod_eq_emod_of_nonneg hs3.1
  have hr : ∀ s : Int, 0 ≤ s → SC Try.prog 28 [I (A + s % 200 - 100), I 43200] (I (rdN A s)) := fun s hs => lRest (A + s % 200 - 100) 43200 (by omega) (by omega) (by decide) (by decide)
  have r0 := hr s0 hs0.1
  have r1 := hr s1 hs1.1
  have r2 := hr s2 hs2.1
  have r3 := hr s3 hs3.1
  have hz0 : (0 : Int) % (twN x : Int) = 0 := Int.zero_emod _
  by_cases hm0 : m = 0
  · subst hm0
    (repeat' (first | ((first | with_reducible refine st_skip ?_ | with_reducible refine st_exit ?_); (try simp only [seqQ, blockQ, loopQ, forQ, whileQ, reduceIte, Nat.reduceEqDiff])) | (with_reducible refine st_ret ?_; ((try simp only [seqQ, blockQ, loopQ, forQ, whileQ]); first | (with_reducible refine retM_ret ?_) | refine retQ_ret ?_; simp [hl, u0, hnz, hnz2, m0])) | refine st_seq ?_ | refine st_block ?_ | ((first | refine st_reg ?_ | refine buildP_own ?_ | refine callP_b (r0) rfl ?_) <;> (simp -dsimp [hl, u0, hnz, hnz2, m0]; (repeat (simp -dsimp (disch := (first | omega | assumption | (refine Bool.eq_false_iff.1 ?_; assumption))) only [wrap_in, if_pos, if_neg]; (try simp -dsimp [hl, u0, hnz, hnz2, m0]))))) | ((first | refine guardP_of (fun hc => ?_) (fun hc => ?_) | refine st_cond rfl (fun hc => ?_) (fun hc => ?_)) <;> (try simp only [decide_eq_true_eq, decide_eq_false_iff_not, Bool.true_eq_false, Bool.false_eq_true, bne_iff_ne, ne_eq, bne_eq_false_iff_eq, beq_iff_eq, beq_eq_false_iff_ne, Bool.not_eq_true, Bool.not_eq_false, Bool.not_eq_eq_eq_not, Bool.not_true, Bool.not_false, Decidable.not_not] at hc) <;> (try (exfalso; first | omega | exact bool_tf hc (by assumption) | exact bool_ft hc (by assumption) | exact absurd (by assumption) hc)) <;> (first | with_reducible show STri _ _ _ _ _ _ | (simp -dsimp [hl, u0, hnz, hnz2, m0, hc]; (repeat (simp -dsimp (disch := (first | omega | assumption | (refine Bool.eq_false_iff.1 ?_; assumption))) only [wrap_in, if_pos, if_neg]; (try simp -dsimp [hl, u0, hnz, hnz2, m0, hc]))))))))
    all_goals exact ⟨by omega, by simp, by simp [hlen4], by simp [naL]⟩
  by_cases hm1 : m = 1
  · subst hm1
    (repeat' (first | ((first | with_reducible refine st_skip ?_ | with_reducible refine st_exit ?_); (try simp only [seqQ, blockQ, loopQ, forQ, whileQ, reduceIte, Nat.reduceEqDiff])) | (with_reducible refine st_ret ?_; ((try simp only [seqQ, blockQ, loopQ, forQ, whileQ]); first | (with_reducible refine retM_ret ?_) | refine retQ_ret ?_; simp [hl, u1, hnz, hnz2, m1])) | refine st_seq ?_ | refine st_block ?_ | ((first | refine st_reg ?_ | refine buildP_own ?_ | refine callP_b (r1) rfl ?_) <;> (simp -dsimp [hl, u1, hnz, hnz2, m1]; (repeat (simp -dsimp (disch := (first | omega | assumption | (refine Bool.eq_false_iff.1 ?_; assumption))) only [wrap_in, if_pos, if_neg]; (try simp -dsimp [hl, u1, hnz, hnz2, m1]))))) | ((first | refine guardP_of (fun hc => ?_) (fun hc => ?_) | refine st_cond rfl (fun hc => ?_) (fun hc => ?_)) <;> (try simp only [decide_eq_true_eq, decide_eq_false_iff_not, Bool.true_eq_false, Bool.false_eq_true, bne_iff_ne, ne_eq, bne_eq_false_iff_eq, beq_iff_eq, beq_eq_false_iff_ne, Bool.not_eq_true, Bool.not_eq_false, Bool.not_eq_eq_eq_not, Bool.not_true, Bool.not_false, Decidable.not_not] at hc) <;> (try (exfalso; first | omega | exact bool_tf hc (by assumption) | exact bool_ft hc (by assumption) | exact absurd (by assumption) hc)) <;> (first | with_reducible show STri _ _ _ _ _ _ | (simp -dsimp [hl, u1, hnz, hnz2, m1, hc]; (repeat (simp -dsimp (disch := (first | omega | assumption | (refine Bool.eq_false_iff.1 ?_; assumption))) only [wrap_in, if_pos, if_neg]; (try simp -dsimp [hl, u1, hnz, hnz2, m1, hc]))))))))
    all_goals exact ⟨by omega, by simp, by simp [hlen4], by simp [naL]⟩
  by_cases hm2 : m = 2
  · subst hm2
    (repeat' (first | ((first | with_reducible refine st_skip ?_ | with_reducible refine st_exit ?_); (try simp only [seqQ, blockQ, loopQ, forQ, whileQ, reduceIte, Nat.reduceEqDiff])) | (with_reducible refine st_ret ?_; ((try simp only [seqQ, blockQ, loopQ, forQ, whileQ]); first | (with_reducible refine retM_ret ?_) | refine retQ_ret ?_; simp [hl, u2, hnz, hnz2, m2])) | refine st_seq ?_ | refine st_block ?_ | ((first | refine st_reg ?_ | refine buildP_own ?_ | refine callP_b (r2) rfl ?_) <;> (simp -dsimp [hl, u2, hnz, hnz2, m2]; (repeat (simp -dsimp (disch := (first | omega | assumption | (refine Bool.eq_false_iff.1 ?_; assumption))) only [wrap_in, if_pos, if_neg]; (try simp -dsimp [hl, u2, hnz, hnz2, m2]))))) | ((first | refine guardP_of (fun hc => ?_) (fun hc => ?_) | refine st_cond rfl (fun hc => ?_) (fun hc => ?_)) <;> (try simp only [decide_eq_true_eq, decide_eq_false_iff_not, Bool.true_eq_false, Bool.false_eq_true, bne_iff_ne, ne_eq, bne_eq_false_iff_eq, beq_iff_eq, beq_eq_false_iff_ne, Bool.not_eq_true, Bool.not_eq_false, Bool.not_eq_eq_eq_not, Bool.not_true, Bool.not_false, Decidable.not_not] at hc) <;> (try (exfalso; first | omega | exact bool_tf hc (by assumption) | exact bool_ft hc (by assumption) | exact absurd (by assumption) hc)) <;> (first | with_reducible show STri _ _ _ _ _ _ | (simp -dsimp [hl, u2, hnz, hnz2, m2, hc]; (repeat (simp -dsimp (disch := (first | omega | assumption | (refine Bool.eq_false_iff.1 ?_; assumption))) only [wrap_in, if_pos, if_neg]; (try simp -dsimp [hl, u2, hnz, hnz2, m2, hc]))))))))
    all_goals exact ⟨by omega, by simp, by simp [hlen4], by simp [naL]⟩
  by_cases hm3 : m = 3
  · subst hm3
    (repeat' (first | ((first | with_reducible refine st_skip ?_ | with_reducible refine st_exit ?_); (try simp only [seqQ, blockQ, loopQ, forQ, whileQ, reduceIte, Nat.reduceEqDiff])) | (with_reducible refine st_ret ?_; ((try simp only [seqQ, blockQ, loopQ, forQ, whileQ]); first | (with_reducible refine retM_ret ?_) | refine retQ_ret ?_; simp [hl, u3, hnz, hnz2, m3])) | refine st_seq ?_ | refine st_block ?_ | ((first | refine st_reg ?_ | refine buildP_own ?_ | refine callP_b (r3) rfl ?_) <;> (simp -dsimp [hl, u3, hnz, hnz2, m3]; (repeat (simp -dsimp (disch := (first | omega | assumption | (refine Bool.eq_false_iff.1 ?_; assumption))) only [wrap_in, if_pos, if_neg]; (try simp -dsimp [hl, u3, hnz, hnz2, m3]))))) | ((first | refine guardP_of (fun hc => ?_) (fun hc => ?_) | refine st_cond rfl (fun hc => ?_) (fun hc => ?_)) <;> (try simp only [decide_eq_true_eq, decide_eq_false_iff_not, Bool.true_eq_false, Bool.false_eq_true, bne_iff_ne, ne_eq, bne_eq_false_iff_eq, beq_iff_eq, beq_eq_false_iff_ne, Bool.not_eq_true, Bool.not_eq_false, Bool.not_eq_eq_eq_not, Bool.not_true, Bool.not_false, Decidable.not_not] at hc) <;> (try (exfalso; first | omega | exact bool_tf hc (by assumption) | exact bool_ft hc (by assumption) | exact absurd (by assumption) hc)) <;> (first | with_reducible show STri _ _ _ _ _ _ | (simp -dsimp [hl, u3, hnz, hnz2, m3, hc]; (repeat (simp -dsimp (disch := (first | omega | assumption | (refine Bool.eq_false_iff.1 ?_; assumption))) only [wrap_in, if_pos, if_neg]; (try simp -dsimp [hl, u3, hnz, hnz2, m3, hc]))))))))
    all_goals exact ⟨by omega, by simp, by simp [hlen4], by simp [naL]⟩
  have hm4 : m = 4 := by omega
  subst hm4
  have htk : (naL (twN x) A s0 s1 s2 s3).take 4 = naL (twN x) A s0 s1 s2 s3 := rfl
  rw [htk]
  have hmt : List.take 3 (List.map rowS (naL (twN x) A s0 s1 s2 s3)) = List.map rowS ((naL (twN x) A s0 s1 s2 s3).take 3) := List.map_take.symm
  generalize naL (twN x) A s0 s1 s2 s3 = rl at *
  generalize rl.take 3 = rl3 at *
  clear r0 r1 r2 r3 hr u0 u1 u2 u3 m0 m1 m2 m3 hmd c7 c8 hm0 hm1 hm2 hm3
  refine st_shut1 174 rfl (by simp [dropOK, dropK]) (by simp [ClosO, ownS, dropK, SV.outD, hlen4]) (by simp [ShutH, ShutB, ownL, ownS, dropK, SV.outD, outDL, Blk.outD]) ?_
  simp
  have hlo' : (if (100 : Int) < A then A - 100 else 0) = LA := by rw [← hlo]; split <;> split <;> omega
  have e1 : ¬ (¬ er4 = 0 ∧ ¬ er4 = 7) := by omega
  have e2 : ¬ (¬ er3 = 0 ∧ ¬ er3 = 7) := by omega
  have e3 : ¬ (er4 = 0 ∧ ¬ er3 = 0) := by omega
  (repeat' (first | ((first | with_reducible refine st_skip ?_ | with_reducible refine st_exit ?_); (try simp only [seqQ, blockQ, loopQ, forQ, whileQ, reduceIte, Nat.reduceEqDiff])) | (with_reducible refine st_ret ?_; ((try simp only [seqQ, blockQ, loopQ, forQ, whileQ]); first | (with_reducible refine retM_ret ?_) | refine retQ_ret ?_; simp [hlo, hlo', hlen4, hmt, e1, e2, e3])) | refine st_seq ?_ | refine st_block ?_ | ((first | refine st_reg ?_ | refine buildP_own ?_ | ((with_reducible show callGP _ _ _ _ _ _ _); refine callG_b (c5) ?hcc ?hpp ?_; (case hcc => (first | rfl | (simp <;> fail))); (case hpp => (first | rfl | (simp <;> fail)))) | ((with_reducible show callGP _ _ _ _ _ _ _); refine callG_b (c6) ?hcc ?hpp ?_; (case hcc => (first | rfl | (simp <;> fail))); (case hpp => (first | rfl | (simp <;> fail)))) | ((with_reducible show callGP _ _ _ _ _ _ _); refine callG_b (l1) ?hcc ?hpp ?_; (case hcc => (first | rfl | (simp <;> fail))); (case hpp => (first | rfl | (simp <;> fail)))) | ((with_reducible show callGP _ _ _ _ _ _ _); refine callG_b (l2) ?hcc ?hpp ?_; (case hcc => (first | rfl | (simp <;> fail))); (case hpp => (first | rfl | (simp <;> fail)))) | ((with_reducible show callGP _ _ _ _ _ _ _); refine callG_b (l3) ?hcc ?hpp ?_; (case hcc => (first | rfl | (simp <;> fail))); (case hpp => (first | rfl | (simp <;> fail)))) | ((with_reducible show callGP _ _ _ _ _ _ _); refine callG_b (T4') ?hcc ?hpp ?_; (case hcc => (first | rfl | (simp <;> fail))); (case hpp => (first | rfl | (simp <;> fail)))) | ((with_reducible show callGP _ _ _ _ _ _ _); refine callG_b (T3') ?hcc ?hpp ?_; (case hcc => (first | rfl | (simp <;> fail))); (case hpp => (first | rfl | (simp <;> fail)))) | refine callP_b (c5) rfl ?_ | refine callP_b (c6) rfl ?_ | refine callP_b (l1) rfl ?_ | refine callP_b (l2) rfl ?_ | refine callP_b (l3) rfl ?_ | refine callP_b (T4') rfl ?_ | refine callP_b (T3') rfl ?_) <;> (simp -dsimp [hlo, hlo', hlen4, hmt, e1, e2, e3]; (repeat (simp -dsimp (disch := (first | omega | assumption | (refine Bool.eq_false_iff.1 ?_; assumption))) only [wrap_in, if_pos, if_neg]; (try simp -dsimp [hlo, hlo', hlen4, hmt, e1, e2, e3]))))) | ((first | refine guardP_of (fun hc => ?_) (fun hc => ?_) | refine st_cond rfl (fun hc => ?_) (fun hc => ?_)) <;> (try simp only [decide_eq_true_eq, decide_eq_false_iff_not, Bool.true_eq_false, Bool.false_eq_true, bne_iff_ne, ne_eq, bne_eq_false_iff_eq, beq_iff_eq, beq_eq_false_iff_ne, Bool.not_eq_true, Bool.not_eq_false, Bool.not_eq_eq_eq_not, Bool.not_true, Bool.not_false, Decidable.not_not] at hc) <;> (try (exfalso; first | omega | exact bool_tf hc (by assumption) | exact bool_ft hc (by assumption) | exact absurd (by assumption) hc)) <;> (first | with_reducible show STri _ _ _ _ _ _ | (simp -dsimp [hlo, hlo', hlen4, hmt, e1, e2, e3, hc]; (repeat (simp -dsimp (disch := (first | omega | assumption | (refine Bool.eq_false_iff.1 ?_; assumption))) only [wrap_in, if_pos, if_neg]; (try simp -dsimp [hlo, hlo', hlen4, hmt, e1, e2, e3, hc]))))))))
  all_goals
    clear e1 e2 e3 he4 he3 he43 T4' T3'
    refine st_for [7, 9, 10, 11, 19] tl.length (fun m T H => T = [(7, .ptr 7 0), (9, .ptr 9 0), (10, .ptr 10 0), (11, .ptr 11 0), (17, .c (.sl 2 (rl.map rowS))), (19, .ptr 19 0), (20, .c (.sl 2 (tl.map rowS))), (22, .c (.sl 2 (um.map rowS))), (24, .c (I m))] ∧
      H = [(7, bxW W), (9, bxS (x.w0 - 128) (x.w0 - 128 + x.w1 % 100)), (10, bxW v), (11, bxS glo ghi), (19, bxS LA (A + 100))]) (by simp) ⟨by simp, by simp⟩ ?_
    rintro m T H hm ⟨rfl, rfl⟩
    by_cases hmt : m < tl.length
    · have hgr : ∀ h : m < (tl.map rowS).length, (tl.map rowS)[m]'h = rowS tl[m] := fun h => by simp
      have hi1 := hI tl[m].1
      have hi2 := hI tl[m].2
      obtain ⟨g1, g2⟩ := hin1 _ (List.getElem_mem hmt)
      rw [g1] at hi1
      rw [g2] at hi2
      generalize tl[m] = y at *
      (repeat' (first | ((first | with_reducible refine st_skip ?_ | with_reducible refine st_exit ?_); (try simp only [seqQ, blockQ, loopQ, forQ, whileQ, reduceIte, Nat.reduceEqDiff])) | (with_reducible refine st_ret ?_; ((try simp only [seqQ, blockQ, loopQ, forQ, whileQ]); first | (with_reducible refine retM_ret ?_) | refine retQ_ret ?_; simp [hmt, hgr])) | refine st_seq ?_ | refine st_block ?_ | ((first | refine st_reg ?_ | refine buildP_own ?_ | refine callP_b (hi1) rfl ?_ | refine callP_b (hi2) rfl ?_) <;> (simp -dsimp [hmt, hgr]; (repeat (simp -dsimp (disch := (first | omega | assumption | (refine Bool.eq_false_iff.1 ?_; assumption))) only [wrap_in, if_pos, if_neg]; (try simp -dsimp [hmt, hgr]))))) | ((first | refine guardP_of (fun hc => ?_) (fun hc => ?_) | refine st_cond rfl (fun hc => ?_) (fun hc => ?_)) <;> (try simp only [decide_eq_true_eq, decide_eq_false_iff_not, Bool.true_eq_false, Bool.false_eq_true, bne_iff_ne, ne_eq, bne_eq_false_iff_eq, beq_iff_eq, beq_eq_false_iff_ne, Bool.not_eq_true, Bool.not_eq_false, Bool.not_eq_eq_eq_not, Bool.not_true, Bool.not_false, Decidable.not_not] at hc) <;> (try (exfalso; first | omega | exact bool_tf hc (by assumption) | exact bool_ft hc (by assumption) | exact absurd (by assumption) hc)) <;> (first | with_reducible show STri _ _ _ _ _ _ | (simp -dsimp [hmt, hgr, hc]; (repeat (simp -dsimp (disch := (first | omega | assumption | (refine Bool.eq_false_iff.1 ?_; assumption))) only [wrap_in, if_pos, if_neg]; (try simp -dsimp [hmt, hgr, hc]))))))))
      all_goals exact ⟨hmt, by simp, by simp, by simp⟩
    · (repeat' (first | ((first | with_reducible refine st_skip ?_ | with_reducible refine st_exit ?_); (try simp only [seqQ, blockQ, loopQ, forQ, whileQ, reduceIte, Nat.reduceEqDiff])) | (with_reducible refine st_ret ?_; ((try simp only [seqQ, blockQ, loopQ, forQ, whileQ]); first | (with_reducible refine retM_ret ?_) | refine retQ_ret ?_; simp [hmt])) | refine st_seq ?_ | refine st_block ?_ | ((first | refine st_reg ?_ | refine buildP_own ?_ | ((with_reducible show callGP _ _ _ _ _ _ _); refine callG_b (c5) ?hcc ?hpp ?_; (case hcc => (first | rfl | (simp <;> fail))); (case hpp => (first | rfl | (simp <;> fail)))) | ((with_reducible show callGP _ _ _ _ _ _ _); refine callG_b (c6) ?hcc ?hpp ?_; (case hcc => (first | rfl | (simp <;> fail))); (case hpp => (first | rfl | (simp <;> fail)))) | ((with_reducible show callGP _ _ _ _ _ _ _); refine callG_b (l1) ?hcc ?hpp ?_; (case hcc => (first | rfl | (simp <;> fail))); (case hpp => (first | rfl | (simp <;> fail)))) | ((with_reducible show callGP _ _ _ _ _ _ _); refine callG_b (P1) ?hcc ?hpp ?_; (case hcc => (first | rfl | (simp <;> fail))); (case hpp => (first | rfl | (simp <;> fail)))) | ((with_reducible show callGP _ _ _ _ _ _ _); refine callG_b (P2) ?hcc ?hpp ?_; (case hcc => (first | rfl | (simp <;> fail))); (case hpp => (first | rfl | (simp <;> fail)))) | refine callP_b (c5) rfl ?_ | refine callP_b (c6) rfl ?_ | refine callP_b (l1) rfl ?_ | refine callP_b (P1) rfl ?_ | refine callP_b (P2) rfl ?_) <;> (simp -dsimp [hmt]; (repeat (simp -dsimp (disch := (first | omega | assumption | (refine Bool.eq_false_iff.1 ?_; assumption))) only [wrap_in, if_pos, if_neg]; (try simp -dsimp [hmt]))))) | ((first | refine guardP_of (fun hc => ?_) (fun hc => ?_) | refine st_cond rfl (fun hc => ?_) (fun hc => ?_)) <;> (try simp only [decide_eq_true_eq, decide_eq_false_iff_not, Bool.true_eq_false, Bool.false_eq_true, bne_iff_ne, ne_eq, bne_eq_false_iff_eq, beq_iff_eq, beq_eq_false_iff_ne, Bool.not_eq_true, Bool.not_eq_false, Bool.not_eq_eq_eq_not, Bool.not_true, Bool.not_false, Decidable.not_not] at hc) <;> (try (exfalso; first | omega | exact bool_tf hc (by assumption) | exact bool_ft hc (by assumption) | exact absurd (by assumption) hc)) <;> (first | with_reducible show STri _ _ _ _ _ _ | (simp -dsimp [hmt, hc]; (repeat (simp -dsimp (disch := (first | omega | assumption | (refine Bool.eq_false_iff.1 ?_; assumption))) only [wrap_in, if_pos, if_neg]; (try simp -dsimp [hmt, hc]))))))))
      refine st_for [] p.length (fun k T H => T = [(25, .c (.sl 2 (p.map rowS))), (27, .c (.sl 2 (q.map rowS))), (29, .c (I (atK p q k))), (30, .c (I k))] ∧ H = []) (by simp) ⟨by simp [atK], by simp⟩ ?_
      rintro k T H hk ⟨rfl, rfl⟩
      by_cases hkt : k < p.length
      · obtain ⟨t, hle, hil, hig, hib, hat⟩ : ∃ t, atK p q k ≤ t ∧ t < q.length ∧ (∀ h : t < q.length, q[t]'h = p[k]) ∧ (∀ m (hm : m < q.length), m < t → q[m].1 < p[k].1 ∨ (q[m].1 = p[k].1 ∧ q[m].2 < p[k].2)) ∧ atK p q (k + 1) = t :=
          ⟨q.idxOf p[k], atK_le hpq hps hqs hkt, idx_lt hpq hkt, fun _ => idx_get hpq hkt, fun m h1 h2 => idx_before hpq hqs hkt h2 h1, by simp [atK, hkt]⟩
        have hgp : ∀ h : k < (p.map rowS).length, (p.map rowS)[k]'h = rowS p[k] := fun h => by simp
        have hpk := hpm _ (List.getElem_mem hkt)
        generalize p[k] = y at *
        generalize atK p q k = m at *
        (repeat' (first | ((first | with_reducible refine st_skip ?_ | with_reducible refine st_exit ?_); (try simp only [seqQ, blockQ, loopQ, forQ, whileQ, reduceIte, Nat.reduceEqDiff])) | (with_reducible refine st_ret ?_; ((try simp only [seqQ, blockQ, loopQ, forQ, whileQ]); first | (with_reducible refine retM_ret ?_) | refine retQ_ret ?_; simp [hkt])) | refine st_seq ?_ | refine st_block ?_ | ((first | refine st_reg ?_ | refine buildP_own ?_) <;> (simp -dsimp [hkt]; (repeat (simp -dsimp (disch := (first | omega | assumption | (refine Bool.eq_false_iff.1 ?_; assumption))) only [wrap_in, if_pos, if_neg]; (try simp -dsimp [hkt]))))) | ((first | refine guardP_of (fun hc => ?_) (fun hc => ?_) | refine st_cond rfl (fun hc => ?_) (fun hc => ?_)) <;> (try simp only [decide_eq_true_eq, decide_eq_false_iff_not, Bool.true_eq_false, Bool.false_eq_true, bne_iff_ne, ne_eq, bne_eq_false_iff_eq, beq_iff_eq, beq_eq_false_iff_ne, Bool.not_eq_true, Bool.not_eq_false, Bool.not_eq_eq_eq_not, Bool.not_true, Bool.not_false, Decidable.not_not] at hc) <;> (try (exfalso; first | omega | exact bool_tf hc (by assumption) | exact bool_ft hc (by assumption) | exact absurd (by assumption) hc)) <;> (first | with_reducible show STri _ _ _ _ _ _ | (simp -dsimp [hkt, hc]; (repeat (simp -dsimp (disch := (first | omega | assumption | (refine Bool.eq_false_iff.1 ?_; assumption))) only [wrap_in, if_pos, if_neg]; (try simp -dsimp [hkt, hc]))))))))
        refine st_less [(25, .c (.sl 2 (p.map rowS))), (27, .c (.sl 2 (q.map rowS))), (29, .c (I m)), (30, .c (I k))] [] (by simp [dropOK]) ?_
        refine st_for [] (t - m) (fun j T H => T = [(25, .c (.sl 2 (p.map rowS))), (27, .c (.sl 2 (q.map rowS))), (29, .c (I (m + j : Nat))), (30, .c (I k))] ∧ H = []) (by simp) ⟨by simp, by simp⟩ ?_
        rintro j T H hj ⟨rfl, rfl⟩
        have hmq : m + j < q.length := by omega
        have hmq2 : (m : Int) + j < q.length := by omega
        have hgq : ∀ h : m + j < (q.map rowS).length, (q.map rowS)[m + j]'h = rowS q[m + j] := fun h => by simp
        have htn : ((m : Int) + (j : Int)).toNat = m + j := by omega
        by_cases hjt : j < t - m
        · have hb := hib (m + j) hmq (by omega)
          generalize q[m + j] = z at *
          rcases hb with hb | ⟨hb1, hb2⟩
          · (repeat' (first | ((first | with_reducible refine st_skip ?_ | with_reducible refine st_exit ?_); (try simp only [seqQ, blockQ, loopQ, forQ, whileQ, reduceIte, Nat.reduceEqDiff])) | (with_reducible refine st_ret ?_; ((try simp only [seqQ, blockQ, loopQ, forQ, whileQ]); first | (with_reducible refine retM_ret ?_) | refine retQ_ret ?_; simp [hmq, hmq2, hgq, hkt, hgp, hb, htn])) | refine st_seq ?_ | refine st_block ?_ | ((first | refine st_reg ?_ | refine buildP_own ?_) <;> (simp -dsimp [hmq, hmq2, hgq, hkt, hgp, hb, htn]; (repeat (simp -dsimp (disch := (first | omega | assumption | (refine Bool.eq_false_iff.1 ?_; assumption))) only [wrap_in, if_pos, if_neg]; (try simp -dsimp [hmq, hmq2, hgq, hkt, hgp, hb, htn]))))) | ((first | refine guardP_of (fun hc => ?_) (fun hc => ?_) | refine st_cond rfl (fun hc => ?_) (fun hc => ?_)) <;> (try simp only [decide_eq_true_eq, decide_eq_false_iff_not, Bool.true_eq_false, Bool.false_eq_true, bne_iff_ne, ne_eq, bne_eq_false_iff_eq, beq_iff_eq, beq_eq_false_iff_ne, Bool.not_eq_true, Bool.not_eq_false, Bool.not_eq_eq_eq_not, Bool.not_true, Bool.not_false, Decidable.not_not] at hc) <;> (try (exfalso; first | omega | exact bool_tf hc (by assumption) | exact bool_ft hc (by assumption) | exact absurd (by assumption) hc)) <;> (first | with_reducible show STri _ _ _ _ _ _ | (simp -dsimp [hmq, hmq2, hgq, hkt, hgp, hb, htn, hc]; (repeat (simp -dsimp (disch := (first | omega | assumption | (refine Bool.eq_false_iff.1 ?_; assumption))) only [wrap_in, if_pos, if_neg]; (try simp -dsimp [hmq, hmq2, hgq, hkt, hgp, hb, htn, hc]))))))))
            all_goals exact ⟨hjt, by simp, by simp <;> omega, by simp⟩
          · have hb3 : ¬ z.1 < y.1 := by omega
            (repeat' (first | ((first | with_reducible refine st_skip ?_ | with_reducible refine st_exit ?_); (try simp only [seqQ, blockQ, loopQ, forQ, whileQ, reduceIte, Nat.reduceEqDiff])) | (with_reducible refine st_ret ?_; ((try simp only [seqQ, blockQ, loopQ, forQ, whileQ]); first | (with_reducible refine retM_ret ?_) | refine retQ_ret ?_; simp [hmq, hmq2, hgq, hkt, hgp, hb1, hb2, hb3, htn])) | refine st_seq ?_ | refine st_block ?_ | ((first | refine st_reg ?_ | refine buildP_own ?_) <;> (simp -dsimp [hmq, hmq2, hgq, hkt, hgp, hb1, hb2, hb3, htn]; (repeat (simp -dsimp (disch := (first | omega | assumption | (refine Bool.eq_false_iff.1 ?_; assumption))) only [wrap_in, if_pos, if_neg]; (try simp -dsimp [hmq, hmq2, hgq, hkt, hgp, hb1, hb2, hb3, htn]))))) | ((first | refine guardP_of (fun hc => ?_) (fun hc => ?_) | refine st_cond rfl (fun hc => ?_) (fun hc => ?_)) <;> (try simp only [decide_eq_true_eq, decide_eq_false_iff_not, Bool.true_eq_false, Bool.false_eq_true, bne_iff_ne, ne_eq, bne_eq_false_iff_eq, beq_iff_eq, beq_eq_false_iff_ne, Bool.not_eq_true, Bool.not_eq_false, Bool.not_eq_eq_eq_not, Bool.not_true, Bool.not_false, Decidable.not_not] at hc) <;> (try (exfalso; first | omega | exact bool_tf hc (by assumption) | exact bool_ft hc (by assumption) | exact absurd (by assumption) hc)) <;> (first | with_reducible show STri _ _ _ _ _ _ | (simp -dsimp [hmq, hmq2, hgq, hkt, hgp, hb1, hb2, hb3, htn, hc]; (repeat (simp -dsimp (disch := (first | omega | assumption | (refine Bool.eq_false_iff.1 ?_; assumption))) only [wrap_in, if_pos, if_neg]; (try simp -dsimp [hmq, hmq2, hgq, hkt, hgp, hb1, hb2, hb3, htn, hc]))))))))
            all_goals exact ⟨hjt, by simp, by simp <;> omega, by simp⟩
        · have hjt2 : m + j = t := by omega
          have hz : q[m + j] = y := by simp only [hjt2]; exact hig hil
          have hne : ¬ ((m : Int) + j = q.length) := by omega
          have hb1 : ¬ y.1 < y.1 := by omega
          have hb2 : ¬ y.2 < y.2 := by omega
          rw [hz] at hgq
          have hat' : (atK p q (k + 1) : Int) = m + j := by rw [hat]; omega
          (repeat' (first | ((first | with_reducible refine st_skip ?_ | with_reducible refine st_exit ?_); (try simp only [seqQ, blockQ, loopQ, forQ, whileQ, reduceIte, Nat.reduceEqDiff])) | (with_reducible refine st_ret ?_; ((try simp only [seqQ, blockQ, loopQ, forQ, whileQ]); first | (with_reducible refine retM_ret ?_) | refine retQ_ret ?_; simp [hmq, hmq2, hgq, hkt, hgp, hb1, hb2, hne, htn])) | refine st_seq ?_ | refine st_block ?_ | ((first | refine st_reg ?_ | refine buildP_own ?_) <;> (simp -dsimp [hmq, hmq2, hgq, hkt, hgp, hb1, hb2, hne, htn]; (repeat (simp -dsimp (disch := (first | omega | assumption | (refine Bool.eq_false_iff.1 ?_; assumption))) only [wrap_in, if_pos, if_neg]; (try simp -dsimp [hmq, hmq2, hgq, hkt, hgp, hb1, hb2, hne, htn]))))) | ((first | refine guardP_of (fun hc => ?_) (fun hc => ?_) | refine st_cond rfl (fun hc => ?_) (fun hc => ?_)) <;> (try simp only [decide_eq_true_eq, decide_eq_false_iff_not, Bool.true_eq_false, Bool.false_eq_true, bne_iff_ne, ne_eq, bne_eq_false_iff_eq, beq_iff_eq, beq_eq_false_iff_ne, Bool.not_eq_true, Bool.not_eq_false, Bool.not_eq_eq_eq_not, Bool.not_true, Bool.not_false, Decidable.not_not] at hc) <;> (try (exfalso; first | omega | exact bool_tf hc (by assumption) | exact bool_ft hc (by assumption) | exact absurd (by assumption) hc)) <;> (first | with_reducible show STri _ _ _ _ _ _ | (simp -dsimp [hmq, hmq2, hgq, hkt, hgp, hb1, hb2, hne, htn, hc]; (repeat (simp -dsimp (disch := (first | omega | assumption | (refine Bool.eq_false_iff.1 ?_; assumption))) only [wrap_in, if_pos, if_neg]; (try simp -dsimp [hmq, hmq2, hgq, hkt, hgp, hb1, hb2, hne, htn, hc]))))))))
          all_goals exact ⟨hkt, by simp, by simp [hat'], by simp⟩
      · (repeat' (first | ((first | with_reducible refine st_skip ?_ | with_reducible refine st_exit ?_); (try simp only [seqQ, blockQ, loopQ, forQ, whileQ, reduceIte, Nat.reduceEqDiff])) | (with_reducible refine st_ret ?_; ((try simp only [seqQ, blockQ, loopQ, forQ, whileQ]); first | (with_reducible refine retM_ret ?_) | refine retQ_ret ?_; simp [hkt])) | refine st_seq ?_ | refine st_block ?_ | ((first | refine st_reg ?_ | refine buildP_own ?_ | refine callP_b (a2) rfl ?_) <;> (simp -dsimp [hkt]; (repeat (simp -dsimp (disch := (first | omega | assumption | (refine Bool.eq_false_iff.1 ?_; assumption))) only [wrap_in, if_pos, if_neg]; (try simp -dsimp [hkt]))))) | ((first | refine guardP_of (fun hc => ?_) (fun hc => ?_) | refine st_cond rfl (fun hc => ?_) (fun hc => ?_)) <;> (try simp only [decide_eq_true_eq, decide_eq_false_iff_not, Bool.true_eq_false, Bool.false_eq_true, bne_iff_ne, ne_eq, bne_eq_false_iff_eq, beq_iff_eq, beq_eq_false_iff_ne, Bool.not_eq_true, Bool.not_eq_false, Bool.not_eq_eq_eq_not, Bool.not_true, Bool.not_false, Decidable.not_not] at hc) <;> (try (exfalso; first | omega | exact bool_tf hc (by assumption) | exact bool_ft hc (by assumption) | exact absurd (by assumption) hc)) <;> (first | with_reducible show STri _ _ _ _ _ _ | (simp -dsimp [hkt, hc]; (repeat (simp -dsimp (disch := (first | omega | assumption | (refine Bool.eq_false_iff.1 ?_; assumption))) only [wrap_in, if_pos, if_neg]; (try simp -dsimp [hkt, hc]))))))))
        all_goals exact .refl _
end Go.Proofs.Ytnfggkopledpcaa
