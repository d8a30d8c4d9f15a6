/- Part 6 of a proof: CodeWF, Na, Nb, Nc, Nd, Ne, Nf, Ng, Nh, Ke, Kf, Nk, Ni, Nm, Nn, No. -/
import Derived.Test.YtakdmliblijgmaaR5
set_option linter.unusedSimpArgs false
set_option linter.unusedVariables false
/- The shadow code of functions, as the kit's translation has them. -/
namespace Go.Proofs.Ytakdmliblijgmaa
open Go.RowKit
def fresh : List FuncId := [1000000 + 36, 1000000 + 14]
def k63_0 : SCode := .reg [⟨some 2, none, .box 66 (.tmp 0), [], false⟩, ⟨some 4, none, .mov (.const (.slice none 0 0)), [], false⟩] [1, 2]
def k63_1 : SCode := .reg [⟨some 15, none, .buildSl 73 3 [(.int .i64 0), (.int .i64 0), (.int .i64 0)] 0 [], [], false⟩, ⟨some 5, none, .mov (.tmp 15), [], false⟩] [1, 2, 5]
def k63_2 : SCode := .reg [⟨some 6, none, .mov (.const (.int .i64 0)), [], false⟩] [1, 2, 5, 6]
def k63_3 : SCode := .reg [⟨some 16, none, .mov (.tmp 6), [], false⟩, ⟨some 17, none, .fld 1 (.tmp 2), [], false⟩, ⟨some 18, none, .load false 1 (.tmp 17), [], false⟩, ⟨some 19, none, .len (.tmp 18), [], false⟩, ⟨some 20, none, .bin .lss (.tmp 16) (.tmp 19), [], false⟩, ⟨some 21, none, .mov (.tmp 20), [], false⟩, ⟨some 22, (some (21, true)), .mov (.tmp 6), [], false⟩, ⟨some 23, (some (21, true)), .bin .lss (.tmp 22) (.const (.int .i64 8)), [], false⟩, ⟨some 24, none, .pick (.tmp 21) (.tmp 23) (.const (.bool false)), [], false⟩] [1, 2, 5, 6, 24]
def k63_4 : SCode := .cond (.tmp 24) .skip (.exit 0)
def k63_5 : SCode := .seq k63_3 k63_4
def k63_6 : SCode := .reg [⟨some 27, none, .fld 1 (.tmp 2), [], false⟩, ⟨some 28, none, .load false 1 (.tmp 27), [], false⟩, ⟨some 29, none, .mov (.tmp 6), [], false⟩, ⟨some 30, none, .idxS 3 (.tmp 28) (.tmp 29), [], false⟩, ⟨some 31, none, .load true 3 (.tmp 30), [], false⟩, ⟨some 7, none, .alloc 76 [(.int .u8 0), (.int .u8 0), (.int .u8 0)], [], false⟩, ⟨none, none, .store 3 (.tmp 7) (.tmp 31), [], false⟩] [1, 2, 5, 6, 7]
def k63_7 : SCode := .reg [⟨some 32, none, .idxA 3 1 (.tmp 7) (.const (.int .i64 0)), [], false⟩, ⟨some 33, none, .load false 1 (.tmp 32), [], false⟩, ⟨some 34, none, .conv .i64 (.tmp 33), [], false⟩, ⟨some 35, none, .mov (.tmp 1), [], false⟩, ⟨some 36, none, .len (.tmp 35), [], false⟩, ⟨some 37, none, .bin .rem (.tmp 34) (.tmp 36), [], false⟩, ⟨some 38, none, .build [(.int .i64 0), (.int .i64 0), (.int .i64 0)] [(0, 1, (.tmp 37))], [], false⟩, ⟨some 8, none, .alloc 73 [(.int .i64 0), (.int .i64 0), (.int .i64 0)], [], false⟩, ⟨none, none, .store 3 (.tmp 8) (.tmp 38), [], false⟩] [1, 2, 5, 6, 7, 8]
def k63_8 : SCode := .reg [⟨some 39, none, .mov (.tmp 1), [], false⟩, ⟨some 40, none, .fld 0 (.tmp 8), [], false⟩, ⟨some 41, none, .load false 1 (.tmp 40), [], false⟩, ⟨some 42, none, .idxS 8 (.tmp 39) (.tmp 41), [], false⟩, ⟨some 43, none, .load true 8 (.tmp 42), [], false⟩, ⟨some 9, none, .alloc 79 [(.int .i64 0), (.int .i64 0), (.int .i64 0), (.int .i64 0), (.int .i64 0), (.int .i64 0), (.int .i64 0), (.slice none 0 0)], [], false⟩, ⟨none, none, .store 8 (.tmp 9) (.tmp 43), [], false⟩] [1, 2, 5, 6, 7, 8, 9]
def k63_9 : SCode := .reg [⟨some 44, none, .fld 1 (.tmp 9), [], false⟩, ⟨some 45, none, .fld 0 (.tmp 44), [], false⟩, ⟨some 46, none, .load false 1 (.tmp 45), [], false⟩, ⟨some 47, none, .fld 3 (.tmp 2), [], false⟩, ⟨some 48, none, .load false 1 (.tmp 47), [], false⟩, ⟨some 49, none, .mov (.tmp 6), [], false⟩, ⟨some 50, none, .call 58 [(.tmp 48), (.tmp 49)], [], false⟩, ⟨some 51, none, .fld 1 (.tmp 9), [], false⟩, ⟨some 52, none, .fld 1 (.tmp 51), [], false⟩, ⟨some 53, none, .load false 1 (.tmp 52), [], false⟩, ⟨some 54, none, .fld 1 (.tmp 9), [], false⟩, ⟨some 55, none, .fld 0 (.tmp 54), [], false⟩, ⟨some 56, none, .load false 1 (.tmp 55), [], false⟩, ⟨some 57, none, .bin .sub (.tmp 53) (.tmp 56), [], false⟩, ⟨some 58, none, .bin .add (.tmp 57) (.const (.int .i64 1)), [], false⟩, ⟨some 59, none, .bin .rem (.tmp 50) (.tmp 58), [], false⟩, ⟨some 60, none, .bin .add (.tmp 46) (.tmp 59), [], false⟩, ⟨some 10, none, .mov (.tmp 60), [], false⟩] [1, 2, 5, 6, 7, 8, 9, 10]
def k63_10 : SCode := .reg [⟨some 61, none, .idxA 3 1 (.tmp 7) (.const (.int .i64 1)), [], false⟩, ⟨some 62, none, .load false 1 (.tmp 61), [], false⟩, ⟨some 63, none, .conv .i64 (.tmp 62), [], false⟩, ⟨some 64, none, .bin .mul (.const (.int .i64 1000)) (.tmp 63), [], false⟩, ⟨some 65, none, .bin .add (.const (.int .i64 30000)) (.tmp 64), [], false⟩, ⟨some 66, none, .idxA 3 1 (.tmp 7) (.const (.int .i64 2)), [], false⟩, ⟨some 67, none, .load false 1 (.tmp 66), [], false⟩, ⟨some 68, none, .conv .i64 (.tmp 67), [], false⟩, ⟨some 69, none, .bin .add (.tmp 65) (.tmp 68), [], false⟩, ⟨some 11, none, .mov (.tmp 69), [], false⟩] [1, 2, 5, 6, 7, 8, 9, 10, 11]
def k63_11 : SCode := .reg [⟨some 70, none, .fld 0 (.tmp 9), [], false⟩, ⟨some 71, none, .load false 1 (.tmp 70), [], false⟩] [1, 2, 5, 6, 7, 8, 9, 10, 11, 71]
def k63_12 : SCode := .reg [⟨some 102, none, .bin .eql (.tmp 71) (.const (.int .i64 2)), [], false⟩, ⟨some 101, none, .mov (.tmp 102), [], false⟩] [1, 2, 5, 6, 7, 8, 9, 10, 11, 71, 101]
def k63_13 : SCode := .reg [⟨some 103, none, .fld 3 (.tmp 9), [], false⟩, ⟨some 104, none, .load false 1 (.tmp 103), [], false⟩, ⟨some 105, none, .idxA 3 1 (.tmp 7) (.const (.int .i64 1)), [], false⟩, ⟨some 106, none, .load false 1 (.tmp 105), [], false⟩, ⟨some 107, none, .conv .i64 (.tmp 106), [], false⟩, ⟨some 108, none, .bin .add (.tmp 107) (.const (.int .i64 200)), [], false⟩, ⟨some 109, none, .fld 6 (.tmp 9), [], false⟩, ⟨some 110, none, .load false 1 (.tmp 109), [], false⟩, ⟨some 111, none, .bin .mul (.tmp 108) (.tmp 110), [], false⟩, ⟨some 112, none, .bin .add (.tmp 104) (.tmp 111), [], false⟩, ⟨some 113, none, .mov (.tmp 10), [], false⟩, ⟨some 114, none, .bin .add (.tmp 112) (.tmp 113), [], false⟩, ⟨some 11, none, .mov (.tmp 114), [], false⟩] [1, 2, 5, 6, 8, 11]
def k63_14 : SCode := .reg [⟨some 116, none, .bin .eql (.tmp 71) (.const (.int .i64 3)), [], false⟩, ⟨some 115, none, .mov (.tmp 116), [], false⟩] [1, 2, 5, 6, 7, 8, 9, 10, 11, 71, 115]
def k63_15 : SCode := .reg [⟨some 117, none, .idxA 3 1 (.tmp 7) (.const (.int .i64 1)), [], false⟩, ⟨some 118, none, .load false 1 (.tmp 117), [], false⟩, ⟨some 119, none, .conv .i64 (.tmp 118), [], false⟩, ⟨some 120, none, .bin .add (.const (.int .i64 1)) (.tmp 119), [], false⟩, ⟨some 12, none, .mov (.tmp 120), [], false⟩] [1, 2, 5, 6, 8, 9, 10, 12]
def k63_16 : SCode := .reg [⟨some 121, none, .mov (.tmp 12), [], false⟩, ⟨some 122, none, .bin .mul (.tmp 121) (.const (.int .i64 86400)), [], false⟩, ⟨some 123, none, .fld 7 (.tmp 9), [], false⟩, ⟨some 124, none, .load false 1 (.tmp 123), [], false⟩, ⟨some 125, none, .mov (.tmp 12), [], false⟩, ⟨some 126, none, .fld 7 (.tmp 9), [], false⟩, ⟨some 127, none, .load false 1 (.tmp 126), [], false⟩, ⟨some 128, none, .len (.tmp 127), [], false⟩, ⟨some 129, none, .bin .rem (.tmp 125) (.tmp 128), [], false⟩, ⟨some 130, none, .idxS 1 (.tmp 124) (.tmp 129), [], false⟩, ⟨some 131, none, .load false 1 (.tmp 130), [], false⟩, ⟨some 132, none, .bin .add (.tmp 122) (.tmp 131), [], false⟩, ⟨some 133, none, .mov (.tmp 10), [], false⟩, ⟨some 134, none, .bin .add (.tmp 132) (.tmp 133), [], false⟩, ⟨some 11, none, .mov (.tmp 134), [], false⟩] [1, 2, 5, 6, 8, 11]
def k63_17 : SCode := .seq k63_15 k63_16
def k63_18 : SCode := .reg [⟨some 136, none, .bin .eql (.tmp 71) (.const (.int .i64 4)), [], false⟩, ⟨some 135, none, .mov (.tmp 136), [], false⟩] [1, 2, 5, 6, 7, 8, 9, 10, 11, 135]
def k63_19 : SCode := .reg [⟨some 137, none, .mov (.tmp 11), [], false⟩, ⟨some 138, none, .fld 2 (.tmp 8), [], false⟩, ⟨none, none, .store 1 (.tmp 138) (.tmp 137), [], false⟩] [1, 2, 5, 6, 8, 10, 11]
def k63_20 : SCode := .reg [⟨some 139, none, .mov (.tmp 11), [], false⟩, ⟨some 140, none, .mov (.tmp 10), [], false⟩, ⟨some 141, none, .bin .add (.tmp 139) (.tmp 140), [], false⟩, ⟨some 11, none, .mov (.tmp 141), [], false⟩] [1, 2, 5, 6, 8, 11]
def k63_21 : SCode := .seq k63_19 k63_20
def k63_22 : SCode := .reg [⟨some 72, none, .mov (.tmp 11), [], false⟩, ⟨some 73, none, .fld 3 (.tmp 9), [], false⟩, ⟨some 74, none, .load false 1 (.tmp 73), [], false⟩, ⟨some 75, none, .bin .sub (.tmp 72) (.tmp 74), [], false⟩, ⟨some 13, none, .mov (.tmp 75), [], false⟩] [1, 2, 5, 6, 7, 8, 9, 10, 11, 13]
def k63_23 : SCode := .reg [⟨some 76, none, .fld 4 (.tmp 9), [], false⟩, ⟨some 77, none, .fld 0 (.tmp 76), [], false⟩, ⟨some 78, none, .load false 1 (.tmp 77), [], false⟩, ⟨some 79, none, .mov (.tmp 13), [], false⟩, ⟨some 80, none, .bin .mul (.tmp 78) (.tmp 79), [], false⟩, ⟨some 14, none, .mov (.tmp 80), [], false⟩] [1, 2, 5, 6, 7, 8, 9, 10, 11, 13, 14]
def k63_24 : SCode := .reg [⟨some 81, none, .idxA 3 1 (.tmp 7) (.const (.int .i64 2)), [], false⟩, ⟨some 82, none, .load false 1 (.tmp 81), [], false⟩, ⟨some 83, none, .bin .rem (.tmp 82) (.const (.int .u8 2)), [], false⟩, ⟨some 84, none, .bin .eql (.tmp 83) (.const (.int .u8 1)), [], false⟩] [1, 2, 5, 6, 8, 9, 10, 11, 13, 14, 84]
def k63_25 : SCode := .reg [⟨some 85, none, .fld 4 (.tmp 9), [], false⟩, ⟨some 86, none, .fld 1 (.tmp 85), [], false⟩, ⟨some 87, none, .load false 1 (.tmp 86), [], false⟩, ⟨some 88, none, .mov (.tmp 13), [], false⟩, ⟨some 89, none, .bin .mul (.tmp 87) (.tmp 88), [], false⟩, ⟨some 14, none, .mov (.tmp 89), [], false⟩] [1, 2, 5, 6, 8, 10, 11, 14]
def k63_26 : SCode := .cond (.tmp 84) k63_25 .skip
def k63_27 : SCode := .seq k63_24 k63_26
def k63_28 : SCode := .reg [⟨some 90, none, .mov (.tmp 11), [], false⟩, ⟨some 91, none, .mov (.tmp 10), [], false⟩, ⟨some 92, none, .bin .add (.tmp 90) (.tmp 91), [], false⟩, ⟨some 93, none, .mov (.tmp 14), [], false⟩, ⟨some 94, none, .mov (.tmp 14), [], false⟩, ⟨some 95, none, .call 39 [(.tmp 94), (.const (.int .i64 86400000))], [], false⟩, ⟨some 96, none, .bin .sub (.tmp 93) (.tmp 95), [], false⟩, ⟨some 97, none, .bin .quo (.tmp 96) (.const (.int .i64 86400000)), [], false⟩, ⟨some 98, none, .bin .add (.tmp 92) (.tmp 97), [], false⟩, ⟨some 99, none, .call 39 [(.tmp 98), (.const (.int .i64 43200))], [], false⟩, ⟨some 100, none, .fld 2 (.tmp 8), [], false⟩, ⟨none, none, .store 1 (.tmp 100) (.tmp 99), [], false⟩] [1, 2, 5, 6, 8, 11]
def k63_29 : SCode := .seq k63_27 k63_28
def k63_30 : SCode := .seq k63_23 k63_29
def k63_31 : SCode := .seq k63_22 k63_30
def k63_32 : SCode := .cond (.tmp 135) k63_21 k63_31
def k63_33 : SCode := .seq k63_18 k63_32
def k63_34 : SCode := .cond (.tmp 115) k63_17 k63_33
def k63_35 : SCode := .seq k63_14 k63_34
def k63_36 : SCode := .cond (.tmp 101) k63_13 k63_35
def k63_37 : SCode := .seq k63_12 k63_36
def k63_38 : SCode := .block 2 k63_37
def k63_39 : SCode := .seq k63_11 k63_38
def k63_40 : SCode := .reg [⟨some 142, none, .mov (.tmp 11), [], false⟩, ⟨some 143, none, .load true 4 (.tmp 2), [], false⟩, ⟨some 144, none, .call 35 [(.tmp 143)], [], false⟩, ⟨some 145, none, .bin .sub (.tmp 142) (.tmp 144), [], false⟩, ⟨some 146, none, .fld 1 (.tmp 8), [], false⟩, ⟨none, none, .store 1 (.tmp 146) (.tmp 145), [], false⟩] [1, 2, 5, 6, 8]
def k63_41 : SCode := .reg [⟨some 147, none, .fld 1 (.tmp 8), [], false⟩, ⟨some 148, none, .load false 1 (.tmp 147), [], false⟩, ⟨some 149, none, .bin .geq (.tmp 148) (.const (.int .i64 0)), [], false⟩] [1, 2, 5, 6, 8, 149]
def k63_42 : SCode := .reg [⟨some 150, none, .mov (.tmp 5), [], false⟩, ⟨some 151, none, .load true 3 (.tmp 8), [], false⟩, ⟨some 152, none, .buildSl 73 3 [(.int .i64 0), (.int .i64 0), (.int .i64 0)] 1 [(0, (.tmp 151))], [], false⟩, ⟨some 153, none, .append 73 3 24 (.tmp 150) (.tmp 152), [], false⟩, ⟨some 5, none, .mov (.tmp 153), [], false⟩] [1, 2, 5, 6]
def k63_43 : SCode := .cond (.tmp 149) k63_42 .skip
def k63_44 : SCode := .seq k63_41 k63_43
def k63_45 : SCode := .seq k63_40 k63_44
def k63_46 : SCode := .seq k63_39 k63_45
def k63_47 : SCode := .seq k63_10 k63_46
def k63_48 : SCode := .seq k63_9 k63_47
def k63_49 : SCode := .seq k63_8 k63_48
def k63_50 : SCode := .seq k63_7 k63_49
def k63_51 : SCode := .seq k63_6 k63_50
def k63_52 : SCode := .block 1 k63_51
def k63_53 : SCode := .reg [⟨some 25, none, .mov (.tmp 6), [], false⟩, ⟨some 26, none, .bin .add (.tmp 25) (.const (.int .i64 1)), [], false⟩, ⟨some 6, none, .mov (.tmp 26), [], false⟩] [1, 2, 5, 6]
def k63_54 : SCode := .seq k63_52 k63_53
def k63_55 : SCode := .seq k63_5 k63_54
def k63_56 : SCode := .loop k63_55
def k63_57 : SCode := .block 0 k63_56
def k63_58 : SCode := .seq k63_2 k63_57
def k63_59 : SCode := .reg [⟨some 154, none, .mov (.tmp 5), [], false⟩, ⟨some 4, none, .mov (.tmp 154), [], false⟩] [4]
def k63_60 : SCode := .seq k63_59 .ret
def k63_61 : SCode := .seq k63_58 k63_60
def k63_62 : SCode := .seq k63_1 k63_61
def k63_63 : SCode := .seq k63_0 k63_62
theorem flaw_turretlaw08_Office_notes (cs : List CV) (sh : FSh) (t : TypeId) (k : Nat) (rows : List (List CV)) (hl : cs.length ≤ 155) (h : STri (cfF Try.prog [] 155) k63_63 (initT 0 cs) [] (retF (.tmp 4) sh t k rows)) : FC Try.prog 36 cs sh t k rows :=
  fc_of [] follows Try.func36 rfl Try.ntmps36 (by decide) (by kernel_rfl) (by kernel_rfl) hl h
def k64_0 : SCode := .reg [⟨some 4, none, .mov (.const (.int .i64 0)), [], false⟩] [0, 1]
def k64_1 : SCode := .reg [⟨some 5, none, .mov (.tmp 0), [], false⟩, ⟨some 6, none, .len (.tmp 5), [], false⟩, ⟨some 7, none, .bin .eql (.tmp 6) (.const (.int .i64 0)), [], false⟩] [0, 1, 7]
def k64_2 : SCode := .reg [⟨some 4, none, .mov (.const (.int .i64 0)), [], false⟩] [4]
def k64_3 : SCode := .seq k64_2 .ret
def k64_4 : SCode := .cond (.tmp 7) k64_3 .skip
def k64_5 : SCode := .seq k64_1 k64_4
def k64_6 : SCode := .reg [⟨some 8, none, .mov (.tmp 0), [], false⟩, ⟨some 9, none, .mov (.tmp 1), [], false⟩, ⟨some 10, none, .mov (.tmp 0), [], false⟩, ⟨some 11, none, .len (.tmp 10), [], false⟩, ⟨some 12, none, .bin .rem (.tmp 9) (.tmp 11), [], false⟩, ⟨some 13, none, .idxS 1 (.tmp 8) (.tmp 12), [], false⟩, ⟨some 14, none, .load false 1 (.tmp 13), [], false⟩, ⟨some 15, none, .conv .i64 (.tmp 14), [], false⟩, ⟨some 4, none, .mov (.tmp 15), [], false⟩] [4]
def k64_7 : SCode := .seq k64_6 .ret
def k64_8 : SCode := .seq k64_5 k64_7
def k64_9 : SCode := .seq k64_0 k64_8
@[simp] def rs_turretlaw08_byteOf : List SRes := [.tmp 4]
theorem law_turretlaw08_byteOf (cs : List CV) (r : CV) (hl : cs.length ≤ 16) (h : STri (cfF Try.prog [] 16) k64_9 (initT 0 cs) [] (retQ rs_turretlaw08_byteOf r)) : SC Try.prog 58 cs r :=
  sc_of [] follows Try.func58 rfl Try.ntmps58 (by decide) (by kernel_rfl) (by kernel_rfl) hl h
def k65_0 : SCode := .reg [⟨some 2, none, .box 66 (.tmp 0), [], false⟩, ⟨some 3, none, .box 82 (.tmp 1), [], false⟩, ⟨some 4, none, .mov (.const (.bool false)), [], false⟩] [2, 3]
def k65_1 : SCode := .reg [⟨some 34, none, .load true 4 (.tmp 2), [], true⟩, ⟨some 35, none, .call 33 [(.tmp 34)], [], true⟩, ⟨some 36, none, .load true 4 (.tmp 2), [], true⟩, ⟨some 37, none, .call 35 [(.tmp 36)], [], true⟩, ⟨some 38, none, .bin .sub (.tmp 37) (.const (.int .i64 60)), [], false⟩, ⟨some 39, none, .load true 4 (.tmp 2), [], true⟩, ⟨some 40, none, .call 35 [(.tmp 39)], [], true⟩, ⟨some 41, none, .bin .add (.tmp 40) (.const (.int .i64 60)), [], false⟩, ⟨some 42, none, .call 34 [(.tmp 38), (.tmp 41)], [], true⟩, ⟨some 6, none, .alloc 25 [(.int .i64 0), (.int .i64 0)], [0, 1, 2, 3, 5, 6, 8], false⟩, ⟨some 5, none, .mov (.tmp 35), [], false⟩, ⟨none, none, .store 2 (.tmp 6) (.tmp 42), [], false⟩] [2, 3, 5, 6]
def k65_2 : SCode := .reg [⟨some 43, none, .load true 4 (.tmp 2), [], false⟩, ⟨some 44, none, .mov (.tmp 5), [], false⟩, ⟨some 45, none, .callG 36 [(.tmp 43), (.tmp 44)], [], false⟩, ⟨some 7, none, .mov (.tmp 45), [], false⟩] [3, 5, 6, 7]
def k65_3 : SCode := .reg [⟨some 8, none, .mov (.const (.int .i64 0)), [], false⟩] [3, 5, 6, 7, 8]
def k65_4 : SCode := .reg [⟨some 46, none, .mov (.tmp 8), [], false⟩, ⟨some 47, none, .mov (.tmp 7), [], false⟩, ⟨some 48, none, .len (.tmp 47), [], false⟩, ⟨some 49, none, .bin .lss (.tmp 46) (.tmp 48), [], false⟩] [3, 5, 6, 7, 8, 49]
def k65_5 : SCode := .cond (.tmp 49) .skip (.exit 0)
def k65_6 : SCode := .seq k65_4 k65_5
def k65_7 : SCode := .reg [⟨some 52, none, .mov (.tmp 8), [], false⟩, ⟨some 53, none, .idxA 8 1 (.tmp 3) (.tmp 52), [], false⟩, ⟨some 54, none, .load false 1 (.tmp 53), [], false⟩, ⟨some 55, none, .bin .geq (.tmp 54) (.const (.int .u8 128)), [], false⟩] [3, 5, 6, 7, 8, 55]
def k65_8 : SCode := .reg [⟨some 56, none, .mov (.tmp 7), [], false⟩, ⟨some 57, none, .mov (.tmp 8), [], false⟩, ⟨some 58, none, .mov (.tmp 7), [], false⟩, ⟨some 59, none, .mov (.tmp 8), [], false⟩, ⟨some 60, none, .idxS 3 (.tmp 58) (.tmp 59), [], false⟩, ⟨some 61, none, .fld 1 (.tmp 60), [], false⟩, ⟨some 62, none, .load false 1 (.tmp 61), [], false⟩, ⟨some 63, none, .mov (.tmp 8), [], false⟩, ⟨some 64, none, .idxA 8 1 (.tmp 3) (.tmp 63), [], false⟩, ⟨some 65, none, .load false 1 (.tmp 64), [], false⟩, ⟨some 66, none, .conv .i64 (.tmp 65), [], false⟩, ⟨some 67, none, .bin .rem (.tmp 66) (.const (.int .i64 60)), [], false⟩, ⟨some 68, none, .bin .add (.tmp 62) (.tmp 67), [], false⟩, ⟨some 69, none, .bin .sub (.tmp 68) (.const (.int .i64 30)), [], false⟩, ⟨some 70, none, .max [(.const (.int .i64 0)), (.tmp 69)], [], false⟩, ⟨some 71, none, .idxS 3 (.tmp 56) (.tmp 57), [], false⟩, ⟨some 72, none, .fld 1 (.tmp 71), [], false⟩, ⟨none, none, .store 1 (.tmp 72) (.tmp 70), [], false⟩] [3, 5, 6, 7, 8]
def k65_9 : SCode := .cond (.tmp 55) k65_8 .skip
def k65_10 : SCode := .seq k65_7 k65_9
def k65_11 : SCode := .block 1 k65_10
def k65_12 : SCode := .reg [⟨some 50, none, .mov (.tmp 8), [], false⟩, ⟨some 51, none, .bin .add (.tmp 50) (.const (.int .i64 1)), [], false⟩, ⟨some 8, none, .mov (.tmp 51), [], false⟩] [3, 5, 6, 7, 8]
def k65_13 : SCode := .seq k65_11 k65_12
def k65_14 : SCode := .seq k65_6 k65_13
def k65_15 : SCode := .loop k65_14
def k65_16 : SCode := .block 0 k65_15
def k65_17 : SCode := .seq k65_3 k65_16
def k65_18 : SCode := .reg [⟨some 73, none, .mov (.tmp 7), [], false⟩, ⟨some 74, none, .len (.tmp 73), [], false⟩, ⟨some 75, none, .bin .eql (.tmp 74) (.const (.int .i64 0)), [], false⟩] [5, 6, 7, 75]
def k65_19 : SCode := .reg [⟨some 76, none, .call 13 [], [], false⟩, ⟨some 4, none, .mov (.tmp 76), [], false⟩] [4]
def k65_20 : SCode := .seq k65_19 .ret
def k65_21 : SCode := .cond (.tmp 75) k65_20 .skip
def k65_22 : SCode := .seq k65_18 k65_21
def k65_23 : SCode := .reg [⟨some 77, none, .mov (.tmp 7), [], false⟩, ⟨some 78, none, .mov (.tmp 7), [], false⟩, ⟨some 79, none, .len (.tmp 78), [], false⟩, ⟨some 80, none, .bin .sub (.tmp 79) (.const (.int .i64 1)), [], false⟩, ⟨some 81, none, .slcS 3 (.tmp 77) none (some (.tmp 80)), [], false⟩, ⟨some 9, none, .mov (.tmp 81), [], false⟩] [5, 6, 7, 9]
def k65_24 : SCode := .reg [⟨some 83, none, .mov (.tmp 5), [], false⟩, ⟨some 84, none, .callG 14 [(.tmp 83)], [], true⟩, ⟨some 85, none, .mov (.tmp 7), [], false⟩, ⟨some 86, none, .call 15 [(.tmp 85)], [], false⟩, ⟨some 87, none, .load true 2 (.tmp 6), [1], false⟩, ⟨some 88, none, .call 16 [(.tmp 84), (.tmp 86), (.tmp 87)], [], false⟩, ⟨some 82, none, .mov (.tmp 88), [], false⟩, ⟨some 89, none, .ext (.tmp 82) 0, [], false⟩, ⟨some 90, none, .ext (.tmp 82) 1, [], false⟩, ⟨some 10, none, .mov (.tmp 89), [], false⟩, ⟨some 11, none, .mov (.tmp 90), [], false⟩] [5, 6, 7, 9, 10, 11]
def k65_25 : SCode := .reg [⟨some 92, none, .mov (.tmp 5), [], false⟩, ⟨some 93, none, .callG 14 [(.tmp 92)], [], true⟩, ⟨some 94, none, .mov (.tmp 9), [], false⟩, ⟨some 95, none, .call 15 [(.tmp 94)], [], false⟩, ⟨some 96, none, .load true 2 (.tmp 6), [1], false⟩, ⟨some 97, none, .call 16 [(.tmp 93), (.tmp 95), (.tmp 96)], [], false⟩, ⟨some 91, none, .mov (.tmp 97), [], false⟩, ⟨some 98, none, .ext (.tmp 91) 0, [], false⟩, ⟨some 99, none, .ext (.tmp 91) 1, [], false⟩, ⟨some 12, none, .mov (.tmp 98), [], false⟩, ⟨some 13, none, .mov (.tmp 99), [], false⟩] [5, 6, 7, 9, 10, 11, 12, 13]
def k65_26 : SCode := .reg [⟨some 101, none, .mov (.tmp 5), [], false⟩, ⟨some 102, none, .callG 14 [(.tmp 101)], [], true⟩, ⟨some 103, none, .mov (.tmp 7), [], false⟩, ⟨some 104, none, .call 15 [(.tmp 103)], [], false⟩, ⟨some 105, none, .load true 2 (.tmp 6), [1], false⟩, ⟨some 106, none, .call 17 [(.tmp 102), (.tmp 104), (.tmp 105)], [], false⟩, ⟨some 100, none, .mov (.tmp 106), [], false⟩, ⟨some 107, none, .ext (.tmp 100) 0, [], false⟩, ⟨some 108, none, .ext (.tmp 100) 1, [], false⟩, ⟨some 14, none, .mov (.tmp 107), [], false⟩, ⟨some 15, none, .mov (.tmp 108), [], false⟩] [5, 6, 7, 9, 10, 11, 12, 13, 14, 15]
def k65_27 : SCode := .reg [⟨some 110, none, .mov (.tmp 5), [], false⟩, ⟨some 111, none, .callG 14 [(.tmp 110)], [], true⟩, ⟨some 112, none, .mov (.tmp 9), [], false⟩, ⟨some 113, none, .call 15 [(.tmp 112)], [], false⟩, ⟨some 114, none, .load true 2 (.tmp 6), [1], false⟩, ⟨some 115, none, .call 17 [(.tmp 111), (.tmp 113), (.tmp 114)], [], false⟩, ⟨some 109, none, .mov (.tmp 115), [], false⟩, ⟨some 116, none, .ext (.tmp 109) 0, [], false⟩, ⟨some 117, none, .ext (.tmp 109) 1, [], false⟩, ⟨some 16, none, .mov (.tmp 116), [], false⟩, ⟨some 17, none, .mov (.tmp 117), [], false⟩] [5, 6, 7, 9, 10, 11, 12, 13, 14, 15, 16, 17]
def k65_28 : SCode := .reg [⟨some 119, none, .mov (.tmp 5), [], false⟩, ⟨some 120, none, .callG 14 [(.tmp 119)], [], true⟩, ⟨some 121, none, .mov (.tmp 7), [], false⟩, ⟨some 122, none, .call 15 [(.tmp 121)], [], false⟩, ⟨some 123, none, .load true 2 (.tmp 6), [1], false⟩, ⟨some 124, none, .call 26 [(.tmp 120), (.tmp 122), (.tmp 123)], [], false⟩, ⟨some 118, none, .mov (.tmp 124), [], false⟩, ⟨some 125, none, .ext (.tmp 118) 0, [], false⟩, ⟨some 126, none, .ext (.tmp 118) 1, [], false⟩, ⟨some 18, none, .mov (.tmp 125), [], false⟩, ⟨some 19, none, .mov (.tmp 126), [], false⟩] [5, 6, 7, 9, 10, 11, 12, 13, 14, 15, 16, 17, 18, 19]
def k65_29 : SCode := .reg [⟨some 128, none, .mov (.tmp 5), [], false⟩, ⟨some 129, none, .callG 14 [(.tmp 128)], [], true⟩, ⟨some 130, none, .mov (.tmp 9), [], false⟩, ⟨some 131, none, .call 15 [(.tmp 130)], [], false⟩, ⟨some 132, none, .load true 2 (.tmp 6), [1], false⟩, ⟨some 133, none, .call 26 [(.tmp 129), (.tmp 131), (.tmp 132)], [], false⟩, ⟨some 127, none, .mov (.tmp 133), [], false⟩, ⟨some 134, none, .ext (.tmp 127) 0, [], false⟩, ⟨some 135, none, .ext (.tmp 127) 1, [], false⟩, ⟨some 20, none, .mov (.tmp 134), [], false⟩, ⟨some 21, none, .mov (.tmp 135), [], false⟩] [5, 6, 7, 10, 11, 12, 13, 14, 15, 16, 17, 18, 19, 20, 21]
def k65_30 : SCode := .reg [⟨some 137, none, .mov (.tmp 5), [], false⟩, ⟨some 138, none, .callG 14 [(.tmp 137)], [], true⟩, ⟨some 139, none, .mov (.tmp 7), [], false⟩, ⟨some 140, none, .call 15 [(.tmp 139)], [], false⟩, ⟨some 141, none, .load true 2 (.tmp 6), [1], false⟩, ⟨some 142, none, .call 18 [(.tmp 138), (.tmp 140), (.tmp 141)], [], false⟩, ⟨some 136, none, .mov (.tmp 142), [], false⟩, ⟨some 143, none, .ext (.tmp 136) 0, [], false⟩, ⟨some 144, none, .ext (.tmp 136) 1, [], false⟩, ⟨some 145, none, .ext (.tmp 136) 2, [], false⟩, ⟨some 22, none, .mov (.tmp 143), [], false⟩, ⟨some 23, none, .mov (.tmp 144), [], false⟩, ⟨some 24, none, .mov (.tmp 145), [], false⟩] [5, 6, 7, 10, 11, 12, 13, 14, 15, 16, 17, 18, 19, 20, 21, 22, 24]
def k65_31 : SCode := .reg [⟨some 146, none, .mov (.tmp 11), [], false⟩, ⟨some 147, none, .bin .neq (.tmp 146) (.const (.int .i64 0)), [], false⟩, ⟨some 148, none, .mov (.tmp 147), [], false⟩, ⟨some 149, (some (148, true)), .mov (.tmp 11), [], false⟩, ⟨some 150, (some (148, true)), .bin .neq (.tmp 149) (.const (.int .i64 7)), [], false⟩, ⟨some 151, none, .pick (.tmp 148) (.tmp 150) (.const (.bool false)), [], false⟩, ⟨some 152, none, .mov (.tmp 151), [], false⟩, ⟨some 153, (some (152, false)), .mov (.tmp 13), [], false⟩, ⟨some 154, (some (152, false)), .bin .neq (.tmp 153) (.const (.int .i64 0)), [], false⟩, ⟨some 155, (some (152, false)), .mov (.tmp 154), [], false⟩, ⟨some 156, (some (155, true)), .mov (.tmp 13), [], false⟩, ⟨some 157, (some (155, true)), .bin .neq (.tmp 156) (.const (.int .i64 7)), [], false⟩, ⟨some 158, (some (152, false)), .pick (.tmp 155) (.tmp 157) (.const (.bool false)), [], false⟩, ⟨some 159, none, .pick (.tmp 152) (.const (.bool true)) (.tmp 158), [], false⟩, ⟨some 160, none, .mov (.tmp 159), [], false⟩, ⟨some 161, (some (160, false)), .mov (.tmp 15), [], false⟩, ⟨some 162, (some (160, false)), .bin .neq (.tmp 161) (.const (.int .i64 0)), [], false⟩, ⟨some 163, none, .pick (.tmp 160) (.const (.bool true)) (.tmp 162), [], false⟩, ⟨some 164, none, .mov (.tmp 163), [], false⟩, ⟨some 165, (some (164, false)), .mov (.tmp 17), [], false⟩, ⟨some 166, (some (164, false)), .bin .neq (.tmp 165) (.const (.int .i64 0)), [], false⟩, ⟨some 167, none, .pick (.tmp 164) (.const (.bool true)) (.tmp 166), [], false⟩, ⟨some 168, none, .mov (.tmp 167), [], false⟩, ⟨some 169, (some (168, false)), .mov (.tmp 19), [], false⟩, ⟨some 170, (some (168, false)), .bin .neq (.tmp 169) (.const (.int .i64 0)), [], false⟩, ⟨some 171, none, .pick (.tmp 168) (.const (.bool true)) (.tmp 170), [], false⟩, ⟨some 172, none, .mov (.tmp 171), [], false⟩, ⟨some 173, (some (172, false)), .mov (.tmp 21), [], false⟩, ⟨some 174, (some (172, false)), .bin .neq (.tmp 173) (.const (.int .i64 0)), [], false⟩, ⟨some 175, none, .pick (.tmp 172) (.const (.bool true)) (.tmp 174), [], false⟩, ⟨some 176, none, .mov (.tmp 175), [], false⟩, ⟨some 177, (some (176, false)), .mov (.tmp 24), [], false⟩, ⟨some 178, (some (176, false)), .bin .neq (.tmp 177) (.const (.int .i64 0)), [], false⟩, ⟨some 179, none, .pick (.tmp 176) (.const (.bool true)) (.tmp 178), [], false⟩, ⟨some 180, none, .mov (.tmp 179), [], false⟩, ⟨some 181, (some (180, false)), .mov (.tmp 16), [], false⟩, ⟨some 182, (some (180, false)), .len (.tmp 181), [], false⟩, ⟨some 183, (some (180, false)), .mov (.tmp 14), [], false⟩, ⟨some 184, (some (180, false)), .len (.tmp 183), [], false⟩, ⟨some 185, (some (180, false)), .bin .gtr (.tmp 182) (.tmp 184), [], false⟩, ⟨some 186, none, .pick (.tmp 180) (.const (.bool true)) (.tmp 185), [], false⟩, ⟨some 187, none, .mov (.tmp 186), [], false⟩, ⟨some 188, (some (187, false)), .mov (.tmp 18), [], false⟩, ⟨some 189, (some (187, false)), .len (.tmp 188), [], false⟩, ⟨some 190, (some (187, false)), .bin .lss (.tmp 189) (.const (.int .i64 1)), [], false⟩, ⟨some 191, none, .pick (.tmp 187) (.const (.bool true)) (.tmp 190), [], false⟩, ⟨some 192, none, .mov (.tmp 191), [], false⟩, ⟨some 193, (some (192, false)), .mov (.tmp 20), [], false⟩, ⟨some 194, (some (192, false)), .len (.tmp 193), [], false⟩, ⟨some 195, (some (192, false)), .bin .lss (.tmp 194) (.const (.int .i64 1)), [], false⟩, ⟨some 196, none, .pick (.tmp 192) (.const (.bool true)) (.tmp 195), [], false⟩, ⟨some 197, none, .mov (.tmp 196), [], false⟩, ⟨some 198, (some (197, false)), .mov (.tmp 18), [], false⟩, ⟨some 199, (some (197, false)), .idxS 1 (.tmp 198) (.const (.int .i64 0)), [], false⟩, ⟨some 200, (some (197, false)), .load false 1 (.tmp 199), [], false⟩, ⟨some 201, (some (197, false)), .len (.tmp 200), [], false⟩, ⟨some 202, (some (197, false)), .mov (.tmp 20), [], false⟩, ⟨some 203, (some (197, false)), .idxS 1 (.tmp 202) (.const (.int .i64 0)), [], false⟩, ⟨some 204, (some (197, false)), .load false 1 (.tmp 203), [], false⟩, ⟨some 205, (some (197, false)), .len (.tmp 204), [], false⟩, ⟨some 206, (some (197, false)), .bin .lss (.tmp 201) (.tmp 205), [], false⟩, ⟨some 207, none, .pick (.tmp 197) (.const (.bool true)) (.tmp 206), [], false⟩, ⟨some 208, none, .mov (.tmp 207), [], false⟩, ⟨some 209, (some (208, false)), .mov (.tmp 22), [], false⟩, ⟨some 210, (some (208, false)), .mov (.tmp 5), [], false⟩, ⟨some 211, (some (208, false)), .len (.tmp 210), [], false⟩, ⟨some 212, (some (208, false)), .mov (.tmp 18), [], false⟩, ⟨some 213, (some (208, false)), .idxS 1 (.tmp 212) (.const (.int .i64 0)), [], false⟩, ⟨some 214, (some (208, false)), .load false 1 (.tmp 213), [], false⟩, ⟨some 215, (some (208, false)), .len (.tmp 214), [], false⟩, ⟨some 216, (some (208, false)), .bin .sub (.tmp 211) (.tmp 215), [], false⟩, ⟨some 217, (some (208, false)), .bin .neq (.tmp 209) (.tmp 216), [], false⟩, ⟨some 218, none, .pick (.tmp 208) (.const (.bool true)) (.tmp 217), [], false⟩, ⟨some 219, none, .mov (.tmp 218), [], false⟩, ⟨some 220, (some (219, false)), .mov (.tmp 11), [], false⟩, ⟨some 221, (some (219, false)), .bin .eql (.tmp 220) (.const (.int .i64 0)), [], false⟩, ⟨some 222, (some (219, false)), .mov (.tmp 18), [], false⟩, ⟨some 223, (some (219, false)), .idxS 1 (.tmp 222) (.const (.int .i64 0)), [], false⟩, ⟨some 224, (some (219, false)), .load false 1 (.tmp 223), [], false⟩, ⟨some 225, (some (219, false)), .len (.tmp 224), [], false⟩, ⟨some 226, (some (219, false)), .bin .eql (.tmp 225) (.const (.int .i64 0)), [], false⟩, ⟨some 227, (some (219, false)), .binB true (.tmp 221) (.tmp 226), [], false⟩, ⟨some 228, none, .pick (.tmp 219) (.const (.bool true)) (.tmp 227), [], false⟩] [5, 6, 7, 10, 12, 18, 228]
def k65_32 : SCode := .reg [⟨some 4, none, .mov (.const (.bool false)), [], false⟩] [4]
def k65_33 : SCode := .seq k65_32 .ret
def k65_34 : SCode := .cond (.tmp 228) k65_33 .skip
def k65_35 : SCode := .seq k65_31 k65_34
def k65_36 : SCode := .reg [⟨some 25, none, .mov (.const (.int .i64 0)), [], false⟩] [5, 6, 7, 10, 12, 18, 25]
def k65_37 : SCode := .reg [⟨some 229, none, .mov (.tmp 25), [], false⟩, ⟨some 230, none, .mov (.tmp 10), [], false⟩, ⟨some 231, none, .len (.tmp 230), [], false⟩, ⟨some 232, none, .bin .lss (.tmp 229) (.tmp 231), [], false⟩] [5, 6, 7, 10, 12, 18, 25, 232]
def k65_38 : SCode := .cond (.tmp 232) .skip (.exit 2)
def k65_39 : SCode := .seq k65_37 k65_38
def k65_40 : SCode := .reg [⟨some 235, none, .mov (.tmp 10), [], false⟩, ⟨some 236, none, .mov (.tmp 25), [], false⟩, ⟨some 237, none, .idxS 2 (.tmp 235) (.tmp 236), [], false⟩, ⟨some 238, none, .fld 0 (.tmp 237), [], false⟩, ⟨some 239, none, .load false 1 (.tmp 238), [], false⟩, ⟨some 240, none, .mov (.tmp 12), [], false⟩, ⟨some 241, none, .call 38 [(.tmp 239), (.tmp 240)], [], false⟩, ⟨some 242, none, .un .not (.tmp 241), [], false⟩, ⟨some 243, none, .mov (.tmp 242), [], false⟩, ⟨some 244, (some (243, false)), .mov (.tmp 10), [], false⟩, ⟨some 245, (some (243, false)), .mov (.tmp 25), [], false⟩, ⟨some 246, (some (243, false)), .idxS 2 (.tmp 244) (.tmp 245), [], false⟩, ⟨some 247, (some (243, false)), .fld 1 (.tmp 246), [], false⟩, ⟨some 248, (some (243, false)), .load false 1 (.tmp 247), [], false⟩, ⟨some 249, (some (243, false)), .mov (.tmp 12), [], false⟩, ⟨some 250, (some (243, false)), .call 38 [(.tmp 248), (.tmp 249)], [], false⟩, ⟨some 251, (some (243, false)), .un .not (.tmp 250), [], false⟩, ⟨some 252, none, .pick (.tmp 243) (.const (.bool true)) (.tmp 251), [], false⟩] [5, 6, 7, 10, 12, 18, 25, 252]
def k65_41 : SCode := .reg [⟨some 4, none, .mov (.const (.bool false)), [], false⟩] [4]
def k65_42 : SCode := .seq k65_41 .ret
def k65_43 : SCode := .cond (.tmp 252) k65_42 .skip
def k65_44 : SCode := .seq k65_40 k65_43
def k65_45 : SCode := .block 3 k65_44
def k65_46 : SCode := .reg [⟨some 233, none, .mov (.tmp 25), [], false⟩, ⟨some 234, none, .bin .add (.tmp 233) (.const (.int .i64 1)), [], false⟩, ⟨some 25, none, .mov (.tmp 234), [], false⟩] [5, 6, 7, 10, 12, 18, 25]
def k65_47 : SCode := .seq k65_45 k65_46
def k65_48 : SCode := .seq k65_39 k65_47
def k65_49 : SCode := .loop k65_48
def k65_50 : SCode := .block 2 k65_49
def k65_51 : SCode := .seq k65_36 k65_50
def k65_52 : SCode := .reg [⟨some 26, none, .mov (.const (.int .i64 0)), [], false⟩] [5, 6, 7, 18, 26]
def k65_53 : SCode := .reg [⟨some 253, none, .mov (.tmp 26), [], false⟩, ⟨some 254, none, .mov (.tmp 18), [], false⟩, ⟨some 255, none, .len (.tmp 254), [], false⟩, ⟨some 256, none, .bin .lss (.tmp 253) (.tmp 255), [], false⟩] [5, 6, 7, 18, 26, 256]
def k65_54 : SCode := .cond (.tmp 256) .skip (.exit 4)
def k65_55 : SCode := .seq k65_53 k65_54
def k65_56 : SCode := .reg [⟨some 27, none, .mov (.const (.int .i64 (-1))), [], false⟩] [5, 6, 7, 18, 26, 27]
def k65_57 : SCode := .reg [⟨some 259, none, .mov (.tmp 27), [], false⟩, ⟨some 260, none, .mov (.tmp 18), [], false⟩, ⟨some 261, none, .mov (.tmp 26), [], false⟩, ⟨some 262, none, .idxS 1 (.tmp 260) (.tmp 261), [], false⟩, ⟨some 263, none, .load false 1 (.tmp 262), [], false⟩, ⟨some 264, none, .len (.tmp 263), [], false⟩, ⟨some 265, none, .bin .lss (.tmp 259) (.tmp 264), [], false⟩] [5, 6, 7, 18, 26, 27, 265]
def k65_58 : SCode := .cond (.tmp 265) .skip (.exit 6)
def k65_59 : SCode := .seq k65_57 k65_58
def k65_60 : SCode := .reg [⟨some 268, none, .buildSl 73 3 [(.int .i64 0), (.int .i64 0), (.int .i64 0)] 0 [], [], false⟩, ⟨some 28, none, .mov (.tmp 268), [], false⟩] [5, 6, 7, 18, 26, 27, 28]
def k65_61 : SCode := .reg [⟨some 29, none, .mov (.const (.int .i64 0)), [], false⟩] [5, 6, 7, 18, 26, 27, 28, 29]
def k65_62 : SCode := .reg [⟨some 269, none, .mov (.tmp 29), [], false⟩, ⟨some 270, none, .mov (.tmp 7), [], false⟩, ⟨some 271, none, .len (.tmp 270), [], false⟩, ⟨some 272, none, .bin .lss (.tmp 269) (.tmp 271), [], false⟩] [5, 6, 7, 18, 26, 27, 28, 29, 272]
def k65_63 : SCode := .cond (.tmp 272) .skip (.exit 8)
def k65_64 : SCode := .seq k65_62 k65_63
def k65_65 : SCode := .reg [⟨some 30, none, .mov (.const (.bool false)), [], false⟩] [5, 6, 7, 18, 26, 27, 28, 29, 30]
def k65_66 : SCode := .reg [⟨some 31, none, .mov (.const (.int .i64 0)), [], false⟩] [5, 6, 7, 18, 26, 27, 28, 29, 30, 31]
def k65_67 : SCode := .reg [⟨some 275, none, .mov (.tmp 31), [], false⟩, ⟨some 276, none, .mov (.tmp 18), [], false⟩, ⟨some 277, none, .mov (.tmp 26), [], false⟩, ⟨some 278, none, .idxS 1 (.tmp 276) (.tmp 277), [], false⟩, ⟨some 279, none, .load false 1 (.tmp 278), [], false⟩, ⟨some 280, none, .len (.tmp 279), [], false⟩, ⟨some 281, none, .bin .lss (.tmp 275) (.tmp 280), [], false⟩] [5, 6, 7, 18, 26, 27, 28, 29, 30, 31, 281]
def k65_68 : SCode := .cond (.tmp 281) .skip (.exit 10)
def k65_69 : SCode := .seq k65_67 k65_68
def k65_70 : SCode := .reg [⟨some 284, none, .mov (.tmp 30), [], false⟩, ⟨some 285, none, .mov (.tmp 284), [], false⟩, ⟨some 286, (some (285, false)), .mov (.tmp 31), [], false⟩, ⟨some 287, (some (285, false)), .mov (.tmp 27), [], false⟩, ⟨some 288, (some (285, false)), .bin .neq (.tmp 286) (.tmp 287), [], false⟩, ⟨some 289, (some (285, false)), .mov (.tmp 288), [], false⟩, ⟨some 290, (some (289, true)), .mov (.tmp 18), [], false⟩, ⟨some 291, (some (289, true)), .mov (.tmp 26), [], false⟩, ⟨some 292, (some (289, true)), .idxS 1 (.tmp 290) (.tmp 291), [], false⟩, ⟨some 293, (some (289, true)), .load false 1 (.tmp 292), [], false⟩, ⟨some 294, (some (289, true)), .mov (.tmp 31), [], false⟩, ⟨some 295, (some (289, true)), .idxS 1 (.tmp 293) (.tmp 294), [], false⟩, ⟨some 296, (some (289, true)), .load false 1 (.tmp 295), [], false⟩, ⟨some 297, (some (289, true)), .mov (.tmp 7), [], false⟩, ⟨some 298, (some (289, true)), .mov (.tmp 29), [], false⟩, ⟨some 299, (some (289, true)), .idxS 3 (.tmp 297) (.tmp 298), [], false⟩, ⟨some 300, (some (289, true)), .fld 0 (.tmp 299), [], false⟩, ⟨some 301, (some (289, true)), .load false 1 (.tmp 300), [], false⟩, ⟨some 302, (some (289, true)), .bin .eql (.tmp 296) (.tmp 301), [], false⟩, ⟨some 303, (some (285, false)), .pick (.tmp 289) (.tmp 302) (.const (.bool false)), [], false⟩, ⟨some 304, none, .pick (.tmp 285) (.const (.bool true)) (.tmp 303), [], false⟩, ⟨some 30, none, .mov (.tmp 304), [], false⟩] [5, 6, 7, 18, 26, 27, 28, 29, 30, 31]
def k65_71 : SCode := .block 11 k65_70
def k65_72 : SCode := .reg [⟨some 282, none, .mov (.tmp 31), [], false⟩, ⟨some 283, none, .bin .add (.tmp 282) (.const (.int .i64 1)), [], false⟩, ⟨some 31, none, .mov (.tmp 283), [], false⟩] [5, 6, 7, 18, 26, 27, 28, 29, 30, 31]
def k65_73 : SCode := .seq k65_71 k65_72
def k65_74 : SCode := .seq k65_69 k65_73
def k65_75 : SCode := .loop k65_74
def k65_76 : SCode := .block 10 k65_75
def k65_77 : SCode := .seq k65_66 k65_76
def k65_78 : SCode := .reg [⟨some 305, none, .mov (.tmp 30), [], false⟩, ⟨some 306, none, .un .not (.tmp 305), [], false⟩] [5, 6, 7, 18, 26, 27, 28, 29, 306]
def k65_79 : SCode := .reg [⟨some 307, none, .mov (.tmp 28), [], false⟩, ⟨some 308, none, .mov (.tmp 7), [], false⟩, ⟨some 309, none, .mov (.tmp 29), [], false⟩, ⟨some 310, none, .idxS 3 (.tmp 308) (.tmp 309), [], false⟩, ⟨some 311, none, .load true 3 (.tmp 310), [], false⟩, ⟨some 312, none, .buildSl 73 3 [(.int .i64 0), (.int .i64 0), (.int .i64 0)] 1 [(0, (.tmp 311))], [], false⟩, ⟨some 313, none, .append 73 3 24 (.tmp 307) (.tmp 312), [], false⟩, ⟨some 28, none, .mov (.tmp 313), [], false⟩] [5, 6, 7, 18, 26, 27, 28, 29]
def k65_80 : SCode := .cond (.tmp 306) k65_79 .skip
def k65_81 : SCode := .seq k65_78 k65_80
def k65_82 : SCode := .seq k65_77 k65_81
def k65_83 : SCode := .seq k65_65 k65_82
def k65_84 : SCode := .block 9 k65_83
def k65_85 : SCode := .reg [⟨some 273, none, .mov (.tmp 29), [], false⟩, ⟨some 274, none, .bin .add (.tmp 273) (.const (.int .i64 1)), [], false⟩, ⟨some 29, none, .mov (.tmp 274), [], false⟩] [5, 6, 7, 18, 26, 27, 28, 29]
def k65_86 : SCode := .seq k65_84 k65_85
def k65_87 : SCode := .seq k65_64 k65_86
def k65_88 : SCode := .loop k65_87
def k65_89 : SCode := .block 8 k65_88
def k65_90 : SCode := .seq k65_61 k65_89
def k65_91 : SCode := .reg [⟨some 315, none, .mov (.tmp 5), [], false⟩, ⟨some 316, none, .callG 14 [(.tmp 315)], [], true⟩, ⟨some 317, none, .mov (.tmp 28), [], false⟩, ⟨some 318, none, .load true 2 (.tmp 6), [1], false⟩, ⟨some 319, none, .call 16 [(.tmp 316), (.tmp 317), (.tmp 318)], [], false⟩, ⟨some 314, none, .mov (.tmp 319), [], false⟩, ⟨some 320, none, .ext (.tmp 314) 0, [], false⟩, ⟨some 321, none, .ext (.tmp 314) 1, [], false⟩, ⟨some 32, none, .mov (.tmp 320), [], false⟩, ⟨some 33, none, .mov (.tmp 321), [], false⟩] [5, 6, 7, 18, 26, 27, 33]
def k65_92 : SCode := .reg [⟨some 322, none, .mov (.tmp 33), [], false⟩, ⟨some 323, none, .bin .eql (.tmp 322) (.const (.int .i64 0)), [], false⟩, ⟨some 324, none, .mov (.tmp 27), [], false⟩, ⟨some 325, none, .bin .lss (.tmp 324) (.const (.int .i64 0)), [], false⟩, ⟨some 326, none, .binB true (.tmp 323) (.tmp 325), [], false⟩] [5, 6, 7, 18, 26, 27, 326]
def k65_93 : SCode := .reg [⟨some 4, none, .mov (.const (.bool false)), [], false⟩] [4]
def k65_94 : SCode := .seq k65_93 .ret
def k65_95 : SCode := .cond (.tmp 326) k65_94 .skip
def k65_96 : SCode := .seq k65_92 k65_95
def k65_97 : SCode := .seq k65_91 k65_96
def k65_98 : SCode := .seq k65_90 k65_97
def k65_99 : SCode := .seq k65_60 k65_98
def k65_100 : SCode := .block 7 k65_99
def k65_101 : SCode := .reg [⟨some 266, none, .mov (.tmp 27), [], false⟩, ⟨some 267, none, .bin .add (.tmp 266) (.const (.int .i64 1)), [], false⟩, ⟨some 27, none, .mov (.tmp 267), [], false⟩] [5, 6, 7, 18, 26, 27]
def k65_102 : SCode := .seq k65_100 k65_101
def k65_103 : SCode := .seq k65_59 k65_102
def k65_104 : SCode := .loop k65_103
def k65_105 : SCode := .block 6 k65_104
def k65_106 : SCode := .seq k65_56 k65_105
def k65_107 : SCode := .block 5 k65_106
def k65_108 : SCode := .reg [⟨some 257, none, .mov (.tmp 26), [], false⟩, ⟨some 258, none, .bin .add (.tmp 257) (.const (.int .i64 1)), [], false⟩, ⟨some 26, none, .mov (.tmp 258), [], false⟩] [5, 6, 7, 18, 26]
def k65_109 : SCode := .seq k65_107 k65_108
def k65_110 : SCode := .seq k65_55 k65_109
def k65_111 : SCode := .loop k65_110
def k65_112 : SCode := .block 4 k65_111
def k65_113 : SCode := .seq k65_52 k65_112
def k65_114 : SCode := .reg [⟨some 327, none, .call 13 [], [], false⟩, ⟨some 4, none, .mov (.tmp 327), [], false⟩] [4]
def k65_115 : SCode := .seq k65_114 .ret
def k65_116 : SCode := .seq k65_113 k65_115
def k65_117 : SCode := .seq k65_51 k65_116
def k65_118 : SCode := .seq k65_35 k65_117
def k65_119 : SCode := .seq k65_30 k65_118
def k65_120 : SCode := .seq k65_29 k65_119
def k65_121 : SCode := .seq k65_28 k65_120
def k65_122 : SCode := .seq k65_27 k65_121
def k65_123 : SCode := .seq k65_26 k65_122
def k65_124 : SCode := .seq k65_25 k65_123
def k65_125 : SCode := .seq k65_24 k65_124
def k65_126 : SCode := .seq k65_23 k65_125
def k65_127 : SCode := .seq k65_22 k65_126
def k65_128 : SCode := .seq k65_17 k65_127
def k65_129 : SCode := .seq k65_2 k65_128
def k65_130 : SCode := .seq k65_1 k65_129
def k65_131 : SCode := .seq k65_0 k65_130
theorem glaw_turretlaw08_WireMore (cs : List CV) (r : CV) (hl : cs.length ≤ 328) (h : STri (cfF Try.prog fresh 328) k65_131 (initT 0 cs) [] (retQ rs_turretlaw08_WireMore r)) : SC Try.prog 8 cs r :=
  sc_of fresh follows Try.func8 rfl Try.ntmps8 (by decide) (by kernel_rfl) (by kernel_rfl) hl h
end Go.Proofs.Ytakdmliblijgmaa
/- Wire's plain laws, I: an office made of bytes; its sources. -/
namespace Go.Proofs.Ytakdmliblijgmaa
open Go.RowKit
abbrev U8 (n : Int) : CV := .val (.int .u8 n)
structure Sv where
  (a b c d e : Int)
structure Nv where
  (a b c : Int)
structure Of where
  (srcs : List Sv) (notes : List Nv) (by' : Int) (truth : List Int)
def isU8 (n : Int) : Prop := 0 ≤ n ∧ n ≤ 255
structure SvOk (v : Sv) : Prop where
  a : isU8 v.a
  b : isU8 v.b
  c : isU8 v.c
  d : isU8 v.d
  e : isU8 v.e
structure NvOk (v : Nv) : Prop where
  a : isU8 v.a
  b : isU8 v.b
  c : isU8 v.c
structure OfOk (x : Of) : Prop where
  s : ∀ v ∈ x.srcs, SvOk v
  n : ∀ v ∈ x.notes, NvOk v
  y : isU8 x.by'
  t : ∀ n ∈ x.truth, isU8 n
  sl : x.srcs.length ≤ 9223372036854775807
  nl : x.notes.length ≤ 9223372036854775807
  tl : x.truth.length ≤ 9223372036854775807
def rowSv (v : Sv) : List CV := [U8 v.a, U8 v.b, U8 v.c, U8 v.d, U8 v.e]
def rowNv (v : Nv) : List CV := [U8 v.a, U8 v.b, U8 v.c]
def rowY (n : Int) : List CV := [U8 n]
def rowOf (x : Of) : List CV := [.sl 5 (x.srcs.map rowSv), .sl 3 (x.notes.map rowNv), U8 x.by', .sl 1 (x.truth.map rowY)]
def cOf (x : Of) : CV := .agg (rowOf x)
attribute [simp] rowSv rowNv rowY rowOf cOf
def zeroV : Sv := ⟨0, 0, 0, 0, 0⟩
def lowS (v : Sv) : Int := v.b % 30 - 15
def drS (v : Sv) : Int := 50 * (v.e - 128)
def tabTo (v : Sv) (k : Nat) : List Int := (List.range k).map fun (i : Nat) => v.e * ((i : Int) + 1) % 200 - 100
def tabN (v : Sv) : Nat := (1 + v.d % 4).toNat
def srcS (v : Sv) : Wsrc := ⟨1 + v.a % 4, lowS v, lowS v + v.c % 12, 100 * v.d, drS v, drS v + 100 * (v.c % 7), 1 + 37 * v.e, tabTo v (tabN v)⟩
def svAt (x : Of) (i : Nat) : Sv := x.srcs.getD i zeroV
def numS (x : Of) : Nat := if x.srcs.length = 0 then 1 else min x.srcs.length 5
def offL (x : Of) (k : Nat) : List Wsrc := (List.range k).map fun i => srcS (svAt x i)
def offW (x : Of) : List Wsrc := offL x (numS x)
theorem tabTo_succ (v : Sv) (k : Nat) : tabTo v (k + 1) = tabTo v k ++ [v.e * ((k : Int) + 1) % 200 - 100] := by simp [tabTo, List.range_succ]
theorem tabTo_len (v : Sv) (k : Nat) : (tabTo v k).length = k := by simp [tabTo]
theorem offL_succ (x : Of) (k : Nat) : offL x (k + 1) = offL x k ++ [srcS (svAt x k)] := by simp [offL, List.range_succ]
theorem offL_len (x : Of) (k : Nat) : (offL x k).length = k := by simp [offL]
theorem numS_bd (x : Of) : 1 ≤ numS x ∧ numS x ≤ 5 := by unfold numS; split <;> omega
theorem zero_ok : SvOk zeroV := ⟨⟨by decide, by decide⟩, ⟨by decide, by decide⟩, ⟨by decide, by decide⟩, ⟨by decide, by decide⟩, ⟨by decide, by decide⟩⟩
theorem svAt_ok {x : Of} (hx : OfOk x) (i : Nat) : SvOk (svAt x i) := by
  unfold svAt
  rw [List.getD_eq_getElem?_getD]
  cases h : x.srcs[i]? with
  | none => exact zero_ok
  | some v => exact hx.s v (List.mem_of_getElem? h)
theorem lBy (x : Of) (hx : OfOk x) : SC Try.prog 35 [cOf x] (I (x.by' - 128)) := by
  refine law_turretlaw08_Office_by _ _ (by simp) ?_
  obtain ⟨h1, h2⟩ := hx.y
  (repeat' (first | ((first | with_reducible refine st_skip ?_ | with_reducible refine st_exit ?_); (try simp only [seqQ, blockQ, loopQ, forQ, whileQ, reduceIte, Nat.reduceEqDiff])) | (with_reducible refine st_ret ?_; ((try simp only [seqQ, blockQ, loopQ, forQ, whileQ]); first | (with_reducible refine retM_ret ?_) | refine retQ_ret ?_; simp)) | refine st_seq ?_ | refine st_block ?_ | ((with_reducible show (STri _ _ _ _ _) ∧ (STri _ _ _ _ _)); refine And.intro ?_ ?_) | ((first | refine st_reg ?_ | refine buildP_own ?_ | refine appP_own ?_) <;> (simp -dsimp; (repeat (simp -dsimp (disch := (first | omega | assumption | (refine Bool.eq_false_iff.1 ?_; assumption))) only [wrap_in, if_pos, if_neg]; (try simp -dsimp))))) | ((first | refine guardP_of (fun hc => ?_) (fun hc => ?_) | refine st_cond rfl (fun hc => ?_) (fun hc => ?_)) <;> (try simp only [lqA, lqB, lqC, lqD, lqE, lqF, lqG, lqH, lqI, lqJ, lqK, lqL, lqM, lqN, lqO] at hc) <;> (try (exfalso; first | omega | exact bool_tf hc (by assumption) | exact bool_ft hc (by assumption) | exact absurd (by assumption) hc)) <;> (first | with_reducible show STri _ _ _ _ _ _ | (simp -dsimp [hc]; (repeat (simp -dsimp (disch := (first | omega | assumption | (refine Bool.eq_false_iff.1 ?_; assumption))) only [wrap_in, if_pos, if_neg]; (try simp -dsimp [hc]))))))))
  exact .refl _
theorem lRest (n b : Int) (h3 : 0 < b) (h4 : b ≤ 1000000000000) : SC Try.prog 39 [I n, I b] (I (n % b)) := by
  refine law_turretlaw08_rest _ _ (by simp) ?_
  have hne : ¬ b = 0 := by omega
  have hb : IntKind.i64.wrap (n.tmod b + b) = n.tmod b + b := by
    have := tmod_lt n b h3
    exact wrap_in _ (by omega) (by omega)
  have he := mod_eq n b h3
  (repeat' (first | ((first | with_reducible refine st_skip ?_ | with_reducible refine st_exit ?_); (try simp only [seqQ, blockQ, loopQ, forQ, whileQ, reduceIte, Nat.reduceEqDiff])) | (with_reducible refine st_ret ?_; ((try simp only [seqQ, blockQ, loopQ, forQ, whileQ]); first | (with_reducible refine retM_ret ?_) | refine retQ_ret ?_; simp [hne, hb, he])) | refine st_seq ?_ | refine st_block ?_ | ((with_reducible show (STri _ _ _ _ _) ∧ (STri _ _ _ _ _)); refine And.intro ?_ ?_) | ((first | refine st_reg ?_ | refine buildP_own ?_ | refine appP_own ?_) <;> (simp -dsimp [hne, hb, he]; (repeat (simp -dsimp (disch := (first | omega | assumption | (refine Bool.eq_false_iff.1 ?_; assumption))) only [wrap_in, if_pos, if_neg]; (try simp -dsimp [hne, hb, he]))))) | ((first | refine guardP_of (fun hc => ?_) (fun hc => ?_) | refine st_cond rfl (fun hc => ?_) (fun hc => ?_)) <;> (try simp only [lqA, lqB, lqC, lqD, lqE, lqF, lqG, lqH, lqI, lqJ, lqK, lqL, lqM, lqN, lqO] at hc) <;> (try (exfalso; first | omega | exact bool_tf hc (by assumption) | exact bool_ft hc (by assumption) | exact absurd (by assumption) hc)) <;> (first | with_reducible show STri _ _ _ _ _ _ | (simp -dsimp [hne, hb, he, hc]; (repeat (simp -dsimp (disch := (first | omega | assumption | (refine Bool.eq_false_iff.1 ?_; assumption))) only [wrap_in, if_pos, if_neg]; (try simp -dsimp [hne, hb, he, hc]))))))))
  exact .refl _
def byV (l : List Int) (i : Nat) : Int := if l = [] then 0 else l.getD (i % l.length) 0
theorem byV_bd {l : List Int} (h : ∀ n ∈ l, isU8 n) (i : Nat) : isU8 (byV l i) := by
  unfold byV
  split
  · exact ⟨by decide, by decide⟩
  · rename_i hl
    have hlt : i % l.length < l.length := Nat.mod_lt _ (List.length_pos_iff.2 hl)
    have : l.getD (i % l.length) 0 = l[i % l.length] := by simp [hlt]
    rw [this]
    exact h _ (List.getElem_mem hlt)
theorem lByte (l : List Int) (hb : ∀ n ∈ l, isU8 n) (hl : l.length ≤ 9223372036854775807) (i : Nat) (hi : i ≤ 1000000) : SC Try.prog 58 [.sl 1 (l.map rowY), I i] (I (byV l i)) := by
  refine law_turretlaw08_byteOf _ _ (by simp) ?_
  by_cases hn : l = []
  · subst hn
    (repeat' (first | ((first | with_reducible refine st_skip ?_ | with_reducible refine st_exit ?_); (try simp only [seqQ, blockQ, loopQ, forQ, whileQ, reduceIte, Nat.reduceEqDiff])) | (with_reducible refine st_ret ?_; ((try simp only [seqQ, blockQ, loopQ, forQ, whileQ]); first | (with_reducible refine retM_ret ?_) | refine retQ_ret ?_; simp)) | refine st_seq ?_ | refine st_block ?_ | ((with_reducible show (STri _ _ _ _ _) ∧ (STri _ _ _ _ _)); refine And.intro ?_ ?_) | ((first | refine st_reg ?_ | refine buildP_own ?_ | refine appP_own ?_) <;> (simp -dsimp; (repeat (simp -dsimp (disch := (first | omega | assumption | (refine Bool.eq_false_iff.1 ?_; assumption))) only [wrap_in, if_pos, if_neg]; (try simp -dsimp))))) | ((first | refine guardP_of (fun hc => ?_) (fun hc => ?_) | refine st_cond rfl (fun hc => ?_) (fun hc => ?_)) <;> (try simp only [lqA, lqB, lqC, lqD, lqE, lqF, lqG, lqH, lqI, lqJ, lqK, lqL, lqM, lqN, lqO] at hc) <;> (try (exfalso; first | omega | exact bool_tf hc (by assumption) | exact bool_ft hc (by assumption) | exact absurd (by assumption) hc)) <;> (first | with_reducible show STri _ _ _ _ _ _ | (simp -dsimp [hc]; (repeat (simp -dsimp (disch := (first | omega | assumption | (refine Bool.eq_false_iff.1 ?_; assumption))) only [wrap_in, if_pos, if_neg]; (try simp -dsimp [hc]))))))))
    all_goals exact .refl _
  · have hlen : 0 < l.length := List.length_pos_iff.2 hn
    have hlt : i % l.length < l.length := Nat.mod_lt _ hlen
    have hv : byV l i = l[i % l.length] := by unfold byV; rw [if_neg hn]; simp [hlt]
    have hbd := hb _ (List.getElem_mem hlt)
    rw [hv]
    unfold isU8 at hbd
    have hm : (i : Int).tmod (l.length : Int) = ((i % l.length : Nat) : Int) := by
      rw [Int.tmod_eq_emod_of_nonneg (by omega)]; omega
    have hne : ¬ (l.length : Int) = 0 := by omega
    have hw : IntKind.i64.wrap ((i % l.length : Nat) : Int) = ((i % l.length : Nat) : Int) := wrap_in _ (by omega) (by omega)
    generalize i % l.length = j at *
    (repeat' (first | ((first | with_reducible refine st_skip ?_ | with_reducible refine st_exit ?_); (try simp only [seqQ, blockQ, loopQ, forQ, whileQ, reduceIte, Nat.reduceEqDiff])) | (with_reducible refine st_ret ?_; ((try simp only [seqQ, blockQ, loopQ, forQ, whileQ]); first | (with_reducible refine retM_ret ?_) | refine retQ_ret ?_; simp [hn, hm, hne, hlt, hw])) | refine st_seq ?_ | refine st_block ?_ | ((with_reducible show (STri _ _ _ _ _) ∧ (STri _ _ _ _ _)); refine And.intro ?_ ?_) | ((first | refine st_reg ?_ | refine buildP_own ?_ | refine appP_own ?_) <;> (simp -dsimp [hn, hm, hne, hlt, hw]; (repeat (simp -dsimp (disch := (first | omega | assumption | (refine Bool.eq_false_iff.1 ?_; assumption))) only [wrap_in, if_pos, if_neg]; (try simp -dsimp [hn, hm, hne, hlt, hw]))))) | ((first | refine guardP_of (fun hc => ?_) (fun hc => ?_) | refine st_cond rfl (fun hc => ?_) (fun hc => ?_)) <;> (try simp only [lqA, lqB, lqC, lqD, lqE, lqF, lqG, lqH, lqI, lqJ, lqK, lqL, lqM, lqN, lqO] at hc) <;> (try (exfalso; first | omega | exact bool_tf hc (by assumption) | exact bool_ft hc (by assumption) | exact absurd (by assumption) hc)) <;> (first | with_reducible show STri _ _ _ _ _ _ | (simp -dsimp [hn, hm, hne, hlt, hw, hc]; (repeat (simp -dsimp (disch := (first | omega | assumption | (refine Bool.eq_false_iff.1 ?_; assumption))) only [wrap_in, if_pos, if_neg]; (try simp -dsimp [hn, hm, hne, hlt, hw, hc]))))))))
    all_goals exact .refl _
def bxOf (x : Of) : Blk := .box 66 [.c (.sl 5 (x.srcs.map rowSv)), .c (.sl 3 (x.notes.map rowNv)), .c (U8 x.by'), .c (.sl 1 (x.truth.map rowY))]
attribute [simp] bxOf
theorem tab_bd (e : Int) (h : isU8 e) {n : Nat} (hn : n < 4) : 0 ≤ e * ((n : Int) + 1) ∧ e * ((n : Int) + 1) ≤ 1020 := by
  unfold isU8 at h
  rcases (show n = 0 ∨ n = 1 ∨ n = 2 ∨ n = 3 by omega) with rfl | rfl | rfl | rfl <;> simp <;> omega
set_option maxRecDepth 100000 in
set_option maxHeartbeats 2000000 in
theorem lOffS (x : Of) (hx : OfOk x) : SC Try.prog 33 [cOf x] (slSr (offW x)) := by
  refine law_turretlaw08_Office_sources _ _ (by simp) ?_
  unfold cOf offW
  (repeat' (first | ((first | with_reducible refine st_skip ?_ | with_reducible refine st_exit ?_); (try simp only [seqQ, blockQ, loopQ, forQ, whileQ, reduceIte, Nat.reduceEqDiff])) | (with_reducible refine st_ret ?_; ((try simp only [seqQ, blockQ, loopQ, forQ, whileQ]); first | (with_reducible refine retM_ret ?_) | refine retQ_ret ?_; simp)) | refine st_seq ?_ | refine st_block ?_ | ((with_reducible show (STri _ _ _ _ _) ∧ (STri _ _ _ _ _)); refine And.intro ?_ ?_) | ((first | refine st_reg ?_ | refine buildP_own ?_ | refine appP_own ?_) <;> (simp -dsimp; (repeat (simp -dsimp (disch := (first | omega | assumption | (refine Bool.eq_false_iff.1 ?_; assumption))) only [wrap_in, if_pos, if_neg]; (try simp -dsimp))))) | ((first | refine guardP_of (fun hc => ?_) (fun hc => ?_) | refine st_cond rfl (fun hc => ?_) (fun hc => ?_)) <;> (try simp only [lqA, lqB, lqC, lqD, lqE, lqF, lqG, lqH, lqI, lqJ, lqK, lqL, lqM, lqN, lqO] at hc) <;> (try (exfalso; first | omega | exact bool_tf hc (by assumption) | exact bool_ft hc (by assumption) | exact absurd (by assumption) hc)) <;> (first | with_reducible show STri _ _ _ _ _ _ | (simp -dsimp [hc]; (repeat (simp -dsimp (disch := (first | omega | assumption | (refine Bool.eq_false_iff.1 ?_; assumption))) only [wrap_in, if_pos, if_neg]; (try simp -dsimp [hc]))))))))
  refine st_for [1, 10] (numS x) (fun k T H => T = [(1, .ptr 1 0), (3, .own 10 k), (4, .c (I k))] ∧ H = [(1, bxOf x), (10, .arr 79 8 ((offL x k).map rowSr))]) (by simp) ⟨by simp, by simp [offL]⟩ ?_
  rintro k T H hk ⟨rfl, rfl⟩
  obtain ⟨nb1, nb2⟩ := numS_bd x
  have hlenO := offL_len x k
  by_cases hlt : k < numS x
  · have hs := offL_succ x k
    have hA : k ≤ 9223372036854775806 := by omega
    have hB : (k + 1) * 80 ≤ 140737488355328 := by omega
    have hvo := svAt_ok hx k
    obtain ⟨⟨a1, a2⟩, ⟨b1, b2⟩, ⟨c1, c2⟩, ⟨d1, d2⟩, he⟩ := hvo
    obtain ⟨e1, e2⟩ := he
    have htn : ((tabN (svAt x k) : Nat) : Int) = 1 + (svAt x k).d % 4 := by unfold tabN; omega
    have htn2 : tabN (svAt x k) ≤ 4 := by omega
    by_cases hv : k < x.srcs.length
    · have hk5 : (k : Int) < 5 := by omega
      have hgd : svAt x k = x.srcs[k] := by unfold svAt; simp [hv]
      have hgr : ∀ h : k < (x.srcs.map rowSv).length, (x.srcs.map rowSv)[k]'h = rowSv x.srcs[k] := fun h => by simp
      have hq : x.srcs[k]? = some x.srcs[k] := by simp
      rw [hgd] at hs a1 a2 b1 b2 c1 c2 d1 d2 e1 e2 htn htn2
      generalize x.srcs[k] = v at *
      have m1 : v.b.tmod 30 = v.b % 30 := Int.tmod_eq_emod_of_nonneg b1
      have m2 : v.a.tmod 4 = v.a % 4 := Int.tmod_eq_emod_of_nonneg a1
      have m3 : v.c.tmod 12 = v.c % 12 := Int.tmod_eq_emod_of_nonneg c1
      have m4 : v.c.tmod 7 = v.c % 7 := Int.tmod_eq_emod_of_nonneg c1
      have m5 : v.d.tmod 4 = v.d % 4 := Int.tmod_eq_emod_of_nonneg d1
      have l1 := lSpan (v.b % 30 - 15) (v.b % 30 - 15 + v.c % 12)
      have l2 := lSpan (50 * (v.e - 128)) (50 * (v.e - 128) + 100 * (v.c % 7))
      by_cases hk0 : k = 0
      · subst hk0
        (repeat' (first | ((first | with_reducible refine st_skip ?_ | with_reducible refine st_exit ?_); (try simp only [seqQ, blockQ, loopQ, forQ, whileQ, reduceIte, Nat.reduceEqDiff])) | (with_reducible refine st_ret ?_; ((try simp only [seqQ, blockQ, loopQ, forQ, whileQ]); first | (with_reducible refine retM_ret ?_) | refine retQ_ret ?_; simp [hlt, hv, hk5, hgr, hq, m1, m2, m3, m4, m5])) | refine st_seq ?_ | refine st_block ?_ | ((with_reducible show (STri _ _ _ _ _) ∧ (STri _ _ _ _ _)); refine And.intro ?_ ?_) | ((first | refine st_reg ?_ | refine buildP_own ?_ | refine appP_own ?_ | refine callP_b (l1) rfl ?_ | refine callP_b (l2) rfl ?_) <;> (simp -dsimp [hlt, hv, hk5, hgr, hq, m1, m2, m3, m4, m5]; (repeat (simp -dsimp (disch := (first | omega | assumption | (refine Bool.eq_false_iff.1 ?_; assumption))) only [wrap_in, if_pos, if_neg]; (try simp -dsimp [hlt, hv, hk5, hgr, hq, m1, m2, m3, m4, m5]))))) | ((first | refine guardP_of (fun hc => ?_) (fun hc => ?_) | refine st_cond rfl (fun hc => ?_) (fun hc => ?_)) <;> (try simp only [lqA, lqB, lqC, lqD, lqE, lqF, lqG, lqH, lqI, lqJ, lqK, lqL, lqM, lqN, lqO] at hc) <;> (try (exfalso; first | omega | exact bool_tf hc (by assumption) | exact bool_ft hc (by assumption) | exact absurd (by assumption) hc)) <;> (first | with_reducible show STri _ _ _ _ _ _ | (simp -dsimp [hlt, hv, hk5, hgr, hq, m1, m2, m3, m4, m5, hc]; (repeat (simp -dsimp (disch := (first | omega | assumption | (refine Bool.eq_false_iff.1 ?_; assumption))) only [wrap_in, if_pos, if_neg]; (try simp -dsimp [hlt, hv, hk5, hgr, hq, m1, m2, m3, m4, m5, hc]))))))))
        refine st_nilB 7 7 200 3 1 rfl (by simp) rfl (by simp [newOK, setL1]) ?_
        refine st_for [1, 10, 5, 7, 200] (tabN v) (fun n T H => T = [(1, .ptr 1 0), (3, .own 10 0), (4, .c (I 0)), (5, .ptr 5 0), (7, .ptr 7 0), (9, .c (I n))] ∧ H = [(1, bxOf x), (10, .arr 79 8 ((offL x 0).map rowSr)), (5, .box 108 [.c (U8 v.a), .c (U8 v.b), .c (U8 v.c), .c (U8 v.d), .c (U8 v.e)]),
          (7, .box 79 [.c (I (1 + v.a % 4)), .c (I (lowS v)), .c (I (lowS v + v.c % 12)), .c (I (100 * v.d)), .c (I (drS v)), .c (I (drS v + 100 * (v.c % 7))), .c (I (1 + 37 * v.e)), .own 200 n]), (200, .arr 3 1 ((tabTo v n).map rowI))]) (by simp [setL1]) ⟨by simp, by simp [setL1, tabTo, lowS, drS, offL]⟩ ?_
        rintro n T H hn ⟨rfl, rfl⟩
        have hlenT := tabTo_len v n
        by_cases hn2 : n < tabN v
        · have hn3 : (n : Int) < 1 + v.d % 4 := by omega
          have hn4 : n < 4 := by omega
          obtain ⟨p1, p2⟩ := tab_bd v.e ⟨e1, e2⟩ hn4
          have m6 : (v.e * ((n : Int) + 1)).tmod 200 = v.e * ((n : Int) + 1) % 200 := Int.tmod_eq_emod_of_nonneg p1
          have hst := tabTo_succ v n
          have hA2 : n ≤ 9223372036854775806 := by omega
          have hB2 : (n + 1) * 8 ≤ 140737488355328 := by omega
          have hw : IntKind.i64.wrap (v.e * ((n : Int) + 1)) = v.e * ((n : Int) + 1) := wrap_in _ (by omega) (by omega)
          (repeat' (first | ((first | with_reducible refine st_skip ?_ | with_reducible refine st_exit ?_); (try simp only [seqQ, blockQ, loopQ, forQ, whileQ, reduceIte, Nat.reduceEqDiff])) | (with_reducible refine st_ret ?_; ((try simp only [seqQ, blockQ, loopQ, forQ, whileQ]); first | (with_reducible refine retM_ret ?_) | refine retQ_ret ?_; simp [hn3, m5, m6, hw, hlenT, hA2, hB2])) | refine st_seq ?_ | refine st_block ?_ | ((with_reducible show (STri _ _ _ _ _) ∧ (STri _ _ _ _ _)); refine And.intro ?_ ?_) | ((first | refine st_reg ?_ | refine buildP_own ?_ | refine appP_own ?_) <;> (simp -dsimp [hn3, m5, m6, hw, hlenT, hA2, hB2]; (repeat (simp -dsimp (disch := (first | omega | assumption | (refine Bool.eq_false_iff.1 ?_; assumption))) only [wrap_in, if_pos, if_neg]; (try simp -dsimp [hn3, m5, m6, hw, hlenT, hA2, hB2]))))) | ((first | refine guardP_of (fun hc => ?_) (fun hc => ?_) | refine st_cond rfl (fun hc => ?_) (fun hc => ?_)) <;> (try simp only [lqA, lqB, lqC, lqD, lqE, lqF, lqG, lqH, lqI, lqJ, lqK, lqL, lqM, lqN, lqO] at hc) <;> (try (exfalso; first | omega | exact bool_tf hc (by assumption) | exact bool_ft hc (by assumption) | exact absurd (by assumption) hc)) <;> (first | with_reducible show STri _ _ _ _ _ _ | (simp -dsimp [hn3, m5, m6, hw, hlenT, hA2, hB2, hc]; (repeat (simp -dsimp (disch := (first | omega | assumption | (refine Bool.eq_false_iff.1 ?_; assumption))) only [wrap_in, if_pos, if_neg]; (try simp -dsimp [hn3, m5, m6, hw, hlenT, hA2, hB2, hc]))))))))
          all_goals exact ⟨hn2, by simp, by simp, by simp [hst]⟩
        · have hnn : n = tabN v := by omega
          have hn3 : ¬ (n : Int) < 1 + v.d % 4 := by omega
          (repeat' (first | ((with_reducible show STri _ k56_27 _ _ _); refine st_shut1 200 rfl (by simp [dropOK, dropK]) (by simp [ClosO, ownS, dropK, SV.outD, hlenT]) (by simp [ShutH, ShutB, ownL, ownS, dropK, SV.outD, outDL, Blk.outD, hlenT]) ?_; simp) | ((first | with_reducible refine st_skip ?_ | with_reducible refine st_exit ?_); (try simp only [seqQ, blockQ, loopQ, forQ, whileQ, reduceIte, Nat.reduceEqDiff])) | (with_reducible refine st_ret ?_; ((try simp only [seqQ, blockQ, loopQ, forQ, whileQ]); first | (with_reducible refine retM_ret ?_) | refine retQ_ret ?_; simp [hn3, m5, hlenO, hA, hB])) | refine st_seq ?_ | refine st_block ?_ | ((with_reducible show (STri _ _ _ _ _) ∧ (STri _ _ _ _ _)); refine And.intro ?_ ?_) | ((first | refine st_reg ?_ | refine buildP_own ?_ | refine appP_own ?_) <;> (simp -dsimp [hn3, m5, hlenO, hA, hB]; (repeat (simp -dsimp (disch := (first | omega | assumption | (refine Bool.eq_false_iff.1 ?_; assumption))) only [wrap_in, if_pos, if_neg]; (try simp -dsimp [hn3, m5, hlenO, hA, hB]))))) | ((first | refine guardP_of (fun hc => ?_) (fun hc => ?_) | refine st_cond rfl (fun hc => ?_) (fun hc => ?_)) <;> (try simp only [lqA, lqB, lqC, lqD, lqE, lqF, lqG, lqH, lqI, lqJ, lqK, lqL, lqM, lqN, lqO] at hc) <;> (try (exfalso; first | omega | exact bool_tf hc (by assumption) | exact bool_ft hc (by assumption) | exact absurd (by assumption) hc)) <;> (first | with_reducible show STri _ _ _ _ _ _ | (simp -dsimp [hn3, m5, hlenO, hA, hB, hc]; (repeat (simp -dsimp (disch := (first | omega | assumption | (refine Bool.eq_false_iff.1 ?_; assumption))) only [wrap_in, if_pos, if_neg]; (try simp -dsimp [hn3, m5, hlenO, hA, hB, hc]))))))))
          all_goals (subst hnn; exact ⟨hlt, by simp, by simp, by rw [hs]; simp [srcS, lowS, drS]⟩)
      · skip
        (repeat' (first | ((first | with_reducible refine st_skip ?_ | with_reducible refine st_exit ?_); (try simp only [seqQ, blockQ, loopQ, forQ, whileQ, reduceIte, Nat.reduceEqDiff])) | (with_reducible refine st_ret ?_; ((try simp only [seqQ, blockQ, loopQ, forQ, whileQ]); first | (with_reducible refine retM_ret ?_) | refine retQ_ret ?_; simp [hlt, hv, hk5, hgr, hq, m1, m2, m3, m4, m5])) | refine st_seq ?_ | refine st_block ?_ | ((with_reducible show (STri _ _ _ _ _) ∧ (STri _ _ _ _ _)); refine And.intro ?_ ?_) | ((first | refine st_reg ?_ | refine buildP_own ?_ | refine appP_own ?_ | refine callP_b (l1) rfl ?_ | refine callP_b (l2) rfl ?_) <;> (simp -dsimp [hlt, hv, hk5, hgr, hq, m1, m2, m3, m4, m5]; (repeat (simp -dsimp (disch := (first | omega | assumption | (refine Bool.eq_false_iff.1 ?_; assumption))) only [wrap_in, if_pos, if_neg]; (try simp -dsimp [hlt, hv, hk5, hgr, hq, m1, m2, m3, m4, m5]))))) | ((first | refine guardP_of (fun hc => ?_) (fun hc => ?_) | refine st_cond rfl (fun hc => ?_) (fun hc => ?_)) <;> (try simp only [lqA, lqB, lqC, lqD, lqE, lqF, lqG, lqH, lqI, lqJ, lqK, lqL, lqM, lqN, lqO] at hc) <;> (try (exfalso; first | omega | exact bool_tf hc (by assumption) | exact bool_ft hc (by assumption) | exact absurd (by assumption) hc)) <;> (first | with_reducible show STri _ _ _ _ _ _ | (simp -dsimp [hlt, hv, hk5, hgr, hq, m1, m2, m3, m4, m5, hc]; (repeat (simp -dsimp (disch := (first | omega | assumption | (refine Bool.eq_false_iff.1 ?_; assumption))) only [wrap_in, if_pos, if_neg]; (try simp -dsimp [hlt, hv, hk5, hgr, hq, m1, m2, m3, m4, m5, hc]))))))))
        refine st_nilB 7 7 200 3 1 rfl (by simp) rfl (by simp [newOK, setL1]) ?_
        refine st_for [1, 10, 5, 7, 200] (tabN v) (fun n T H => T = [(1, .ptr 1 0), (3, .own 10 k), (4, .c (I k)), (5, .ptr 5 0), (7, .ptr 7 0), (9, .c (I n))] ∧ H = [(1, bxOf x), (10, .arr 79 8 ((offL x k).map rowSr)), (5, .box 108 [.c (U8 v.a), .c (U8 v.b), .c (U8 v.c), .c (U8 v.d), .c (U8 v.e)]),
          (7, .box 79 [.c (I (1 + v.a % 4)), .c (I (lowS v)), .c (I (lowS v + v.c % 12)), .c (I (100 * v.d)), .c (I (drS v)), .c (I (drS v + 100 * (v.c % 7))), .c (I (1 + 37 * v.e)), .own 200 n]), (200, .arr 3 1 ((tabTo v n).map rowI))]) (by simp [setL1]) ⟨by simp, by simp [setL1, tabTo, lowS, drS]⟩ ?_
        rintro n T H hn ⟨rfl, rfl⟩
        have hlenT := tabTo_len v n
        by_cases hn2 : n < tabN v
        · have hn3 : (n : Int) < 1 + v.d % 4 := by omega
          have hn4 : n < 4 := by omega
          obtain ⟨p1, p2⟩ := tab_bd v.e ⟨e1, e2⟩ hn4
          have m6 : (v.e * ((n : Int) + 1)).tmod 200 = v.e * ((n : Int) + 1) % 200 := Int.tmod_eq_emod_of_nonneg p1
          have hst := tabTo_succ v n
          have hA2 : n ≤ 9223372036854775806 := by omega
          have hB2 : (n + 1) * 8 ≤ 140737488355328 := by omega
          have hw : IntKind.i64.wrap (v.e * ((n : Int) + 1)) = v.e * ((n : Int) + 1) := wrap_in _ (by omega) (by omega)
          (repeat' (first | ((first | with_reducible refine st_skip ?_ | with_reducible refine st_exit ?_); (try simp only [seqQ, blockQ, loopQ, forQ, whileQ, reduceIte, Nat.reduceEqDiff])) | (with_reducible refine st_ret ?_; ((try simp only [seqQ, blockQ, loopQ, forQ, whileQ]); first | (with_reducible refine retM_ret ?_) | refine retQ_ret ?_; simp [hn3, m5, m6, hw, hlenT, hA2, hB2])) | refine st_seq ?_ | refine st_block ?_ | ((with_reducible show (STri _ _ _ _ _) ∧ (STri _ _ _ _ _)); refine And.intro ?_ ?_) | ((first | refine st_reg ?_ | refine buildP_own ?_ | refine appP_own ?_) <;> (simp -dsimp [hn3, m5, m6, hw, hlenT, hA2, hB2]; (repeat (simp -dsimp (disch := (first | omega | assumption | (refine Bool.eq_false_iff.1 ?_; assumption))) only [wrap_in, if_pos, if_neg]; (try simp -dsimp [hn3, m5, m6, hw, hlenT, hA2, hB2]))))) | ((first | refine guardP_of (fun hc => ?_) (fun hc => ?_) | refine st_cond rfl (fun hc => ?_) (fun hc => ?_)) <;> (try simp only [lqA, lqB, lqC, lqD, lqE, lqF, lqG, lqH, lqI, lqJ, lqK, lqL, lqM, lqN, lqO] at hc) <;> (try (exfalso; first | omega | exact bool_tf hc (by assumption) | exact bool_ft hc (by assumption) | exact absurd (by assumption) hc)) <;> (first | with_reducible show STri _ _ _ _ _ _ | (simp -dsimp [hn3, m5, m6, hw, hlenT, hA2, hB2, hc]; (repeat (simp -dsimp (disch := (first | omega | assumption | (refine Bool.eq_false_iff.1 ?_; assumption))) only [wrap_in, if_pos, if_neg]; (try simp -dsimp [hn3, m5, m6, hw, hlenT, hA2, hB2, hc]))))))))
          all_goals exact ⟨hn2, by simp, by simp, by simp [hst]⟩
        · have hnn : n = tabN v := by omega
          have hn3 : ¬ (n : Int) < 1 + v.d % 4 := by omega
          (repeat' (first | ((with_reducible show STri _ k56_27 _ _ _); refine st_shut1 200 rfl (by simp [dropOK, dropK]) (by simp [ClosO, ownS, dropK, SV.outD, hlenT]) (by simp [ShutH, ShutB, ownL, ownS, dropK, SV.outD, outDL, Blk.outD, hlenT]) ?_; simp) | ((first | with_reducible refine st_skip ?_ | with_reducible refine st_exit ?_); (try simp only [seqQ, blockQ, loopQ, forQ, whileQ, reduceIte, Nat.reduceEqDiff])) | (with_reducible refine st_ret ?_; ((try simp only [seqQ, blockQ, loopQ, forQ, whileQ]); first | (with_reducible refine retM_ret ?_) | refine retQ_ret ?_; simp [hn3, m5, hlenO, hA, hB])) | refine st_seq ?_ | refine st_block ?_ | ((with_reducible show (STri _ _ _ _ _) ∧ (STri _ _ _ _ _)); refine And.intro ?_ ?_) | ((first | refine st_reg ?_ | refine buildP_own ?_ | refine appP_own ?_) <;> (simp -dsimp [hn3, m5, hlenO, hA, hB]; (repeat (simp -dsimp (disch := (first | omega | assumption | (refine Bool.eq_false_iff.1 ?_; assumption))) only [wrap_in, if_pos, if_neg]; (try simp -dsimp [hn3, m5, hlenO, hA, hB]))))) | ((first | refine guardP_of (fun hc => ?_) (fun hc => ?_) | refine st_cond rfl (fun hc => ?_) (fun hc => ?_)) <;> (try simp only [lqA, lqB, lqC, lqD, lqE, lqF, lqG, lqH, lqI, lqJ, lqK, lqL, lqM, lqN, lqO] at hc) <;> (try (exfalso; first | omega | exact bool_tf hc (by assumption) | exact bool_ft hc (by assumption) | exact absurd (by assumption) hc)) <;> (first | with_reducible show STri _ _ _ _ _ _ | (simp -dsimp [hn3, m5, hlenO, hA, hB, hc]; (repeat (simp -dsimp (disch := (first | omega | assumption | (refine Bool.eq_false_iff.1 ?_; assumption))) only [wrap_in, if_pos, if_neg]; (try simp -dsimp [hn3, m5, hlenO, hA, hB, hc]))))))))
          all_goals (subst hnn; exact ⟨hlt, by simp, by simp, by rw [hs]; simp [srcS, lowS, drS]⟩)
    · have hk0 : k = 0 ∧ x.srcs.length = 0 := by
        unfold numS at hlt
        split at hlt
        · omega
        · omega
      obtain ⟨rfl, hl0⟩ := hk0
      have hf0 : x.srcs = [] := List.length_eq_zero_iff.1 hl0
      have hgd : svAt x 0 = zeroV := by unfold svAt; rw [hf0]; rfl
      rw [hgd] at hs
      have l1 := lSpan (-15) (-15)
      have l2 := lSpan (-6400) (-6400)
      (repeat' (first | ((first | with_reducible refine st_skip ?_ | with_reducible refine st_exit ?_); (try simp only [seqQ, blockQ, loopQ, forQ, whileQ, reduceIte, Nat.reduceEqDiff])) | (with_reducible refine st_ret ?_; ((try simp only [seqQ, blockQ, loopQ, forQ, whileQ]); first | (with_reducible refine retM_ret ?_) | refine retQ_ret ?_; simp [hf0])) | refine st_seq ?_ | refine st_block ?_ | ((with_reducible show (STri _ _ _ _ _) ∧ (STri _ _ _ _ _)); refine And.intro ?_ ?_) | ((first | refine st_reg ?_ | refine buildP_own ?_ | refine appP_own ?_ | refine callP_b (l1) rfl ?_ | refine callP_b (l2) rfl ?_) <;> (simp -dsimp [hf0]; (repeat (simp -dsimp (disch := (first | omega | assumption | (refine Bool.eq_false_iff.1 ?_; assumption))) only [wrap_in, if_pos, if_neg]; (try simp -dsimp [hf0]))))) | ((first | refine guardP_of (fun hc => ?_) (fun hc => ?_) | refine st_cond rfl (fun hc => ?_) (fun hc => ?_)) <;> (try simp only [lqA, lqB, lqC, lqD, lqE, lqF, lqG, lqH, lqI, lqJ, lqK, lqL, lqM, lqN, lqO] at hc) <;> (try (exfalso; first | omega | exact bool_tf hc (by assumption) | exact bool_ft hc (by assumption) | exact absurd (by assumption) hc)) <;> (first | with_reducible show STri _ _ _ _ _ _ | (simp -dsimp [hf0, hc]; (repeat (simp -dsimp (disch := (first | omega | assumption | (refine Bool.eq_false_iff.1 ?_; assumption))) only [wrap_in, if_pos, if_neg]; (try simp -dsimp [hf0, hc]))))))))
      refine st_nilB 7 7 200 3 1 rfl (by simp) rfl (by simp [newOK, setL1]) ?_
      refine st_for [1, 10, 5, 7, 200] 1 (fun n T H => T = [(1, .ptr 1 0), (3, .own 10 0), (4, .c (I 0)), (5, .ptr 5 0), (7, .ptr 7 0), (9, .c (I n))] ∧ H = [(1, bxOf x), (10, .arr 79 8 []), (5, .box 108 [.c (U8 0), .c (U8 0), .c (U8 0), .c (U8 0), .c (U8 0)]),
          (7, .box 79 [.c (I 1), .c (I (-15)), .c (I (-15)), .c (I 0), .c (I (-6400)), .c (I (-6400)), .c (I 1), .own 200 n]), (200, .arr 3 1 ((tabTo zeroV n).map rowI))]) (by simp [setL1]) ⟨by simp, by simp [setL1, tabTo, offL, hf0]⟩ ?_
      rintro n T H hn ⟨rfl, rfl⟩
      have hlenT := tabTo_len zeroV n
      by_cases hn2 : n < 1
      · have hn0 : n = 0 := by omega
        subst hn0
        have hst := tabTo_succ zeroV 0
        (repeat' (first | ((first | with_reducible refine st_skip ?_ | with_reducible refine st_exit ?_); (try simp only [seqQ, blockQ, loopQ, forQ, whileQ, reduceIte, Nat.reduceEqDiff])) | (with_reducible refine st_ret ?_; ((try simp only [seqQ, blockQ, loopQ, forQ, whileQ]); first | (with_reducible refine retM_ret ?_) | refine retQ_ret ?_; simp [hlenT])) | refine st_seq ?_ | refine st_block ?_ | ((with_reducible show (STri _ _ _ _ _) ∧ (STri _ _ _ _ _)); refine And.intro ?_ ?_) | ((first | refine st_reg ?_ | refine buildP_own ?_ | refine appP_own ?_) <;> (simp -dsimp [hlenT]; (repeat (simp -dsimp (disch := (first | omega | assumption | (refine Bool.eq_false_iff.1 ?_; assumption))) only [wrap_in, if_pos, if_neg]; (try simp -dsimp [hlenT]))))) | ((first | refine guardP_of (fun hc => ?_) (fun hc => ?_) | refine st_cond rfl (fun hc => ?_) (fun hc => ?_)) <;> (try simp only [lqA, lqB, lqC, lqD, lqE, lqF, lqG, lqH, lqI, lqJ, lqK, lqL, lqM, lqN, lqO] at hc) <;> (try (exfalso; first | omega | exact bool_tf hc (by assumption) | exact bool_ft hc (by assumption) | exact absurd (by assumption) hc)) <;> (first | with_reducible show STri _ _ _ _ _ _ | (simp -dsimp [hlenT, hc]; (repeat (simp -dsimp (disch := (first | omega | assumption | (refine Bool.eq_false_iff.1 ?_; assumption))) only [wrap_in, if_pos, if_neg]; (try simp -dsimp [hlenT, hc]))))))))
        all_goals exact ⟨hn2, by simp, by simp, by simp [hst, tabTo, zeroV]⟩
      · have hnn : n = 1 := by omega
        subst hnn
        (repeat' (first | ((with_reducible show STri _ k56_27 _ _ _); refine st_shut1 200 rfl (by simp [dropOK, dropK]) (by simp [ClosO, ownS, dropK, SV.outD, hlenT]) (by simp [ShutH, ShutB, ownL, ownS, dropK, SV.outD, outDL, Blk.outD, hlenT]) ?_; simp) | ((first | with_reducible refine st_skip ?_ | with_reducible refine st_exit ?_); (try simp only [seqQ, blockQ, loopQ, forQ, whileQ, reduceIte, Nat.reduceEqDiff])) | (with_reducible refine st_ret ?_; ((try simp only [seqQ, blockQ, loopQ, forQ, whileQ]); first | (with_reducible refine retM_ret ?_) | refine retQ_ret ?_; simp [hlenT])) | refine st_seq ?_ | refine st_block ?_ | ((with_reducible show (STri _ _ _ _ _) ∧ (STri _ _ _ _ _)); refine And.intro ?_ ?_) | ((first | refine st_reg ?_ | refine buildP_own ?_ | refine appP_own ?_) <;> (simp -dsimp [hlenT]; (repeat (simp -dsimp (disch := (first | omega | assumption | (refine Bool.eq_false_iff.1 ?_; assumption))) only [wrap_in, if_pos, if_neg]; (try simp -dsimp [hlenT]))))) | ((first | refine guardP_of (fun hc => ?_) (fun hc => ?_) | refine st_cond rfl (fun hc => ?_) (fun hc => ?_)) <;> (try simp only [lqA, lqB, lqC, lqD, lqE, lqF, lqG, lqH, lqI, lqJ, lqK, lqL, lqM, lqN, lqO] at hc) <;> (try (exfalso; first | omega | exact bool_tf hc (by assumption) | exact bool_ft hc (by assumption) | exact absurd (by assumption) hc)) <;> (first | with_reducible show STri _ _ _ _ _ _ | (simp -dsimp [hlenT, hc]; (repeat (simp -dsimp (disch := (first | omega | assumption | (refine Bool.eq_false_iff.1 ?_; assumption))) only [wrap_in, if_pos, if_neg]; (try simp -dsimp [hlenT, hc]))))))))
        all_goals exact ⟨hlt, by simp, by simp, by rw [hs]; simp [srcS, lowS, drS, zeroV, offL, tabN, tabTo]⟩
  · have hkn : k = numS x := by omega
    have hb : ¬ k = 0 ∧ ¬ (k < x.srcs.length ∧ k < 5) := by
      unfold numS at hkn
      split at hkn
      · omega
      · omega
    obtain ⟨b1, b2⟩ := hb
    subst hkn
    by_cases hv : numS x < x.srcs.length
    · have hv2 : ¬ (numS x : Int) < 5 := by omega
      (repeat' (first | ((first | with_reducible refine st_skip ?_ | with_reducible refine st_exit ?_); (try simp only [seqQ, blockQ, loopQ, forQ, whileQ, reduceIte, Nat.reduceEqDiff])) | (with_reducible refine st_ret ?_; ((try simp only [seqQ, blockQ, loopQ, forQ, whileQ]); first | (with_reducible refine retM_ret ?_) | refine retQ_ret ?_; simp [b1, hv, hv2, hlenO])) | refine st_seq ?_ | refine st_block ?_ | ((with_reducible show (STri _ _ _ _ _) ∧ (STri _ _ _ _ _)); refine And.intro ?_ ?_) | ((first | refine st_reg ?_ | refine buildP_own ?_ | refine appP_own ?_) <;> (simp -dsimp [b1, hv, hv2, hlenO]; (repeat (simp -dsimp (disch := (first | omega | assumption | (refine Bool.eq_false_iff.1 ?_; assumption))) only [wrap_in, if_pos, if_neg]; (try simp -dsimp [b1, hv, hv2, hlenO]))))) | ((first | refine guardP_of (fun hc => ?_) (fun hc => ?_) | refine st_cond rfl (fun hc => ?_) (fun hc => ?_)) <;> (try simp only [lqA, lqB, lqC, lqD, lqE, lqF, lqG, lqH, lqI, lqJ, lqK, lqL, lqM, lqN, lqO] at hc) <;> (try (exfalso; first | omega | exact bool_tf hc (by assumption) | exact bool_ft hc (by assumption) | exact absurd (by assumption) hc)) <;> (first | with_reducible show STri _ _ _ _ _ _ | (simp -dsimp [b1, hv, hv2, hlenO, hc]; (repeat (simp -dsimp (disch := (first | omega | assumption | (refine Bool.eq_false_iff.1 ?_; assumption))) only [wrap_in, if_pos, if_neg]; (try simp -dsimp [b1, hv, hv2, hlenO, hc]))))))))
      all_goals exact .refl _
    · (repeat' (first | ((first | with_reducible refine st_skip ?_ | with_reducible refine st_exit ?_); (try simp only [seqQ, blockQ, loopQ, forQ, whileQ, reduceIte, Nat.reduceEqDiff])) | (with_reducible refine st_ret ?_; ((try simp only [seqQ, blockQ, loopQ, forQ, whileQ]); first | (with_reducible refine retM_ret ?_) | refine retQ_ret ?_; simp [b1, hv, hlenO])) | refine st_seq ?_ | refine st_block ?_ | ((with_reducible show (STri _ _ _ _ _) ∧ (STri _ _ _ _ _)); refine And.intro ?_ ?_) | ((first | refine st_reg ?_ | refine buildP_own ?_ | refine appP_own ?_) <;> (simp -dsimp [b1, hv, hlenO]; (repeat (simp -dsimp (disch := (first | omega | assumption | (refine Bool.eq_false_iff.1 ?_; assumption))) only [wrap_in, if_pos, if_neg]; (try simp -dsimp [b1, hv, hlenO]))))) | ((first | refine guardP_of (fun hc => ?_) (fun hc => ?_) | refine st_cond rfl (fun hc => ?_) (fun hc => ?_)) <;> (try simp only [lqA, lqB, lqC, lqD, lqE, lqF, lqG, lqH, lqI, lqJ, lqK, lqL, lqM, lqN, lqO] at hc) <;> (try (exfalso; first | omega | exact bool_tf hc (by assumption) | exact bool_ft hc (by assumption) | exact absurd (by assumption) hc)) <;> (first | with_reducible show STri _ _ _ _ _ _ | (simp -dsimp [b1, hv, hlenO, hc]; (repeat (simp -dsimp (disch := (first | omega | assumption | (refine Bool.eq_false_iff.1 ?_; assumption))) only [wrap_in, if_pos, if_neg]; (try simp -dsimp [b1, hv, hlenO, hc]))))))))
      all_goals exact .refl _
end Go.Proofs.Ytakdmliblijgmaa
/- Wire's plain laws, II: notes that were made truly. -/
namespace Go.Proofs.Ytakdmliblijgmaa
open Go.RowKit
/-! What a note says, and when -/
def nvAt (x : Of) (i : Nat) : Nv := x.notes.getD i ⟨0, 0, 0⟩
def srcI (x : Of) (i : Nat) : Nat := ((nvAt x i).a % (numS x : Nat)).toNat
def srcN (x : Of) (i : Nat) : Wsrc := srcS (svAt x (srcI x i))
def errN (x : Of) (i : Nat) : Int := (srcN x i).elo + byV x.truth i % ((srcN x i).ehi - (srcN x i).elo + 1)
def baseN (x : Of) (i : Nat) : Int := 30000 + 1000 * (nvAt x i).b + (nvAt x i).c
def tabAt (s : Wsrc) (d : Int) : Int := s.table.getD (d % (s.table.length : Nat)).toNat 0
def timeN (x : Of) (i : Nat) : Int :=
  if (srcN x i).kind = 2 then (srcN x i).at' + ((nvAt x i).b + 200) * (srcN x i).every + errN x i
  else if (srcN x i).kind = 3 then (1 + (nvAt x i).b) * 86400 + tabAt (srcN x i) (1 + (nvAt x i).b) + errN x i
  else if (srcN x i).kind = 4 then baseN x i + errN x i else baseN x i
def drfN (x : Of) (i : Nat) : Int := if (nvAt x i).c % 2 = 1 then (srcN x i).dhi * (baseN x i - (srcN x i).at') else (srcN x i).dlo * (baseN x i - (srcN x i).at')
def saidN (x : Of) (i : Nat) : Int :=
  if (srcN x i).kind = 2 then 0 else if (srcN x i).kind = 3 then 0 else if (srcN x i).kind = 4 then baseN x i
  else (baseN x i + errN x i + drfN x i / 86400000) % 43200
def noteN (x : Of) (i : Nat) : Wnt := ⟨srcI x i, timeN x i - (x.by' - 128), saidN x i⟩
def notesTo' (x : Of) (k : Nat) : List Wnt := ((List.range k).map (noteN x)).filter fun n => decide (0 ≤ n.tick)
def numN (x : Of) : Nat := min x.notes.length 8
def offN (x : Of) : List Wnt := notesTo' x (numN x)
theorem notesTo_succ' (x : Of) (k : Nat) : notesTo' x (k + 1) = if 0 ≤ timeN x k - (x.by' - 128) then notesTo' x k ++ [noteN x k] else notesTo' x k := by
  show notesTo' x (k + 1) = if 0 ≤ (noteN x k).tick then notesTo' x k ++ [noteN x k] else notesTo' x k
  unfold notesTo'
  rw [List.range_succ, List.map_append, List.filter_append]
  by_cases h : 0 ≤ (noteN x k).tick <;> simp [h]
theorem notesTo_len' (x : Of) (k : Nat) : (notesTo' x k).length ≤ k := by
  unfold notesTo'
  exact Nat.le_trans (List.length_filter_le _ _) (by simp)
theorem nvAt_ok {x : Of} (hx : OfOk x) (i : Nat) : NvOk (nvAt x i) := by
  unfold nvAt
  rw [List.getD_eq_getElem?_getD]
  cases h : x.notes[i]? with
  | none => exact ⟨⟨by decide, by decide⟩, ⟨by decide, by decide⟩, ⟨by decide, by decide⟩⟩
  | some v => exact hx.n v (List.mem_of_getElem? h)
structure SrcBd (s : Wsrc) : Prop where
  k : s.kind = 1 ∨ s.kind = 2 ∨ s.kind = 3 ∨ s.kind = 4
  e0 : -15 ≤ s.elo
  e1 : s.elo ≤ s.ehi
  e2 : s.ehi ≤ s.elo + 11
  e3 : s.elo ≤ 14
  a0 : 0 ≤ s.at'
  a1 : s.at' ≤ 25500
  d0 : -6400 ≤ s.dlo
  d1 : s.dlo ≤ s.dhi
  d2 : s.dhi ≤ s.dlo + 600
  d3 : s.dlo ≤ 6350
  v0 : 1 ≤ s.every
  v1 : s.every ≤ 9436
  t0 : 1 ≤ s.table.length
  t1 : s.table.length ≤ 4
  t2 : ∀ n ∈ s.table, -100 ≤ n ∧ n ≤ 99
theorem src_bd {v : Sv} (hv : SvOk v) : SrcBd (srcS v) := by
  obtain ⟨⟨a1, a2⟩, ⟨b1, b2⟩, ⟨c1, c2⟩, ⟨d1, d2⟩, ⟨e1, e2⟩⟩ := hv
  have ht : ((tabN v : Nat) : Int) = 1 + v.d % 4 := by unfold tabN; omega
  refine ⟨?_, ?_, ?_, ?_, ?_, ?_, ?_, ?_, ?_, ?_, ?_, ?_, ?_, ?_, ?_, fun n hn => ?_⟩
  any_goals (show _ ≤ _; simp only [srcS, lowS, drS]; omega)
  · show 1 + v.a % 4 = 1 ∨ 1 + v.a % 4 = 2 ∨ 1 + v.a % 4 = 3 ∨ 1 + v.a % 4 = 4
    omega
  · show 1 ≤ (tabTo v (tabN v)).length
    rw [tabTo_len]; omega
  · show (tabTo v (tabN v)).length ≤ 4
    rw [tabTo_len]; omega
  · have hn : n ∈ tabTo v (tabN v) := hn
    unfold tabTo at hn
    obtain ⟨i, _, rfl⟩ := List.mem_map.1 hn
    omega
theorem srcN_bd {x : Of} (hx : OfOk x) (i : Nat) : SrcBd (srcN x i) := src_bd (svAt_ok hx _)
theorem srcI_lt {x : Of} (i : Nat) : srcI x i < numS x := by
  have := numS_bd x
  have h1 := Int.emod_nonneg (nvAt x i).a (show ((numS x : Nat) : Int) ≠ 0 by omega)
  have h2 := Int.emod_lt_of_pos (nvAt x i).a (show 0 < ((numS x : Nat) : Int) by omega)
  unfold srcI; omega
theorem err_bd {x : Of} (hx : OfOk x) (i : Nat) : (srcN x i).elo ≤ errN x i ∧ errN x i ≤ (srcN x i).ehi := by
  have hs := srcN_bd hx i
  have h0 := hs.e1
  have h1 := Int.emod_nonneg (byV x.truth i) (show (srcN x i).ehi - (srcN x i).elo + 1 ≠ 0 by omega)
  have h2 := Int.emod_lt_of_pos (byV x.truth i) (show 0 < (srcN x i).ehi - (srcN x i).elo + 1 by omega)
  unfold errN; omega
theorem base_bd {x : Of} (hx : OfOk x) (i : Nat) : 30000 ≤ baseN x i ∧ baseN x i ≤ 285255 := by
  obtain ⟨_, ⟨b1, b2⟩, ⟨c1, c2⟩⟩ := nvAt_ok hx i
  unfold baseN; omega
theorem mulBd {a b A B : Int} (h1 : -A ≤ a) (h2 : a ≤ A) (h3 : 0 ≤ b) (h4 : b ≤ B) (h0 : 0 ≤ A) : -(A * B) ≤ a * b ∧ a * b ≤ A * B := by
  have e1 : a * b ≤ A * b := Int.mul_le_mul_of_nonneg_right h2 h3
  have e2 : A * b ≤ A * B := Int.mul_le_mul_of_nonneg_left h4 h0
  have e3 : -A * b ≤ a * b := Int.mul_le_mul_of_nonneg_right h1 h3
  have e4 : -A * b = -(A * b) := Int.neg_mul A b
  omega
theorem ev_bd {x : Of} (hx : OfOk x) (i : Nat) : 200 ≤ ((nvAt x i).b + 200) * (srcN x i).every ∧ ((nvAt x i).b + 200) * (srcN x i).every ≤ 4293380 := by
  obtain ⟨_, ⟨b1, b2⟩, _⟩ := nvAt_ok hx i
  have hs := srcN_bd hx i
  have h0 := hs.v0
  have h1 := hs.v1
  have e1 : ((nvAt x i).b + 200) * (srcN x i).every ≤ 455 * (srcN x i).every := Int.mul_le_mul_of_nonneg_right (by omega) (by omega)
  have e2 : ((nvAt x i).b + 200) * 1 ≤ ((nvAt x i).b + 200) * (srcN x i).every := Int.mul_le_mul_of_nonneg_left h0 (by omega)
  omega
theorem drf_bd {x : Of} (hx : OfOk x) (i : Nat) : (-2000000000 ≤ (srcN x i).dlo * (baseN x i - (srcN x i).at') ∧ (srcN x i).dlo * (baseN x i - (srcN x i).at') ≤ 2000000000) ∧ (-2000000000 ≤ (srcN x i).dhi * (baseN x i - (srcN x i).at') ∧ (srcN x i).dhi * (baseN x i - (srcN x i).at') ≤ 2000000000) := by
  have hs := srcN_bd hx i
  have hb := base_bd hx i
  obtain ⟨_, _, _, _, _, a0, a1, d0, d1, d2, d3, _, _, _, _, _⟩ := hs
  have h1 := mulBd (a := (srcN x i).dlo) (b := baseN x i - (srcN x i).at') (A := 7000) (B := 285255) (by omega) (by omega) (by omega) (by omega) (by omega)
  have h2 := mulBd (a := (srcN x i).dhi) (b := baseN x i - (srcN x i).at') (A := 7000) (B := 285255) (by omega) (by omega) (by omega) (by omega) (by omega)
  omega
theorem tabAt_bd {s : Wsrc} (hs : SrcBd s) (d : Int) : -100 ≤ tabAt s d ∧ tabAt s d ≤ 99 := by
  have h0 := hs.t0
  have h1 := Int.emod_nonneg d (show ((s.table.length : Nat) : Int) ≠ 0 by omega)
  have h2 := Int.emod_lt_of_pos d (show 0 < ((s.table.length : Nat) : Int) by omega)
  have hlt : (d % (s.table.length : Nat)).toNat < s.table.length := by omega
  have : tabAt s d = s.table[(d % (s.table.length : Nat)).toNat] := by unfold tabAt; simp [hlt]
  rw [this]
  exact hs.t2 _ (List.getElem_mem hlt)
theorem time_bd {x : Of} (hx : OfOk x) (i : Nat) : 100 ≤ timeN x i ∧ timeN x i ≤ 30000000 := by
  have hs := srcN_bd hx i
  obtain ⟨_, ⟨b1, b2⟩, _⟩ := nvAt_ok hx i
  have h1 := err_bd hx i
  have h2 := base_bd hx i
  have h3 := ev_bd hx i
  have h4 := tabAt_bd hs (1 + (nvAt x i).b)
  obtain ⟨_, e0, e1, e2, e3, a0, a1, _, _, _, _, _, _, _, _, _⟩ := hs
  unfold timeN
  (repeat' split) <;> omega
end Go.Proofs.Ytakdmliblijgmaa
/- Wire's plain laws, III: an office's notes, walked. -/
namespace Go.Proofs.Ytakdmliblijgmaa
open Go.RowKit
theorem offW_len (x : Of) : (offW x).length = numS x := offL_len x _
theorem offW_get (x : Of) {j : Nat} (h : j < (offW x).length) : (offW x)[j] = srcS (svAt x j) := by simp [offW, offL]
set_option maxRecDepth 100000 in
set_option maxHeartbeats 4000000 in
theorem lOffN (x : Of) (hx : OfOk x) : FC Try.prog 36 [cOf x, slSr (offW x)] none 73 3 ((offN x).map rowN) := by
  refine flaw_turretlaw08_Office_notes _ _ _ _ _ (by simp) ?_
  unfold cOf offN
  (repeat' (first | ((first | with_reducible refine st_skip ?_ | with_reducible refine st_exit ?_); (try simp only [seqQ, blockQ, loopQ, forQ, whileQ, reduceIte, Nat.reduceEqDiff])) | (with_reducible refine st_ret ?_; ((try simp only [seqQ, blockQ, loopQ, forQ, whileQ]); first | (with_reducible refine retM_ret ?_) | (with_reducible refine retF_ret ?_) | (with_reducible refine retO_ret ?_) | refine retQ_ret ?_; simp)) | refine st_seq ?_ | refine st_block ?_ | ((with_reducible show (STri _ _ _ _ _) ∧ (STri _ _ _ _ _)); refine And.intro ?_ ?_) | ((first | refine st_reg ?_ | refine buildP_own ?_ | refine appP_own ?_) <;> (simp -dsimp; (repeat (simp -dsimp (disch := (first | omega | assumption | (refine Bool.eq_false_iff.1 ?_; assumption))) only [wrap_in, if_pos, if_neg]; (try simp -dsimp))))) | ((first | refine guardP_of (fun hc => ?_) (fun hc => ?_) | refine st_cond rfl (fun hc => ?_) (fun hc => ?_)) <;> (try simp only [lqA, lqB, lqC, lqD, lqE, lqF, lqG, lqH, lqI, lqJ, lqK, lqL, lqM, lqN, lqO] at hc) <;> (try (exfalso; first | omega | exact bool_tf hc (by assumption) | exact bool_ft hc (by assumption) | exact absurd (by assumption) hc)) <;> (first | with_reducible show STri _ _ _ _ _ _ | (simp -dsimp [hc]; (repeat (simp -dsimp (disch := (first | omega | assumption | (refine Bool.eq_false_iff.1 ?_; assumption))) only [wrap_in, if_pos, if_neg]; (try simp -dsimp [hc]))))))))
  refine st_for [2, 15] (numN x) (fun k T H => T = [(1, .c (slSr (offW x))), (2, .ptr 2 0), (5, .own 15 (notesTo' x k).length), (6, .c (I k))] ∧ H = [(2, bxOf x), (15, .arr 73 3 ((notesTo' x k).map rowN))]) (by simp) ⟨by simp [notesTo'], by simp [notesTo']⟩ ?_
  rintro k T H hk ⟨rfl, rfl⟩
  have hlenN := notesTo_len' x k
  have hnum : numN x ≤ 8 := by unfold numN; omega
  by_cases hlt : k < numN x
  · have hst := notesTo_succ' x k
    have hA : (notesTo' x k).length ≤ 9223372036854775806 := by omega
    have hB : ((notesTo' x k).length + 1) * 24 ≤ 140737488355328 := by omega
    have hv : k < x.notes.length := by unfold numN at hlt; omega
    have hk8 : (k : Int) < 8 := by omega
    have hgd : x.notes[k] = nvAt x k := by unfold nvAt; simp [hv]
    have hgr : ∀ h : k < (x.notes.map rowNv).length, (x.notes.map rowNv)[k]'h = rowNv (nvAt x k) := fun h => by simp [hgd]
    have hs := srcN_bd hx k
    have hvo := nvAt_ok hx k
    obtain ⟨⟨a1, a2⟩, ⟨b1, b2⟩, ⟨c1, c2⟩⟩ := hvo
    have hj : srcI x k < (offW x).length := by rw [offW_len]; exact srcI_lt k
    have hg : ∀ h : srcI x k < (offW x).length, (offW x)[srcI x k]'h = srcN x k := fun h => offW_get x h
    have hnb := numS_bd x
    have hm1 : (nvAt x k).a.tmod ((offW x).length : Int) = (srcI x k : Nat) := by
      rw [offW_len, Int.tmod_eq_emod_of_nonneg a1]
      have h1 := Int.emod_nonneg (nvAt x k).a (show ((numS x : Nat) : Int) ≠ 0 by omega)
      unfold srcI; omega
    have hne : ¬ offW x = [] := fun h => by have := offW_len x; rw [h] at this; simp at this; omega
    have hby := lBy x hx
    obtain ⟨y1, y2⟩ := hx.y
    have lb := lByte x.truth hx.t hx.tl k (by omega)
    obtain ⟨t1, t2⟩ := byV_bd hx.t k
    have heb := err_bd hx k
    have htb := time_bd hx k
    have hm2 : (byV x.truth k).tmod ((srcN x k).ehi - (srcN x k).elo + 1) = byV x.truth k % ((srcN x k).ehi - (srcN x k).elo + 1) := Int.tmod_eq_emod_of_nonneg t1
    have he : (srcN x k).elo + byV x.truth k % ((srcN x k).ehi - (srcN x k).elo + 1) = errN x k := rfl
    have hbb := base_bd hx k
    have hbs : 30000 + 1000 * (nvAt x k).b + (nvAt x k).c = baseN x k := rfl
    have hev := ev_bd hx k
    have hdf := drf_bd hx k
    have htt := tabAt_bd hs (1 + (nvAt x k).b)
    have s0 := hs.e1
    have s1 := hs.e0
    have s2 := hs.e2
    have s3 := hs.e3
    have s4 := hs.a0
    have s5 := hs.a1
    have s6 := hs.t0
    have s7 := hs.t1
    have hpos1 : (srcN x k).ehi - (srcN x k).elo + 1 ≠ 0 := by omega
    have r1 := Int.emod_nonneg (byV x.truth k) hpos1
    have r2 := Int.emod_lt_of_pos (byV x.truth k) (show 0 < (srcN x k).ehi - (srcN x k).elo + 1 by omega)
    have hne2 : ¬ (srcN x k).ehi - (srcN x k).elo + 1 = 0 := hpos1
    have hti : timeN x k = timeN x k := rfl
    have hsa : saidN x k = saidN x k := rfl
    conv at hti => rhs; unfold timeN
    conv at hsa => rhs; unfold saidN
    rcases hs.k with hq | hq | hq | hq
    · rw [hq] at hti hsa
      simp only [Int.reduceEq, if_false] at hti hsa
      have hcm : (nvAt x k).c.tmod 2 = (nvAt x k).c % 2 := Int.tmod_eq_emod_of_nonneg c1
      have hr1 := lRest ((srcN x k).dhi * (baseN x k - (srcN x k).at')) 86400000 (by omega) (by omega)
      have hr2 := lRest ((srcN x k).dlo * (baseN x k - (srcN x k).at')) 86400000 (by omega) (by omega)
      have dv : ∀ d : Int, (d - d % 86400000).tdiv 86400000 = d / 86400000 := fun d => by
        have e : d - d % 86400000 = 86400000 * (d / 86400000) := by have := Int.emod_add_mul_ediv d 86400000; omega
        rw [e, Int.mul_tdiv_cancel_left _ (by omega)]
      have hr3 := lRest (baseN x k + errN x k + drfN x k / 86400000) 43200 (by omega) (by omega)
      by_cases hc2 : (nvAt x k).c % 2 = 1
      · have hd : drfN x k = (srcN x k).dhi * (baseN x k - (srcN x k).at') := by unfold drfN; rw [if_pos hc2]
        rw [hd] at hsa hr3
        have hwd := wrap_in ((srcN x k).dhi * (baseN x k - (srcN x k).at')) (by omega) (by omega)
        by_cases hti0 : 0 ≤ timeN x k - (x.by' - 128)
        · rw [if_pos hti0] at hst
          rw [hti] at hti0
          (repeat' (first | ((first | with_reducible refine st_skip ?_ | with_reducible refine st_exit ?_); (try simp only [seqQ, blockQ, loopQ, forQ, whileQ, reduceIte, Nat.reduceEqDiff])) | (with_reducible refine st_ret ?_; ((try simp only [seqQ, blockQ, loopQ, forQ, whileQ]); first | (with_reducible refine retM_ret ?_) | (with_reducible refine retF_ret ?_) | (with_reducible refine retO_ret ?_) | refine retQ_ret ?_; simp [hlt, hv, hk8, hgr, hj, hg, hm1, hne, hm2, he, hne2, hbs, hq, hcm, hc2, dv, hwd, hti0, hA, hB])) | refine st_seq ?_ | refine st_block ?_ | ((with_reducible show (STri _ _ _ _ _) ∧ (STri _ _ _ _ _)); refine And.intro ?_ ?_) | ((first | refine st_reg ?_ | refine buildP_own ?_ | refine appP_own ?_ | refine callP_b (hby) rfl ?_ | refine callP_b (lb) rfl ?_ | refine callP_b (hr1) rfl ?_ | refine callP_b (hr2) rfl ?_ | refine callP_b (hr3) rfl ?_) <;> (simp -dsimp [hlt, hv, hk8, hgr, hj, hg, hm1, hne, hm2, he, hne2, hbs, hq, hcm, hc2, dv, hwd, hti0, hA, hB]; (repeat (simp -dsimp (disch := (first | omega | assumption | (refine Bool.eq_false_iff.1 ?_; assumption))) only [wrap_in, if_pos, if_neg]; (try simp -dsimp [hlt, hv, hk8, hgr, hj, hg, hm1, hne, hm2, he, hne2, hbs, hq, hcm, hc2, dv, hwd, hti0, hA, hB]))))) | ((first | refine guardP_of (fun hc => ?_) (fun hc => ?_) | refine st_cond rfl (fun hc => ?_) (fun hc => ?_)) <;> (try simp only [lqA, lqB, lqC, lqD, lqE, lqF, lqG, lqH, lqI, lqJ, lqK, lqL, lqM, lqN, lqO] at hc) <;> (try (exfalso; first | omega | exact bool_tf hc (by assumption) | exact bool_ft hc (by assumption) | exact absurd (by assumption) hc)) <;> (first | with_reducible show STri _ _ _ _ _ _ | (simp -dsimp [hlt, hv, hk8, hgr, hj, hg, hm1, hne, hm2, he, hne2, hbs, hq, hcm, hc2, dv, hwd, hti0, hA, hB, hc]; (repeat (simp -dsimp (disch := (first | omega | assumption | (refine Bool.eq_false_iff.1 ?_; assumption))) only [wrap_in, if_pos, if_neg]; (try simp -dsimp [hlt, hv, hk8, hgr, hj, hg, hm1, hne, hm2, he, hne2, hbs, hq, hcm, hc2, dv, hwd, hti0, hA, hB, hc]))))))))
          all_goals exact ⟨hlt, by simp, by simp [hst], by rw [hst]; simp [noteN, hti, hsa]⟩
        · rw [if_neg hti0] at hst
          rw [hti] at hti0
          (repeat' (first | ((first | with_reducible refine st_skip ?_ | with_reducible refine st_exit ?_); (try simp only [seqQ, blockQ, loopQ, forQ, whileQ, reduceIte, Nat.reduceEqDiff])) | (with_reducible refine st_ret ?_; ((try simp only [seqQ, blockQ, loopQ, forQ, whileQ]); first | (with_reducible refine retM_ret ?_) | (with_reducible refine retF_ret ?_) | (with_reducible refine retO_ret ?_) | refine retQ_ret ?_; simp [hlt, hv, hk8, hgr, hj, hg, hm1, hne, hm2, he, hne2, hbs, hq, hcm, hc2, dv, hwd, hti0])) | refine st_seq ?_ | refine st_block ?_ | ((with_reducible show (STri _ _ _ _ _) ∧ (STri _ _ _ _ _)); refine And.intro ?_ ?_) | ((first | refine st_reg ?_ | refine buildP_own ?_ | refine appP_own ?_ | refine callP_b (hby) rfl ?_ | refine callP_b (lb) rfl ?_ | refine callP_b (hr1) rfl ?_ | refine callP_b (hr2) rfl ?_ | refine callP_b (hr3) rfl ?_) <;> (simp -dsimp [hlt, hv, hk8, hgr, hj, hg, hm1, hne, hm2, he, hne2, hbs, hq, hcm, hc2, dv, hwd, hti0]; (repeat (simp -dsimp (disch := (first | omega | assumption | (refine Bool.eq_false_iff.1 ?_; assumption))) only [wrap_in, if_pos, if_neg]; (try simp -dsimp [hlt, hv, hk8, hgr, hj, hg, hm1, hne, hm2, he, hne2, hbs, hq, hcm, hc2, dv, hwd, hti0]))))) | ((first | refine guardP_of (fun hc => ?_) (fun hc => ?_) | refine st_cond rfl (fun hc => ?_) (fun hc => ?_)) <;> (try simp only [lqA, lqB, lqC, lqD, lqE, lqF, lqG, lqH, lqI, lqJ, lqK, lqL, lqM, lqN, lqO] at hc) <;> (try (exfalso; first | omega | exact bool_tf hc (by assumption) | exact bool_ft hc (by assumption) | exact absurd (by assumption) hc)) <;> (first | with_reducible show STri _ _ _ _ _ _ | (simp -dsimp [hlt, hv, hk8, hgr, hj, hg, hm1, hne, hm2, he, hne2, hbs, hq, hcm, hc2, dv, hwd, hti0, hc]; (repeat (simp -dsimp (disch := (first | omega | assumption | (refine Bool.eq_false_iff.1 ?_; assumption))) only [wrap_in, if_pos, if_neg]; (try simp -dsimp [hlt, hv, hk8, hgr, hj, hg, hm1, hne, hm2, he, hne2, hbs, hq, hcm, hc2, dv, hwd, hti0, hc]))))))))
          all_goals exact ⟨hlt, by simp, by simp [hst], by rw [hst]⟩
      · have hd : drfN x k = (srcN x k).dlo * (baseN x k - (srcN x k).at') := by unfold drfN; rw [if_neg hc2]
        rw [hd] at hsa hr3
        have hwd := wrap_in ((srcN x k).dlo * (baseN x k - (srcN x k).at')) (by omega) (by omega)
        by_cases hti0 : 0 ≤ timeN x k - (x.by' - 128)
        · rw [if_pos hti0] at hst
          rw [hti] at hti0
          (repeat' (first | ((first | with_reducible refine st_skip ?_ | with_reducible refine st_exit ?_); (try simp only [seqQ, blockQ, loopQ, forQ, whileQ, reduceIte, Nat.reduceEqDiff])) | (with_reducible refine st_ret ?_; ((try simp only [seqQ, blockQ, loopQ, forQ, whileQ]); first | (with_reducible refine retM_ret ?_) | (with_reducible refine retF_ret ?_) | (with_reducible refine retO_ret ?_) | refine retQ_ret ?_; simp [hlt, hv, hk8, hgr, hj, hg, hm1, hne, hm2, he, hne2, hbs, hq, hcm, hc2, dv, hwd, hti0, hA, hB])) | refine st_seq ?_ | refine st_block ?_ | ((with_reducible show (STri _ _ _ _ _) ∧ (STri _ _ _ _ _)); refine And.intro ?_ ?_) | ((first | refine st_reg ?_ | refine buildP_own ?_ | refine appP_own ?_ | refine callP_b (hby) rfl ?_ | refine callP_b (lb) rfl ?_ | refine callP_b (hr1) rfl ?_ | refine callP_b (hr2) rfl ?_ | refine callP_b (hr3) rfl ?_) <;> (simp -dsimp [hlt, hv, hk8, hgr, hj, hg, hm1, hne, hm2, he, hne2, hbs, hq, hcm, hc2, dv, hwd, hti0, hA, hB]; (repeat (simp -dsimp (disch := (first | omega | assumption | (refine Bool.eq_false_iff.1 ?_; assumption))) only [wrap_in, if_pos, if_neg]; (try simp -dsimp [hlt, hv, hk8, hgr, hj, hg, hm1, hne, hm2, he, hne2, hbs, hq, hcm, hc2, dv, hwd, hti0, hA, hB]))))) | ((first | refine guardP_of (fun hc => ?_) (fun hc => ?_) | refine st_cond rfl (fun hc => ?_) (fun hc => ?_)) <;> (try simp only [lqA, lqB, lqC, lqD, lqE, lqF, lqG, lqH, lqI, lqJ, lqK, lqL, lqM, lqN, lqO] at hc) <;> (try (exfalso; first | omega | exact bool_tf hc (by assumption) | exact bool_ft hc (by assumption) | exact absurd (by assumption) hc)) <;> (first | with_reducible show STri _ _ _ _ _ _ | (simp -dsimp [hlt, hv, hk8, hgr, hj, hg, hm1, hne, hm2, he, hne2, hbs, hq, hcm, hc2, dv, hwd, hti0, hA, hB, hc]; (repeat (simp -dsimp (disch := (first | omega | assumption | (refine Bool.eq_false_iff.1 ?_; assumption))) only [wrap_in, if_pos, if_neg]; (try simp -dsimp [hlt, hv, hk8, hgr, hj, hg, hm1, hne, hm2, he, hne2, hbs, hq, hcm, hc2, dv, hwd, hti0, hA, hB, hc]))))))))
          all_goals exact ⟨hlt, by simp, by simp [hst], by rw [hst]; simp [noteN, hti, hsa]⟩
        · rw [if_neg hti0] at hst
          rw [hti] at hti0
          (repeat' (first | ((first | with_reducible refine st_skip ?_ | with_reducible refine st_exit ?_); (try simp only [seqQ, blockQ, loopQ, forQ, whileQ, reduceIte, Nat.reduceEqDiff])) | (with_reducible refine st_ret ?_; ((try simp only [seqQ, blockQ, loopQ, forQ, whileQ]); first | (with_reducible refine retM_ret ?_) | (with_reducible refine retF_ret ?_) | (with_reducible refine retO_ret ?_) | refine retQ_ret ?_; simp [hlt, hv, hk8, hgr, hj, hg, hm1, hne, hm2, he, hne2, hbs, hq, hcm, hc2, dv, hwd, hti0])) | refine st_seq ?_ | refine st_block ?_ | ((with_reducible show (STri _ _ _ _ _) ∧ (STri _ _ _ _ _)); refine And.intro ?_ ?_) | ((first | refine st_reg ?_ | refine buildP_own ?_ | refine appP_own ?_ | refine callP_b (hby) rfl ?_ | refine callP_b (lb) rfl ?_ | refine callP_b (hr1) rfl ?_ | refine callP_b (hr2) rfl ?_ | refine callP_b (hr3) rfl ?_) <;> (simp -dsimp [hlt, hv, hk8, hgr, hj, hg, hm1, hne, hm2, he, hne2, hbs, hq, hcm, hc2, dv, hwd, hti0]; (repeat (simp -dsimp (disch := (first | omega | assumption | (refine Bool.eq_false_iff.1 ?_; assumption))) only [wrap_in, if_pos, if_neg]; (try simp -dsimp [hlt, hv, hk8, hgr, hj, hg, hm1, hne, hm2, he, hne2, hbs, hq, hcm, hc2, dv, hwd, hti0]))))) | ((first | refine guardP_of (fun hc => ?_) (fun hc => ?_) | refine st_cond rfl (fun hc => ?_) (fun hc => ?_)) <;> (try simp only [lqA, lqB, lqC, lqD, lqE, lqF, lqG, lqH, lqI, lqJ, lqK, lqL, lqM, lqN, lqO] at hc) <;> (try (exfalso; first | omega | exact bool_tf hc (by assumption) | exact bool_ft hc (by assumption) | exact absurd (by assumption) hc)) <;> (first | with_reducible show STri _ _ _ _ _ _ | (simp -dsimp [hlt, hv, hk8, hgr, hj, hg, hm1, hne, hm2, he, hne2, hbs, hq, hcm, hc2, dv, hwd, hti0, hc]; (repeat (simp -dsimp (disch := (first | omega | assumption | (refine Bool.eq_false_iff.1 ?_; assumption))) only [wrap_in, if_pos, if_neg]; (try simp -dsimp [hlt, hv, hk8, hgr, hj, hg, hm1, hne, hm2, he, hne2, hbs, hq, hcm, hc2, dv, hwd, hti0, hc]))))))))
          all_goals exact ⟨hlt, by simp, by simp [hst], by rw [hst]⟩
    · rw [hq] at hti hsa
      simp only [Int.reduceEq, if_false, if_true] at hti hsa
      have hwe := wrap_in (((nvAt x k).b + 200) * (srcN x k).every) (by omega) (by omega)
      by_cases hti0 : 0 ≤ timeN x k - (x.by' - 128)
      · rw [if_pos hti0] at hst
        rw [hti] at hti0
        (repeat' (first | ((first | with_reducible refine st_skip ?_ | with_reducible refine st_exit ?_); (try simp only [seqQ, blockQ, loopQ, forQ, whileQ, reduceIte, Nat.reduceEqDiff])) | (with_reducible refine st_ret ?_; ((try simp only [seqQ, blockQ, loopQ, forQ, whileQ]); first | (with_reducible refine retM_ret ?_) | (with_reducible refine retF_ret ?_) | (with_reducible refine retO_ret ?_) | refine retQ_ret ?_; simp [hlt, hv, hk8, hgr, hj, hg, hm1, hne, hm2, he, hne2, hbs, hq, hwe, hti0, hA, hB])) | refine st_seq ?_ | refine st_block ?_ | ((with_reducible show (STri _ _ _ _ _) ∧ (STri _ _ _ _ _)); refine And.intro ?_ ?_) | ((first | refine st_reg ?_ | refine buildP_own ?_ | refine appP_own ?_ | refine callP_b (hby) rfl ?_ | refine callP_b (lb) rfl ?_) <;> (simp -dsimp [hlt, hv, hk8, hgr, hj, hg, hm1, hne, hm2, he, hne2, hbs, hq, hwe, hti0, hA, hB]; (repeat (simp -dsimp (disch := (first | omega | assumption | (refine Bool.eq_false_iff.1 ?_; assumption))) only [wrap_in, if_pos, if_neg]; (try simp -dsimp [hlt, hv, hk8, hgr, hj, hg, hm1, hne, hm2, he, hne2, hbs, hq, hwe, hti0, hA, hB]))))) | ((first | refine guardP_of (fun hc => ?_) (fun hc => ?_) | refine st_cond rfl (fun hc => ?_) (fun hc => ?_)) <;> (try simp only [lqA, lqB, lqC, lqD, lqE, lqF, lqG, lqH, lqI, lqJ, lqK, lqL, lqM, lqN, lqO] at hc) <;> (try (exfalso; first | omega | exact bool_tf hc (by assumption) | exact bool_ft hc (by assumption) | exact absurd (by assumption) hc)) <;> (first | with_reducible show STri _ _ _ _ _ _ | (simp -dsimp [hlt, hv, hk8, hgr, hj, hg, hm1, hne, hm2, he, hne2, hbs, hq, hwe, hti0, hA, hB, hc]; (repeat (simp -dsimp (disch := (first | omega | assumption | (refine Bool.eq_false_iff.1 ?_; assumption))) only [wrap_in, if_pos, if_neg]; (try simp -dsimp [hlt, hv, hk8, hgr, hj, hg, hm1, hne, hm2, he, hne2, hbs, hq, hwe, hti0, hA, hB, hc]))))))))
        all_goals exact ⟨hlt, by simp, by simp [hst], by rw [hst]; simp [noteN, hti, hsa]⟩
      · rw [if_neg hti0] at hst
        rw [hti] at hti0
        (repeat' (first | ((first | with_reducible refine st_skip ?_ | with_reducible refine st_exit ?_); (try simp only [seqQ, blockQ, loopQ, forQ, whileQ, reduceIte, Nat.reduceEqDiff])) | (with_reducible refine st_ret ?_; ((try simp only [seqQ, blockQ, loopQ, forQ, whileQ]); first | (with_reducible refine retM_ret ?_) | (with_reducible refine retF_ret ?_) | (with_reducible refine retO_ret ?_) | refine retQ_ret ?_; simp [hlt, hv, hk8, hgr, hj, hg, hm1, hne, hm2, he, hne2, hbs, hq, hwe, hti0])) | refine st_seq ?_ | refine st_block ?_ | ((with_reducible show (STri _ _ _ _ _) ∧ (STri _ _ _ _ _)); refine And.intro ?_ ?_) | ((first | refine st_reg ?_ | refine buildP_own ?_ | refine appP_own ?_ | refine callP_b (hby) rfl ?_ | refine callP_b (lb) rfl ?_) <;> (simp -dsimp [hlt, hv, hk8, hgr, hj, hg, hm1, hne, hm2, he, hne2, hbs, hq, hwe, hti0]; (repeat (simp -dsimp (disch := (first | omega | assumption | (refine Bool.eq_false_iff.1 ?_; assumption))) only [wrap_in, if_pos, if_neg]; (try simp -dsimp [hlt, hv, hk8, hgr, hj, hg, hm1, hne, hm2, he, hne2, hbs, hq, hwe, hti0]))))) | ((first | refine guardP_of (fun hc => ?_) (fun hc => ?_) | refine st_cond rfl (fun hc => ?_) (fun hc => ?_)) <;> (try simp only [lqA, lqB, lqC, lqD, lqE, lqF, lqG, lqH, lqI, lqJ, lqK, lqL, lqM, lqN, lqO] at hc) <;> (try (exfalso; first | omega | exact bool_tf hc (by assumption) | exact bool_ft hc (by assumption) | exact absurd (by assumption) hc)) <;> (first | with_reducible show STri _ _ _ _ _ _ | (simp -dsimp [hlt, hv, hk8, hgr, hj, hg, hm1, hne, hm2, he, hne2, hbs, hq, hwe, hti0, hc]; (repeat (simp -dsimp (disch := (first | omega | assumption | (refine Bool.eq_false_iff.1 ?_; assumption))) only [wrap_in, if_pos, if_neg]; (try simp -dsimp [hlt, hv, hk8, hgr, hj, hg, hm1, hne, hm2, he, hne2, hbs, hq, hwe, hti0, hc]))))))))
        all_goals exact ⟨hlt, by simp, by simp [hst], by rw [hst]⟩
    · rw [hq] at hti hsa
      simp only [Int.reduceEq, if_false, if_true] at hti hsa
      obtain ⟨t, ht⟩ : ∃ t : Nat, ((1 + (nvAt x k).b) % ((srcN x k).table.length : Nat)).toNat = t := ⟨_, rfl⟩
      have hz1 := Int.emod_nonneg (1 + (nvAt x k).b) (show (((srcN x k).table.length : Nat) : Int) ≠ 0 by omega)
      have hz2 := Int.emod_lt_of_pos (1 + (nvAt x k).b) (show 0 < (((srcN x k).table.length : Nat) : Int) by omega)
      have htl : t < (srcN x k).table.length := by omega
      have hgt : ∀ h : t < (srcN x k).table.length, (srcN x k).table[t]'h = tabAt (srcN x k) (1 + (nvAt x k).b) := fun h => by unfold tabAt; rw [ht]; simp [h]
      have hmt : (1 + (nvAt x k).b).tmod ((srcN x k).table.length : Int) = (t : Nat) := by
        rw [Int.tmod_eq_emod_of_nonneg (by omega)]; omega
      have hne3 : ¬ (srcN x k).table = [] := fun h => by rw [h] at s6; simp at s6
      by_cases hti0 : 0 ≤ timeN x k - (x.by' - 128)
      · rw [if_pos hti0] at hst
        rw [hti] at hti0
        (repeat' (first | ((first | with_reducible refine st_skip ?_ | with_reducible refine st_exit ?_); (try simp only [seqQ, blockQ, loopQ, forQ, whileQ, reduceIte, Nat.reduceEqDiff])) | (with_reducible refine st_ret ?_; ((try simp only [seqQ, blockQ, loopQ, forQ, whileQ]); first | (with_reducible refine retM_ret ?_) | (with_reducible refine retF_ret ?_) | (with_reducible refine retO_ret ?_) | refine retQ_ret ?_; simp [hlt, hv, hk8, hgr, hj, hg, hm1, hne, hm2, he, hne2, hbs, hq, htl, hgt, hmt, hne3, hti0, hA, hB])) | refine st_seq ?_ | refine st_block ?_ | ((with_reducible show (STri _ _ _ _ _) ∧ (STri _ _ _ _ _)); refine And.intro ?_ ?_) | ((first | refine st_reg ?_ | refine buildP_own ?_ | refine appP_own ?_ | refine callP_b (hby) rfl ?_ | refine callP_b (lb) rfl ?_) <;> (simp -dsimp [hlt, hv, hk8, hgr, hj, hg, hm1, hne, hm2, he, hne2, hbs, hq, htl, hgt, hmt, hne3, hti0, hA, hB]; (repeat (simp -dsimp (disch := (first | omega | assumption | (refine Bool.eq_false_iff.1 ?_; assumption))) only [wrap_in, if_pos, if_neg]; (try simp -dsimp [hlt, hv, hk8, hgr, hj, hg, hm1, hne, hm2, he, hne2, hbs, hq, htl, hgt, hmt, hne3, hti0, hA, hB]))))) | ((first | refine guardP_of (fun hc => ?_) (fun hc => ?_) | refine st_cond rfl (fun hc => ?_) (fun hc => ?_)) <;> (try simp only [lqA, lqB, lqC, lqD, lqE, lqF, lqG, lqH, lqI, lqJ, lqK, lqL, lqM, lqN, lqO] at hc) <;> (try (exfalso; first | omega | exact bool_tf hc (by assumption) | exact bool_ft hc (by assumption) | exact absurd (by assumption) hc)) <;> (first | with_reducible show STri _ _ _ _ _ _ | (simp -dsimp [hlt, hv, hk8, hgr, hj, hg, hm1, hne, hm2, he, hne2, hbs, hq, htl, hgt, hmt, hne3, hti0, hA, hB, hc]; (repeat (simp -dsimp (disch := (first | omega | assumption | (refine Bool.eq_false_iff.1 ?_; assumption))) only [wrap_in, if_pos, if_neg]; (try simp -dsimp [hlt, hv, hk8, hgr, hj, hg, hm1, hne, hm2, he, hne2, hbs, hq, htl, hgt, hmt, hne3, hti0, hA, hB, hc]))))))))
        all_goals exact ⟨hlt, by simp, by simp [hst], by rw [hst]; simp [noteN, hti, hsa]⟩
      · rw [if_neg hti0] at hst
        rw [hti] at hti0
        (repeat' (first | ((first | with_reducible refine st_skip ?_ | with_reducible refine st_exit ?_); (try simp only [seqQ, blockQ, loopQ, forQ, whileQ, reduceIte, Nat.reduceEqDiff])) | (with_reducible refine st_ret ?_; ((try simp only [seqQ, blockQ, loopQ, forQ, whileQ]); first | (with_reducible refine retM_ret ?_) | (with_reducible refine retF_ret ?_) | (with_reducible refine retO_ret ?_) | refine retQ_ret ?_; simp [hlt, hv, hk8, hgr, hj, hg, hm1, hne, hm2, he, hne2, hbs, hq, htl, hgt, hmt, hne3, hti0])) | refine st_seq ?_ | refine st_block ?_ | ((with_reducible show (STri _ _ _ _ _) ∧ (STri _ _ _ _ _)); refine And.intro ?_ ?_) | ((first | refine st_reg ?_ | refine buildP_own ?_ | refine appP_own ?_ | refine callP_b (hby) rfl ?_ | refine callP_b (lb) rfl ?_) <;> (simp -dsimp [hlt, hv, hk8, hgr, hj, hg, hm1, hne, hm2, he, hne2, hbs, hq, htl, hgt, hmt, hne3, hti0]; (repeat (simp -dsimp (disch := (first | omega | assumption | (refine Bool.eq_false_iff.1 ?_; assumption))) only [wrap_in, if_pos, if_neg]; (try simp -dsimp [hlt, hv, hk8, hgr, hj, hg, hm1, hne, hm2, he, hne2, hbs, hq, htl, hgt, hmt, hne3, hti0]))))) | ((first | refine guardP_of (fun hc => ?_) (fun hc => ?_) | refine st_cond rfl (fun hc => ?_) (fun hc => ?_)) <;> (try simp only [lqA, lqB, lqC, lqD, lqE, lqF, lqG, lqH, lqI, lqJ, lqK, lqL, lqM, lqN, lqO] at hc) <;> (try (exfalso; first | omega | exact bool_tf hc (by assumption) | exact bool_ft hc (by assumption) | exact absurd (by assumption) hc)) <;> (first | with_reducible show STri _ _ _ _ _ _ | (simp -dsimp [hlt, hv, hk8, hgr, hj, hg, hm1, hne, hm2, he, hne2, hbs, hq, htl, hgt, hmt, hne3, hti0, hc]; (repeat (simp -dsimp (disch := (first | omega | assumption | (refine Bool.eq_false_iff.1 ?_; assumption))) only [wrap_in, if_pos, if_neg]; (try simp -dsimp [hlt, hv, hk8, hgr, hj, hg, hm1, hne, hm2, he, hne2, hbs, hq, htl, hgt, hmt, hne3, hti0, hc]))))))))
        all_goals exact ⟨hlt, by simp, by simp [hst], by rw [hst]⟩
    · rw [hq] at hti hsa
      simp only [Int.reduceEq, if_false, if_true] at hti hsa
      by_cases hti0 : 0 ≤ timeN x k - (x.by' - 128)
      · rw [if_pos hti0] at hst
        rw [hti] at hti0
        (repeat' (first | ((first | with_reducible refine st_skip ?_ | with_reducible refine st_exit ?_); (try simp only [seqQ, blockQ, loopQ, forQ, whileQ, reduceIte, Nat.reduceEqDiff])) | (with_reducible refine st_ret ?_; ((try simp only [seqQ, blockQ, loopQ, forQ, whileQ]); first | (with_reducible refine retM_ret ?_) | (with_reducible refine retF_ret ?_) | (with_reducible refine retO_ret ?_) | refine retQ_ret ?_; simp [hlt, hv, hk8, hgr, hj, hg, hm1, hne, hm2, he, hne2, hbs, hq, s0, hti0, hA, hB])) | refine st_seq ?_ | refine st_block ?_ | ((with_reducible show (STri _ _ _ _ _) ∧ (STri _ _ _ _ _)); refine And.intro ?_ ?_) | ((first | refine st_reg ?_ | refine buildP_own ?_ | refine appP_own ?_ | refine callP_b (hby) rfl ?_ | refine callP_b (lb) rfl ?_) <;> (simp -dsimp [hlt, hv, hk8, hgr, hj, hg, hm1, hne, hm2, he, hne2, hbs, hq, s0, hti0, hA, hB]; (repeat (simp -dsimp (disch := (first | omega | assumption | (refine Bool.eq_false_iff.1 ?_; assumption))) only [wrap_in, if_pos, if_neg]; (try simp -dsimp [hlt, hv, hk8, hgr, hj, hg, hm1, hne, hm2, he, hne2, hbs, hq, s0, hti0, hA, hB]))))) | ((first | refine guardP_of (fun hc => ?_) (fun hc => ?_) | refine st_cond rfl (fun hc => ?_) (fun hc => ?_)) <;> (try simp only [lqA, lqB, lqC, lqD, lqE, lqF, lqG, lqH, lqI, lqJ, lqK, lqL, lqM, lqN, lqO] at hc) <;> (try (exfalso; first | omega | exact bool_tf hc (by assumption) | exact bool_ft hc (by assumption) | exact absurd (by assumption) hc)) <;> (first | with_reducible show STri _ _ _ _ _ _ | (simp -dsimp [hlt, hv, hk8, hgr, hj, hg, hm1, hne, hm2, he, hne2, hbs, hq, s0, hti0, hA, hB, hc]; (repeat (simp -dsimp (disch := (first | omega | assumption | (refine Bool.eq_false_iff.1 ?_; assumption))) only [wrap_in, if_pos, if_neg]; (try simp -dsimp [hlt, hv, hk8, hgr, hj, hg, hm1, hne, hm2, he, hne2, hbs, hq, s0, hti0, hA, hB, hc]))))))))
        all_goals exact ⟨hlt, by simp, by simp [hst], by rw [hst]; simp [noteN, hti, hsa]⟩
      · rw [if_neg hti0] at hst
        rw [hti] at hti0
        (repeat' (first | ((first | with_reducible refine st_skip ?_ | with_reducible refine st_exit ?_); (try simp only [seqQ, blockQ, loopQ, forQ, whileQ, reduceIte, Nat.reduceEqDiff])) | (with_reducible refine st_ret ?_; ((try simp only [seqQ, blockQ, loopQ, forQ, whileQ]); first | (with_reducible refine retM_ret ?_) | (with_reducible refine retF_ret ?_) | (with_reducible refine retO_ret ?_) | refine retQ_ret ?_; simp [hlt, hv, hk8, hgr, hj, hg, hm1, hne, hm2, he, hne2, hbs, hq, s0, hti0])) | refine st_seq ?_ | refine st_block ?_ | ((with_reducible show (STri _ _ _ _ _) ∧ (STri _ _ _ _ _)); refine And.intro ?_ ?_) | ((first | refine st_reg ?_ | refine buildP_own ?_ | refine appP_own ?_ | refine callP_b (hby) rfl ?_ | refine callP_b (lb) rfl ?_) <;> (simp -dsimp [hlt, hv, hk8, hgr, hj, hg, hm1, hne, hm2, he, hne2, hbs, hq, s0, hti0]; (repeat (simp -dsimp (disch := (first | omega | assumption | (refine Bool.eq_false_iff.1 ?_; assumption))) only [wrap_in, if_pos, if_neg]; (try simp -dsimp [hlt, hv, hk8, hgr, hj, hg, hm1, hne, hm2, he, hne2, hbs, hq, s0, hti0]))))) | ((first | refine guardP_of (fun hc => ?_) (fun hc => ?_) | refine st_cond rfl (fun hc => ?_) (fun hc => ?_)) <;> (try simp only [lqA, lqB, lqC, lqD, lqE, lqF, lqG, lqH, lqI, lqJ, lqK, lqL, lqM, lqN, lqO] at hc) <;> (try (exfalso; first | omega | exact bool_tf hc (by assumption) | exact bool_ft hc (by assumption) | exact absurd (by assumption) hc)) <;> (first | with_reducible show STri _ _ _ _ _ _ | (simp -dsimp [hlt, hv, hk8, hgr, hj, hg, hm1, hne, hm2, he, hne2, hbs, hq, s0, hti0, hc]; (repeat (simp -dsimp (disch := (first | omega | assumption | (refine Bool.eq_false_iff.1 ?_; assumption))) only [wrap_in, if_pos, if_neg]; (try simp -dsimp [hlt, hv, hk8, hgr, hj, hg, hm1, hne, hm2, he, hne2, hbs, hq, s0, hti0, hc]))))))))
        all_goals exact ⟨hlt, by simp, by simp [hst], by rw [hst]⟩
  · have hkn : k = numN x := by omega
    subst hkn
    by_cases hv : numN x < x.notes.length
    · have hk8 : ¬ (numN x : Int) < 8 := by unfold numN at *; omega
      (repeat' (first | ((first | with_reducible refine st_skip ?_ | with_reducible refine st_exit ?_); (try simp only [seqQ, blockQ, loopQ, forQ, whileQ, reduceIte, Nat.reduceEqDiff])) | (with_reducible refine st_ret ?_; ((try simp only [seqQ, blockQ, loopQ, forQ, whileQ]); first | (with_reducible refine retM_ret ?_) | (with_reducible refine retF_ret ?_) | (with_reducible refine retO_ret ?_) | refine retQ_ret ?_; simp [hv, hk8])) | refine st_seq ?_ | refine st_block ?_ | ((with_reducible show (STri _ _ _ _ _) ∧ (STri _ _ _ _ _)); refine And.intro ?_ ?_) | ((first | refine st_reg ?_ | refine buildP_own ?_ | refine appP_own ?_) <;> (simp -dsimp [hv, hk8]; (repeat (simp -dsimp (disch := (first | omega | assumption | (refine Bool.eq_false_iff.1 ?_; assumption))) only [wrap_in, if_pos, if_neg]; (try simp -dsimp [hv, hk8]))))) | ((first | refine guardP_of (fun hc => ?_) (fun hc => ?_) | refine st_cond rfl (fun hc => ?_) (fun hc => ?_)) <;> (try simp only [lqA, lqB, lqC, lqD, lqE, lqF, lqG, lqH, lqI, lqJ, lqK, lqL, lqM, lqN, lqO] at hc) <;> (try (exfalso; first | omega | exact bool_tf hc (by assumption) | exact bool_ft hc (by assumption) | exact absurd (by assumption) hc)) <;> (first | with_reducible show STri _ _ _ _ _ _ | (simp -dsimp [hv, hk8, hc]; (repeat (simp -dsimp (disch := (first | omega | assumption | (refine Bool.eq_false_iff.1 ?_; assumption))) only [wrap_in, if_pos, if_neg]; (try simp -dsimp [hv, hk8, hc]))))))))
      all_goals exact ⟨15, by simp, rfl⟩
    · (repeat' (first | ((first | with_reducible refine st_skip ?_ | with_reducible refine st_exit ?_); (try simp only [seqQ, blockQ, loopQ, forQ, whileQ, reduceIte, Nat.reduceEqDiff])) | (with_reducible refine st_ret ?_; ((try simp only [seqQ, blockQ, loopQ, forQ, whileQ]); first | (with_reducible refine retM_ret ?_) | (with_reducible refine retF_ret ?_) | (with_reducible refine retO_ret ?_) | refine retQ_ret ?_; simp [hv])) | refine st_seq ?_ | refine st_block ?_ | ((with_reducible show (STri _ _ _ _ _) ∧ (STri _ _ _ _ _)); refine And.intro ?_ ?_) | ((first | refine st_reg ?_ | refine buildP_own ?_ | refine appP_own ?_) <;> (simp -dsimp [hv]; (repeat (simp -dsimp (disch := (first | omega | assumption | (refine Bool.eq_false_iff.1 ?_; assumption))) only [wrap_in, if_pos, if_neg]; (try simp -dsimp [hv]))))) | ((first | refine guardP_of (fun hc => ?_) (fun hc => ?_) | refine st_cond rfl (fun hc => ?_) (fun hc => ?_)) <;> (try simp only [lqA, lqB, lqC, lqD, lqE, lqF, lqG, lqH, lqI, lqJ, lqK, lqL, lqM, lqN, lqO] at hc) <;> (try (exfalso; first | omega | exact bool_tf hc (by assumption) | exact bool_ft hc (by assumption) | exact absurd (by assumption) hc)) <;> (first | with_reducible show STri _ _ _ _ _ _ | (simp -dsimp [hv, hc]; (repeat (simp -dsimp (disch := (first | omega | assumption | (refine Bool.eq_false_iff.1 ?_; assumption))) only [wrap_in, if_pos, if_neg]; (try simp -dsimp [hv, hc]))))))))
      all_goals exact ⟨15, by simp, rfl⟩
end Go.Proofs.Ytakdmliblijgmaa
/- Wire's plain laws, IV: spans in order, with gaps. -/
namespace Go.Proofs.Ytakdmliblijgmaa
open Go.RowKit
def GapsP (l : List (Int × Int)) : Prop := (∀ e ∈ l, e.1 ≤ e.2) ∧ l.Pairwise fun a b => a.2 + 1 < b.1
def insB (n : Int) (l : List (Int × Int)) : Bool := l.any fun e => decide (e.1 ≤ n) && decide (n ≤ e.2)
set_option maxRecDepth 100000 in
theorem lInside (n : Int) (l : List (Int × Int)) (hg : GapsP l) (hb : ∀ e ∈ l, -1000000 ≤ e.1 ∧ e.2 ≤ 1000000) (hl : l.length ≤ 1000000) : SC Try.prog 38 [I n, slE l] (B (insB n l)) := by
  refine law_turretlaw08_inside _ _ (by simp) ?_
  (repeat' (first | ((first | with_reducible refine st_skip ?_ | with_reducible refine st_exit ?_); (try simp only [seqQ, blockQ, loopQ, forQ, whileQ, reduceIte, Nat.reduceEqDiff])) | (with_reducible refine st_ret ?_; ((try simp only [seqQ, blockQ, loopQ, forQ, whileQ]); first | (with_reducible refine retM_ret ?_) | refine retQ_ret ?_; simp)) | refine st_seq ?_ | refine st_block ?_ | ((with_reducible show (STri _ _ _ _ _) ∧ (STri _ _ _ _ _)); refine And.intro ?_ ?_) | ((first | refine st_reg ?_ | refine buildP_own ?_ | refine appP_own ?_) <;> (simp -dsimp; (repeat (simp -dsimp (disch := (first | omega | assumption | (refine Bool.eq_false_iff.1 ?_; assumption))) only [wrap_in, if_pos, if_neg]; (try simp -dsimp))))) | ((first | refine guardP_of (fun hc => ?_) (fun hc => ?_) | refine st_cond rfl (fun hc => ?_) (fun hc => ?_)) <;> (try simp only [lqA, lqB, lqC, lqD, lqE, lqF, lqG, lqH, lqI, lqJ, lqK, lqL, lqM, lqN, lqO] at hc) <;> (try (exfalso; first | omega | exact bool_tf hc (by assumption) | exact bool_ft hc (by assumption) | exact absurd (by assumption) hc)) <;> (first | with_reducible show STri _ _ _ _ _ _ | (simp -dsimp [hc]; (repeat (simp -dsimp (disch := (first | omega | assumption | (refine Bool.eq_false_iff.1 ?_; assumption))) only [wrap_in, if_pos, if_neg]; (try simp -dsimp [hc]))))))))
  refine st_for [] l.length (fun k T H => T = [(0, .c (I n)), (1, .c (slE l)), (5, .c (B (insB n (l.take k)))), (6, .c (I k))] ∧ H = []) (by simp) ⟨by simp [insB], by simp⟩ ?_
  rintro k T H hk ⟨rfl, rfl⟩
  by_cases hlt : k < l.length
  · have hs : insB n (l.take (k + 1)) = (insB n (l.take k) || (decide (l[k].1 ≤ n) && decide (n ≤ l[k].2))) := by unfold insB; rw [anyTake_succ hlt]
    have h1 := hg.1 _ (List.getElem_mem hlt)
    obtain ⟨h2, h3⟩ := hb _ (List.getElem_mem hlt)
    have h4 : 0 < k → ∃ h : k - 1 < l.length, (l[k - 1]).2 + 1 < l[k].1 := fun h0 => ⟨by omega, (List.pairwise_iff_getElem.1 hg.2) (k - 1) k (by omega) hlt (by omega)⟩
    obtain ⟨e, he⟩ : ∃ e, l[k] = e := ⟨_, rfl⟩
    have hge : ∀ h : k < l.length, l[k]'h = e := fun _ => he
    rw [he] at hs h1 h2 h3
    have n1 : ¬ e.2 < e.1 := by omega
    generalize hin : insB n (l.take k) = q at *
    by_cases h0 : k = 0
    · subst h0
      cases q
      · by_cases c1 : e.1 ≤ n
        · by_cases c2 : n ≤ e.2
          · (repeat' (first | ((first | with_reducible refine st_skip ?_ | with_reducible refine st_exit ?_); (try simp only [seqQ, blockQ, loopQ, forQ, whileQ, reduceIte, Nat.reduceEqDiff])) | (with_reducible refine st_ret ?_; ((try simp only [seqQ, blockQ, loopQ, forQ, whileQ]); first | (with_reducible refine retM_ret ?_) | refine retQ_ret ?_; simp [hlt, hge, n1, c1, c2])) | refine st_seq ?_ | refine st_block ?_ | ((with_reducible show (STri _ _ _ _ _) ∧ (STri _ _ _ _ _)); refine And.intro ?_ ?_) | ((first | refine st_reg ?_ | refine buildP_own ?_ | refine appP_own ?_) <;> (simp -dsimp [hlt, hge, n1, c1, c2]; (repeat (simp -dsimp (disch := (first | omega | assumption | (refine Bool.eq_false_iff.1 ?_; assumption))) only [wrap_in, if_pos, if_neg]; (try simp -dsimp [hlt, hge, n1, c1, c2]))))) | ((first | refine guardP_of (fun hc => ?_) (fun hc => ?_) | refine st_cond rfl (fun hc => ?_) (fun hc => ?_)) <;> (try simp only [lqA, lqB, lqC, lqD, lqE, lqF, lqG, lqH, lqI, lqJ, lqK, lqL, lqM, lqN, lqO] at hc) <;> (try (exfalso; first | omega | exact bool_tf hc (by assumption) | exact bool_ft hc (by assumption) | exact absurd (by assumption) hc)) <;> (first | with_reducible show STri _ _ _ _ _ _ | (simp -dsimp [hlt, hge, n1, c1, c2, hc]; (repeat (simp -dsimp (disch := (first | omega | assumption | (refine Bool.eq_false_iff.1 ?_; assumption))) only [wrap_in, if_pos, if_neg]; (try simp -dsimp [hlt, hge, n1, c1, c2, hc]))))))))
            all_goals exact ⟨hlt, by simp, by simp [hs, c1, c2], by simp⟩
          · (repeat' (first | ((first | with_reducible refine st_skip ?_ | with_reducible refine st_exit ?_); (try simp only [seqQ, blockQ, loopQ, forQ, whileQ, reduceIte, Nat.reduceEqDiff])) | (with_reducible refine st_ret ?_; ((try simp only [seqQ, blockQ, loopQ, forQ, whileQ]); first | (with_reducible refine retM_ret ?_) | refine retQ_ret ?_; simp [hlt, hge, n1, c1, c2])) | refine st_seq ?_ | refine st_block ?_ | ((with_reducible show (STri _ _ _ _ _) ∧ (STri _ _ _ _ _)); refine And.intro ?_ ?_) | ((first | refine st_reg ?_ | refine buildP_own ?_ | refine appP_own ?_) <;> (simp -dsimp [hlt, hge, n1, c1, c2]; (repeat (simp -dsimp (disch := (first | omega | assumption | (refine Bool.eq_false_iff.1 ?_; assumption))) only [wrap_in, if_pos, if_neg]; (try simp -dsimp [hlt, hge, n1, c1, c2]))))) | ((first | refine guardP_of (fun hc => ?_) (fun hc => ?_) | refine st_cond rfl (fun hc => ?_) (fun hc => ?_)) <;> (try simp only [lqA, lqB, lqC, lqD, lqE, lqF, lqG, lqH, lqI, lqJ, lqK, lqL, lqM, lqN, lqO] at hc) <;> (try (exfalso; first | omega | exact bool_tf hc (by assumption) | exact bool_ft hc (by assumption) | exact absurd (by assumption) hc)) <;> (first | with_reducible show STri _ _ _ _ _ _ | (simp -dsimp [hlt, hge, n1, c1, c2, hc]; (repeat (simp -dsimp (disch := (first | omega | assumption | (refine Bool.eq_false_iff.1 ?_; assumption))) only [wrap_in, if_pos, if_neg]; (try simp -dsimp [hlt, hge, n1, c1, c2, hc]))))))))
            all_goals exact ⟨hlt, by simp, by simp [hs, c1, c2], by simp⟩
        · (repeat' (first | ((first | with_reducible refine st_skip ?_ | with_reducible refine st_exit ?_); (try simp only [seqQ, blockQ, loopQ, forQ, whileQ, reduceIte, Nat.reduceEqDiff])) | (with_reducible refine st_ret ?_; ((try simp only [seqQ, blockQ, loopQ, forQ, whileQ]); first | (with_reducible refine retM_ret ?_) | refine retQ_ret ?_; simp [hlt, hge, n1, c1])) | refine st_seq ?_ | refine st_block ?_ | ((with_reducible show (STri _ _ _ _ _) ∧ (STri _ _ _ _ _)); refine And.intro ?_ ?_) | ((first | refine st_reg ?_ | refine buildP_own ?_ | refine appP_own ?_) <;> (simp -dsimp [hlt, hge, n1, c1]; (repeat (simp -dsimp (disch := (first | omega | assumption | (refine Bool.eq_false_iff.1 ?_; assumption))) only [wrap_in, if_pos, if_neg]; (try simp -dsimp [hlt, hge, n1, c1]))))) | ((first | refine guardP_of (fun hc => ?_) (fun hc => ?_) | refine st_cond rfl (fun hc => ?_) (fun hc => ?_)) <;> (try simp only [lqA, lqB, lqC, lqD, lqE, lqF, lqG, lqH, lqI, lqJ, lqK, lqL, lqM, lqN, lqO] at hc) <;> (try (exfalso; first | omega | exact bool_tf hc (by assumption) | exact bool_ft hc (by assumption) | exact absurd (by assumption) hc)) <;> (first | with_reducible show STri _ _ _ _ _ _ | (simp -dsimp [hlt, hge, n1, c1, hc]; (repeat (simp -dsimp (disch := (first | omega | assumption | (refine Bool.eq_false_iff.1 ?_; assumption))) only [wrap_in, if_pos, if_neg]; (try simp -dsimp [hlt, hge, n1, c1, hc]))))))))
          all_goals exact ⟨hlt, by simp, by simp [hs, c1], by simp⟩
      · (repeat' (first | ((first | with_reducible refine st_skip ?_ | with_reducible refine st_exit ?_); (try simp only [seqQ, blockQ, loopQ, forQ, whileQ, reduceIte, Nat.reduceEqDiff])) | (with_reducible refine st_ret ?_; ((try simp only [seqQ, blockQ, loopQ, forQ, whileQ]); first | (with_reducible refine retM_ret ?_) | refine retQ_ret ?_; simp [hlt, hge, n1])) | refine st_seq ?_ | refine st_block ?_ | ((with_reducible show (STri _ _ _ _ _) ∧ (STri _ _ _ _ _)); refine And.intro ?_ ?_) | ((first | refine st_reg ?_ | refine buildP_own ?_ | refine appP_own ?_) <;> (simp -dsimp [hlt, hge, n1]; (repeat (simp -dsimp (disch := (first | omega | assumption | (refine Bool.eq_false_iff.1 ?_; assumption))) only [wrap_in, if_pos, if_neg]; (try simp -dsimp [hlt, hge, n1]))))) | ((first | refine guardP_of (fun hc => ?_) (fun hc => ?_) | refine st_cond rfl (fun hc => ?_) (fun hc => ?_)) <;> (try simp only [lqA, lqB, lqC, lqD, lqE, lqF, lqG, lqH, lqI, lqJ, lqK, lqL, lqM, lqN, lqO] at hc) <;> (try (exfalso; first | omega | exact bool_tf hc (by assumption) | exact bool_ft hc (by assumption) | exact absurd (by assumption) hc)) <;> (first | with_reducible show STri _ _ _ _ _ _ | (simp -dsimp [hlt, hge, n1, hc]; (repeat (simp -dsimp (disch := (first | omega | assumption | (refine Bool.eq_false_iff.1 ?_; assumption))) only [wrap_in, if_pos, if_neg]; (try simp -dsimp [hlt, hge, n1, hc]))))))))
        all_goals exact ⟨hlt, by simp, by simp [hs], by simp⟩
    · obtain ⟨h5, h6⟩ := h4 (by omega)
      rw [he] at h6
      obtain ⟨m, hm⟩ : ∃ m, k = m + 1 := ⟨k - 1, by omega⟩
      subst hm
      have h7 : m < l.length := by omega
      obtain ⟨f, hf⟩ : ∃ f, l[m] = f := ⟨_, rfl⟩
      have hgf : ∀ h : m < l.length, l[m]'h = f := fun _ => hf
      have h8 : f.2 + 1 < e.1 := by
        have : l[m + 1 - 1] = f := hf
        rw [this] at h6; exact h6
      obtain ⟨h9, h10⟩ := hb _ (List.getElem_mem h7)
      rw [hf] at h9 h10
      have h11 := hg.1 _ (List.getElem_mem h7)
      rw [hf] at h11
      have n2 : ¬ e.1 ≤ f.2 + 1 := by omega
      have n3 : (0 : Int) < (m : Int) + 1 := by omega
      cases q
      · by_cases c1 : e.1 ≤ n
        · by_cases c2 : n ≤ e.2
          · (repeat' (first | ((first | with_reducible refine st_skip ?_ | with_reducible refine st_exit ?_); (try simp only [seqQ, blockQ, loopQ, forQ, whileQ, reduceIte, Nat.reduceEqDiff])) | (with_reducible refine st_ret ?_; ((try simp only [seqQ, blockQ, loopQ, forQ, whileQ]); first | (with_reducible refine retM_ret ?_) | refine retQ_ret ?_; simp [hlt, hge, n1, c1, c2, n2, n3, hgf, h7])) | refine st_seq ?_ | refine st_block ?_ | ((with_reducible show (STri _ _ _ _ _) ∧ (STri _ _ _ _ _)); refine And.intro ?_ ?_) | ((first | refine st_reg ?_ | refine buildP_own ?_ | refine appP_own ?_) <;> (simp -dsimp [hlt, hge, n1, c1, c2, n2, n3, hgf, h7]; (repeat (simp -dsimp (disch := (first | omega | assumption | (refine Bool.eq_false_iff.1 ?_; assumption))) only [wrap_in, if_pos, if_neg]; (try simp -dsimp [hlt, hge, n1, c1, c2, n2, n3, hgf, h7]))))) | ((first | refine guardP_of (fun hc => ?_) (fun hc => ?_) | refine st_cond rfl (fun hc => ?_) (fun hc => ?_)) <;> (try simp only [lqA, lqB, lqC, lqD, lqE, lqF, lqG, lqH, lqI, lqJ, lqK, lqL, lqM, lqN, lqO] at hc) <;> (try (exfalso; first | omega | exact bool_tf hc (by assumption) | exact bool_ft hc (by assumption) | exact absurd (by assumption) hc)) <;> (first | with_reducible show STri _ _ _ _ _ _ | (simp -dsimp [hlt, hge, n1, c1, c2, n2, n3, hgf, h7, hc]; (repeat (simp -dsimp (disch := (first | omega | assumption | (refine Bool.eq_false_iff.1 ?_; assumption))) only [wrap_in, if_pos, if_neg]; (try simp -dsimp [hlt, hge, n1, c1, c2, n2, n3, hgf, h7, hc]))))))))
            all_goals exact ⟨hlt, by simp, by simp [hs, c1, c2], by simp⟩
          · (repeat' (first | ((first | with_reducible refine st_skip ?_ | with_reducible refine st_exit ?_); (try simp only [seqQ, blockQ, loopQ, forQ, whileQ, reduceIte, Nat.reduceEqDiff])) | (with_reducible refine st_ret ?_; ((try simp only [seqQ, blockQ, loopQ, forQ, whileQ]); first | (with_reducible refine retM_ret ?_) | refine retQ_ret ?_; simp [hlt, hge, n1, c1, c2, n2, n3, hgf, h7])) | refine st_seq ?_ | refine st_block ?_ | ((with_reducible show (STri _ _ _ _ _) ∧ (STri _ _ _ _ _)); refine And.intro ?_ ?_) | ((first | refine st_reg ?_ | refine buildP_own ?_ | refine appP_own ?_) <;> (simp -dsimp [hlt, hge, n1, c1, c2, n2, n3, hgf, h7]; (repeat (simp -dsimp (disch := (first | omega | assumption | (refine Bool.eq_false_iff.1 ?_; assumption))) only [wrap_in, if_pos, if_neg]; (try simp -dsimp [hlt, hge, n1, c1, c2, n2, n3, hgf, h7]))))) | ((first | refine guardP_of (fun hc => ?_) (fun hc => ?_) | refine st_cond rfl (fun hc => ?_) (fun hc => ?_)) <;> (try simp only [lqA, lqB, lqC, lqD, lqE, lqF, lqG, lqH, lqI, lqJ, lqK, lqL, lqM, lqN, lqO] at hc) <;> (try (exfalso; first | omega | exact bool_tf hc (by assumption) | exact bool_ft hc (by assumption) | exact absurd (by assumption) hc)) <;> (first | with_reducible show STri _ _ _ _ _ _ | (simp -dsimp [hlt, hge, n1, c1, c2, n2, n3, hgf, h7, hc]; (repeat (simp -dsimp (disch := (first | omega | assumption | (refine Bool.eq_false_iff.1 ?_; assumption))) only [wrap_in, if_pos, if_neg]; (try simp -dsimp [hlt, hge, n1, c1, c2, n2, n3, hgf, h7, hc]))))))))
            all_goals exact ⟨hlt, by simp, by simp [hs, c1, c2], by simp⟩
        · (repeat' (first | ((first | with_reducible refine st_skip ?_ | with_reducible refine st_exit ?_); (try simp only [seqQ, blockQ, loopQ, forQ, whileQ, reduceIte, Nat.reduceEqDiff])) | (with_reducible refine st_ret ?_; ((try simp only [seqQ, blockQ, loopQ, forQ, whileQ]); first | (with_reducible refine retM_ret ?_) | refine retQ_ret ?_; simp [hlt, hge, n1, c1, n2, n3, hgf, h7])) | refine st_seq ?_ | refine st_block ?_ | ((with_reducible show (STri _ _ _ _ _) ∧ (STri _ _ _ _ _)); refine And.intro ?_ ?_) | ((first | refine st_reg ?_ | refine buildP_own ?_ | refine appP_own ?_) <;> (simp -dsimp [hlt, hge, n1, c1, n2, n3, hgf, h7]; (repeat (simp -dsimp (disch := (first | omega | assumption | (refine Bool.eq_false_iff.1 ?_; assumption))) only [wrap_in, if_pos, if_neg]; (try simp -dsimp [hlt, hge, n1, c1, n2, n3, hgf, h7]))))) | ((first | refine guardP_of (fun hc => ?_) (fun hc => ?_) | refine st_cond rfl (fun hc => ?_) (fun hc => ?_)) <;> (try simp only [lqA, lqB, lqC, lqD, lqE, lqF, lqG, lqH, lqI, lqJ, lqK, lqL, lqM, lqN, lqO] at hc) <;> (try (exfalso; first | omega | exact bool_tf hc (by assumption) | exact bool_ft hc (by assumption) | exact absurd (by assumption) hc)) <;> (first | with_reducible show STri _ _ _ _ _ _ | (simp -dsimp [hlt, hge, n1, c1, n2, n3, hgf, h7, hc]; (repeat (simp -dsimp (disch := (first | omega | assumption | (refine Bool.eq_false_iff.1 ?_; assumption))) only [wrap_in, if_pos, if_neg]; (try simp -dsimp [hlt, hge, n1, c1, n2, n3, hgf, h7, hc]))))))))
          all_goals exact ⟨hlt, by simp, by simp [hs, c1], by simp⟩
      · (repeat' (first | ((first | with_reducible refine st_skip ?_ | with_reducible refine st_exit ?_); (try simp only [seqQ, blockQ, loopQ, forQ, whileQ, reduceIte, Nat.reduceEqDiff])) | (with_reducible refine st_ret ?_; ((try simp only [seqQ, blockQ, loopQ, forQ, whileQ]); first | (with_reducible refine retM_ret ?_) | refine retQ_ret ?_; simp [hlt, hge, n1, n2, n3, hgf, h7])) | refine st_seq ?_ | refine st_block ?_ | ((with_reducible show (STri _ _ _ _ _) ∧ (STri _ _ _ _ _)); refine And.intro ?_ ?_) | ((first | refine st_reg ?_ | refine buildP_own ?_ | refine appP_own ?_) <;> (simp -dsimp [hlt, hge, n1, n2, n3, hgf, h7]; (repeat (simp -dsimp (disch := (first | omega | assumption | (refine Bool.eq_false_iff.1 ?_; assumption))) only [wrap_in, if_pos, if_neg]; (try simp -dsimp [hlt, hge, n1, n2, n3, hgf, h7]))))) | ((first | refine guardP_of (fun hc => ?_) (fun hc => ?_) | refine st_cond rfl (fun hc => ?_) (fun hc => ?_)) <;> (try simp only [lqA, lqB, lqC, lqD, lqE, lqF, lqG, lqH, lqI, lqJ, lqK, lqL, lqM, lqN, lqO] at hc) <;> (try (exfalso; first | omega | exact bool_tf hc (by assumption) | exact bool_ft hc (by assumption) | exact absurd (by assumption) hc)) <;> (first | with_reducible show STri _ _ _ _ _ _ | (simp -dsimp [hlt, hge, n1, n2, n3, hgf, h7, hc]; (repeat (simp -dsimp (disch := (first | omega | assumption | (refine Bool.eq_false_iff.1 ?_; assumption))) only [wrap_in, if_pos, if_neg]; (try simp -dsimp [hlt, hge, n1, n2, n3, hgf, h7, hc]))))))))
        all_goals exact ⟨hlt, by simp, by simp [hs], by simp⟩
  · have hkk : k = l.length := by omega
    subst hkk
    rw [List.take_length]
    (repeat' (first | ((first | with_reducible refine st_skip ?_ | with_reducible refine st_exit ?_); (try simp only [seqQ, blockQ, loopQ, forQ, whileQ, reduceIte, Nat.reduceEqDiff])) | (with_reducible refine st_ret ?_; ((try simp only [seqQ, blockQ, loopQ, forQ, whileQ]); first | (with_reducible refine retM_ret ?_) | refine retQ_ret ?_; simp [hlt])) | refine st_seq ?_ | refine st_block ?_ | ((with_reducible show (STri _ _ _ _ _) ∧ (STri _ _ _ _ _)); refine And.intro ?_ ?_) | ((first | refine st_reg ?_ | refine buildP_own ?_ | refine appP_own ?_) <;> (simp -dsimp [hlt]; (repeat (simp -dsimp (disch := (first | omega | assumption | (refine Bool.eq_false_iff.1 ?_; assumption))) only [wrap_in, if_pos, if_neg]; (try simp -dsimp [hlt]))))) | ((first | refine guardP_of (fun hc => ?_) (fun hc => ?_) | refine st_cond rfl (fun hc => ?_) (fun hc => ?_)) <;> (try simp only [lqA, lqB, lqC, lqD, lqE, lqF, lqG, lqH, lqI, lqJ, lqK, lqL, lqM, lqN, lqO] at hc) <;> (try (exfalso; first | omega | exact bool_tf hc (by assumption) | exact bool_ft hc (by assumption) | exact absurd (by assumption) hc)) <;> (first | with_reducible show STri _ _ _ _ _ _ | (simp -dsimp [hlt, hc]; (repeat (simp -dsimp (disch := (first | omega | assumption | (refine Bool.eq_false_iff.1 ?_; assumption))) only [wrap_in, if_pos, if_neg]; (try simp -dsimp [hlt, hc]))))))))
    exact .refl _
structure SpInv (b : Wbk) (p : Nat → Bool) (k : Nat) (l : List (Int × Int)) : Prop where
  gap : GapsP l
  lo : ∀ e ∈ l, b.nlo ≤ e.1 ∧ e.2 < b.nlo + k
  cov : ∀ y, insB y l = true ↔ b.nlo ≤ y ∧ y < b.nlo + k ∧ p (wrongN b y) = true
theorem insB_app (y : Int) (l m : List (Int × Int)) : insB y (l ++ m) = (insB y l || insB y m) := by unfold insB; exact List.any_append
theorem insB_one (y : Int) (e : Int × Int) : insB y [e] = true ↔ e.1 ≤ y ∧ y ≤ e.2 := by unfold insB; simp
theorem spInv (b : Wbk) (p : Nat → Bool) : ∀ k, k ≤ (allL b).length → SpInv b p k (spansTo b p k)
  | 0, _ => by
    have e0 : spansTo b p 0 = [] := rfl
    rw [e0]
    refine ⟨⟨fun e he => ?_, List.Pairwise.nil⟩, fun e he => ?_, fun y => ?_⟩
    · cases he
    · cases he
    · constructor
      · intro h
        simp [insB] at h
      · rintro ⟨h1, h2, _⟩
        omega
  | k + 1, hk => by
    have ih := spInv b p k (by omega)
    have hs := spansTo_succ (p := p) (show k < (allL b).length by omega)
    have hN : k < bookN b := by rw [← allL_len b]; omega
    have h3 : (allL b)[k]'(by omega) = (b.nlo + (k : Int), wrongN b (b.nlo + k)) := by
      have := allL_get hN
      rw [List.getElem?_eq_getElem (by omega)] at this
      exact Option.some.inj this
    rw [h3] at hs
    obtain ⟨⟨g1, g2⟩, i2, i3⟩ := ih
    rw [hs]
    unfold spanStep
    dsimp only
    generalize spansTo b p k = acc at *
    by_cases hp : p (wrongN b (b.nlo + k)) = true
    · rw [if_pos hp]
      have hnew : ∀ y, y = b.nlo + (k : Int) → p (wrongN b y) = true := fun y e => by rw [e]; exact hp
      rcases List.eq_nil_or_concat acc with rfl | ⟨ini, l, rfl⟩
      · simp only [List.getLast?_nil]
        refine ⟨⟨fun e he => ?_, List.pairwise_singleton _ _⟩, fun e he => ?_, fun y => ?_⟩
        · rw [List.mem_singleton.1 he]; exact Int.le_refl _
        · rw [List.mem_singleton.1 he]; dsimp only; omega
        · rw [insB_one]
          constructor
          · rintro ⟨h1, h2⟩
            dsimp only at h1 h2
            exact ⟨by omega, by omega, hnew y (by omega)⟩
          · rintro ⟨h1, h2, h4⟩
            dsimp only
            rcases (show y = b.nlo + (k : Int) ∨ y < b.nlo + (k : Int) by omega) with h | h
            · omega
            · have := (i3 y).2 ⟨h1, h, h4⟩
              simp [insB] at this
      · rw [List.concat_eq_append] at *
        simp only [List.getLast?_append, List.getLast?_singleton, Option.some_or, List.dropLast_concat]
        rw [List.pairwise_append] at g2
        obtain ⟨g2, _, g3⟩ := g2
        have hl := g1 l (by simp)
        have hl2 := i2 l (by simp)
        by_cases hq : l.2 = b.nlo + k - 1
        · rw [if_pos hq]
          refine ⟨⟨fun e he => ?_, ?_⟩, fun e he => ?_, fun y => ?_⟩
          · rcases List.mem_append.1 he with he | he
            · exact g1 e (by simp [he])
            · rw [List.mem_singleton.1 he]; dsimp only; omega
          · rw [List.pairwise_append]
            exact ⟨g2, List.pairwise_singleton _ _, fun a ha c hc => by rw [List.mem_singleton.1 hc]; exact g3 a ha l (by simp)⟩
          · rcases List.mem_append.1 he with he | he
            · have := i2 e (by simp [he]); omega
            · rw [List.mem_singleton.1 he]; dsimp only; omega
          · have h5 := i3 y
            rw [insB_app, Bool.or_eq_true, insB_one] at h5 ⊢
            dsimp only
            constructor
            · rintro (h | ⟨h1, h2⟩)
              · obtain ⟨h6, h7, h8⟩ := h5.1 (.inl h)
                exact ⟨h6, by omega, h8⟩
              · rcases (show y = b.nlo + (k : Int) ∨ y ≤ l.2 by omega) with h | h
                · exact ⟨by omega, by omega, hnew y h⟩
                · obtain ⟨h6, h7, h8⟩ := h5.1 (.inr ⟨h1, h⟩)
                  exact ⟨h6, by omega, h8⟩
            · rintro ⟨h1, h2, h4⟩
              rcases (show y = b.nlo + (k : Int) ∨ y < b.nlo + (k : Int) by omega) with h | h
              · exact .inr ⟨by omega, by omega⟩
              · rcases h5.2 ⟨h1, h, h4⟩ with h | h
                · exact .inl h
                · exact .inr ⟨h.1, by omega⟩
        · rw [if_neg hq]
          refine ⟨⟨fun e he => ?_, ?_⟩, fun e he => ?_, fun y => ?_⟩
          · rcases List.mem_append.1 he with he | he
            · exact g1 e he
            · rw [List.mem_singleton.1 he]; exact Int.le_refl _
          · rw [List.pairwise_append]
            refine ⟨?_, List.pairwise_singleton _ _, fun a ha c hc => ?_⟩
            · rw [List.pairwise_append]; exact ⟨g2, List.pairwise_singleton _ _, g3⟩
            · rw [List.mem_singleton.1 hc]
              dsimp only
              rcases List.mem_append.1 ha with ha | ha
              · have := g3 a ha l (by simp); omega
              · rw [List.mem_singleton.1 ha]; omega
          · rcases List.mem_append.1 he with he | he
            · have := i2 e he; omega
            · rw [List.mem_singleton.1 he]; dsimp only; omega
          · have h5 := i3 y
            rw [insB_app, Bool.or_eq_true, insB_one, h5]
            dsimp only
            constructor
            · rintro (⟨h6, h7, h8⟩ | ⟨h1, h2⟩)
              · exact ⟨h6, by omega, h8⟩
              · exact ⟨by omega, by omega, hnew y (by omega)⟩
            · rintro ⟨h1, h2, h4⟩
              rcases (show y = b.nlo + (k : Int) ∨ y < b.nlo + (k : Int) by omega) with h | h
              · exact .inr ⟨by omega, by omega⟩
              · exact .inl ⟨h1, h, h4⟩
    · rw [if_neg hp]
      refine ⟨⟨g1, g2⟩, fun e he => ?_, fun y => ?_⟩
      · have := i2 e he; omega
      · rw [i3 y]
        constructor
        · rintro ⟨h1, h2, h4⟩; exact ⟨h1, by omega, h4⟩
        · rintro ⟨h1, h2, h4⟩
          refine ⟨h1, ?_, h4⟩
          rcases (show y = b.nlo + (k : Int) ∨ y < b.nlo + (k : Int) by omega) with h | h
          · rw [h] at h4; exact absurd h4 hp
          · exact h
theorem spansInv {b : Wbk} (hb : BkOK b) (p : Nat → Bool) : GapsP (spansL b p) ∧ (∀ e ∈ spansL b p, b.nlo ≤ e.1 ∧ e.2 ≤ b.nhi) ∧ ∀ y, insB y (spansL b p) = true ↔ b.nlo ≤ y ∧ y ≤ b.nhi ∧ p (wrongN b y) = true := by
  have h := spInv b p (allL b).length (Nat.le_refl _)
  have e : spansTo b p (allL b).length = spansL b p := by unfold spansTo spansL; rw [List.take_length]
  rw [e] at h
  have hN : ((allL b).length : Int) = b.nhi + 1 - b.nlo := by
    rw [allL_len]; have := hb.n1; unfold bookN; omega
  refine ⟨h.gap, fun e he => ?_, fun y => ?_⟩
  · have := h.lo e he; omega
  · rw [h.cov y]
    constructor
    · rintro ⟨h1, h2, h3⟩; exact ⟨h1, by omega, h3⟩
    · rintro ⟨h1, h2, h3⟩; exact ⟨h1, by omega, h3⟩
end Go.Proofs.Ytakdmliblijgmaa
/- Wire's plain laws, V: true notes are right. -/
namespace Go.Proofs.Ytakdmliblijgmaa
open Go.RowKit
theorem off_size (x : Of) : sizeW (offW x) = true := by
  have := numS_bd x
  unfold sizeW within1
  rw [offW_len]
  simp; omega
theorem bd_valid {s : Wsrc} (h : SrcBd s) : validV s = true := by
  obtain ⟨hk, e0, e1, e2, e3, a0, a1, d0, d1, d2, d3, v0, v1, t0, t1, t2⟩ := h
  have h1 : spanW s.elo s.ehi 3600 = true := by unfold spanW; simp; omega
  have h2 : within1 0 3155760000 s.at' = true := by unfold within1; simp; omega
  have h3 : spanW s.dlo s.dhi 100000 = true := by unfold spanW; simp; omega
  have h4 : within1 1 3155760000 s.every = true := by unfold within1; simp; omega
  have h5 : within1 1 366 s.table.length = true := by unfold within1; simp; omega
  have h6 : allIn (-3600) 3600 s.table = true := by
    unfold allIn
    rw [List.all_eq_true]
    intro n hn
    have := t2 n hn
    unfold inB; simp; omega
  unfold validV baseV useV clockV eventV sunV kindOK
  rw [h1, h2, h3, h4, h5, h6]
  rcases hk with h | h | h | h <;> rw [h] <;> decide
theorem off_valid {x : Of} (hx : OfOk x) : (offW x).all validV = true := by
  rw [List.all_eq_true]
  intro s hs
  unfold offW offL at hs
  obtain ⟨i, _, rfl⟩ := List.mem_map.1 hs
  exact bd_valid (src_bd (svAt_ok hx i))
theorem off_wlen {x : Of} (hx : OfOk x) : WLen (offW x) := ⟨fun s hs => by
  unfold offW offL at hs
  obtain ⟨i, _, rfl⟩ := List.mem_map.1 hs
  have := (src_bd (svAt_ok hx i)).t1
  omega⟩
theorem offN_len (x : Of) : (offN x).length ≤ 8 := by
  have := notesTo_len' x (numN x)
  unfold offN
  unfold numN at *
  omega
structure NtIn (x : Of) (n : Wnt) : Prop where
  s : ∃ j : Nat, n.src = j ∧ j < numS x ∧ saidB (srcS (svAt x j)) n.said = true
  t0 : 0 ≤ n.tick
  t1 : n.tick ≤ 3155760000
theorem nt_err {x : Of} {n : Wnt} (h : NtIn x n) : noteErr (offW x) n = 0 := by
  obtain ⟨⟨j, h1, h2, h3⟩, t0, t1⟩ := h
  unfold noteErr
  have q1 : within1 0 ((offW x).length - 1) n.src = true := by rw [offW_len, h1]; unfold within1; simp; omega
  have q2 : within1 0 3155760000 n.tick = true := by unfold within1; simp; omega
  have q3 : (((offW x).map fun s => saidB s n.said).getD n.src.toNat false) = true := by
    have hj : j < (offW x).length := by rw [offW_len]; exact h2
    rw [h1, Int.toNat_natCast]
    have : ((offW x).map fun s => saidB s n.said).getD j false = saidB ((offW x)[j]) n.said := by simp [hj]
    rw [this, offW_get, h3]
  rw [if_pos q1, if_pos ⟨q2, q3⟩]
theorem newErr_zero {x : Of} (hx : OfOk x) {l : List Wnt} (hl : l.length ≤ 60) (hn : ∀ n ∈ l, NtIn x n) {lo hi : Int} (hs : spanW lo hi 7200 = true) : newErr (offW x) l lo hi = 0 := by
  have h1 := off_size x
  have h2 := off_valid hx
  have h3 : notesErr (offW x) l = 0 := by
    unfold notesErr
    have : l.find? (fun n => decide (noteErr (offW x) n ≠ 0)) = none := by
      rw [List.find?_eq_none]
      intro n hn'
      simp [nt_err (hn n hn')]
    rw [this]
  unfold newErr
  rw [h1, h2, h3, hs]
  simp; omega
theorem said_ok {x : Of} (hx : OfOk x) (i : Nat) : saidB (srcN x i) (saidN x i) = true := by
  have hs := (srcN_bd hx i).k
  have hb := base_bd hx i
  unfold saidB saidN
  rcases hs with h | h | h | h <;> rw [h] <;> simp [within1] <;> omega
theorem noteN_in {x : Of} (hx : OfOk x) {i : Nat} (h : 0 ≤ (noteN x i).tick) : NtIn x (noteN x i) := by
  have ht := time_bd hx i
  obtain ⟨y1, y2⟩ := hx.y
  refine ⟨⟨srcI x i, rfl, srcI_lt i, said_ok hx i⟩, h, ?_⟩
  show timeN x i - (x.by' - 128) ≤ 3155760000
  omega
theorem offN_mem {x : Of} {n : Wnt} (h : n ∈ offN x) : ∃ i, n = noteN x i ∧ 0 ≤ (noteN x i).tick := by
  unfold offN notesTo' at h
  rw [List.mem_filter] at h
  obtain ⟨h1, h2⟩ := h
  obtain ⟨i, _, rfl⟩ := List.mem_map.1 h1
  exact ⟨i, rfl, by simpa using h2⟩
end Go.Proofs.Ytakdmliblijgmaa
/- Wire's plain laws, VI: the truth is there. -/
namespace Go.Proofs.Ytakdmliblijgmaa
open Go.RowKit
/-! When some correction suits all -/
theorem near_ok {y a c : Int} (y1 : -128 ≤ y) (y2 : y ≤ 127) (a1 : 0 ≤ a) (a2 : a ≤ 100) (c1 : 0 ≤ c) (c2 : c ≤ 100) : spanW (y - a) (y + c) 7200 = true := by
  unfold spanW; simp; omega
end Go.Proofs.Ytakdmliblijgmaa
/- Wire's plain laws, VII: shifted notes; later counters. -/
namespace Go.Proofs.Ytakdmliblijgmaa
open Go.RowKit
structure Sh8 where
  (s0 s1 s2 s3 s4 s5 s6 s7 : Int)
structure ShOk (s : Sh8) : Prop where
  h0 : isU8 s.s0
  h1 : isU8 s.s1
  h2 : isU8 s.s2
  h3 : isU8 s.s3
  h4 : isU8 s.s4
  h5 : isU8 s.s5
  h6 : isU8 s.s6
  h7 : isU8 s.s7
def rowSh (s : Sh8) : List CV := [U8 s.s0, U8 s.s1, U8 s.s2, U8 s.s3, U8 s.s4, U8 s.s5, U8 s.s6, U8 s.s7]
def cSh (s : Sh8) : CV := .agg (rowSh s)
def shAt (s : Sh8) (i : Nat) : Int := [s.s0, s.s1, s.s2, s.s3, s.s4, s.s5, s.s6, s.s7].getD i 0
attribute [simp] rowSh cSh
theorem sh_get (s : Sh8) {i : Nat} (h : i < 8) : List.take 1 (List.drop i [SV.c (U8 s.s0), SV.c (U8 s.s1), SV.c (U8 s.s2), SV.c (U8 s.s3), SV.c (U8 s.s4), SV.c (U8 s.s5), SV.c (U8 s.s6), SV.c (U8 s.s7)]) = [SV.c (U8 (shAt s i))] := by
  rcases (show i = 0 ∨ i = 1 ∨ i = 2 ∨ i = 3 ∨ i = 4 ∨ i = 5 ∨ i = 6 ∨ i = 7 by omega) with rfl | rfl | rfl | rfl | rfl | rfl | rfl | rfl <;> rfl
theorem shAt_bd {s : Sh8} (h : ShOk s) {i : Nat} (hi : i < 8) : isU8 (shAt s i) := by
  obtain ⟨h0, h1, h2, h3, h4, h5, h6, h7⟩ := h
  rcases (show i = 0 ∨ i = 1 ∨ i = 2 ∨ i = 3 ∨ i = 4 ∨ i = 5 ∨ i = 6 ∨ i = 7 by omega) with rfl | rfl | rfl | rfl | rfl | rfl | rfl | rfl <;> assumption
def chgL (f : Nat → Wnt → Wnt) (l : List Wnt) : List Wnt := l.mapIdx f
def chgTo (f : Nat → Wnt → Wnt) (l : List Wnt) (k : Nat) : List Wnt := (chgL f l).take k ++ l.drop k
theorem chgL_len (f : Nat → Wnt → Wnt) (l : List Wnt) : (chgL f l).length = l.length := by simp [chgL]
theorem chgTo_len (f : Nat → Wnt → Wnt) (l : List Wnt) {k : Nat} (h : k ≤ l.length) : (chgTo f l k).length = l.length := by
  unfold chgTo
  rw [List.length_append, List.length_take, List.length_drop, chgL_len]; omega
theorem chgTo_get (f : Nat → Wnt → Wnt) (l : List Wnt) {k : Nat} (h : k < l.length) : (chgTo f l k)[k]'(by rw [chgTo_len f l (by omega)]; exact h) = l[k] := by
  unfold chgTo
  rw [List.getElem_append_right (by rw [List.length_take]; omega)]
  simp [chgL_len, Nat.min_eq_left (Nat.le_of_lt h)]
theorem chgTo_set (f : Nat → Wnt → Wnt) (l : List Wnt) {k : Nat} (h : k < l.length) : (chgTo f l k).set k (f k l[k]) = chgTo f l (k + 1) := by
  have hk : k < (chgL f l).length := by rw [chgL_len]; exact h
  unfold chgTo
  rw [List.set_append_right _ _ (by rw [List.length_take]; omega)]
  have e : k - (List.take k (chgL f l)).length = 0 := by rw [List.length_take]; omega
  rw [e, List.drop_eq_getElem_cons h, List.set_cons_zero, List.take_succ_eq_append_getElem hk, List.append_assoc]
  have e2 : (chgL f l)[k] = f k l[k] := by simp [chgL]
  rw [e2]; rfl
theorem chgTo_skip (f : Nat → Wnt → Wnt) (l : List Wnt) {k : Nat} (h : k < l.length) (hf : f k l[k] = l[k]) : chgTo f l k = chgTo f l (k + 1) := by
  rw [← chgTo_set f l h, hf]
  have := chgTo_get f l h
  have hlt : k < (chgTo f l k).length := by rw [chgTo_len f l (by omega)]; exact h
  rw [← this]
  exact (List.set_getElem_self hlt).symm
theorem chgTo_zero (f : Nat → Wnt → Wnt) (l : List Wnt) : chgTo f l 0 = l := by simp [chgTo]
theorem chgTo_all (f : Nat → Wnt → Wnt) (l : List Wnt) : chgTo f l l.length = chgL f l := by
  unfold chgTo
  rw [List.drop_length, List.append_nil, ← chgL_len f l, List.take_length]
theorem chg_mem {f : Nat → Wnt → Wnt} {l : List Wnt} {n : Wnt} (h : n ∈ chgL f l) : ∃ i m, m ∈ l ∧ n = f i m ∧ i < l.length := by
  unfold chgL at h
  rw [List.mem_mapIdx] at h
  obtain ⟨i, hi, rfl⟩ := h
  exact ⟨i, l[i], List.getElem_mem hi, rfl, hi⟩
theorem offN_tick {x : Of} (hx : OfOk x) {n : Wnt} (h : n ∈ offN x) : NtIn x n ∧ n.tick ≤ 30001000 := by
  obtain ⟨i, rfl, h0⟩ := offN_mem h
  have ht := time_bd hx i
  obtain ⟨y1, y2⟩ := hx.y
  refine ⟨noteN_in hx h0, ?_⟩
  show timeN x i - (x.by' - 128) ≤ 30001000
  omega
/-! All ticks are greater, and the corrections smaller -/
end Go.Proofs.Ytakdmliblijgmaa
/- Wire's plain laws, VIII: a later counter. -/
namespace Go.Proofs.Ytakdmliblijgmaa
open Go.RowKit
def chA (s : Sh8) (thr : Int) (i : Nat) (n : Wnt) : Wnt := if thr ≤ shAt s i then { n with tick := max 0 (n.tick + shAt s i % 60 - 30) } else n
theorem chA_in {x : Of} (hx : OfOk x) {s : Sh8} {thr : Int} {n : Wnt} (h : n ∈ chgL (chA s thr) (offN x)) : NtIn x n ∧ n.tick ≤ 30002000 := by
  obtain ⟨i, m, hm, rfl, _⟩ := chg_mem h
  obtain ⟨⟨q1, q2, q3⟩, q4⟩ := offN_tick hx hm
  unfold chA
  split
  · have h0 := Int.emod_nonneg (shAt s i) (show (60 : Int) ≠ 0 by omega)
    have h1 := Int.emod_lt_of_pos (shAt s i) (show (0 : Int) < 60 by omega)
    refine ⟨⟨q1, ?_, ?_⟩, ?_⟩ <;> (dsimp only; omega)
  · exact ⟨⟨q1, q2, q3⟩, by omega⟩
end Go.Proofs.Ytakdmliblijgmaa
/- Wire's laws, VI: WireFits. -/
namespace Go.Proofs.Ytakdmliblijgmaa
open Go.RowKit
theorem few_le {b : Wbk} : fewN b ≤ b.srcs.length := (minU_le _ _).1
end Go.Proofs.Ytakdmliblijgmaa
/- Wire's laws, VII: WireStretches. -/
namespace Go.Proofs.Ytakdmliblijgmaa
open Go.RowKit
end Go.Proofs.Ytakdmliblijgmaa
/- Wire's plain laws, XI: stretched errors. -/
namespace Go.Proofs.Ytakdmliblijgmaa
open Go.RowKit
theorem fit_nil {b : Wbk} : (spansL b fun m => decide (m = 0)) = [] ↔ fitB b = false := by
  unfold fitB
  cases spansL b fun m => decide (m = 0) <;> simp
end Go.Proofs.Ytakdmliblijgmaa
/- Wire's plain laws, IX: one source lies. -/
namespace Go.Proofs.Ytakdmliblijgmaa
open Go.RowKit
theorem nums_pop : ∀ x : Nat, x < 1024 → (numsL x).length = popN x := by decide +kernel
theorem least_mem {b : Wbk} {s : List Int} : s ∈ leastL b ↔ ∃ x, x ∈ leastS b ∧ numsL x = s := by
  unfold leastL sortL
  rw [(List.mergeSort_perm _ _).mem_iff, List.mem_map]
theorem least_len {b : Wbk} (hb : BkOK b) {s : List Int} (h : s ∈ leastL b) : s.length = fewN b := by
  obtain ⟨x, hx, rfl⟩ := least_mem.1 h
  obtain ⟨h1, h2⟩ := List.mem_filter.1 hx
  rw [nums_pop x (set_lt hb h1)]
  simpa using h2
end Go.Proofs.Ytakdmliblijgmaa
/- Wire's plain laws, XIII: one note more. -/
namespace Go.Proofs.Ytakdmliblijgmaa
open Go.RowKit
theorem right_same {w : List Wsrc} {l l' : List Wnt} {lo hi : Int} (h : newErr w l lo hi = 0) (h' : newErr w l' lo hi = 0) (n : Wnt) (y : Int) : rightN (newBk w l' lo hi) n y = rightN (newBk w l lo hi) n y := by
  obtain ⟨e1, e2, _⟩ := new_nz h
  obtain ⟨f1, f2, _⟩ := new_nz h'
  unfold rightN
  rw [e1, e2, f1, f2]
theorem wrong_sub {w : List Wsrc} {l l' : List Wnt} {lo hi : Int} (h : newErr w l lo hi = 0) (h' : newErr w l' lo hi = 0) (hs : ∀ n ∈ l', n ∈ l) (y : Int) {i : Nat} (hbt : (wrongN (newBk w l' lo hi) y).testBit i = true) : (wrongN (newBk w l lo hi) y).testBit i = true := by
  obtain ⟨_, _, e3, _⟩ := new_nz h
  obtain ⟨_, _, f3, _⟩ := new_nz h'
  unfold wrongN at *
  rw [wrongTo_bit _ _ _ _ (Nat.le_refl _)] at *
  unfold wrongB at *
  rw [List.take_length, List.any_eq_true] at *
  obtain ⟨n, hn, hw⟩ := hbt
  rw [f3] at hn
  refine ⟨n, by rw [e3]; exact hs n hn, ?_⟩
  rw [right_same h h'] at hw
  exact hw
theorem pop_mono {x x' : Nat} (h : ∀ i, x'.testBit i = true → x.testBit i = true) : popN x' ≤ popN x := by
  unfold popN
  rw [← List.countP_eq_length_filter, ← List.countP_eq_length_filter]
  exact List.countP_mono_left fun i _ hi => h i hi
theorem few_mono {w : List Wsrc} {l l' : List Wnt} {lo hi : Int} (h : newErr w l lo hi = 0) (h' : newErr w l' lo hi = 0) (hs : ∀ n ∈ l', n ∈ l) : fewN (newBk w l' lo hi) ≤ fewN (newBk w l lo hi) := by
  obtain ⟨e1, _, _, e4, e5⟩ := new_nz h
  obtain ⟨f1, _, _, f4, f5⟩ := new_nz h'
  rcases minU_at (setsL (newBk w l lo hi)) (newBk w l lo hi).srcs.length with e | ⟨x, hx, e⟩
  · have : fewN (newBk w l' lo hi) ≤ (newBk w l' lo hi).srcs.length := few_le
    have h2 : fewN (newBk w l lo hi) = (newBk w l lo hi).srcs.length := e
    rw [h2, e1]; rw [f1] at this; exact this
  · obtain ⟨z, hz, rfl⟩ := mem_setsL.1 hx
    obtain ⟨z1, z2, z3⟩ := mem_allL.1 hz
    have hm : wrongN (newBk w l' lo hi) z.1 ∈ setsL (newBk w l' lo hi) := mem_setsL.2 ⟨(z.1, _), mem_allL.2 ⟨by rw [f4, ← e4]; exact z1, by rw [f5, ← e5]; exact z2, rfl⟩, rfl⟩
    have h2 := (minU_le (setsL (newBk w l' lo hi)) (newBk w l' lo hi).srcs.length).2 _ hm
    have h3 := pop_mono fun i hi => wrong_sub h h' hs z.1 (i := i) hi
    unfold fewN
    rw [e, z3]
    omega
theorem meet_mono {w : List Wsrc} {l l' : List Wnt} {lo hi : Int} (h : newErr w l lo hi = 0) (h' : newErr w l' lo hi = 0) (hs : ∀ n ∈ l', n ∈ l) (i k : Nat) (hm : meetB (newBk w l lo hi) i k = true) : meetB (newBk w l' lo hi) i k = true := by
  obtain ⟨e1, _, _, e4, e5⟩ := new_nz h
  obtain ⟨f1, _, _, f4, f5⟩ := new_nz h'
  unfold meetB at *
  rw [List.any_eq_true] at *
  obtain ⟨x, hx, hb⟩ := hm
  obtain ⟨z, hz, rfl⟩ := mem_setsL.1 hx
  obtain ⟨z1, z2, z3⟩ := mem_allL.1 hz
  refine ⟨wrongN (newBk w l' lo hi) z.1, mem_setsL.2 ⟨(z.1, _), mem_allL.2 ⟨by rw [f4, ← e4]; exact z1, by rw [f5, ← e5]; exact z2, rfl⟩, rfl⟩, ?_⟩
  unfold bothB at *
  rw [z3] at hb
  have q : ∀ i, (wrongN (newBk w l lo hi) z.1).testBit i = false → (wrongN (newBk w l' lo hi) z.1).testBit i = false := fun i h0 => by
    cases hq : (wrongN (newBk w l' lo hi) z.1).testBit i with
    | false => rfl
    | true => rw [wrong_sub h h' hs z.1 hq] at h0; cases h0
  rw [Bool.and_eq_true, Bool.not_eq_true', Bool.not_eq_true'] at *
  exact ⟨q i hb.1, q k hb.2⟩
theorem pairs_mono {b b' : Wbk} (hm : ∀ i k, meetB b i k = true → meetB b' i k = true) (n : Nat) : ∀ i, (pairsTo b' n i).length ≤ (pairsTo b n i).length
  | 0 => by simp [pairsTo]
  | i + 1 => by
    rw [pairsTo_succ, pairsTo_succ, List.length_append, List.length_append]
    have ih := pairs_mono hm n i
    have h1 : (pairRow b' i n).length ≤ (pairRow b i n).length := by
      unfold pairRow
      rw [List.length_map, List.length_map, ← List.countP_eq_length_filter, ← List.countP_eq_length_filter]
      refine List.countP_mono_left fun k _ hk => ?_
      rw [Bool.and_eq_true, Bool.not_eq_true'] at *
      refine ⟨hk.1, ?_⟩
      cases hq : meetB b i k with
      | false => rfl
      | true => rw [hm i k hq] at hk; cases hk.2
    omega
/-! Without the notes of some sources -/
def goneTo (S : List Int) (o src : Int) (k : Nat) : Bool := (List.range k).any fun d => decide (¬ (d : Int) = o) && decide (S.getD d 0 = src)
theorem goneTo_succ (S : List Int) (o src : Int) (k : Nat) : goneTo S o src (k + 1) = (goneTo S o src k || (decide (¬ (k : Int) = o) && decide (S.getD k 0 = src))) := by
  unfold goneTo
  rw [List.range_succ, List.any_append]
  simp
def restL (l : List Wnt) (S : List Int) (o : Int) : List Wnt := l.filter fun n => !goneTo S o n.src S.length
theorem gone_all {S : List Int} {src : Int} : goneTo S (-1) src S.length = true ↔ src ∈ S := by
  unfold goneTo
  rw [List.any_eq_true]
  constructor
  · rintro ⟨d, hd, h⟩
    have hd := List.mem_range.1 hd
    rw [Bool.and_eq_true, decide_eq_true_eq, decide_eq_true_eq] at h
    have : S.getD d 0 = S[d] := by simp [hd]
    rw [← h.2, this]
    exact List.getElem_mem hd
  · intro h
    obtain ⟨d, hd, rfl⟩ := List.getElem_of_mem h
    refine ⟨d, List.mem_range.2 hd, ?_⟩
    rw [Bool.and_eq_true, decide_eq_true_eq, decide_eq_true_eq]
    exact ⟨by omega, by simp [hd]⟩
theorem gone_one {S : List Int} {o : Nat} {src : Int} (h : goneTo S o src S.length = true) : src ∈ S.eraseIdx o := by
  unfold goneTo at h
  rw [List.any_eq_true] at h
  obtain ⟨d, hd, h⟩ := h
  have hd := List.mem_range.1 hd
  rw [Bool.and_eq_true, decide_eq_true_eq, decide_eq_true_eq] at h
  have hg : S.getD d 0 = S[d] := by simp [hd]
  rw [List.mem_eraseIdx_iff_getElem]
  exact ⟨d, hd, by omega, by rw [← hg]; exact h.2⟩
theorem nodup_sub : ∀ {l l' : List Int}, l.Nodup → (∀ x ∈ l, x ∈ l') → l.length ≤ l'.length
  | [], l', _, _ => Nat.zero_le _
  | a :: l, l', hn, hs => by
    rw [List.nodup_cons] at hn
    have ha : a ∈ l' := hs a (by simp)
    have h1 : l.length ≤ (l'.erase a).length := nodup_sub hn.2 fun x hx => by
      rw [List.mem_erase_of_ne (fun e => hn.1 (by rw [← e]; exact hx))]
      exact hs x (by simp [hx])
    rw [List.length_erase_of_mem ha] at h1
    have := List.length_pos_of_mem ha
    simp only [List.length_cons]
    omega
theorem pop_sub {x : Nat} {S : List Int} (h : ∀ i, x.testBit i = true → (i : Int) ∈ S) : popN x ≤ S.length := by
  have hn : (((List.range 10).filter fun i => x.testBit i).map fun (i : Nat) => (i : Int)).Nodup := by
    unfold List.Nodup
    rw [List.pairwise_map]
    refine List.Pairwise.imp ?_ (List.Pairwise.filter _ List.nodup_range)
    intro a b hab
    omega
  have := nodup_sub hn (l' := S) fun z hz => by
    obtain ⟨i, hi, rfl⟩ := List.mem_map.1 hz
    exact h i (List.mem_filter.1 hi).2
  rw [List.length_map] at this
  exact this
theorem mem_nums {x i : Nat} (hx : x < 1024) (h : x.testBit i = true) : (i : Int) ∈ numsL x := by
  have hi : i < lenN x := by
    have hx0 : x ≠ 0 := fun e => by rw [e, Nat.zero_testBit] at h; cases h
    unfold lenN
    rw [if_neg hx0]
    have := Nat.ge_two_pow_of_testBit h
    have := (Nat.le_log2 hx0).2 this
    omega
  unfold numsL numsTo
  exact List.mem_map.2 ⟨i, List.mem_filter.2 ⟨List.mem_range.2 hi, h⟩, rfl⟩
theorem rest_fit {w : List Wsrc} {l : List Wnt} {lo hi : Int} (h : newErr w l lo hi = 0) (hnn : ∀ n ∈ l, 0 ≤ n.src) {S : List Int} (hS : S ∈ leastL (newBk w l lo hi)) {o : Int} (o1 : -1 ≤ o) (o2 : o < S.length) (h' : newErr w (restL l S o) lo hi = 0) :
    fitB (newBk w (restL l S o) lo hi) = decide (o < 0) := by
  obtain ⟨e1, _, e3, e4, e5⟩ := new_nz h
  obtain ⟨f1, _, f3, f4, f5⟩ := new_nz h'
  have hb := new_bk h
  obtain ⟨x, hx, rfl⟩ := least_mem.1 hS
  obtain ⟨hx1, hx2⟩ := List.mem_filter.1 hx
  have hx3 := set_lt hb hx1
  have hlen := nums_pop x hx3
  have hx2 : popN x = fewN (newBk w l lo hi) := by simpa using hx2
  by_cases ho : o < 0
  · have : o = -1 := by omega
    subst this
    rw [show decide ((-1 : Int) < 0) = true from rfl, fit_iff]
    obtain ⟨z, hz, rfl⟩ := mem_setsL.1 hx1
    obtain ⟨z1, z2, z3⟩ := mem_allL.1 hz
    refine ⟨z.1, by rw [f4, ← e4]; exact z1, by rw [f5, ← e5]; exact z2, fun n hn => ?_⟩
    rw [f3] at hn
    obtain ⟨hn1, hn2⟩ := List.mem_filter.1 hn
    rw [right_same h h']
    cases hr : rightN (newBk w l lo hi) n z.1 with
    | true => rfl
    | false =>
      exfalso
      have hbit : (wrongN (newBk w l lo hi) z.1).testBit n.src.toNat = true := by
        unfold wrongN
        rw [wrongTo_bit _ _ _ _ (Nat.le_refl _)]
        unfold wrongB
        rw [List.take_length, List.any_eq_true]
        exact ⟨n, by rw [e3]; exact hn1, by rw [hr]; simp⟩
      rw [← z3] at hbit
      have hm := mem_nums hx3 hbit
      have e : ((n.src.toNat : Nat) : Int) = n.src := by have := hnn n hn1; omega
      rw [e] at hm
      rw [gone_all.2 hm] at hn2
      cases hn2
  · obtain ⟨k, rfl⟩ : ∃ k : Nat, o = k := ⟨o.toNat, by omega⟩
    rw [decide_eq_false ho]
    cases hf : fitB (newBk w (restL l (numsL x) (k : Nat)) lo hi) with
    | false => rfl
    | true =>
      exfalso
      obtain ⟨y, y1, y2, y3⟩ := fit_iff.1 hf
      have hsub : ∀ i, (wrongN (newBk w l lo hi) y).testBit i = true → (i : Int) ∈ (numsL x).eraseIdx k := fun i hi => by
        unfold wrongN at hi
        rw [wrongTo_bit _ _ _ _ (Nat.le_refl _)] at hi
        unfold wrongB at hi
        rw [List.take_length, List.any_eq_true] at hi
        obtain ⟨n, hn, hw⟩ := hi
        rw [e3] at hn
        rw [Bool.and_eq_true, decide_eq_true_eq, Bool.not_eq_true'] at hw
        have e : n.src = (i : Int) := by have := hnn n hn; omega
        rw [← e]
        cases hg : goneTo (numsL x) (k : Nat) n.src (numsL x).length with
        | true => exact gone_one hg
        | false =>
          have hm : n ∈ restL l (numsL x) (k : Nat) := List.mem_filter.2 ⟨hn, by rw [hg]; rfl⟩
          have := y3 n (by rw [f3]; exact hm)
          rw [right_same h h', hw.2] at this
          cases this
      have h1 := pop_sub hsub
      rw [List.length_eraseIdx_of_lt (by omega)] at h1
      have h2 := (minU_le (setsL (newBk w l lo hi)) (newBk w l lo hi).srcs.length).2 (wrongN (newBk w l lo hi) y) (mem_setsL.2 ⟨(y, _), mem_allL.2 ⟨by rw [e4, ← f4]; exact y1, by rw [e5, ← f5]; exact y2, rfl⟩, rfl⟩)
      change fewN (newBk w l lo hi) ≤ _ at h2
      omega
end Go.Proofs.Ytakdmliblijgmaa
/- Wire's plain laws, XIV: one note more, walked. -/
namespace Go.Proofs.Ytakdmliblijgmaa
open Go.RowKit
def restTo (l : List Wnt) (S : List Int) (o : Int) (c : Nat) : List Wnt := (l.take c).filter fun n => !goneTo S o n.src S.length
theorem restTo_len (l : List Wnt) (S : List Int) (o : Int) (c : Nat) : (restTo l S o c).length ≤ c := Nat.le_trans (List.length_filter_le _ _) (by rw [List.length_take]; omega)
theorem restTo_succ (l : List Wnt) (S : List Int) (o : Int) {c : Nat} (h : c < l.length) : restTo l S o (c + 1) = if goneTo S o (l[c]).src S.length = true then restTo l S o c else restTo l S o c ++ [l[c]] := by
  unfold restTo
  rw [List.take_succ_eq_append_getElem h, List.filter_append]
  by_cases hg : goneTo S o (l[c]).src S.length = true
  · rw [if_pos hg]; simp [hg]
  · rw [if_neg hg]
    rw [Bool.not_eq_true] at hg
    simp [hg]
theorem restTo_all (l : List Wnt) (S : List Int) (o : Int) : restTo l S o l.length = restL l S o := by unfold restTo restL; rw [List.take_length]
set_option maxRecDepth 100000 in
set_option maxHeartbeats 8000000 in
theorem more_sets (W : List Wsrc) (l : List Wnt) (y : Int) (L : List (List Int)) (hLb : L.length ≤ 20000) (hl8 : l.length ≤ 8) (hSb : ∀ S ∈ L, S.length ≤ 10)
    (kn : SC Try.prog 13 [] (B true)) (c14 : SC Try.prog 14 [slSr W] (slSr W))
    (rf : ∀ S ∈ L, ∀ o : Int, -1 ≤ o → o < S.length → ∃ r, SC Try.prog 16 [slSr W, slN (restL l S o), .agg [I (y - 60), I (y + 60)]] (.tup [slE r, I (if o < 0 then 0 else 7)])) (z : SV) :
    STri (cfF Try.prog fresh 328) k65_116 [(5, .c (slSr W)), (6, .ptr 6 0), (7, .c (slN l)), (18, .c (slL L))] [(6, .box 25 [.c (I (y - 60)), .c (I (y + 60))])] (retQ rs_turretlaw08_WireMore (B true)) := by
  (repeat' (first | ((first | with_reducible refine st_skip ?_ | with_reducible refine st_exit ?_); (try simp only [seqQ, blockQ, loopQ, forQ, whileQ, reduceIte, Nat.reduceEqDiff])) | (with_reducible refine st_ret ?_; ((try simp only [seqQ, blockQ, loopQ, forQ, whileQ]); first | (with_reducible refine retM_ret ?_) | refine retQ_ret ?_; simp)) | refine st_seq ?_ | refine st_block ?_ | ((with_reducible show (STri _ _ _ _ _) ∧ (STri _ _ _ _ _)); refine And.intro ?_ ?_) | ((first | refine st_reg ?_ | refine buildP_own ?_ | refine appP_own ?_) <;> (simp -dsimp; (repeat (simp -dsimp (disch := (first | omega | assumption | (refine Bool.eq_false_iff.1 ?_; assumption))) only [wrap_in, if_pos, if_neg]; (try simp -dsimp))))) | ((first | refine guardP_of (fun hc => ?_) (fun hc => ?_) | refine st_cond rfl (fun hc => ?_) (fun hc => ?_)) <;> (try simp only [lqA, lqB, lqC, lqD, lqE, lqF, lqG, lqH, lqI, lqJ, lqK, lqL, lqM, lqN, lqO] at hc) <;> (try (exfalso; first | omega | exact bool_tf hc (by assumption) | exact bool_ft hc (by assumption) | exact absurd (by assumption) hc)) <;> (first | with_reducible show STri _ _ _ _ _ _ | (simp -dsimp [hc]; (repeat (simp -dsimp (disch := (first | omega | assumption | (refine Bool.eq_false_iff.1 ?_; assumption))) only [wrap_in, if_pos, if_neg]; (try simp -dsimp [hc]))))))))
  refine st_for [6] L.length (fun m T H => T = [(5, .c (slSr W)), (6, .ptr 6 0), (7, .c (slN l)), (18, .c (slL L)), (26, .c (I m))] ∧ H = [(6, .box 25 [.c (I (y - 60)), .c (I (y + 60))])]) (by simp) ⟨by simp, by simp⟩ ?_
  rintro m T H hm ⟨rfl, rfl⟩
  by_cases hltm : m < L.length
  case neg =>
    (repeat' (first | ((first | with_reducible refine st_skip ?_ | with_reducible refine st_exit ?_); (try simp only [seqQ, blockQ, loopQ, forQ, whileQ, reduceIte, Nat.reduceEqDiff])) | (with_reducible refine st_ret ?_; ((try simp only [seqQ, blockQ, loopQ, forQ, whileQ]); first | (with_reducible refine retM_ret ?_) | refine retQ_ret ?_; simp [hltm])) | refine st_seq ?_ | refine st_block ?_ | ((with_reducible show (STri _ _ _ _ _) ∧ (STri _ _ _ _ _)); refine And.intro ?_ ?_) | ((first | refine st_reg ?_ | refine buildP_own ?_ | refine appP_own ?_ | refine callP_b (kn) rfl ?_) <;> (simp -dsimp [hltm]; (repeat (simp -dsimp (disch := (first | omega | assumption | (refine Bool.eq_false_iff.1 ?_; assumption))) only [wrap_in, if_pos, if_neg]; (try simp -dsimp [hltm]))))) | ((first | refine guardP_of (fun hc => ?_) (fun hc => ?_) | refine st_cond rfl (fun hc => ?_) (fun hc => ?_)) <;> (try simp only [lqA, lqB, lqC, lqD, lqE, lqF, lqG, lqH, lqI, lqJ, lqK, lqL, lqM, lqN, lqO] at hc) <;> (try (exfalso; first | omega | exact bool_tf hc (by assumption) | exact bool_ft hc (by assumption) | exact absurd (by assumption) hc)) <;> (first | with_reducible show STri _ _ _ _ _ _ | (simp -dsimp [hltm, hc]; (repeat (simp -dsimp (disch := (first | omega | assumption | (refine Bool.eq_false_iff.1 ?_; assumption))) only [wrap_in, if_pos, if_neg]; (try simp -dsimp [hltm, hc]))))))))
    all_goals exact .refl _
  obtain ⟨S, hS⟩ : ∃ S, L[m] = S := ⟨_, rfl⟩
  have hgS : ∀ h : m < L.length, L[m]'h = S := fun _ => hS
  have hSm : S ∈ L := by rw [← hS]; exact List.getElem_mem hltm
  have hSl := hSb S hSm
  have rfS := rf S hSm
  clear rf hSb
  (repeat' (first | ((first | with_reducible refine st_skip ?_ | with_reducible refine st_exit ?_); (try simp only [seqQ, blockQ, loopQ, forQ, whileQ, reduceIte, Nat.reduceEqDiff])) | (with_reducible refine st_ret ?_; ((try simp only [seqQ, blockQ, loopQ, forQ, whileQ]); first | (with_reducible refine retM_ret ?_) | refine retQ_ret ?_; simp [hltm, hgS])) | refine st_seq ?_ | refine st_block ?_ | ((with_reducible show (STri _ _ _ _ _) ∧ (STri _ _ _ _ _)); refine And.intro ?_ ?_) | ((first | refine st_reg ?_ | refine buildP_own ?_ | refine appP_own ?_) <;> (simp -dsimp [hltm, hgS]; (repeat (simp -dsimp (disch := (first | omega | assumption | (refine Bool.eq_false_iff.1 ?_; assumption))) only [wrap_in, if_pos, if_neg]; (try simp -dsimp [hltm, hgS]))))) | ((first | refine guardP_of (fun hc => ?_) (fun hc => ?_) | refine st_cond rfl (fun hc => ?_) (fun hc => ?_)) <;> (try simp only [lqA, lqB, lqC, lqD, lqE, lqF, lqG, lqH, lqI, lqJ, lqK, lqL, lqM, lqN, lqO] at hc) <;> (try (exfalso; first | omega | exact bool_tf hc (by assumption) | exact bool_ft hc (by assumption) | exact absurd (by assumption) hc)) <;> (first | with_reducible show STri _ _ _ _ _ _ | (simp -dsimp [hltm, hgS, hc]; (repeat (simp -dsimp (disch := (first | omega | assumption | (refine Bool.eq_false_iff.1 ?_; assumption))) only [wrap_in, if_pos, if_neg]; (try simp -dsimp [hltm, hgS, hc]))))))))
  refine st_for [6] (S.length + 1) (fun q T H => T = [(5, .c (slSr W)), (6, .ptr 6 0), (7, .c (slN l)), (18, .c (slL L)), (26, .c (I m)), (27, .c (I ((q : Int) - 1)))] ∧ H = [(6, .box 25 [.c (I (y - 60)), .c (I (y + 60))])]) (by simp) ⟨by simp, by simp⟩ ?_
  rintro q T H hq ⟨rfl, rfl⟩
  by_cases hltq : q < S.length + 1
  case neg =>
    have hqq : ¬ (q : Int) - 1 < S.length := by omega
    (repeat' (first | ((first | with_reducible refine st_skip ?_ | with_reducible refine st_exit ?_); (try simp only [seqQ, blockQ, loopQ, forQ, whileQ, reduceIte, Nat.reduceEqDiff])) | (with_reducible refine st_ret ?_; ((try simp only [seqQ, blockQ, loopQ, forQ, whileQ]); first | (with_reducible refine retM_ret ?_) | refine retQ_ret ?_; simp [hltm, hgS, hqq])) | refine st_seq ?_ | refine st_block ?_ | ((with_reducible show (STri _ _ _ _ _) ∧ (STri _ _ _ _ _)); refine And.intro ?_ ?_) | ((first | refine st_reg ?_ | refine buildP_own ?_ | refine appP_own ?_) <;> (simp -dsimp [hltm, hgS, hqq]; (repeat (simp -dsimp (disch := (first | omega | assumption | (refine Bool.eq_false_iff.1 ?_; assumption))) only [wrap_in, if_pos, if_neg]; (try simp -dsimp [hltm, hgS, hqq]))))) | ((first | refine guardP_of (fun hc => ?_) (fun hc => ?_) | refine st_cond rfl (fun hc => ?_) (fun hc => ?_)) <;> (try simp only [lqA, lqB, lqC, lqD, lqE, lqF, lqG, lqH, lqI, lqJ, lqK, lqL, lqM, lqN, lqO] at hc) <;> (try (exfalso; first | omega | exact bool_tf hc (by assumption) | exact bool_ft hc (by assumption) | exact absurd (by assumption) hc)) <;> (first | with_reducible show STri _ _ _ _ _ _ | (simp -dsimp [hltm, hgS, hqq, hc]; (repeat (simp -dsimp (disch := (first | omega | assumption | (refine Bool.eq_false_iff.1 ?_; assumption))) only [wrap_in, if_pos, if_neg]; (try simp -dsimp [hltm, hgS, hqq, hc]))))))))
    all_goals exact ⟨hltm, by simp, by simp, by simp⟩
  have hqq : (q : Int) - 1 < S.length := by omega
  have hq1 : -1 ≤ (q : Int) - 1 := by omega
  have hqn : (((q + 1 : Nat) : Int) - 1) = (q : Int) - 1 + 1 := by omega
  have hqb : (q : Int) - 1 ≤ 100 := by omega
  obtain ⟨rr, hrf⟩ := rfS ((q : Int) - 1) hq1 hqq
  clear rfS
  generalize ho : (q : Int) - 1 = o at *
  (repeat' (first | ((first | with_reducible refine st_skip ?_ | with_reducible refine st_exit ?_); (try simp only [seqQ, blockQ, loopQ, forQ, whileQ, reduceIte, Nat.reduceEqDiff])) | (with_reducible refine st_ret ?_; ((try simp only [seqQ, blockQ, loopQ, forQ, whileQ]); first | (with_reducible refine retM_ret ?_) | refine retQ_ret ?_; simp [hltm, hgS, hqq])) | refine st_seq ?_ | refine st_block ?_ | ((with_reducible show (STri _ _ _ _ _) ∧ (STri _ _ _ _ _)); refine And.intro ?_ ?_) | ((first | refine st_reg ?_ | refine buildP_own ?_ | refine appP_own ?_) <;> (simp -dsimp [hltm, hgS, hqq]; (repeat (simp -dsimp (disch := (first | omega | assumption | (refine Bool.eq_false_iff.1 ?_; assumption))) only [wrap_in, if_pos, if_neg]; (try simp -dsimp [hltm, hgS, hqq]))))) | ((first | refine guardP_of (fun hc => ?_) (fun hc => ?_) | refine st_cond rfl (fun hc => ?_) (fun hc => ?_)) <;> (try simp only [lqA, lqB, lqC, lqD, lqE, lqF, lqG, lqH, lqI, lqJ, lqK, lqL, lqM, lqN, lqO] at hc) <;> (try (exfalso; first | omega | exact bool_tf hc (by assumption) | exact bool_ft hc (by assumption) | exact absurd (by assumption) hc)) <;> (first | with_reducible show STri _ _ _ _ _ _ | (simp -dsimp [hltm, hgS, hqq, hc]; (repeat (simp -dsimp (disch := (first | omega | assumption | (refine Bool.eq_false_iff.1 ?_; assumption))) only [wrap_in, if_pos, if_neg]; (try simp -dsimp [hltm, hgS, hqq, hc]))))))))
  refine st_for [6, 268] l.length (fun c T H => T = [(5, .c (slSr W)), (6, .ptr 6 0), (7, .c (slN l)), (18, .c (slL L)), (26, .c (I m)), (27, .c (I o)), (28, .own 268 (restTo l S o c).length), (29, .c (I c))] ∧
    H = [(6, .box 25 [.c (I (y - 60)), .c (I (y + 60))]), (268, .arr 73 3 ((restTo l S o c).map rowN))]) (by simp) ⟨by simp [restTo], by simp [restTo]⟩ ?_
  rintro c T H hc ⟨rfl, rfl⟩
  have hrl := restTo_len l S o c
  by_cases hltc : c < l.length
  case neg =>
    have hcc : c = l.length := by omega
    subst hcc
    rw [restTo_all] at *
    generalize restL l S o = rest at *
    have hlast : ¬ (l.length : Int) < l.length := by omega
    by_cases h0 : o < 0
    · rw [if_pos h0] at hrf
      (repeat' (first | ((with_reducible show STri _ k65_97 _ _ _); refine st_shut1 268 rfl (by simp [dropOK, dropK]) (by simp [ClosO, ownS, dropK, SV.outD]) (by simp [ShutH, ShutB, ownL, ownS, dropK, SV.outD, outDL, Blk.outD]) ?_; simp) | ((first | with_reducible refine st_skip ?_ | with_reducible refine st_exit ?_); (try simp only [seqQ, blockQ, loopQ, forQ, whileQ, reduceIte, Nat.reduceEqDiff])) | (with_reducible refine st_ret ?_; ((try simp only [seqQ, blockQ, loopQ, forQ, whileQ]); first | (with_reducible refine retM_ret ?_) | refine retQ_ret ?_; simp [h0])) | refine st_seq ?_ | refine st_block ?_ | ((with_reducible show (STri _ _ _ _ _) ∧ (STri _ _ _ _ _)); refine And.intro ?_ ?_) | ((first | refine st_reg ?_ | refine buildP_own ?_ | refine appP_own ?_ | ((with_reducible show callGP _ _ _ _ _ _ _); refine callG_b (c14) ?hcc ?hpp ?_; (case hcc => (first | rfl | (simp <;> fail))); (case hpp => (first | rfl | (simp <;> fail)))) | ((with_reducible show callGP _ _ _ _ _ _ _); refine callG_b (hrf) ?hcc ?hpp ?_; (case hcc => (first | rfl | (simp <;> fail))); (case hpp => (first | rfl | (simp <;> fail)))) | refine callP_b (c14) rfl ?_ | refine callP_b (hrf) rfl ?_) <;> (simp -dsimp [h0]; (repeat (simp -dsimp (disch := (first | omega | assumption | (refine Bool.eq_false_iff.1 ?_; assumption))) only [wrap_in, if_pos, if_neg]; (try simp -dsimp [h0]))))) | ((first | refine guardP_of (fun hc => ?_) (fun hc => ?_) | refine st_cond rfl (fun hc => ?_) (fun hc => ?_)) <;> (try simp only [lqA, lqB, lqC, lqD, lqE, lqF, lqG, lqH, lqI, lqJ, lqK, lqL, lqM, lqN, lqO] at hc) <;> (try (exfalso; first | omega | exact bool_tf hc (by assumption) | exact bool_ft hc (by assumption) | exact absurd (by assumption) hc)) <;> (first | with_reducible show STri _ _ _ _ _ _ | (simp -dsimp [h0, hc]; (repeat (simp -dsimp (disch := (first | omega | assumption | (refine Bool.eq_false_iff.1 ?_; assumption))) only [wrap_in, if_pos, if_neg]; (try simp -dsimp [h0, hc]))))))))
      all_goals exact ⟨hltq, by simp, by simp; omega, by simp⟩
    · rw [if_neg h0] at hrf
      (repeat' (first | ((with_reducible show STri _ k65_97 _ _ _); refine st_shut1 268 rfl (by simp [dropOK, dropK]) (by simp [ClosO, ownS, dropK, SV.outD]) (by simp [ShutH, ShutB, ownL, ownS, dropK, SV.outD, outDL, Blk.outD]) ?_; simp) | ((first | with_reducible refine st_skip ?_ | with_reducible refine st_exit ?_); (try simp only [seqQ, blockQ, loopQ, forQ, whileQ, reduceIte, Nat.reduceEqDiff])) | (with_reducible refine st_ret ?_; ((try simp only [seqQ, blockQ, loopQ, forQ, whileQ]); first | (with_reducible refine retM_ret ?_) | refine retQ_ret ?_; simp [h0])) | refine st_seq ?_ | refine st_block ?_ | ((with_reducible show (STri _ _ _ _ _) ∧ (STri _ _ _ _ _)); refine And.intro ?_ ?_) | ((first | refine st_reg ?_ | refine buildP_own ?_ | refine appP_own ?_ | ((with_reducible show callGP _ _ _ _ _ _ _); refine callG_b (c14) ?hcc ?hpp ?_; (case hcc => (first | rfl | (simp <;> fail))); (case hpp => (first | rfl | (simp <;> fail)))) | ((with_reducible show callGP _ _ _ _ _ _ _); refine callG_b (hrf) ?hcc ?hpp ?_; (case hcc => (first | rfl | (simp <;> fail))); (case hpp => (first | rfl | (simp <;> fail)))) | refine callP_b (c14) rfl ?_ | refine callP_b (hrf) rfl ?_) <;> (simp -dsimp [h0]; (repeat (simp -dsimp (disch := (first | omega | assumption | (refine Bool.eq_false_iff.1 ?_; assumption))) only [wrap_in, if_pos, if_neg]; (try simp -dsimp [h0]))))) | ((first | refine guardP_of (fun hc => ?_) (fun hc => ?_) | refine st_cond rfl (fun hc => ?_) (fun hc => ?_)) <;> (try simp only [lqA, lqB, lqC, lqD, lqE, lqF, lqG, lqH, lqI, lqJ, lqK, lqL, lqM, lqN, lqO] at hc) <;> (try (exfalso; first | omega | exact bool_tf hc (by assumption) | exact bool_ft hc (by assumption) | exact absurd (by assumption) hc)) <;> (first | with_reducible show STri _ _ _ _ _ _ | (simp -dsimp [h0, hc]; (repeat (simp -dsimp (disch := (first | omega | assumption | (refine Bool.eq_false_iff.1 ?_; assumption))) only [wrap_in, if_pos, if_neg]; (try simp -dsimp [h0, hc]))))))))
      all_goals exact ⟨hltq, by simp, by simp; omega, by simp⟩
  have hrs := restTo_succ l S o hltc
  obtain ⟨n, hn⟩ : ∃ n, l[c] = n := ⟨_, rfl⟩
  have hgn : ∀ h : c < l.length, l[c]'h = n := fun _ => hn
  rw [hn] at hrs
  generalize hrt : restTo l S o c = rt at *
  generalize hrt2 : restTo l S o (c + 1) = rt2 at *
  (repeat' (first | ((first | with_reducible refine st_skip ?_ | with_reducible refine st_exit ?_); (try simp only [seqQ, blockQ, loopQ, forQ, whileQ, reduceIte, Nat.reduceEqDiff])) | (with_reducible refine st_ret ?_; ((try simp only [seqQ, blockQ, loopQ, forQ, whileQ]); first | (with_reducible refine retM_ret ?_) | refine retQ_ret ?_; simp [hltc])) | refine st_seq ?_ | refine st_block ?_ | ((with_reducible show (STri _ _ _ _ _) ∧ (STri _ _ _ _ _)); refine And.intro ?_ ?_) | ((first | refine st_reg ?_ | refine buildP_own ?_ | refine appP_own ?_) <;> (simp -dsimp [hltc]; (repeat (simp -dsimp (disch := (first | omega | assumption | (refine Bool.eq_false_iff.1 ?_; assumption))) only [wrap_in, if_pos, if_neg]; (try simp -dsimp [hltc]))))) | ((first | refine guardP_of (fun hc => ?_) (fun hc => ?_) | refine st_cond rfl (fun hc => ?_) (fun hc => ?_)) <;> (try simp only [lqA, lqB, lqC, lqD, lqE, lqF, lqG, lqH, lqI, lqJ, lqK, lqL, lqM, lqN, lqO] at hc) <;> (try (exfalso; first | omega | exact bool_tf hc (by assumption) | exact bool_ft hc (by assumption) | exact absurd (by assumption) hc)) <;> (first | with_reducible show STri _ _ _ _ _ _ | (simp -dsimp [hltc, hc]; (repeat (simp -dsimp (disch := (first | omega | assumption | (refine Bool.eq_false_iff.1 ?_; assumption))) only [wrap_in, if_pos, if_neg]; (try simp -dsimp [hltc, hc]))))))))
  refine st_for [6, 268] S.length (fun d T H => T = [(5, .c (slSr W)), (6, .ptr 6 0), (7, .c (slN l)), (18, .c (slL L)), (26, .c (I m)), (27, .c (I o)), (28, .own 268 rt.length), (29, .c (I c)), (30, .c (B (goneTo S o n.src d))), (31, .c (I d))] ∧
    H = [(6, .box 25 [.c (I (y - 60)), .c (I (y + 60))]), (268, .arr 73 3 (rt.map rowN))]) (by simp) ⟨by simp [goneTo], by simp⟩ ?_
  rintro d T H hd ⟨rfl, rfl⟩
  by_cases hltd : d < S.length
  · have hgs := goneTo_succ S o n.src d
    have hgd : S.getD d 0 = S[d] := by simp [hltd]
    rw [hgd] at hgs
    generalize goneTo S o n.src d = g0 at *
    cases g0
    · by_cases h1 : (d : Int) = o
      · (repeat' (first | ((first | with_reducible refine st_skip ?_ | with_reducible refine st_exit ?_); (try simp only [seqQ, blockQ, loopQ, forQ, whileQ, reduceIte, Nat.reduceEqDiff])) | (with_reducible refine st_ret ?_; ((try simp only [seqQ, blockQ, loopQ, forQ, whileQ]); first | (with_reducible refine retM_ret ?_) | refine retQ_ret ?_; simp [hltm, hgS, hltd, h1])) | refine st_seq ?_ | refine st_block ?_ | ((with_reducible show (STri _ _ _ _ _) ∧ (STri _ _ _ _ _)); refine And.intro ?_ ?_) | ((first | refine st_reg ?_ | refine buildP_own ?_ | refine appP_own ?_) <;> (simp -dsimp [hltm, hgS, hltd, h1]; (repeat (simp -dsimp (disch := (first | omega | assumption | (refine Bool.eq_false_iff.1 ?_; assumption))) only [wrap_in, if_pos, if_neg]; (try simp -dsimp [hltm, hgS, hltd, h1]))))) | ((first | refine guardP_of (fun hc => ?_) (fun hc => ?_) | refine st_cond rfl (fun hc => ?_) (fun hc => ?_)) <;> (try simp only [lqA, lqB, lqC, lqD, lqE, lqF, lqG, lqH, lqI, lqJ, lqK, lqL, lqM, lqN, lqO] at hc) <;> (try (exfalso; first | omega | exact bool_tf hc (by assumption) | exact bool_ft hc (by assumption) | exact absurd (by assumption) hc)) <;> (first | with_reducible show STri _ _ _ _ _ _ | (simp -dsimp [hltm, hgS, hltd, h1, hc]; (repeat (simp -dsimp (disch := (first | omega | assumption | (refine Bool.eq_false_iff.1 ?_; assumption))) only [wrap_in, if_pos, if_neg]; (try simp -dsimp [hltm, hgS, hltd, h1, hc]))))))))
        all_goals exact ⟨hltd, by simp, by simp [hgs, h1], by simp⟩
      · by_cases h2 : S[d] = n.src
        · (repeat' (first | ((first | with_reducible refine st_skip ?_ | with_reducible refine st_exit ?_); (try simp only [seqQ, blockQ, loopQ, forQ, whileQ, reduceIte, Nat.reduceEqDiff])) | (with_reducible refine st_ret ?_; ((try simp only [seqQ, blockQ, loopQ, forQ, whileQ]); first | (with_reducible refine retM_ret ?_) | refine retQ_ret ?_; simp [hltm, hgS, hltd, h1, h2, hltc, hgn])) | refine st_seq ?_ | refine st_block ?_ | ((with_reducible show (STri _ _ _ _ _) ∧ (STri _ _ _ _ _)); refine And.intro ?_ ?_) | ((first | refine st_reg ?_ | refine buildP_own ?_ | refine appP_own ?_) <;> (simp -dsimp [hltm, hgS, hltd, h1, h2, hltc, hgn]; (repeat (simp -dsimp (disch := (first | omega | assumption | (refine Bool.eq_false_iff.1 ?_; assumption))) only [wrap_in, if_pos, if_neg]; (try simp -dsimp [hltm, hgS, hltd, h1, h2, hltc, hgn]))))) | ((first | refine guardP_of (fun hc => ?_) (fun hc => ?_) | refine st_cond rfl (fun hc => ?_) (fun hc => ?_)) <;> (try simp only [lqA, lqB, lqC, lqD, lqE, lqF, lqG, lqH, lqI, lqJ, lqK, lqL, lqM, lqN, lqO] at hc) <;> (try (exfalso; first | omega | exact bool_tf hc (by assumption) | exact bool_ft hc (by assumption) | exact absurd (by assumption) hc)) <;> (first | with_reducible show STri _ _ _ _ _ _ | (simp -dsimp [hltm, hgS, hltd, h1, h2, hltc, hgn, hc]; (repeat (simp -dsimp (disch := (first | omega | assumption | (refine Bool.eq_false_iff.1 ?_; assumption))) only [wrap_in, if_pos, if_neg]; (try simp -dsimp [hltm, hgS, hltd, h1, h2, hltc, hgn, hc]))))))))
          all_goals exact ⟨hltd, by simp, by simp [hgs, h1, h2], by simp⟩
        · (repeat' (first | ((first | with_reducible refine st_skip ?_ | with_reducible refine st_exit ?_); (try simp only [seqQ, blockQ, loopQ, forQ, whileQ, reduceIte, Nat.reduceEqDiff])) | (with_reducible refine st_ret ?_; ((try simp only [seqQ, blockQ, loopQ, forQ, whileQ]); first | (with_reducible refine retM_ret ?_) | refine retQ_ret ?_; simp [hltm, hgS, hltd, h1, h2, hltc, hgn])) | refine st_seq ?_ | refine st_block ?_ | ((with_reducible show (STri _ _ _ _ _) ∧ (STri _ _ _ _ _)); refine And.intro ?_ ?_) | ((first | refine st_reg ?_ | refine buildP_own ?_ | refine appP_own ?_) <;> (simp -dsimp [hltm, hgS, hltd, h1, h2, hltc, hgn]; (repeat (simp -dsimp (disch := (first | omega | assumption | (refine Bool.eq_false_iff.1 ?_; assumption))) only [wrap_in, if_pos, if_neg]; (try simp -dsimp [hltm, hgS, hltd, h1, h2, hltc, hgn]))))) | ((first | refine guardP_of (fun hc => ?_) (fun hc => ?_) | refine st_cond rfl (fun hc => ?_) (fun hc => ?_)) <;> (try simp only [lqA, lqB, lqC, lqD, lqE, lqF, lqG, lqH, lqI, lqJ, lqK, lqL, lqM, lqN, lqO] at hc) <;> (try (exfalso; first | omega | exact bool_tf hc (by assumption) | exact bool_ft hc (by assumption) | exact absurd (by assumption) hc)) <;> (first | with_reducible show STri _ _ _ _ _ _ | (simp -dsimp [hltm, hgS, hltd, h1, h2, hltc, hgn, hc]; (repeat (simp -dsimp (disch := (first | omega | assumption | (refine Bool.eq_false_iff.1 ?_; assumption))) only [wrap_in, if_pos, if_neg]; (try simp -dsimp [hltm, hgS, hltd, h1, h2, hltc, hgn, hc]))))))))
          all_goals exact ⟨hltd, by simp, by simp [hgs, h1, h2], by simp⟩
    · (repeat' (first | ((first | with_reducible refine st_skip ?_ | with_reducible refine st_exit ?_); (try simp only [seqQ, blockQ, loopQ, forQ, whileQ, reduceIte, Nat.reduceEqDiff])) | (with_reducible refine st_ret ?_; ((try simp only [seqQ, blockQ, loopQ, forQ, whileQ]); first | (with_reducible refine retM_ret ?_) | refine retQ_ret ?_; simp [hltm, hgS, hltd])) | refine st_seq ?_ | refine st_block ?_ | ((with_reducible show (STri _ _ _ _ _) ∧ (STri _ _ _ _ _)); refine And.intro ?_ ?_) | ((first | refine st_reg ?_ | refine buildP_own ?_ | refine appP_own ?_) <;> (simp -dsimp [hltm, hgS, hltd]; (repeat (simp -dsimp (disch := (first | omega | assumption | (refine Bool.eq_false_iff.1 ?_; assumption))) only [wrap_in, if_pos, if_neg]; (try simp -dsimp [hltm, hgS, hltd]))))) | ((first | refine guardP_of (fun hc => ?_) (fun hc => ?_) | refine st_cond rfl (fun hc => ?_) (fun hc => ?_)) <;> (try simp only [lqA, lqB, lqC, lqD, lqE, lqF, lqG, lqH, lqI, lqJ, lqK, lqL, lqM, lqN, lqO] at hc) <;> (try (exfalso; first | omega | exact bool_tf hc (by assumption) | exact bool_ft hc (by assumption) | exact absurd (by assumption) hc)) <;> (first | with_reducible show STri _ _ _ _ _ _ | (simp -dsimp [hltm, hgS, hltd, hc]; (repeat (simp -dsimp (disch := (first | omega | assumption | (refine Bool.eq_false_iff.1 ?_; assumption))) only [wrap_in, if_pos, if_neg]; (try simp -dsimp [hltm, hgS, hltd, hc]))))))))
      all_goals exact ⟨hltd, by simp, by simp [hgs], by simp⟩
  · have hdd : d = S.length := by omega
    subst hdd
    have hA : rt.length ≤ 9223372036854775806 := by omega
    have hB : (rt.length + 1) * 24 ≤ 140737488355328 := by omega
    generalize goneTo S o n.src S.length = g0 at *
    cases g0
    · rw [if_neg (by simp)] at hrs
      (repeat' (first | ((first | with_reducible refine st_skip ?_ | with_reducible refine st_exit ?_); (try simp only [seqQ, blockQ, loopQ, forQ, whileQ, reduceIte, Nat.reduceEqDiff])) | (with_reducible refine st_ret ?_; ((try simp only [seqQ, blockQ, loopQ, forQ, whileQ]); first | (with_reducible refine retM_ret ?_) | refine retQ_ret ?_; simp [hltm, hgS, hltd, hltc, hgn, hA, hB])) | refine st_seq ?_ | refine st_block ?_ | ((with_reducible show (STri _ _ _ _ _) ∧ (STri _ _ _ _ _)); refine And.intro ?_ ?_) | ((first | refine st_reg ?_ | refine buildP_own ?_ | refine appP_own ?_) <;> (simp -dsimp [hltm, hgS, hltd, hltc, hgn, hA, hB]; (repeat (simp -dsimp (disch := (first | omega | assumption | (refine Bool.eq_false_iff.1 ?_; assumption))) only [wrap_in, if_pos, if_neg]; (try simp -dsimp [hltm, hgS, hltd, hltc, hgn, hA, hB]))))) | ((first | refine guardP_of (fun hc => ?_) (fun hc => ?_) | refine st_cond rfl (fun hc => ?_) (fun hc => ?_)) <;> (try simp only [lqA, lqB, lqC, lqD, lqE, lqF, lqG, lqH, lqI, lqJ, lqK, lqL, lqM, lqN, lqO] at hc) <;> (try (exfalso; first | omega | exact bool_tf hc (by assumption) | exact bool_ft hc (by assumption) | exact absurd (by assumption) hc)) <;> (first | with_reducible show STri _ _ _ _ _ _ | (simp -dsimp [hltm, hgS, hltd, hltc, hgn, hA, hB, hc]; (repeat (simp -dsimp (disch := (first | omega | assumption | (refine Bool.eq_false_iff.1 ?_; assumption))) only [wrap_in, if_pos, if_neg]; (try simp -dsimp [hltm, hgS, hltd, hltc, hgn, hA, hB, hc]))))))))
      all_goals exact ⟨hltc, by simp, by simp [hrt2, hrs], by simp [hrt2, hrs]⟩
    · rw [if_pos rfl] at hrs
      (repeat' (first | ((first | with_reducible refine st_skip ?_ | with_reducible refine st_exit ?_); (try simp only [seqQ, blockQ, loopQ, forQ, whileQ, reduceIte, Nat.reduceEqDiff])) | (with_reducible refine st_ret ?_; ((try simp only [seqQ, blockQ, loopQ, forQ, whileQ]); first | (with_reducible refine retM_ret ?_) | refine retQ_ret ?_; simp [hltm, hgS, hltd, hltc, hgn])) | refine st_seq ?_ | refine st_block ?_ | ((with_reducible show (STri _ _ _ _ _) ∧ (STri _ _ _ _ _)); refine And.intro ?_ ?_) | ((first | refine st_reg ?_ | refine buildP_own ?_ | refine appP_own ?_) <;> (simp -dsimp [hltm, hgS, hltd, hltc, hgn]; (repeat (simp -dsimp (disch := (first | omega | assumption | (refine Bool.eq_false_iff.1 ?_; assumption))) only [wrap_in, if_pos, if_neg]; (try simp -dsimp [hltm, hgS, hltd, hltc, hgn]))))) | ((first | refine guardP_of (fun hc => ?_) (fun hc => ?_) | refine st_cond rfl (fun hc => ?_) (fun hc => ?_)) <;> (try simp only [lqA, lqB, lqC, lqD, lqE, lqF, lqG, lqH, lqI, lqJ, lqK, lqL, lqM, lqN, lqO] at hc) <;> (try (exfalso; first | omega | exact bool_tf hc (by assumption) | exact bool_ft hc (by assumption) | exact absurd (by assumption) hc)) <;> (first | with_reducible show STri _ _ _ _ _ _ | (simp -dsimp [hltm, hgS, hltd, hltc, hgn, hc]; (repeat (simp -dsimp (disch := (first | omega | assumption | (refine Bool.eq_false_iff.1 ?_; assumption))) only [wrap_in, if_pos, if_neg]; (try simp -dsimp [hltm, hgS, hltd, hltc, hgn, hc]))))))))
      all_goals exact ⟨hltc, by simp, by simp [hrt2, hrs], by simp [hrt2, hrs]⟩
end Go.Proofs.Ytakdmliblijgmaa
/- Wire's plain laws, XV: WireMore. -/
namespace Go.Proofs.Ytakdmliblijgmaa
open Go.RowKit
theorem least_head {b : Wbk} (hb : BkOK b) : ∃ s ls, leastL b = s :: ls ∧ s.length = fewN b := by
  obtain ⟨s, r, h⟩ := leastL_ne hb
  exact ⟨s, r, h, least_len hb (by rw [h]; simp)⟩
theorem least_bd {b : Wbk} : (leastL b).length ≤ bookN b := by
  have h1 := (List.mergeSort_perm ((leastS b).map numsL) fun x y => !ltL y x).length_eq
  have h2 : (leastS b).length ≤ (setsL b).length := List.length_filter_le _ _
  have h3 := setsTo_len b (allL b).length (Nat.le_refl _)
  have h4 : setsTo b (allL b).length = setsL b := by unfold setsTo setsL; rw [List.take_length]
  rw [h4, allL_len] at h3
  unfold leastL sortL
  rw [h1, List.length_map]
  omega
set_option maxRecDepth 100000 in
set_option maxHeartbeats 8000000 in
theorem lMore (x : Of) (hx : OfOk x) (s : Sh8) (hs : ShOk s) : SC Try.prog 8 [cOf x, cSh s] (B true) := by
  refine glaw_turretlaw08_WireMore _ _ (by simp) ?_
  obtain ⟨y1, y2⟩ := hx.y
  have kn := sKnown
  have l1 := lOffS x hx
  have l2 := lBy x hx
  have l3 := lOffN x hx
  obtain ⟨y, hy⟩ : ∃ y, x.by' - 128 = y := ⟨_, rfl⟩
  rw [hy] at l2
  have l4 := lSpan (y - 60) (y + 60)
  have hsp := near_ok (y := y) (a := 60) (c := 60) (by omega) (by omega) (by omega) (by omega) (by omega) (by omega)
  have h8 := offN_len x
  have hwl := off_wlen hx
  have hw5 := numS_bd x
  have hol := offW_len x
  have c14 := lSources (offW x) hwl (by omega)
  generalize hl : chgL (chA s 128) (offN x) = l
  have hll : l.length = (offN x).length := by rw [← hl, chgL_len]
  have hin : ∀ n ∈ l, NtIn x n := fun n hn => (chA_in hx (s := s) (thr := 128) (by rw [hl]; exact hn)).1
  have hnn : ∀ n ∈ l, 0 ≤ n.src := fun n hn => by obtain ⟨j, h1, _⟩ := (hin n hn).s; omega
  generalize hf : l.take (l.length - 1) = few
  have hfl : few.length ≤ 8 := by rw [← hf, List.length_take]; omega
  have hfs : ∀ n ∈ few, n ∈ l := fun n hn => by rw [← hf] at hn; exact List.mem_of_mem_take hn
  have c15 := lSaid l (by omega)
  have c16 := lSaid few (by omega)
  have hz1 := newErr_zero hx (l := l) (by omega) hin hsp
  have hz2 := newErr_zero hx (l := few) (by omega) (fun n hn => hin n (hfs n hn)) hsp
  obtain ⟨e1, e2, e3, e4, e5⟩ := new_nz hz1
  obtain ⟨f1, f2, f3, f4, f5⟩ := new_nz hz2
  have hb := new_bk hz1
  have hb2 := new_bk hz2
  have hrf : ∀ S ∈ leastL (newBk (offW x) l (y - 60) (y + 60)), ∀ o : Int, -1 ≤ o → o < S.length → ∃ r, SC Try.prog 16 [slSr (offW x), slN (restL l S o), .agg [I (y - 60), I (y + 60)]] (.tup [slE r, I (if o < 0 then 0 else 7)]) := fun S hS o o1 o2 => by
    have hrl : (restL l S o).length ≤ l.length := List.length_filter_le _ _
    have hz := newErr_zero hx (l := restL l S o) (by omega) (fun n hn => hin n (List.mem_filter.1 hn).1) hsp
    have q := sFits (offW x) hwl (restL l S o) (by omega) (y - 60) (y + 60)
    have hfit := rest_fit hz1 hnn hS o1 o2 hz
    rw [if_pos hz, if_pos hz] at q
    have e : (if (spansL (newBk (offW x) (restL l S o) (y - 60) (y + 60)) fun m => decide (m = 0)) = [] then (7 : Int) else 0) = if o < 0 then 0 else 7 := by
      by_cases h0 : o < 0
      · rw [if_pos h0, if_neg]
        intro hn
        rw [fit_nil.1 hn] at hfit
        simp [h0] at hfit
      · rw [if_neg h0, if_pos]
        refine fit_nil.2 ?_
        rw [hfit]; simp; omega
    rw [e] at q
    exact ⟨_, q⟩
  have hSb : ∀ S ∈ leastL (newBk (offW x) l (y - 60) (y + 60)), S.length ≤ 10 := fun S hS => by
    rw [least_len hb hS]
    have := few_le (b := newBk (offW x) l (y - 60) (y + 60))
    have := hb.len
    omega
  have hLb : (leastL (newBk (offW x) l (y - 60) (y + 60))).length ≤ 20000 := by
    have := least_bd (b := newBk (offW x) l (y - 60) (y + 60))
    have h6 : bookN (newBk (offW x) l (y - 60) (y + 60)) ≤ 201 := by unfold bookN; rw [e4, e5]; omega
    omega
  have ms := more_sets (offW x) l y _ hLb (by omega) hSb kn c14 hrf (.dead)
  have p1 := sFits (offW x) hwl l (by omega) (y - 60) (y + 60)
  have p2 := sFits (offW x) hwl few (by omega) (y - 60) (y + 60)
  have p3 := sPairs (offW x) hwl l (by omega) (y - 60) (y + 60)
  have p4 := sPairs (offW x) hwl few (by omega) (y - 60) (y + 60)
  have p5 := sWrongs (offW x) hwl l (by omega) (y - 60) (y + 60)
  have p6 := sWrongs (offW x) hwl few (by omega) (y - 60) (y + 60)
  have p7 := sMost (offW x) hwl l (by omega) (y - 60) (y + 60)
  rw [if_pos hz1, if_pos hz1] at p1
  rw [if_pos hz2, if_pos hz2] at p2
  rw [hz1, if_pos rfl] at p3
  rw [hz2, if_pos rfl] at p4
  rw [hz1, if_pos rfl] at p5
  rw [hz2, if_pos rfl] at p6
  rw [hz1, if_pos rfl, if_pos rfl] at p7
  -- the relations
  have hqp : (pairsTo (newBk (offW x) few (y - 60) (y + 60)) (offW x).length (offW x).length).length ≤ (pairsTo (newBk (offW x) l (y - 60) (y + 60)) (offW x).length (offW x).length).length := pairs_mono (fun i k => meet_mono hz1 hz2 hfs i k) _ _
  have hpb := pairsTo_len (newBk (offW x) l (y - 60) (y + 60)) (offW x).length (offW x).length
  have hpb2 : (pairsTo (newBk (offW x) l (y - 60) (y + 60)) (offW x).length (offW x).length).length ≤ 100 := Nat.le_trans hpb (Nat.le_trans (Nat.mul_le_mul (show (offW x).length ≤ 10 by omega) (show (offW x).length ≤ 10 by omega)) (by omega))
  have hFF := few_mono hz1 hz2 hfs
  have hFle := few_le (b := newBk (offW x) l (y - 60) (y + 60))
  rw [e1] at hFle
  obtain ⟨s0, ls, hL, hs0⟩ := least_head hb
  obtain ⟨t0, ts, hL2, ht0⟩ := least_head hb2
  have hff := few_fit hb (by rw [e1]; omega)
  have hins : ∀ k, (h : k < (spansL (newBk (offW x) l (y - 60) (y + 60)) fun m => decide (m = 0)).length) →
      SC Try.prog 38 [I ((spansL (newBk (offW x) l (y - 60) (y + 60)) fun m => decide (m = 0))[k]).1, slE (spansL (newBk (offW x) few (y - 60) (y + 60)) fun m => decide (m = 0))] (B true) ∧
      SC Try.prog 38 [I ((spansL (newBk (offW x) l (y - 60) (y + 60)) fun m => decide (m = 0))[k]).2, slE (spansL (newBk (offW x) few (y - 60) (y + 60)) fun m => decide (m = 0))] (B true) := fun k h => by
    obtain ⟨g1, g2, g3⟩ := spansInv hb fun m => decide (m = 0)
    obtain ⟨q1, q2, q3⟩ := spansInv hb2 fun m => decide (m = 0)
    have hql := spansL_len hb2 fun m => decide (m = 0)
    have hmem := List.getElem_mem h
    generalize hE : (spansL (newBk (offW x) l (y - 60) (y + 60)) fun m => decide (m = 0))[k] = e at *
    have hle := g1.1 e hmem
    have one : ∀ z, e.1 ≤ z → z ≤ e.2 → SC Try.prog 38 [I z, slE (spansL (newBk (offW x) few (y - 60) (y + 60)) fun m => decide (m = 0))] (B true) := fun z z1 z2 => by
      have hz : insB z (spansL (newBk (offW x) l (y - 60) (y + 60)) fun m => decide (m = 0)) = true := by
        unfold insB
        rw [List.any_eq_true]
        exact ⟨e, hmem, by simp [z1, z2]⟩
      obtain ⟨h1, h2, h3⟩ := (g3 z).1 hz
      have hz' : insB z (spansL (newBk (offW x) few (y - 60) (y + 60)) fun m => decide (m = 0)) = true := by
        rw [q3]
        refine ⟨by rw [f4, ← e4]; exact h1, by rw [f5, ← e5]; exact h2, ?_⟩
        rw [decide_eq_true_eq] at h3 ⊢
        apply Nat.eq_of_testBit_eq
        intro i
        rw [Nat.zero_testBit]
        cases hb : (wrongN (newBk (offW x) few (y - 60) (y + 60)) z).testBit i with
        | false => rfl
        | true =>
          have := wrong_sub hz1 hz2 hfs z hb
          rw [h3, Nat.zero_testBit] at this
          exact this.symm
      have li := lInside z _ q1 (fun e he => by have := q2 e he; rw [f4, f5] at this; omega) (by omega)
      rw [hz'] at li
      exact li
    exact ⟨one e.1 (Int.le_refl _) hle, one e.2 hle (Int.le_refl _)⟩
  have hrl := spansL_len hb fun m => decide (m = 0)
  have her : ∃ er : Int, (er = 0 ∨ er = 7) ∧ (if (spansL (newBk (offW x) l (y - 60) (y + 60)) fun m => decide (m = 0)) = [] then (7 : Int) else 0) = er ∧ (er = 0 ↔ fewN (newBk (offW x) l (y - 60) (y + 60)) = 0) := by
    by_cases h : (spansL (newBk (offW x) l (y - 60) (y + 60)) fun m => decide (m = 0)) = []
    · rw [fit_nil.1 h] at hff
      exact ⟨7, .inr rfl, by rw [if_pos h], by simp at hff; omega⟩
    · have hft : fitB (newBk (offW x) l (y - 60) (y + 60)) = true := by
        cases hq : fitB (newBk (offW x) l (y - 60) (y + 60)) with
        | true => rfl
        | false => exact absurd (fit_nil.2 hq) h
      rw [hft] at hff
      exact ⟨0, .inl rfl, by rw [if_neg h], by simp at hff; omega⟩
  obtain ⟨er, her0, her1, her2⟩ := her
  have her' : ∃ er : Int, (er = 0 ∨ er = 7) ∧ (if (spansL (newBk (offW x) few (y - 60) (y + 60)) fun m => decide (m = 0)) = [] then (7 : Int) else 0) = er := by
    by_cases h : (spansL (newBk (offW x) few (y - 60) (y + 60)) fun m => decide (m = 0)) = []
    · exact ⟨7, .inr rfl, by rw [if_pos h]⟩
    · exact ⟨0, .inl rfl, by rw [if_neg h]⟩
  obtain ⟨er', her3, her4⟩ := her'
  rw [her1] at p1
  rw [her4] at p2
  generalize (spansL (newBk (offW x) l (y - 60) (y + 60)) fun m => decide (m = 0)) = r at *
  generalize (spansL (newBk (offW x) few (y - 60) (y + 60)) fun m => decide (m = 0)) = r' at *
  generalize (spansL (newBk (offW x) l (y - 60) (y + 60)) fun m => decide (popN m = fewN (newBk (offW x) l (y - 60) (y + 60)))) = r2 at *
  generalize leastL (newBk (offW x) l (y - 60) (y + 60)) = L at *
  generalize leastL (newBk (offW x) few (y - 60) (y + 60)) = L2 at *
  generalize pairsTo (newBk (offW x) l (y - 60) (y + 60)) (offW x).length (offW x).length = ps at *
  generalize pairsTo (newBk (offW x) few (y - 60) (y + 60)) (offW x).length (offW x).length = qs at *
  generalize fewN (newBk (offW x) l (y - 60) (y + 60)) = F at *
  generalize fewN (newBk (offW x) few (y - 60) (y + 60)) = F2 at *
  clear e1 e2 e3 e4 e5 f1 f2 f3 f4 f5 hb hb2 hz1 hz2 hsp hff hrf hin hnn hfs her1 her4 hpb
  have hL0 : 0 < L.length := by rw [hL]; simp
  have hg0 : ∀ h : 0 < L.length, L[0]'h = s0 := fun h => by simp only [hL]; rfl
  have hLi : ¬ (L.length : Int) < 1 := by omega
  have hL20 : 0 < L2.length := by rw [hL2]; simp
  have hg20 : ∀ h : 0 < L2.length, L2[0]'h = t0 := fun h => by simp only [hL2]; rfl
  have hL2i : ¬ (L2.length : Int) < 1 := by omega
  have hst : ¬ (s0.length : Int) < t0.length := by omega
  have hpq : ¬ (ps.length : Int) < qs.length := by omega
  have hsF : (s0.length : Int) = F := by omega
  obtain ⟨l0, hl0⟩ : ∃ l0, offN x = l0 := ⟨_, rfl⟩
  rw [hl0] at hl hll h8 l3
  generalize hW : offW x = W at *
  (repeat' (first | ((first | with_reducible refine st_skip ?_ | with_reducible refine st_exit ?_); (try simp only [seqQ, blockQ, loopQ, forQ, whileQ, reduceIte, Nat.reduceEqDiff])) | (with_reducible refine st_ret ?_; ((try simp only [seqQ, blockQ, loopQ, forQ, whileQ]); first | (with_reducible refine retM_ret ?_) | refine retQ_ret ?_; simp [hy])) | refine st_seq ?_ | refine st_block ?_ | ((with_reducible show (STri _ _ _ _ _) ∧ (STri _ _ _ _ _)); refine And.intro ?_ ?_) | ((first | refine st_reg ?_ | refine buildP_own ?_ | refine appP_own ?_ | ((with_reducible show callGP _ _ _ _ _ _ _); refine callG_n (l3) ?hcc ?hpp ?hnn ?_; (case hcc => (first | rfl | (simp <;> fail) | (simp [] <;> fail))); (case hpp => (first | rfl | (simp <;> fail) | (simp [] <;> fail))); (case hnn => (first | rfl | (simp <;> fail) | (simp [] <;> fail)))) | ((with_reducible show callGP _ _ _ _ _ _ _); refine callG_b (l1) ?hcc ?hpp ?_; (case hcc => (first | rfl | (simp <;> fail))); (case hpp => (first | rfl | (simp <;> fail)))) | ((with_reducible show callGP _ _ _ _ _ _ _); refine callG_b (l2) ?hcc ?hpp ?_; (case hcc => (first | rfl | (simp <;> fail))); (case hpp => (first | rfl | (simp <;> fail)))) | ((with_reducible show callGP _ _ _ _ _ _ _); refine callG_b (l4) ?hcc ?hpp ?_; (case hcc => (first | rfl | (simp <;> fail))); (case hpp => (first | rfl | (simp <;> fail)))) | refine callP_b (l1) rfl ?_ | refine callP_b (l2) rfl ?_ | refine callP_b (l4) rfl ?_) <;> (simp -dsimp [hy]; (repeat (simp -dsimp (disch := (first | omega | assumption | (refine Bool.eq_false_iff.1 ?_; assumption))) only [wrap_in, if_pos, if_neg]; (try simp -dsimp [hy]))))) | ((first | refine guardP_of (fun hc => ?_) (fun hc => ?_) | refine st_cond rfl (fun hc => ?_) (fun hc => ?_)) <;> (try simp only [lqA, lqB, lqC, lqD, lqE, lqF, lqG, lqH, lqI, lqJ, lqK, lqL, lqM, lqN, lqO] at hc) <;> (try (exfalso; first | omega | exact bool_tf hc (by assumption) | exact bool_ft hc (by assumption) | exact absurd (by assumption) hc)) <;> (first | with_reducible show STri _ _ _ _ _ _ | (simp -dsimp [hy, hc]; (repeat (simp -dsimp (disch := (first | omega | assumption | (refine Bool.eq_false_iff.1 ?_; assumption))) only [wrap_in, if_pos, if_neg]; (try simp -dsimp [hy, hc]))))))))
  refine st_for [3, 6, 45] l0.length (fun k T H => T = [(3, .ptr 3 0), (5, .c (slSr W)), (6, .ptr 6 0), (7, .own 45 l0.length), (8, .c (I k))] ∧
    H = [(3, .box 82 ((rowSh s).map .c)), (6, .box 25 [.c (I (y - 60)), .c (I (y + 60))]), (45, .arr 73 3 ((chgTo (chA s 128) l0 k).map rowN))]) (by simp) ⟨by simp, by simp [chgTo_zero]⟩ ?_
  rintro k T H hk ⟨rfl, rfl⟩
  by_cases hlt : k < l0.length
  · have hk8 : k < 8 := by omega
    have hgs := sh_get s hk8
    obtain ⟨s1, s2⟩ := shAt_bd hs hk8
    have hcl := chgTo_len (chA s 128) l0 (k := k) (by omega)
    have hnl := chgTo_len (chA s 128) l0 (k := k + 1) (by omega)
    have hcg := chgTo_get (chA s 128) l0 hlt
    have hset := chgTo_set (chA s 128) l0 hlt
    have hskip := chgTo_skip (chA s 128) l0 hlt
    have htk := (offN_tick hx (n := l0[k]) (by rw [hl0]; exact List.getElem_mem hlt))
    obtain ⟨⟨_, u0, _⟩, u1⟩ := htk
    have hrm : (shAt s k).tmod 60 = shAt s k % 60 := Int.tmod_eq_emod_of_nonneg s1
    have hr1 := Int.emod_nonneg (shAt s k) (show (60 : Int) ≠ 0 by omega)
    have hr2 := Int.emod_lt_of_pos (shAt s k) (show (0 : Int) < 60 by omega)
    have hge : ∀ h : k < (chgTo (chA s 128) l0 k).length, (chgTo (chA s 128) l0 k)[k]'h = l0[k] := fun _ => hcg
    have hsm : ((chgTo (chA s 128) l0 k).map rowN).set k (rowN (chA s 128 k l0[k])) = (chgTo (chA s 128) l0 (k + 1)).map rowN := by
      rw [← hset, List.map_set]
    clear hcg hset
    generalize l0[k] = n at *
    generalize hcu : chgTo (chA s 128) l0 k = cur at *
    generalize hnx : chgTo (chA s 128) l0 (k + 1) = nxt at *
    have hch : chA s 128 k n = chA s 128 k n := rfl
    conv at hch => rhs; unfold chA
    by_cases c1 : 128 ≤ shAt s k
    · rw [if_pos c1] at hch
      rw [hch] at hsm
      by_cases c2 : 0 < n.tick + shAt s k % 60 - 30
      · rw [show max 0 (n.tick + shAt s k % 60 - 30) = n.tick + shAt s k % 60 - 30 by omega] at hsm
        simp only [rowN] at hsm
        (repeat' (first | ((first | with_reducible refine st_skip ?_ | with_reducible refine st_exit ?_); (try simp only [seqQ, blockQ, loopQ, forQ, whileQ, reduceIte, Nat.reduceEqDiff])) | (with_reducible refine st_ret ?_; ((try simp only [seqQ, blockQ, loopQ, forQ, whileQ]); first | (with_reducible refine retM_ret ?_) | refine retQ_ret ?_; simp [hlt, hgs, hk8, c1, c2, hcl, hge, hrm, hsm, hnl])) | refine st_seq ?_ | refine st_block ?_ | ((with_reducible show (STri _ _ _ _ _) ∧ (STri _ _ _ _ _)); refine And.intro ?_ ?_) | ((first | refine st_reg ?_ | refine buildP_own ?_ | refine appP_own ?_) <;> (simp -dsimp [hlt, hgs, hk8, c1, c2, hcl, hge, hrm, hsm, hnl]; (repeat (simp -dsimp (disch := (first | omega | assumption | (refine Bool.eq_false_iff.1 ?_; assumption))) only [wrap_in, if_pos, if_neg]; (try simp -dsimp [hlt, hgs, hk8, c1, c2, hcl, hge, hrm, hsm, hnl]))))) | ((first | refine guardP_of (fun hc => ?_) (fun hc => ?_) | refine st_cond rfl (fun hc => ?_) (fun hc => ?_)) <;> (try simp only [lqA, lqB, lqC, lqD, lqE, lqF, lqG, lqH, lqI, lqJ, lqK, lqL, lqM, lqN, lqO] at hc) <;> (try (exfalso; first | omega | exact bool_tf hc (by assumption) | exact bool_ft hc (by assumption) | exact absurd (by assumption) hc)) <;> (first | with_reducible show STri _ _ _ _ _ _ | (simp -dsimp [hlt, hgs, hk8, c1, c2, hcl, hge, hrm, hsm, hnl, hc]; (repeat (simp -dsimp (disch := (first | omega | assumption | (refine Bool.eq_false_iff.1 ?_; assumption))) only [wrap_in, if_pos, if_neg]; (try simp -dsimp [hlt, hgs, hk8, c1, c2, hcl, hge, hrm, hsm, hnl, hc]))))))))
        all_goals exact ⟨hlt, by simp, by simp, by simp [hnx]⟩
      · rw [show max 0 (n.tick + shAt s k % 60 - 30) = 0 by omega] at hsm
        simp only [rowN] at hsm
        (repeat' (first | ((first | with_reducible refine st_skip ?_ | with_reducible refine st_exit ?_); (try simp only [seqQ, blockQ, loopQ, forQ, whileQ, reduceIte, Nat.reduceEqDiff])) | (with_reducible refine st_ret ?_; ((try simp only [seqQ, blockQ, loopQ, forQ, whileQ]); first | (with_reducible refine retM_ret ?_) | refine retQ_ret ?_; simp [hlt, hgs, hk8, c1, c2, hcl, hge, hrm, hsm, hnl])) | refine st_seq ?_ | refine st_block ?_ | ((with_reducible show (STri _ _ _ _ _) ∧ (STri _ _ _ _ _)); refine And.intro ?_ ?_) | ((first | refine st_reg ?_ | refine buildP_own ?_ | refine appP_own ?_) <;> (simp -dsimp [hlt, hgs, hk8, c1, c2, hcl, hge, hrm, hsm, hnl]; (repeat (simp -dsimp (disch := (first | omega | assumption | (refine Bool.eq_false_iff.1 ?_; assumption))) only [wrap_in, if_pos, if_neg]; (try simp -dsimp [hlt, hgs, hk8, c1, c2, hcl, hge, hrm, hsm, hnl]))))) | ((first | refine guardP_of (fun hc => ?_) (fun hc => ?_) | refine st_cond rfl (fun hc => ?_) (fun hc => ?_)) <;> (try simp only [lqA, lqB, lqC, lqD, lqE, lqF, lqG, lqH, lqI, lqJ, lqK, lqL, lqM, lqN, lqO] at hc) <;> (try (exfalso; first | omega | exact bool_tf hc (by assumption) | exact bool_ft hc (by assumption) | exact absurd (by assumption) hc)) <;> (first | with_reducible show STri _ _ _ _ _ _ | (simp -dsimp [hlt, hgs, hk8, c1, c2, hcl, hge, hrm, hsm, hnl, hc]; (repeat (simp -dsimp (disch := (first | omega | assumption | (refine Bool.eq_false_iff.1 ?_; assumption))) only [wrap_in, if_pos, if_neg]; (try simp -dsimp [hlt, hgs, hk8, c1, c2, hcl, hge, hrm, hsm, hnl, hc]))))))))
        all_goals exact ⟨hlt, by simp, by simp, by simp [hnx]⟩
    · rw [if_neg c1] at hch
      have hcn := hskip hch
      (repeat' (first | ((first | with_reducible refine st_skip ?_ | with_reducible refine st_exit ?_); (try simp only [seqQ, blockQ, loopQ, forQ, whileQ, reduceIte, Nat.reduceEqDiff])) | (with_reducible refine st_ret ?_; ((try simp only [seqQ, blockQ, loopQ, forQ, whileQ]); first | (with_reducible refine retM_ret ?_) | refine retQ_ret ?_; simp [hlt, hgs, hk8, c1, hcl, hge])) | refine st_seq ?_ | refine st_block ?_ | ((with_reducible show (STri _ _ _ _ _) ∧ (STri _ _ _ _ _)); refine And.intro ?_ ?_) | ((first | refine st_reg ?_ | refine buildP_own ?_ | refine appP_own ?_) <;> (simp -dsimp [hlt, hgs, hk8, c1, hcl, hge]; (repeat (simp -dsimp (disch := (first | omega | assumption | (refine Bool.eq_false_iff.1 ?_; assumption))) only [wrap_in, if_pos, if_neg]; (try simp -dsimp [hlt, hgs, hk8, c1, hcl, hge]))))) | ((first | refine guardP_of (fun hc => ?_) (fun hc => ?_) | refine st_cond rfl (fun hc => ?_) (fun hc => ?_)) <;> (try simp only [lqA, lqB, lqC, lqD, lqE, lqF, lqG, lqH, lqI, lqJ, lqK, lqL, lqM, lqN, lqO] at hc) <;> (try (exfalso; first | omega | exact bool_tf hc (by assumption) | exact bool_ft hc (by assumption) | exact absurd (by assumption) hc)) <;> (first | with_reducible show STri _ _ _ _ _ _ | (simp -dsimp [hlt, hgs, hk8, c1, hcl, hge, hc]; (repeat (simp -dsimp (disch := (first | omega | assumption | (refine Bool.eq_false_iff.1 ?_; assumption))) only [wrap_in, if_pos, if_neg]; (try simp -dsimp [hlt, hgs, hk8, c1, hcl, hge, hc]))))))))
      all_goals exact ⟨hlt, by simp, by simp, by simp [hnx, hcn]⟩
  · have hkk : k = l0.length := by omega
    subst hkk
    rw [chgTo_all, hl]
    clear hl
    by_cases hle : l.length = 0
    · have hln : l = [] := List.length_eq_zero_iff.1 hle
      have h00 : l0.length = 0 := by omega
      subst hln
      (repeat' (first | ((with_reducible show STri _ k65_127 _ _ _); refine st_shut1 45 rfl (by simp [dropOK, dropK]) (by simp [ClosO, ownS, dropK, SV.outD, hll, h00]) (by simp [ShutH, ShutB, ownL, ownS, dropK, SV.outD, outDL, Blk.outD, hll, h00]) ?_; simp) | ((first | with_reducible refine st_skip ?_ | with_reducible refine st_exit ?_); (try simp only [seqQ, blockQ, loopQ, forQ, whileQ, reduceIte, Nat.reduceEqDiff])) | (with_reducible refine st_ret ?_; ((try simp only [seqQ, blockQ, loopQ, forQ, whileQ]); first | (with_reducible refine retM_ret ?_) | refine retQ_ret ?_; simp [hll, h00])) | refine st_seq ?_ | refine st_block ?_ | ((with_reducible show (STri _ _ _ _ _) ∧ (STri _ _ _ _ _)); refine And.intro ?_ ?_) | ((first | refine st_reg ?_ | refine buildP_own ?_ | refine appP_own ?_ | refine callP_b (kn) rfl ?_) <;> (simp -dsimp [hll, h00]; (repeat (simp -dsimp (disch := (first | omega | assumption | (refine Bool.eq_false_iff.1 ?_; assumption))) only [wrap_in, if_pos, if_neg]; (try simp -dsimp [hll, h00]))))) | ((first | refine guardP_of (fun hc => ?_) (fun hc => ?_) | refine st_cond rfl (fun hc => ?_) (fun hc => ?_)) <;> (try simp only [lqA, lqB, lqC, lqD, lqE, lqF, lqG, lqH, lqI, lqJ, lqK, lqL, lqM, lqN, lqO] at hc) <;> (try (exfalso; first | omega | exact bool_tf hc (by assumption) | exact bool_ft hc (by assumption) | exact absurd (by assumption) hc)) <;> (first | with_reducible show STri _ _ _ _ _ _ | (simp -dsimp [hll, h00, hc]; (repeat (simp -dsimp (disch := (first | omega | assumption | (refine Bool.eq_false_iff.1 ?_; assumption))) only [wrap_in, if_pos, if_neg]; (try simp -dsimp [hll, h00, hc]))))))))
      all_goals exact .refl _
    · have hln : ¬ l = [] := fun h => hle (by rw [h]; rfl)
      have hlen : ¬ (l.length : Int) = 0 := by omega
      have hlen2 : (0 : Int) ≤ (l.length : Int) - 1 := by omega
      have htn : ((l.length : Int) - 1).toNat = l.length - 1 := by omega
      have hfw : List.take (l0.length - 1) (l.map rowN) = few.map rowN := by rw [← hll, ← List.map_take, hf]
      have loop : ∀ z : SV, STri (cfF Try.prog fresh 328) k65_117 [(5, .c (slSr W)), (6, .ptr 6 0), (7, .c (slN l)), (10, .c (slE r)), (12, .c (slE r')), (18, .c (slL L)), (228, z)] [(3, .box 82 ((rowSh s).map .c)), (6, .box 25 [.c (I (y - 60)), .c (I (y + 60))])] (retQ rs_turretlaw08_WireMore (B true)) := by
        intro z
        clear p1 p2 p3 p4 p5 p6 p7 l1 l2 l3
        (repeat' (first | ((first | with_reducible refine st_skip ?_ | with_reducible refine st_exit ?_); (try simp only [seqQ, blockQ, loopQ, forQ, whileQ, reduceIte, Nat.reduceEqDiff])) | (with_reducible refine st_ret ?_; ((try simp only [seqQ, blockQ, loopQ, forQ, whileQ]); first | (with_reducible refine retM_ret ?_) | refine retQ_ret ?_; simp)) | refine st_seq ?_ | refine st_block ?_ | ((with_reducible show (STri _ _ _ _ _) ∧ (STri _ _ _ _ _)); refine And.intro ?_ ?_) | ((first | refine st_reg ?_ | refine buildP_own ?_ | refine appP_own ?_) <;> (simp -dsimp; (repeat (simp -dsimp (disch := (first | omega | assumption | (refine Bool.eq_false_iff.1 ?_; assumption))) only [wrap_in, if_pos, if_neg]; (try simp -dsimp))))) | ((first | refine guardP_of (fun hc => ?_) (fun hc => ?_) | refine st_cond rfl (fun hc => ?_) (fun hc => ?_)) <;> (try simp only [lqA, lqB, lqC, lqD, lqE, lqF, lqG, lqH, lqI, lqJ, lqK, lqL, lqM, lqN, lqO] at hc) <;> (try (exfalso; first | omega | exact bool_tf hc (by assumption) | exact bool_ft hc (by assumption) | exact absurd (by assumption) hc)) <;> (first | with_reducible show STri _ _ _ _ _ _ | (simp -dsimp [hc]; (repeat (simp -dsimp (disch := (first | omega | assumption | (refine Bool.eq_false_iff.1 ?_; assumption))) only [wrap_in, if_pos, if_neg]; (try simp -dsimp [hc]))))))))
        refine st_for [6] r.length (fun k T H => T = [(5, .c (slSr W)), (6, .ptr 6 0), (7, .c (slN l)), (10, .c (slE r)), (12, .c (slE r')), (18, .c (slL L)), (25, .c (I k))] ∧ H = [(6, .box 25 [.c (I (y - 60)), .c (I (y + 60))])]) (by simp) ⟨by simp, by simp⟩ ?_
        rintro k T H hk ⟨rfl, rfl⟩
        by_cases hlt3 : k < r.length
        · obtain ⟨i1, i2⟩ := hins k hlt3
          (repeat' (first | ((first | with_reducible refine st_skip ?_ | with_reducible refine st_exit ?_); (try simp only [seqQ, blockQ, loopQ, forQ, whileQ, reduceIte, Nat.reduceEqDiff])) | (with_reducible refine st_ret ?_; ((try simp only [seqQ, blockQ, loopQ, forQ, whileQ]); first | (with_reducible refine retM_ret ?_) | refine retQ_ret ?_; simp [hlt3])) | refine st_seq ?_ | refine st_block ?_ | ((with_reducible show (STri _ _ _ _ _) ∧ (STri _ _ _ _ _)); refine And.intro ?_ ?_) | ((first | refine st_reg ?_ | refine buildP_own ?_ | refine appP_own ?_ | refine callP_b (i1) rfl ?_ | refine callP_b (i2) rfl ?_) <;> (simp -dsimp [hlt3]; (repeat (simp -dsimp (disch := (first | omega | assumption | (refine Bool.eq_false_iff.1 ?_; assumption))) only [wrap_in, if_pos, if_neg]; (try simp -dsimp [hlt3]))))) | ((first | refine guardP_of (fun hc => ?_) (fun hc => ?_) | refine st_cond rfl (fun hc => ?_) (fun hc => ?_)) <;> (try simp only [lqA, lqB, lqC, lqD, lqE, lqF, lqG, lqH, lqI, lqJ, lqK, lqL, lqM, lqN, lqO] at hc) <;> (try (exfalso; first | omega | exact bool_tf hc (by assumption) | exact bool_ft hc (by assumption) | exact absurd (by assumption) hc)) <;> (first | with_reducible show STri _ _ _ _ _ _ | (simp -dsimp [hlt3, hc]; (repeat (simp -dsimp (disch := (first | omega | assumption | (refine Bool.eq_false_iff.1 ?_; assumption))) only [wrap_in, if_pos, if_neg]; (try simp -dsimp [hlt3, hc]))))))))
          all_goals exact ⟨hlt3, by simp, by simp, by simp⟩
        · (repeat' (first | ((with_reducible show STri _ k65_116 _ _ _); refine st_less [(5, .c (slSr W)), (6, .ptr 6 0), (7, .c (slN l)), (18, .c (slL L))] [(6, .box 25 [.c (I (y - 60)), .c (I (y + 60))])] (by simp [Less, LessT, LessH, dropOK, dropK, SV.outD, Blk.outD]) ?_; exact ms) | ((first | with_reducible refine st_skip ?_ | with_reducible refine st_exit ?_); (try simp only [seqQ, blockQ, loopQ, forQ, whileQ, reduceIte, Nat.reduceEqDiff])) | (with_reducible refine st_ret ?_; ((try simp only [seqQ, blockQ, loopQ, forQ, whileQ]); first | (with_reducible refine retM_ret ?_) | refine retQ_ret ?_; simp [hlt3])) | refine st_seq ?_ | refine st_block ?_ | ((with_reducible show (STri _ _ _ _ _) ∧ (STri _ _ _ _ _)); refine And.intro ?_ ?_) | ((first | refine st_reg ?_ | refine buildP_own ?_ | refine appP_own ?_) <;> (simp -dsimp [hlt3]; (repeat (simp -dsimp (disch := (first | omega | assumption | (refine Bool.eq_false_iff.1 ?_; assumption))) only [wrap_in, if_pos, if_neg]; (try simp -dsimp [hlt3]))))) | ((first | refine guardP_of (fun hc => ?_) (fun hc => ?_) | refine st_cond rfl (fun hc => ?_) (fun hc => ?_)) <;> (try simp only [lqA, lqB, lqC, lqD, lqE, lqF, lqG, lqH, lqI, lqJ, lqK, lqL, lqM, lqN, lqO] at hc) <;> (try (exfalso; first | omega | exact bool_tf hc (by assumption) | exact bool_ft hc (by assumption) | exact absurd (by assumption) hc)) <;> (first | with_reducible show STri _ _ _ _ _ _ | (simp -dsimp [hlt3, hc]; (repeat (simp -dsimp (disch := (first | omega | assumption | (refine Bool.eq_false_iff.1 ?_; assumption))) only [wrap_in, if_pos, if_neg]; (try simp -dsimp [hlt3, hc]))))))))
      rcases her0 with rfl | rfl
      · have hF : (F : Int) = 0 := by have := her2.1 rfl; omega
        rcases her3 with rfl | rfl
        all_goals
          (repeat' (first | ((with_reducible show STri _ k65_117 _ _ _); exact loop _) | ((with_reducible show STri _ k65_127 _ _ _); refine st_shut1 45 rfl (by simp [dropOK, dropK]) (by simp [ClosO, ownS, dropK, SV.outD, hll]) (by simp [ShutH, ShutB, ownL, ownS, dropK, SV.outD, outDL, Blk.outD, hll]) ?_; simp) | ((first | with_reducible refine st_skip ?_ | with_reducible refine st_exit ?_); (try simp only [seqQ, blockQ, loopQ, forQ, whileQ, reduceIte, Nat.reduceEqDiff])) | (with_reducible refine st_ret ?_; ((try simp only [seqQ, blockQ, loopQ, forQ, whileQ]); first | (with_reducible refine retM_ret ?_) | refine retQ_ret ?_; simp [hll, hln, hlen, hlen2, htn, hfw, hL0, hg0, hLi, hL20, hg20, hL2i, hst, hpq, hsF, hF])) | refine st_seq ?_ | refine st_block ?_ | ((with_reducible show (STri _ _ _ _ _) ∧ (STri _ _ _ _ _)); refine And.intro ?_ ?_) | ((first | refine st_reg ?_ | refine buildP_own ?_ | refine appP_own ?_ | ((with_reducible show callGP _ _ _ _ _ _ _); refine callG_b (kn) ?hcc ?hpp ?_; (case hcc => (first | rfl | (simp <;> fail))); (case hpp => (first | rfl | (simp <;> fail)))) | ((with_reducible show callGP _ _ _ _ _ _ _); refine callG_b (c14) ?hcc ?hpp ?_; (case hcc => (first | rfl | (simp <;> fail))); (case hpp => (first | rfl | (simp <;> fail)))) | ((with_reducible show callGP _ _ _ _ _ _ _); refine callG_b (c15) ?hcc ?hpp ?_; (case hcc => (first | rfl | (simp <;> fail))); (case hpp => (first | rfl | (simp <;> fail)))) | ((with_reducible show callGP _ _ _ _ _ _ _); refine callG_b (c16) ?hcc ?hpp ?_; (case hcc => (first | rfl | (simp <;> fail))); (case hpp => (first | rfl | (simp <;> fail)))) | ((with_reducible show callGP _ _ _ _ _ _ _); refine callG_b (p1) ?hcc ?hpp ?_; (case hcc => (first | rfl | (simp <;> fail))); (case hpp => (first | rfl | (simp <;> fail)))) | ((with_reducible show callGP _ _ _ _ _ _ _); refine callG_b (p2) ?hcc ?hpp ?_; (case hcc => (first | rfl | (simp <;> fail))); (case hpp => (first | rfl | (simp <;> fail)))) | ((with_reducible show callGP _ _ _ _ _ _ _); refine callG_b (p3) ?hcc ?hpp ?_; (case hcc => (first | rfl | (simp <;> fail))); (case hpp => (first | rfl | (simp <;> fail)))) | ((with_reducible show callGP _ _ _ _ _ _ _); refine callG_b (p4) ?hcc ?hpp ?_; (case hcc => (first | rfl | (simp <;> fail))); (case hpp => (first | rfl | (simp <;> fail)))) | ((with_reducible show callGP _ _ _ _ _ _ _); refine callG_b (p5) ?hcc ?hpp ?_; (case hcc => (first | rfl | (simp <;> fail))); (case hpp => (first | rfl | (simp <;> fail)))) | ((with_reducible show callGP _ _ _ _ _ _ _); refine callG_b (p6) ?hcc ?hpp ?_; (case hcc => (first | rfl | (simp <;> fail))); (case hpp => (first | rfl | (simp <;> fail)))) | ((with_reducible show callGP _ _ _ _ _ _ _); refine callG_b (p7) ?hcc ?hpp ?_; (case hcc => (first | rfl | (simp <;> fail))); (case hpp => (first | rfl | (simp <;> fail)))) | refine callP_b (kn) rfl ?_ | refine callP_b (c14) rfl ?_ | refine callP_b (c15) rfl ?_ | refine callP_b (c16) rfl ?_ | refine callP_b (p1) rfl ?_ | refine callP_b (p2) rfl ?_ | refine callP_b (p3) rfl ?_ | refine callP_b (p4) rfl ?_ | refine callP_b (p5) rfl ?_ | refine callP_b (p6) rfl ?_ | refine callP_b (p7) rfl ?_) <;> (simp -dsimp [hll, hln, hlen, hlen2, htn, hfw, hL0, hg0, hLi, hL20, hg20, hL2i, hst, hpq, hsF, hF]; (repeat (simp -dsimp (disch := (first | omega | assumption | (refine Bool.eq_false_iff.1 ?_; assumption))) only [wrap_in, if_pos, if_neg]; (try simp -dsimp [hll, hln, hlen, hlen2, htn, hfw, hL0, hg0, hLi, hL20, hg20, hL2i, hst, hpq, hsF, hF]))))) | ((first | refine guardP_of (fun hc => ?_) (fun hc => ?_) | refine st_cond rfl (fun hc => ?_) (fun hc => ?_)) <;> (try simp only [lqA, lqB, lqC, lqD, lqE, lqF, lqG, lqH, lqI, lqJ, lqK, lqL, lqM, lqN, lqO] at hc) <;> (try (exfalso; first | omega | exact bool_tf hc (by assumption) | exact bool_ft hc (by assumption) | exact absurd (by assumption) hc)) <;> (first | with_reducible show STri _ _ _ _ _ _ | (simp -dsimp [hll, hln, hlen, hlen2, htn, hfw, hL0, hg0, hLi, hL20, hg20, hL2i, hst, hpq, hsF, hF, hc]; (repeat (simp -dsimp (disch := (first | omega | assumption | (refine Bool.eq_false_iff.1 ?_; assumption))) only [wrap_in, if_pos, if_neg]; (try simp -dsimp [hll, hln, hlen, hlen2, htn, hfw, hL0, hg0, hLi, hL20, hg20, hL2i, hst, hpq, hsF, hF, hc]))))))))
          all_goals exact .refl _
      · have hF : ¬ (F : Int) = 0 := by
          intro h
          have := her2.2 (by omega)
          omega
        rcases her3 with rfl | rfl
        all_goals
          (repeat' (first | ((with_reducible show STri _ k65_117 _ _ _); exact loop _) | ((with_reducible show STri _ k65_127 _ _ _); refine st_shut1 45 rfl (by simp [dropOK, dropK]) (by simp [ClosO, ownS, dropK, SV.outD, hll]) (by simp [ShutH, ShutB, ownL, ownS, dropK, SV.outD, outDL, Blk.outD, hll]) ?_; simp) | ((first | with_reducible refine st_skip ?_ | with_reducible refine st_exit ?_); (try simp only [seqQ, blockQ, loopQ, forQ, whileQ, reduceIte, Nat.reduceEqDiff])) | (with_reducible refine st_ret ?_; ((try simp only [seqQ, blockQ, loopQ, forQ, whileQ]); first | (with_reducible refine retM_ret ?_) | refine retQ_ret ?_; simp [hll, hln, hlen, hlen2, htn, hfw, hL0, hg0, hLi, hL20, hg20, hL2i, hst, hpq, hsF, hF])) | refine st_seq ?_ | refine st_block ?_ | ((with_reducible show (STri _ _ _ _ _) ∧ (STri _ _ _ _ _)); refine And.intro ?_ ?_) | ((first | refine st_reg ?_ | refine buildP_own ?_ | refine appP_own ?_ | ((with_reducible show callGP _ _ _ _ _ _ _); refine callG_b (kn) ?hcc ?hpp ?_; (case hcc => (first | rfl | (simp <;> fail))); (case hpp => (first | rfl | (simp <;> fail)))) | ((with_reducible show callGP _ _ _ _ _ _ _); refine callG_b (c14) ?hcc ?hpp ?_; (case hcc => (first | rfl | (simp <;> fail))); (case hpp => (first | rfl | (simp <;> fail)))) | ((with_reducible show callGP _ _ _ _ _ _ _); refine callG_b (c15) ?hcc ?hpp ?_; (case hcc => (first | rfl | (simp <;> fail))); (case hpp => (first | rfl | (simp <;> fail)))) | ((with_reducible show callGP _ _ _ _ _ _ _); refine callG_b (c16) ?hcc ?hpp ?_; (case hcc => (first | rfl | (simp <;> fail))); (case hpp => (first | rfl | (simp <;> fail)))) | ((with_reducible show callGP _ _ _ _ _ _ _); refine callG_b (p1) ?hcc ?hpp ?_; (case hcc => (first | rfl | (simp <;> fail))); (case hpp => (first | rfl | (simp <;> fail)))) | ((with_reducible show callGP _ _ _ _ _ _ _); refine callG_b (p2) ?hcc ?hpp ?_; (case hcc => (first | rfl | (simp <;> fail))); (case hpp => (first | rfl | (simp <;> fail)))) | ((with_reducible show callGP _ _ _ _ _ _ _); refine callG_b (p3) ?hcc ?hpp ?_; (case hcc => (first | rfl | (simp <;> fail))); (case hpp => (first | rfl | (simp <;> fail)))) | ((with_reducible show callGP _ _ _ _ _ _ _); refine callG_b (p4) ?hcc ?hpp ?_; (case hcc => (first | rfl | (simp <;> fail))); (case hpp => (first | rfl | (simp <;> fail)))) | ((with_reducible show callGP _ _ _ _ _ _ _); refine callG_b (p5) ?hcc ?hpp ?_; (case hcc => (first | rfl | (simp <;> fail))); (case hpp => (first | rfl | (simp <;> fail)))) | ((with_reducible show callGP _ _ _ _ _ _ _); refine callG_b (p6) ?hcc ?hpp ?_; (case hcc => (first | rfl | (simp <;> fail))); (case hpp => (first | rfl | (simp <;> fail)))) | ((with_reducible show callGP _ _ _ _ _ _ _); refine callG_b (p7) ?hcc ?hpp ?_; (case hcc => (first | rfl | (simp <;> fail))); (case hpp => (first | rfl | (simp <;> fail)))) | refine callP_b (kn) rfl ?_ | refine callP_b (c14) rfl ?_ | refine callP_b (c15) rfl ?_ | refine callP_b (c16) rfl ?_ | refine callP_b (p1) rfl ?_ | refine callP_b (p2) rfl ?_ | refine callP_b (p3) rfl ?_ | refine callP_b (p4) rfl ?_ | refine callP_b (p5) rfl ?_ | refine callP_b (p6) rfl ?_ | refine callP_b (p7) rfl ?_) <;> (simp -dsimp [hll, hln, hlen, hlen2, htn, hfw, hL0, hg0, hLi, hL20, hg20, hL2i, hst, hpq, hsF, hF]; (repeat (simp -dsimp (disch := (first | omega | assumption | (refine Bool.eq_false_iff.1 ?_; assumption))) only [wrap_in, if_pos, if_neg]; (try simp -dsimp [hll, hln, hlen, hlen2, htn, hfw, hL0, hg0, hLi, hL20, hg20, hL2i, hst, hpq, hsF, hF]))))) | ((first | refine guardP_of (fun hc => ?_) (fun hc => ?_) | refine st_cond rfl (fun hc => ?_) (fun hc => ?_)) <;> (try simp only [lqA, lqB, lqC, lqD, lqE, lqF, lqG, lqH, lqI, lqJ, lqK, lqL, lqM, lqN, lqO] at hc) <;> (try (exfalso; first | omega | exact bool_tf hc (by assumption) | exact bool_ft hc (by assumption) | exact absurd (by assumption) hc)) <;> (first | with_reducible show STri _ _ _ _ _ _ | (simp -dsimp [hll, hln, hlen, hlen2, htn, hfw, hL0, hg0, hLi, hL20, hg20, hL2i, hst, hpq, hsF, hF, hc]; (repeat (simp -dsimp (disch := (first | omega | assumption | (refine Bool.eq_false_iff.1 ?_; assumption))) only [wrap_in, if_pos, if_neg]; (try simp -dsimp [hll, hln, hlen, hlen2, htn, hfw, hL0, hg0, hLi, hL20, hg20, hL2i, hst, hpq, hsF, hF, hc]))))))))
          all_goals exact .refl _
end Go.Proofs.Ytakdmliblijgmaa
