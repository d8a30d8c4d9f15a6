/- Part 6 of a proof: CodeWF, Na, Nb, Nc, Nd, Ne, Nf, Ng, Nh, Ni, Nj, Lift, OpenS, Gw0, Gw1, Ke, Kf, Nk. -/
import Derived.Test.YtakdmliblijgmaaQ5
import Derived.Test.YtakdmliblijgmaaQ3
import Derived.ChangeSame
import Derived.JoinedOf
import Derived.JoinedAt
import Derived.RowKit3
import Derived.ReadAgain
import Derived.RowKit2
import Derived.ChangeSlices
import Derived.OpenShut
import Derived.Test.YtakdmliblijgmaaQ4
set_option linter.unusedSimpArgs false
set_option linter.unusedVariables false
/- The shadow code of functions, as the kit's translation has them. -/
namespace Go.Proofs.Ytakdmliblijgmaa
open Go.RowKit
def fresh : List FuncId := [1000000 + 36, 1000000 + 14]
def k62_0 : SCode := .reg [⟨some 2, none, .box 66 (.tmp 0), [], false⟩, ⟨some 4, none, .mov (.const (.slice none 0 0)), [], false⟩] [1, 2]
def k62_1 : SCode := .reg [⟨some 15, none, .buildSl 73 3 [(.int .i64 0), (.int .i64 0), (.int .i64 0)] 0 [], [], false⟩, ⟨some 5, none, .mov (.tmp 15), [], false⟩] [1, 2, 5]
def k62_2 : SCode := .reg [⟨some 6, none, .mov (.const (.int .i64 0)), [], false⟩] [1, 2, 5, 6]
def k62_3 : SCode := .reg [⟨some 16, none, .mov (.tmp 6), [], false⟩, ⟨some 17, none, .fld 1 (.tmp 2), [], false⟩, ⟨some 18, none, .load false 1 (.tmp 17), [], false⟩, ⟨some 19, none, .len (.tmp 18), [], false⟩, ⟨some 20, none, .bin .lss (.tmp 16) (.tmp 19), [], false⟩, ⟨some 21, none, .mov (.tmp 20), [], false⟩, ⟨some 22, (some (21, true)), .mov (.tmp 6), [], false⟩, ⟨some 23, (some (21, true)), .bin .lss (.tmp 22) (.const (.int .i64 8)), [], false⟩, ⟨some 24, none, .pick (.tmp 21) (.tmp 23) (.const (.bool false)), [], false⟩] [1, 2, 5, 6, 24]
def k62_4 : SCode := .cond (.tmp 24) .skip (.exit 0)
def k62_5 : SCode := .seq k62_3 k62_4
def k62_6 : SCode := .reg [⟨some 27, none, .fld 1 (.tmp 2), [], false⟩, ⟨some 28, none, .load false 1 (.tmp 27), [], false⟩, ⟨some 29, none, .mov (.tmp 6), [], false⟩, ⟨some 30, none, .idxS 3 (.tmp 28) (.tmp 29), [], false⟩, ⟨some 31, none, .load true 3 (.tmp 30), [], false⟩, ⟨some 7, none, .alloc 76 [(.int .u8 0), (.int .u8 0), (.int .u8 0)], [], false⟩, ⟨none, none, .store 3 (.tmp 7) (.tmp 31), [], false⟩] [1, 2, 5, 6, 7]
def k62_7 : SCode := .reg [⟨some 32, none, .idxA 3 1 (.tmp 7) (.const (.int .i64 0)), [], false⟩, ⟨some 33, none, .load false 1 (.tmp 32), [], false⟩, ⟨some 34, none, .conv .i64 (.tmp 33), [], false⟩, ⟨some 35, none, .mov (.tmp 1), [], false⟩, ⟨some 36, none, .len (.tmp 35), [], false⟩, ⟨some 37, none, .bin .rem (.tmp 34) (.tmp 36), [], false⟩, ⟨some 38, none, .build [(.int .i64 0), (.int .i64 0), (.int .i64 0)] [(0, 1, (.tmp 37))], [], false⟩, ⟨some 8, none, .alloc 73 [(.int .i64 0), (.int .i64 0), (.int .i64 0)], [], false⟩, ⟨none, none, .store 3 (.tmp 8) (.tmp 38), [], false⟩] [1, 2, 5, 6, 7, 8]
def k62_8 : SCode := .reg [⟨some 39, none, .mov (.tmp 1), [], false⟩, ⟨some 40, none, .fld 0 (.tmp 8), [], false⟩, ⟨some 41, none, .load false 1 (.tmp 40), [], false⟩, ⟨some 42, none, .idxS 8 (.tmp 39) (.tmp 41), [], false⟩, ⟨some 43, none, .load true 8 (.tmp 42), [], false⟩, ⟨some 9, none, .alloc 79 [(.int .i64 0), (.int .i64 0), (.int .i64 0), (.int .i64 0), (.int .i64 0), (.int .i64 0), (.int .i64 0), (.slice none 0 0)], [], false⟩, ⟨none, none, .store 8 (.tmp 9) (.tmp 43), [], false⟩] [1, 2, 5, 6, 7, 8, 9]
def k62_9 : SCode := .reg [⟨some 44, none, .fld 1 (.tmp 9), [], false⟩, ⟨some 45, none, .fld 0 (.tmp 44), [], false⟩, ⟨some 46, none, .load false 1 (.tmp 45), [], false⟩, ⟨some 47, none, .fld 3 (.tmp 2), [], false⟩, ⟨some 48, none, .load false 1 (.tmp 47), [], false⟩, ⟨some 49, none, .mov (.tmp 6), [], false⟩, ⟨some 50, none, .call 58 [(.tmp 48), (.tmp 49)], [], false⟩, ⟨some 51, none, .fld 1 (.tmp 9), [], false⟩, ⟨some 52, none, .fld 1 (.tmp 51), [], false⟩, ⟨some 53, none, .load false 1 (.tmp 52), [], false⟩, ⟨some 54, none, .fld 1 (.tmp 9), [], false⟩, ⟨some 55, none, .fld 0 (.tmp 54), [], false⟩, ⟨some 56, none, .load false 1 (.tmp 55), [], false⟩, ⟨some 57, none, .bin .sub (.tmp 53) (.tmp 56), [], false⟩, ⟨some 58, none, .bin .add (.tmp 57) (.const (.int .i64 1)), [], false⟩, ⟨some 59, none, .bin .rem (.tmp 50) (.tmp 58), [], false⟩, ⟨some 60, none, .bin .add (.tmp 46) (.tmp 59), [], false⟩, ⟨some 10, none, .mov (.tmp 60), [], false⟩] [1, 2, 5, 6, 7, 8, 9, 10]
def k62_10 : SCode := .reg [⟨some 61, none, .idxA 3 1 (.tmp 7) (.const (.int .i64 1)), [], false⟩, ⟨some 62, none, .load false 1 (.tmp 61), [], false⟩, ⟨some 63, none, .conv .i64 (.tmp 62), [], false⟩, ⟨some 64, none, .bin .mul (.const (.int .i64 1000)) (.tmp 63), [], false⟩, ⟨some 65, none, .bin .add (.const (.int .i64 30000)) (.tmp 64), [], false⟩, ⟨some 66, none, .idxA 3 1 (.tmp 7) (.const (.int .i64 2)), [], false⟩, ⟨some 67, none, .load false 1 (.tmp 66), [], false⟩, ⟨some 68, none, .conv .i64 (.tmp 67), [], false⟩, ⟨some 69, none, .bin .add (.tmp 65) (.tmp 68), [], false⟩, ⟨some 11, none, .mov (.tmp 69), [], false⟩] [1, 2, 5, 6, 7, 8, 9, 10, 11]
def k62_11 : SCode := .reg [⟨some 70, none, .fld 0 (.tmp 9), [], false⟩, ⟨some 71, none, .load false 1 (.tmp 70), [], false⟩] [1, 2, 5, 6, 7, 8, 9, 10, 11, 71]
def k62_12 : SCode := .reg [⟨some 102, none, .bin .eql (.tmp 71) (.const (.int .i64 2)), [], false⟩, ⟨some 101, none, .mov (.tmp 102), [], false⟩] [1, 2, 5, 6, 7, 8, 9, 10, 11, 71, 101]
def k62_13 : SCode := .reg [⟨some 103, none, .fld 3 (.tmp 9), [], false⟩, ⟨some 104, none, .load false 1 (.tmp 103), [], false⟩, ⟨some 105, none, .idxA 3 1 (.tmp 7) (.const (.int .i64 1)), [], false⟩, ⟨some 106, none, .load false 1 (.tmp 105), [], false⟩, ⟨some 107, none, .conv .i64 (.tmp 106), [], false⟩, ⟨some 108, none, .bin .add (.tmp 107) (.const (.int .i64 200)), [], false⟩, ⟨some 109, none, .fld 6 (.tmp 9), [], false⟩, ⟨some 110, none, .load false 1 (.tmp 109), [], false⟩, ⟨some 111, none, .bin .mul (.tmp 108) (.tmp 110), [], false⟩, ⟨some 112, none, .bin .add (.tmp 104) (.tmp 111), [], false⟩, ⟨some 113, none, .mov (.tmp 10), [], false⟩, ⟨some 114, none, .bin .add (.tmp 112) (.tmp 113), [], false⟩, ⟨some 11, none, .mov (.tmp 114), [], false⟩] [1, 2, 5, 6, 8, 11]
def k62_14 : SCode := .reg [⟨some 116, none, .bin .eql (.tmp 71) (.const (.int .i64 3)), [], false⟩, ⟨some 115, none, .mov (.tmp 116), [], false⟩] [1, 2, 5, 6, 7, 8, 9, 10, 11, 71, 115]
def k62_15 : SCode := .reg [⟨some 117, none, .idxA 3 1 (.tmp 7) (.const (.int .i64 1)), [], false⟩, ⟨some 118, none, .load false 1 (.tmp 117), [], false⟩, ⟨some 119, none, .conv .i64 (.tmp 118), [], false⟩, ⟨some 120, none, .bin .add (.const (.int .i64 1)) (.tmp 119), [], false⟩, ⟨some 12, none, .mov (.tmp 120), [], false⟩] [1, 2, 5, 6, 8, 9, 10, 12]
def k62_16 : SCode := .reg [⟨some 121, none, .mov (.tmp 12), [], false⟩, ⟨some 122, none, .bin .mul (.tmp 121) (.const (.int .i64 86400)), [], false⟩, ⟨some 123, none, .fld 7 (.tmp 9), [], false⟩, ⟨some 124, none, .load false 1 (.tmp 123), [], false⟩, ⟨some 125, none, .mov (.tmp 12), [], false⟩, ⟨some 126, none, .fld 7 (.tmp 9), [], false⟩, ⟨some 127, none, .load false 1 (.tmp 126), [], false⟩, ⟨some 128, none, .len (.tmp 127), [], false⟩, ⟨some 129, none, .bin .rem (.tmp 125) (.tmp 128), [], false⟩, ⟨some 130, none, .idxS 1 (.tmp 124) (.tmp 129), [], false⟩, ⟨some 131, none, .load false 1 (.tmp 130), [], false⟩, ⟨some 132, none, .bin .add (.tmp 122) (.tmp 131), [], false⟩, ⟨some 133, none, .mov (.tmp 10), [], false⟩, ⟨some 134, none, .bin .add (.tmp 132) (.tmp 133), [], false⟩, ⟨some 11, none, .mov (.tmp 134), [], false⟩] [1, 2, 5, 6, 8, 11]
def k62_17 : SCode := .seq k62_15 k62_16
def k62_18 : SCode := .reg [⟨some 136, none, .bin .eql (.tmp 71) (.const (.int .i64 4)), [], false⟩, ⟨some 135, none, .mov (.tmp 136), [], false⟩] [1, 2, 5, 6, 7, 8, 9, 10, 11, 135]
def k62_19 : SCode := .reg [⟨some 137, none, .mov (.tmp 11), [], false⟩, ⟨some 138, none, .fld 2 (.tmp 8), [], false⟩, ⟨none, none, .store 1 (.tmp 138) (.tmp 137), [], false⟩] [1, 2, 5, 6, 8, 10, 11]
def k62_20 : SCode := .reg [⟨some 139, none, .mov (.tmp 11), [], false⟩, ⟨some 140, none, .mov (.tmp 10), [], false⟩, ⟨some 141, none, .bin .add (.tmp 139) (.tmp 140), [], false⟩, ⟨some 11, none, .mov (.tmp 141), [], false⟩] [1, 2, 5, 6, 8, 11]
def k62_21 : SCode := .seq k62_19 k62_20
def k62_22 : SCode := .reg [⟨some 72, none, .mov (.tmp 11), [], false⟩, ⟨some 73, none, .fld 3 (.tmp 9), [], false⟩, ⟨some 74, none, .load false 1 (.tmp 73), [], false⟩, ⟨some 75, none, .bin .sub (.tmp 72) (.tmp 74), [], false⟩, ⟨some 13, none, .mov (.tmp 75), [], false⟩] [1, 2, 5, 6, 7, 8, 9, 10, 11, 13]
def k62_23 : SCode := .reg [⟨some 76, none, .fld 4 (.tmp 9), [], false⟩, ⟨some 77, none, .fld 0 (.tmp 76), [], false⟩, ⟨some 78, none, .load false 1 (.tmp 77), [], false⟩, ⟨some 79, none, .mov (.tmp 13), [], false⟩, ⟨some 80, none, .bin .mul (.tmp 78) (.tmp 79), [], false⟩, ⟨some 14, none, .mov (.tmp 80), [], false⟩] [1, 2, 5, 6, 7, 8, 9, 10, 11, 13, 14]
def k62_24 : SCode := .reg [⟨some 81, none, .idxA 3 1 (.tmp 7) (.const (.int .i64 2)), [], false⟩, ⟨some 82, none, .load false 1 (.tmp 81), [], false⟩, ⟨some 83, none, .bin .rem (.tmp 82) (.const (.int .u8 2)), [], false⟩, ⟨some 84, none, .bin .eql (.tmp 83) (.const (.int .u8 1)), [], false⟩] [1, 2, 5, 6, 8, 9, 10, 11, 13, 14, 84]
def k62_25 : SCode := .reg [⟨some 85, none, .fld 4 (.tmp 9), [], false⟩, ⟨some 86, none, .fld 1 (.tmp 85), [], false⟩, ⟨some 87, none, .load false 1 (.tmp 86), [], false⟩, ⟨some 88, none, .mov (.tmp 13), [], false⟩, ⟨some 89, none, .bin .mul (.tmp 87) (.tmp 88), [], false⟩, ⟨some 14, none, .mov (.tmp 89), [], false⟩] [1, 2, 5, 6, 8, 10, 11, 14]
def k62_26 : SCode := .cond (.tmp 84) k62_25 .skip
def k62_27 : SCode := .seq k62_24 k62_26
def k62_28 : SCode := .reg [⟨some 90, none, .mov (.tmp 11), [], false⟩, ⟨some 91, none, .mov (.tmp 10), [], false⟩, ⟨some 92, none, .bin .add (.tmp 90) (.tmp 91), [], false⟩, ⟨some 93, none, .mov (.tmp 14), [], false⟩, ⟨some 94, none, .mov (.tmp 14), [], false⟩, ⟨some 95, none, .call 39 [(.tmp 94), (.const (.int .i64 86400000))], [], false⟩, ⟨some 96, none, .bin .sub (.tmp 93) (.tmp 95), [], false⟩, ⟨some 97, none, .bin .quo (.tmp 96) (.const (.int .i64 86400000)), [], false⟩, ⟨some 98, none, .bin .add (.tmp 92) (.tmp 97), [], false⟩, ⟨some 99, none, .call 39 [(.tmp 98), (.const (.int .i64 43200))], [], false⟩, ⟨some 100, none, .fld 2 (.tmp 8), [], false⟩, ⟨none, none, .store 1 (.tmp 100) (.tmp 99), [], false⟩] [1, 2, 5, 6, 8, 11]
def k62_29 : SCode := .seq k62_27 k62_28
def k62_30 : SCode := .seq k62_23 k62_29
def k62_31 : SCode := .seq k62_22 k62_30
def k62_32 : SCode := .cond (.tmp 135) k62_21 k62_31
def k62_33 : SCode := .seq k62_18 k62_32
def k62_34 : SCode := .cond (.tmp 115) k62_17 k62_33
def k62_35 : SCode := .seq k62_14 k62_34
def k62_36 : SCode := .cond (.tmp 101) k62_13 k62_35
def k62_37 : SCode := .seq k62_12 k62_36
def k62_38 : SCode := .block 2 k62_37
def k62_39 : SCode := .seq k62_11 k62_38
def k62_40 : SCode := .reg [⟨some 142, none, .mov (.tmp 11), [], false⟩, ⟨some 143, none, .load true 4 (.tmp 2), [], false⟩, ⟨some 144, none, .call 35 [(.tmp 143)], [], false⟩, ⟨some 145, none, .bin .sub (.tmp 142) (.tmp 144), [], false⟩, ⟨some 146, none, .fld 1 (.tmp 8), [], false⟩, ⟨none, none, .store 1 (.tmp 146) (.tmp 145), [], false⟩] [1, 2, 5, 6, 8]
def k62_41 : SCode := .reg [⟨some 147, none, .fld 1 (.tmp 8), [], false⟩, ⟨some 148, none, .load false 1 (.tmp 147), [], false⟩, ⟨some 149, none, .bin .geq (.tmp 148) (.const (.int .i64 0)), [], false⟩] [1, 2, 5, 6, 8, 149]
def k62_42 : SCode := .reg [⟨some 150, none, .mov (.tmp 5), [], false⟩, ⟨some 151, none, .load true 3 (.tmp 8), [], false⟩, ⟨some 152, none, .buildSl 73 3 [(.int .i64 0), (.int .i64 0), (.int .i64 0)] 1 [(0, (.tmp 151))], [], false⟩, ⟨some 153, none, .append 73 3 24 (.tmp 150) (.tmp 152), [], false⟩, ⟨some 5, none, .mov (.tmp 153), [], false⟩] [1, 2, 5, 6]
def k62_43 : SCode := .cond (.tmp 149) k62_42 .skip
def k62_44 : SCode := .seq k62_41 k62_43
def k62_45 : SCode := .seq k62_40 k62_44
def k62_46 : SCode := .seq k62_39 k62_45
def k62_47 : SCode := .seq k62_10 k62_46
def k62_48 : SCode := .seq k62_9 k62_47
def k62_49 : SCode := .seq k62_8 k62_48
def k62_50 : SCode := .seq k62_7 k62_49
def k62_51 : SCode := .seq k62_6 k62_50
def k62_52 : SCode := .block 1 k62_51
def k62_53 : SCode := .reg [⟨some 25, none, .mov (.tmp 6), [], false⟩, ⟨some 26, none, .bin .add (.tmp 25) (.const (.int .i64 1)), [], false⟩, ⟨some 6, none, .mov (.tmp 26), [], false⟩] [1, 2, 5, 6]
def k62_54 : SCode := .seq k62_52 k62_53
def k62_55 : SCode := .seq k62_5 k62_54
def k62_56 : SCode := .loop k62_55
def k62_57 : SCode := .block 0 k62_56
def k62_58 : SCode := .seq k62_2 k62_57
def k62_59 : SCode := .reg [⟨some 154, none, .mov (.tmp 5), [], false⟩, ⟨some 4, none, .mov (.tmp 154), [], false⟩] [4]
def k62_60 : SCode := .seq k62_59 .ret
def k62_61 : SCode := .seq k62_58 k62_60
def k62_62 : SCode := .seq k62_1 k62_61
def k62_63 : SCode := .seq k62_0 k62_62
theorem flaw_turretlaw08_Office_notes (cs : List CV) (sh : FSh) (t : TypeId) (k : Nat) (rows : List (List CV)) (hl : cs.length ≤ 155) (h : STri (cfF Try.prog [] 155) k62_63 (initT 0 cs) [] (retF (.tmp 4) sh t k rows)) : FC Try.prog 36 cs sh t k rows :=
  fc_of [] follows Try.func36 rfl Try.ntmps36 (by decide) (by kernel_rfl) (by kernel_rfl) hl h
def k63_0 : SCode := .reg [⟨some 2, none, .mov (.const (.slice none 0 0)), [], false⟩] [0]
def k63_1 : SCode := .reg [⟨some 5, none, .buildSl 79 8 [(.int .i64 0), (.int .i64 0), (.int .i64 0), (.int .i64 0), (.int .i64 0), (.int .i64 0), (.int .i64 0), (.slice none 0 0)] 0 [], [], false⟩, ⟨some 6, none, .mov (.tmp 0), [], false⟩, ⟨some 7, none, .append 79 8 80 (.tmp 5) (.tmp 6), [], false⟩, ⟨some 3, none, .mov (.tmp 7), [], false⟩] [3]
def k63_2 : SCode := .reg [⟨some 4, none, .mov (.const (.int .i64 0)), [], false⟩] [3, 4]
def k63_3 : SCode := .reg [⟨some 8, none, .mov (.tmp 4), [], false⟩, ⟨some 9, none, .mov (.tmp 3), [], false⟩, ⟨some 10, none, .len (.tmp 9), [], false⟩, ⟨some 11, none, .bin .lss (.tmp 8) (.tmp 10), [], false⟩] [3, 4, 11]
def k63_4 : SCode := .cond (.tmp 11) .skip (.exit 0)
def k63_5 : SCode := .seq k63_3 k63_4
def k63_6 : SCode := .reg [⟨some 14, none, .mov (.tmp 3), [], false⟩, ⟨some 15, none, .mov (.tmp 4), [], false⟩, ⟨some 16, none, .buildSl 3 1 [(.int .i64 0)] 0 [], [], false⟩, ⟨some 17, none, .mov (.tmp 3), [], false⟩, ⟨some 18, none, .mov (.tmp 4), [], false⟩, ⟨some 19, none, .idxS 8 (.tmp 17) (.tmp 18), [], false⟩, ⟨some 20, none, .fld 7 (.tmp 19), [], false⟩, ⟨some 21, none, .load false 1 (.tmp 20), [], false⟩, ⟨some 22, none, .append 3 1 8 (.tmp 16) (.tmp 21), [], false⟩, ⟨some 23, none, .idxS 8 (.tmp 14) (.tmp 15), [], false⟩, ⟨some 24, none, .fld 7 (.tmp 23), [], false⟩, ⟨none, none, .store 1 (.tmp 24) (.tmp 22), [], false⟩] [3, 4]
def k63_7 : SCode := .block 1 k63_6
def k63_8 : SCode := .reg [⟨some 12, none, .mov (.tmp 4), [], false⟩, ⟨some 13, none, .bin .add (.tmp 12) (.const (.int .i64 1)), [], false⟩, ⟨some 4, none, .mov (.tmp 13), [], false⟩] [3, 4]
def k63_9 : SCode := .seq k63_7 k63_8
def k63_10 : SCode := .seq k63_5 k63_9
def k63_11 : SCode := .loop k63_10
def k63_12 : SCode := .block 0 k63_11
def k63_13 : SCode := .seq k63_2 k63_12
def k63_14 : SCode := .reg [⟨some 25, none, .mov (.tmp 3), [], false⟩, ⟨some 2, none, .mov (.tmp 25), [], false⟩] [2]
def k63_15 : SCode := .seq k63_14 .ret
def k63_16 : SCode := .seq k63_13 k63_15
def k63_17 : SCode := .seq k63_1 k63_16
def k63_18 : SCode := .seq k63_0 k63_17
theorem flaw_turretlaw08_sources (cs : List CV) (sh : FSh) (t : TypeId) (k : Nat) (rows : List (List CV)) (hl : cs.length ≤ 26) (h : STri (cfF Try.prog [] 26) k63_18 (initT 0 cs) [] (retF (.tmp 2) sh t k rows)) : FC Try.prog 14 cs sh t k rows :=
  fc_of [] follows Try.func14 rfl Try.ntmps14 (by decide) (by kernel_rfl) (by kernel_rfl) hl h
def k64_0 : SCode := .reg [⟨some 4, none, .mov (.const (.int .i64 0)), [], false⟩] [0, 1]
def k64_1 : SCode := .reg [⟨some 5, none, .mov (.tmp 0), [], false⟩, ⟨some 6, none, .len (.tmp 5), [], false⟩, ⟨some 7, none, .bin .eql (.tmp 6) (.const (.int .i64 0)), [], false⟩] [0, 1, 7]
def k64_2 : SCode := .reg [⟨some 4, none, .mov (.const (.int .i64 0)), [], false⟩] [4]
def k64_3 : SCode := .seq k64_2 .ret
def k64_4 : SCode := .cond (.tmp 7) k64_3 .skip
def k64_5 : SCode := .seq k64_1 k64_4
def k64_6 : SCode := .reg [⟨some 8, none, .mov (.tmp 0), [], false⟩, ⟨some 9, none, .mov (.tmp 1), [], false⟩, ⟨some 10, none, .mov (.tmp 0), [], false⟩, ⟨some 11, none, .len (.tmp 10), [], false⟩, ⟨some 12, none, .bin .rem (.tmp 9) (.tmp 11), [], false⟩, ⟨some 13, none, .idxS 1 (.tmp 8) (.tmp 12), [], false⟩, ⟨some 14, none, .load false 1 (.tmp 13), [], false⟩, ⟨some 15, none, .conv .i64 (.tmp 14), [], false⟩, ⟨some 4, none, .mov (.tmp 15), [], false⟩] [4]
def k64_7 : SCode := .seq k64_6 .ret
def k64_8 : SCode := .seq k64_5 k64_7
def k64_9 : SCode := .seq k64_0 k64_8
@[simp] def rs_turretlaw08_byteOf : List SRes := [.tmp 4]
theorem law_turretlaw08_byteOf (cs : List CV) (r : CV) (hl : cs.length ≤ 16) (h : STri (cfF Try.prog [] 16) k64_9 (initT 0 cs) [] (retQ rs_turretlaw08_byteOf r)) : SC Try.prog 58 cs r :=
  sc_of [] follows Try.func58 rfl Try.ntmps58 (by decide) (by kernel_rfl) (by kernel_rfl) hl h
def k65_0 : SCode := .reg [⟨some 3, none, .box 66 (.tmp 0), [], false⟩, ⟨some 5, none, .box 76 (.tmp 2), [], false⟩, ⟨some 6, none, .mov (.const (.bool false)), [], false⟩] [1, 3, 5]
def k65_1 : SCode := .reg [⟨some 21, none, .load true 4 (.tmp 3), [], true⟩, ⟨some 22, none, .call 33 [(.tmp 21)], [], true⟩, ⟨some 23, none, .load true 4 (.tmp 3), [], true⟩, ⟨some 24, none, .call 35 [(.tmp 23)], [], true⟩, ⟨some 25, none, .bin .sub (.tmp 24) (.const (.int .i64 100)), [], false⟩, ⟨some 26, none, .load true 4 (.tmp 3), [], true⟩, ⟨some 27, none, .call 35 [(.tmp 26)], [], true⟩, ⟨some 28, none, .bin .add (.tmp 27) (.const (.int .i64 100)), [], false⟩, ⟨some 29, none, .call 34 [(.tmp 25), (.tmp 28)], [], true⟩, ⟨some 8, none, .alloc 25 [(.int .i64 0), (.int .i64 0)], [0, 1, 2, 3, 5, 6, 8], false⟩, ⟨some 7, none, .mov (.tmp 22), [], false⟩, ⟨none, none, .store 2 (.tmp 8) (.tmp 29), [], false⟩] [1, 3, 5, 7, 8]
def k65_2 : SCode := .reg [⟨some 30, none, .load true 4 (.tmp 3), [], false⟩, ⟨some 31, none, .mov (.tmp 7), [], false⟩, ⟨some 32, none, .callG 36 [(.tmp 30), (.tmp 31)], [], true⟩, ⟨some 33, none, .mov (.tmp 1), [], false⟩, ⟨some 34, none, .conv .i64 (.tmp 33), [], false⟩, ⟨some 35, none, .mov (.tmp 7), [], false⟩, ⟨some 36, none, .len (.tmp 35), [2], false⟩, ⟨some 37, none, .bin .rem (.tmp 34) (.tmp 36), [], false⟩, ⟨some 9, none, .mov (.tmp 32), [], false⟩, ⟨some 10, none, .mov (.tmp 37), [], false⟩] [5, 7, 8, 9, 10]
def k65_3 : SCode := .reg [⟨some 38, none, .buildSl 73 3 [(.int .i64 0), (.int .i64 0), (.int .i64 0)] 0 [], [], false⟩, ⟨some 11, none, .mov (.tmp 38), [], false⟩] [5, 7, 8, 9, 10, 11]
def k65_4 : SCode := .reg [⟨some 12, none, .mov (.const (.int .i64 0)), [], false⟩] [5, 7, 8, 9, 10, 11, 12]
def k65_5 : SCode := .reg [⟨some 39, none, .mov (.tmp 12), [], false⟩, ⟨some 40, none, .mov (.tmp 9), [], false⟩, ⟨some 41, none, .len (.tmp 40), [], false⟩, ⟨some 42, none, .bin .lss (.tmp 39) (.tmp 41), [], false⟩] [5, 7, 8, 9, 10, 11, 12, 42]
def k65_6 : SCode := .cond (.tmp 42) .skip (.exit 0)
def k65_7 : SCode := .seq k65_5 k65_6
def k65_8 : SCode := .reg [⟨some 45, none, .mov (.tmp 9), [], false⟩, ⟨some 46, none, .mov (.tmp 12), [], false⟩, ⟨some 47, none, .idxS 3 (.tmp 45) (.tmp 46), [], false⟩, ⟨some 48, none, .fld 0 (.tmp 47), [], false⟩, ⟨some 49, none, .load false 1 (.tmp 48), [], false⟩, ⟨some 50, none, .mov (.tmp 10), [], false⟩, ⟨some 51, none, .bin .neq (.tmp 49) (.tmp 50), [], false⟩] [5, 7, 8, 9, 10, 11, 12, 51]
def k65_9 : SCode := .reg [⟨some 52, none, .mov (.tmp 11), [], false⟩, ⟨some 53, none, .mov (.tmp 9), [], false⟩, ⟨some 54, none, .mov (.tmp 12), [], false⟩, ⟨some 55, none, .idxS 3 (.tmp 53) (.tmp 54), [], false⟩, ⟨some 56, none, .load true 3 (.tmp 55), [], false⟩, ⟨some 57, none, .buildSl 73 3 [(.int .i64 0), (.int .i64 0), (.int .i64 0)] 1 [(0, (.tmp 56))], [], false⟩, ⟨some 58, none, .append 73 3 24 (.tmp 52) (.tmp 57), [], false⟩, ⟨some 11, none, .mov (.tmp 58), [], false⟩] [5, 7, 8, 9, 10, 11, 12]
def k65_10 : SCode := .seq k65_9 (.exit 1)
def k65_11 : SCode := .cond (.tmp 51) k65_10 .skip
def k65_12 : SCode := .seq k65_8 k65_11
def k65_13 : SCode := .reg [⟨some 59, none, .mov (.tmp 7), [], false⟩, ⟨some 60, none, .mov (.tmp 10), [], false⟩, ⟨some 61, none, .idxS 8 (.tmp 59) (.tmp 60), [], false⟩, ⟨some 62, none, .fld 0 (.tmp 61), [], false⟩, ⟨some 63, none, .load false 1 (.tmp 62), [], false⟩] [5, 7, 8, 9, 10, 11, 12, 63]
def k65_14 : SCode := .reg [⟨some 82, none, .bin .eql (.tmp 63) (.const (.int .i64 1)), [], false⟩, ⟨some 81, none, .mov (.tmp 82), [], false⟩] [5, 7, 8, 9, 10, 11, 12, 63, 81]
def k65_15 : SCode := .reg [⟨some 83, none, .mov (.tmp 9), [], false⟩, ⟨some 84, none, .mov (.tmp 12), [], false⟩, ⟨some 85, none, .mov (.tmp 9), [], false⟩, ⟨some 86, none, .mov (.tmp 12), [], false⟩, ⟨some 87, none, .idxS 3 (.tmp 85) (.tmp 86), [], false⟩, ⟨some 88, none, .fld 2 (.tmp 87), [], false⟩, ⟨some 89, none, .load false 1 (.tmp 88), [], false⟩, ⟨some 90, none, .mov (.tmp 12), [], false⟩, ⟨some 91, none, .bin .rem (.tmp 90) (.const (.int .i64 3)), [], false⟩, ⟨some 92, none, .idxA 3 1 (.tmp 5) (.tmp 91), [], false⟩, ⟨some 93, none, .load false 1 (.tmp 92), [], false⟩, ⟨some 94, none, .conv .i64 (.tmp 93), [], false⟩, ⟨some 95, none, .bin .add (.tmp 89) (.tmp 94), [], false⟩, ⟨some 96, none, .bin .sub (.tmp 95) (.const (.int .i64 100)), [], false⟩, ⟨some 97, none, .call 39 [(.tmp 96), (.const (.int .i64 43200))], [], false⟩, ⟨some 98, none, .idxS 3 (.tmp 83) (.tmp 84), [], false⟩, ⟨some 99, none, .fld 2 (.tmp 98), [], false⟩, ⟨none, none, .store 1 (.tmp 99) (.tmp 97), [], false⟩] [5, 7, 8, 9, 10, 11, 12]
def k65_16 : SCode := .reg [⟨some 101, none, .bin .eql (.tmp 63) (.const (.int .i64 4)), [], false⟩, ⟨some 100, none, .mov (.tmp 101), [], false⟩] [5, 7, 8, 9, 10, 11, 12, 100]
def k65_17 : SCode := .reg [⟨some 102, none, .mov (.tmp 9), [], false⟩, ⟨some 103, none, .mov (.tmp 12), [], false⟩, ⟨some 104, none, .mov (.tmp 9), [], false⟩, ⟨some 105, none, .mov (.tmp 12), [], false⟩, ⟨some 106, none, .idxS 3 (.tmp 104) (.tmp 105), [], false⟩, ⟨some 107, none, .fld 2 (.tmp 106), [], false⟩, ⟨some 108, none, .load false 1 (.tmp 107), [], false⟩, ⟨some 109, none, .mov (.tmp 12), [], false⟩, ⟨some 110, none, .bin .rem (.tmp 109) (.const (.int .i64 3)), [], false⟩, ⟨some 111, none, .idxA 3 1 (.tmp 5) (.tmp 110), [], false⟩, ⟨some 112, none, .load false 1 (.tmp 111), [], false⟩, ⟨some 113, none, .conv .i64 (.tmp 112), [], false⟩, ⟨some 114, none, .bin .add (.tmp 108) (.tmp 113), [], false⟩, ⟨some 115, none, .bin .sub (.tmp 114) (.const (.int .i64 100)), [], false⟩, ⟨some 116, none, .max [(.const (.int .i64 0)), (.tmp 115)], [], false⟩, ⟨some 117, none, .idxS 3 (.tmp 102) (.tmp 103), [], false⟩, ⟨some 118, none, .fld 2 (.tmp 117), [], false⟩, ⟨none, none, .store 1 (.tmp 118) (.tmp 116), [], false⟩] [5, 7, 8, 9, 10, 11, 12]
def k65_18 : SCode := .reg [⟨some 64, none, .mov (.tmp 9), [], false⟩, ⟨some 65, none, .mov (.tmp 12), [], false⟩, ⟨some 66, none, .mov (.tmp 9), [], false⟩, ⟨some 67, none, .mov (.tmp 12), [], false⟩, ⟨some 68, none, .idxS 3 (.tmp 66) (.tmp 67), [], false⟩, ⟨some 69, none, .fld 1 (.tmp 68), [], false⟩, ⟨some 70, none, .load false 1 (.tmp 69), [], false⟩, ⟨some 71, none, .mov (.tmp 12), [], false⟩, ⟨some 72, none, .bin .rem (.tmp 71) (.const (.int .i64 3)), [], false⟩, ⟨some 73, none, .idxA 3 1 (.tmp 5) (.tmp 72), [], false⟩, ⟨some 74, none, .load false 1 (.tmp 73), [], false⟩, ⟨some 75, none, .conv .i64 (.tmp 74), [], false⟩, ⟨some 76, none, .bin .add (.tmp 70) (.tmp 75), [], false⟩, ⟨some 77, none, .bin .sub (.tmp 76) (.const (.int .i64 100)), [], false⟩, ⟨some 78, none, .max [(.const (.int .i64 0)), (.tmp 77)], [], false⟩, ⟨some 79, none, .idxS 3 (.tmp 64) (.tmp 65), [], false⟩, ⟨some 80, none, .fld 1 (.tmp 79), [], false⟩, ⟨none, none, .store 1 (.tmp 80) (.tmp 78), [], false⟩] [5, 7, 8, 9, 10, 11, 12]
def k65_19 : SCode := .cond (.tmp 100) k65_17 k65_18
def k65_20 : SCode := .seq k65_16 k65_19
def k65_21 : SCode := .cond (.tmp 81) k65_15 k65_20
def k65_22 : SCode := .seq k65_14 k65_21
def k65_23 : SCode := .block 2 k65_22
def k65_24 : SCode := .seq k65_13 k65_23
def k65_25 : SCode := .seq k65_12 k65_24
def k65_26 : SCode := .block 1 k65_25
def k65_27 : SCode := .reg [⟨some 43, none, .mov (.tmp 12), [], false⟩, ⟨some 44, none, .bin .add (.tmp 43) (.const (.int .i64 1)), [], false⟩, ⟨some 12, none, .mov (.tmp 44), [], false⟩] [5, 7, 8, 9, 10, 11, 12]
def k65_28 : SCode := .seq k65_26 k65_27
def k65_29 : SCode := .seq k65_7 k65_28
def k65_30 : SCode := .loop k65_29
def k65_31 : SCode := .block 0 k65_30
def k65_32 : SCode := .seq k65_4 k65_31
def k65_33 : SCode := .reg [⟨some 120, none, .mov (.tmp 7), [], false⟩, ⟨some 121, none, .callG 14 [(.tmp 120)], [], true⟩, ⟨some 122, none, .mov (.tmp 9), [], false⟩, ⟨some 123, none, .call 15 [(.tmp 122)], [], false⟩, ⟨some 124, none, .load true 2 (.tmp 8), [1], false⟩, ⟨some 125, none, .call 26 [(.tmp 121), (.tmp 123), (.tmp 124)], [], false⟩, ⟨some 119, none, .mov (.tmp 125), [], false⟩, ⟨some 126, none, .ext (.tmp 119) 0, [], false⟩, ⟨some 127, none, .ext (.tmp 119) 1, [], false⟩, ⟨some 13, none, .mov (.tmp 126), [], false⟩, ⟨some 14, none, .mov (.tmp 127), [], false⟩] [7, 8, 9, 10, 11, 13, 14]
def k65_34 : SCode := .reg [⟨some 129, none, .mov (.tmp 7), [], false⟩, ⟨some 130, none, .callG 14 [(.tmp 129)], [], true⟩, ⟨some 131, none, .mov (.tmp 9), [], false⟩, ⟨some 132, none, .call 15 [(.tmp 131)], [], false⟩, ⟨some 133, none, .load true 2 (.tmp 8), [1], false⟩, ⟨some 134, none, .call 27 [(.tmp 130), (.tmp 132), (.tmp 133)], [], false⟩, ⟨some 128, none, .mov (.tmp 134), [], false⟩, ⟨some 135, none, .ext (.tmp 128) 0, [], false⟩, ⟨some 136, none, .ext (.tmp 128) 1, [], false⟩, ⟨some 15, none, .mov (.tmp 135), [], false⟩, ⟨some 16, none, .mov (.tmp 136), [], false⟩] [7, 8, 10, 11, 13, 14, 15, 16]
def k65_35 : SCode := .reg [⟨some 138, none, .mov (.tmp 7), [], false⟩, ⟨some 139, none, .callG 14 [(.tmp 138)], [], true⟩, ⟨some 140, none, .mov (.tmp 11), [], false⟩, ⟨some 141, none, .call 15 [(.tmp 140)], [], false⟩, ⟨some 142, none, .load true 2 (.tmp 8), [1], false⟩, ⟨some 143, none, .call 16 [(.tmp 139), (.tmp 141), (.tmp 142)], [], false⟩, ⟨some 137, none, .mov (.tmp 143), [], false⟩, ⟨some 144, none, .ext (.tmp 137) 0, [], false⟩, ⟨some 145, none, .ext (.tmp 137) 1, [], false⟩, ⟨some 17, none, .mov (.tmp 144), [], false⟩, ⟨some 18, none, .mov (.tmp 145), [], false⟩] [10, 13, 14, 15, 16, 18]
def k65_36 : SCode := .reg [⟨some 146, none, .mov (.tmp 14), [], false⟩, ⟨some 147, none, .bin .neq (.tmp 146) (.const (.int .i64 0)), [], false⟩, ⟨some 148, none, .mov (.tmp 147), [], false⟩, ⟨some 149, (some (148, false)), .mov (.tmp 18), [], false⟩, ⟨some 150, (some (148, false)), .bin .neq (.tmp 149) (.const (.int .i64 0)), [], false⟩, ⟨some 151, none, .pick (.tmp 148) (.const (.bool true)) (.tmp 150), [], false⟩, ⟨some 152, none, .mov (.tmp 151), [], false⟩, ⟨some 153, (some (152, false)), .mov (.tmp 13), [], false⟩, ⟨some 154, (some (152, false)), .len (.tmp 153), [], false⟩, ⟨some 155, (some (152, false)), .bin .lss (.tmp 154) (.const (.int .i64 1)), [], false⟩, ⟨some 156, none, .pick (.tmp 152) (.const (.bool true)) (.tmp 155), [], false⟩, ⟨some 157, none, .mov (.tmp 156), [], false⟩, ⟨some 158, (some (157, false)), .mov (.tmp 13), [], false⟩, ⟨some 159, (some (157, false)), .idxS 1 (.tmp 158) (.const (.int .i64 0)), [], false⟩, ⟨some 160, (some (157, false)), .load false 1 (.tmp 159), [], false⟩, ⟨some 161, (some (157, false)), .len (.tmp 160), [], false⟩, ⟨some 162, (some (157, false)), .bin .gtr (.tmp 161) (.const (.int .i64 1)), [], false⟩, ⟨some 163, none, .pick (.tmp 157) (.const (.bool true)) (.tmp 162), [], false⟩] [10, 13, 15, 16, 163]
def k65_37 : SCode := .reg [⟨some 6, none, .mov (.const (.bool false)), [], false⟩] [6]
def k65_38 : SCode := .seq k65_37 .ret
def k65_39 : SCode := .cond (.tmp 163) k65_38 .skip
def k65_40 : SCode := .seq k65_36 k65_39
def k65_41 : SCode := .reg [⟨some 164, none, .mov (.tmp 13), [], false⟩, ⟨some 165, none, .idxS 1 (.tmp 164) (.const (.int .i64 0)), [], false⟩, ⟨some 166, none, .load false 1 (.tmp 165), [], false⟩, ⟨some 167, none, .len (.tmp 166), [], false⟩, ⟨some 168, none, .bin .eql (.tmp 167) (.const (.int .i64 0)), [], false⟩, ⟨some 19, none, .mov (.tmp 168), [], false⟩] [10, 13, 15, 16, 19]
def k65_42 : SCode := .reg [⟨some 20, none, .mov (.const (.int .i64 0)), [], false⟩] [10, 13, 15, 16, 19, 20]
def k65_43 : SCode := .reg [⟨some 169, none, .mov (.tmp 20), [], false⟩, ⟨some 170, none, .mov (.tmp 13), [], false⟩, ⟨some 171, none, .len (.tmp 170), [], false⟩, ⟨some 172, none, .bin .lss (.tmp 169) (.tmp 171), [], false⟩] [10, 13, 15, 16, 19, 20, 172]
def k65_44 : SCode := .cond (.tmp 172) .skip (.exit 3)
def k65_45 : SCode := .seq k65_43 k65_44
def k65_46 : SCode := .reg [⟨some 175, none, .mov (.tmp 19), [], false⟩, ⟨some 176, none, .mov (.tmp 175), [], false⟩, ⟨some 177, (some (176, false)), .mov (.tmp 13), [], false⟩, ⟨some 178, (some (176, false)), .mov (.tmp 20), [], false⟩, ⟨some 179, (some (176, false)), .idxS 1 (.tmp 177) (.tmp 178), [], false⟩, ⟨some 180, (some (176, false)), .load false 1 (.tmp 179), [], false⟩, ⟨some 181, (some (176, false)), .len (.tmp 180), [], false⟩, ⟨some 182, (some (176, false)), .bin .eql (.tmp 181) (.const (.int .i64 1)), [], false⟩, ⟨some 183, (some (176, false)), .mov (.tmp 182), [], false⟩, ⟨some 184, (some (183, true)), .mov (.tmp 13), [], false⟩, ⟨some 185, (some (183, true)), .mov (.tmp 20), [], false⟩, ⟨some 186, (some (183, true)), .idxS 1 (.tmp 184) (.tmp 185), [], false⟩, ⟨some 187, (some (183, true)), .load false 1 (.tmp 186), [], false⟩, ⟨some 188, (some (183, true)), .idxS 1 (.tmp 187) (.const (.int .i64 0)), [], false⟩, ⟨some 189, (some (183, true)), .load false 1 (.tmp 188), [], false⟩, ⟨some 190, (some (183, true)), .mov (.tmp 10), [], false⟩, ⟨some 191, (some (183, true)), .bin .eql (.tmp 189) (.tmp 190), [], false⟩, ⟨some 192, (some (176, false)), .pick (.tmp 183) (.tmp 191) (.const (.bool false)), [], false⟩, ⟨some 193, none, .pick (.tmp 176) (.const (.bool true)) (.tmp 192), [], false⟩, ⟨some 19, none, .mov (.tmp 193), [], false⟩] [10, 13, 15, 16, 19, 20]
def k65_47 : SCode := .block 4 k65_46
def k65_48 : SCode := .reg [⟨some 173, none, .mov (.tmp 20), [], false⟩, ⟨some 174, none, .bin .add (.tmp 173) (.const (.int .i64 1)), [], false⟩, ⟨some 20, none, .mov (.tmp 174), [], false⟩] [10, 13, 15, 16, 19, 20]
def k65_49 : SCode := .seq k65_47 k65_48
def k65_50 : SCode := .seq k65_45 k65_49
def k65_51 : SCode := .loop k65_50
def k65_52 : SCode := .block 3 k65_51
def k65_53 : SCode := .seq k65_42 k65_52
def k65_54 : SCode := .reg [⟨some 194, none, .mov (.tmp 16), [], false⟩] [10, 13, 15, 16, 19, 194]
def k65_55 : SCode := .reg [⟨some 196, none, .bin .eql (.tmp 194) (.const (.int .i64 0)), [], false⟩, ⟨some 195, none, .mov (.tmp 196), [], false⟩] [10, 13, 15, 16, 19, 194, 195]
def k65_56 : SCode := .reg [⟨some 197, none, .mov (.tmp 19), [], false⟩, ⟨some 198, none, .mov (.tmp 197), [], false⟩, ⟨some 199, (some (198, true)), .mov (.tmp 15), [], false⟩, ⟨some 200, (some (198, true)), .mov (.tmp 10), [], false⟩, ⟨some 201, (some (198, true)), .bin .eql (.tmp 199) (.tmp 200), [], false⟩, ⟨some 202, none, .pick (.tmp 198) (.tmp 201) (.const (.bool false)), [], false⟩, ⟨some 203, none, .mov (.tmp 202), [], false⟩, ⟨some 204, (some (203, true)), .mov (.tmp 13), [], false⟩, ⟨some 205, (some (203, true)), .len (.tmp 204), [], false⟩, ⟨some 206, (some (203, true)), .bin .eql (.tmp 205) (.const (.int .i64 1)), [], false⟩, ⟨some 207, none, .pick (.tmp 203) (.tmp 206) (.const (.bool false)), [], false⟩, ⟨some 208, none, .mov (.tmp 207), [], false⟩, ⟨some 209, (some (208, true)), .mov (.tmp 13), [], false⟩, ⟨some 210, (some (208, true)), .idxS 1 (.tmp 209) (.const (.int .i64 0)), [], false⟩, ⟨some 211, (some (208, true)), .load false 1 (.tmp 210), [], false⟩, ⟨some 212, (some (208, true)), .len (.tmp 211), [], false⟩, ⟨some 213, (some (208, true)), .bin .eql (.tmp 212) (.const (.int .i64 1)), [], false⟩, ⟨some 214, none, .pick (.tmp 208) (.tmp 213) (.const (.bool false)), [], false⟩, ⟨some 215, none, .mov (.tmp 214), [], false⟩, ⟨some 216, (some (215, true)), .call 13 [], [], false⟩, ⟨some 217, none, .pick (.tmp 215) (.tmp 216) (.const (.bool false)), [], false⟩, ⟨some 6, none, .mov (.tmp 217), [], false⟩] [6]
def k65_57 : SCode := .seq k65_56 .ret
def k65_58 : SCode := .reg [⟨some 219, none, .bin .eql (.tmp 194) (.const (.int .i64 7)), [], false⟩, ⟨some 218, none, .mov (.tmp 219), [], false⟩] [13, 15, 16, 19, 218]
def k65_59 : SCode := .reg [⟨some 220, none, .mov (.tmp 19), [], false⟩, ⟨some 221, none, .mov (.tmp 220), [], false⟩, ⟨some 222, (some (221, true)), .mov (.tmp 13), [], false⟩, ⟨some 223, (some (221, true)), .idxS 1 (.tmp 222) (.const (.int .i64 0)), [], false⟩, ⟨some 224, (some (221, true)), .load false 1 (.tmp 223), [], false⟩, ⟨some 225, (some (221, true)), .len (.tmp 224), [], false⟩, ⟨some 226, (some (221, true)), .bin .eql (.tmp 225) (.const (.int .i64 0)), [], false⟩, ⟨some 227, none, .pick (.tmp 221) (.tmp 226) (.const (.bool false)), [], false⟩, ⟨some 228, none, .mov (.tmp 227), [], false⟩, ⟨some 229, (some (228, true)), .mov (.tmp 15), [], false⟩, ⟨some 230, (some (228, true)), .bin .eql (.tmp 229) (.const (.int .i64 0)), [], false⟩, ⟨some 231, none, .pick (.tmp 228) (.tmp 230) (.const (.bool false)), [], false⟩, ⟨some 232, none, .mov (.tmp 231), [], false⟩, ⟨some 233, (some (232, true)), .call 13 [], [], false⟩, ⟨some 234, none, .pick (.tmp 232) (.tmp 233) (.const (.bool false)), [], false⟩, ⟨some 6, none, .mov (.tmp 234), [], false⟩] [6]
def k65_60 : SCode := .seq k65_59 .ret
def k65_61 : SCode := .cond (.tmp 218) k65_60 .skip
def k65_62 : SCode := .seq k65_58 k65_61
def k65_63 : SCode := .cond (.tmp 195) k65_57 k65_62
def k65_64 : SCode := .seq k65_55 k65_63
def k65_65 : SCode := .block 5 k65_64
def k65_66 : SCode := .seq k65_54 k65_65
def k65_67 : SCode := .reg [⟨some 235, none, .mov (.tmp 16), [], false⟩, ⟨some 236, none, .bin .eql (.tmp 235) (.const (.int .i64 6)), [], false⟩, ⟨some 237, none, .mov (.tmp 236), [], false⟩, ⟨some 238, (some (237, true)), .mov (.tmp 19), [], false⟩, ⟨some 239, none, .pick (.tmp 237) (.tmp 238) (.const (.bool false)), [], false⟩, ⟨some 240, none, .mov (.tmp 239), [], false⟩, ⟨some 241, (some (240, true)), .mov (.tmp 13), [], false⟩, ⟨some 242, (some (240, true)), .len (.tmp 241), [], false⟩, ⟨some 243, (some (240, true)), .bin .gtr (.tmp 242) (.const (.int .i64 1)), [], false⟩, ⟨some 244, none, .pick (.tmp 240) (.tmp 243) (.const (.bool false)), [], false⟩, ⟨some 245, none, .mov (.tmp 244), [], false⟩, ⟨some 246, (some (245, true)), .mov (.tmp 15), [], false⟩, ⟨some 247, (some (245, true)), .bin .eql (.tmp 246) (.const (.int .i64 0)), [], false⟩, ⟨some 248, none, .pick (.tmp 245) (.tmp 247) (.const (.bool false)), [], false⟩, ⟨some 249, none, .mov (.tmp 248), [], false⟩, ⟨some 250, (some (249, true)), .call 13 [], [], false⟩, ⟨some 251, none, .pick (.tmp 249) (.tmp 250) (.const (.bool false)), [], false⟩, ⟨some 6, none, .mov (.tmp 251), [], false⟩] [6]
def k65_68 : SCode := .seq k65_67 .ret
def k65_69 : SCode := .seq k65_66 k65_68
def k65_70 : SCode := .seq k65_53 k65_69
def k65_71 : SCode := .seq k65_41 k65_70
def k65_72 : SCode := .seq k65_40 k65_71
def k65_73 : SCode := .seq k65_35 k65_72
def k65_74 : SCode := .seq k65_34 k65_73
def k65_75 : SCode := .seq k65_33 k65_74
def k65_76 : SCode := .seq k65_32 k65_75
def k65_77 : SCode := .seq k65_3 k65_76
def k65_78 : SCode := .seq k65_2 k65_77
def k65_79 : SCode := .seq k65_1 k65_78
def k65_80 : SCode := .seq k65_0 k65_79
theorem glaw_turretlaw08_WireLiar (cs : List CV) (r : CV) (hl : cs.length ≤ 252) (h : STri (cfF Try.prog fresh 252) k65_80 (initT 0 cs) [] (retQ rs_turretlaw08_WireLiar r)) : SC Try.prog 7 cs r :=
  sc_of fresh follows Try.func7 rfl Try.ntmps7 (by decide) (by kernel_rfl) (by kernel_rfl) hl h
def k66_0 : SCode := .reg [⟨some 3, none, .box 66 (.tmp 0), [], false⟩, ⟨some 4, none, .box 82 (.tmp 1), [], false⟩, ⟨some 6, none, .mov (.const (.bool false)), [], false⟩] [2, 3, 4]
def k66_1 : SCode := .reg [⟨some 20, none, .load true 4 (.tmp 3), [], true⟩, ⟨some 21, none, .call 33 [(.tmp 20)], [], true⟩, ⟨some 22, none, .load true 4 (.tmp 3), [], true⟩, ⟨some 23, none, .call 35 [(.tmp 22)], [], true⟩, ⟨some 24, none, .bin .sub (.tmp 23) (.const (.int .i64 60)), [], false⟩, ⟨some 25, none, .load true 4 (.tmp 3), [], true⟩, ⟨some 26, none, .call 35 [(.tmp 25)], [], true⟩, ⟨some 27, none, .bin .add (.tmp 26) (.const (.int .i64 60)), [], false⟩, ⟨some 28, none, .call 34 [(.tmp 24), (.tmp 27)], [], true⟩, ⟨some 8, none, .alloc 25 [(.int .i64 0), (.int .i64 0)], [0, 1, 2, 3, 5, 6, 8], false⟩, ⟨some 7, none, .mov (.tmp 21), [], false⟩, ⟨none, none, .store 2 (.tmp 8) (.tmp 28), [], false⟩] [2, 3, 4, 7, 8]
def k66_2 : SCode := .reg [⟨some 29, none, .load true 4 (.tmp 3), [], false⟩, ⟨some 30, none, .mov (.tmp 7), [], false⟩, ⟨some 31, none, .callG 36 [(.tmp 29), (.tmp 30)], [], true⟩, ⟨some 32, none, .mov (.tmp 2), [], false⟩, ⟨some 33, none, .conv .i64 (.tmp 32), [], false⟩, ⟨some 34, none, .mov (.tmp 7), [], false⟩, ⟨some 35, none, .len (.tmp 34), [2], false⟩, ⟨some 36, none, .bin .rem (.tmp 33) (.tmp 35), [], false⟩, ⟨some 9, none, .mov (.tmp 31), [], false⟩, ⟨some 10, none, .mov (.tmp 36), [], false⟩] [4, 7, 8, 9, 10]
def k66_3 : SCode := .reg [⟨some 11, none, .mov (.const (.int .i64 0)), [], false⟩] [4, 7, 8, 9, 10, 11]
def k66_4 : SCode := .reg [⟨some 37, none, .mov (.tmp 11), [], false⟩, ⟨some 38, none, .mov (.tmp 9), [], false⟩, ⟨some 39, none, .len (.tmp 38), [], false⟩, ⟨some 40, none, .bin .lss (.tmp 37) (.tmp 39), [], false⟩] [4, 7, 8, 9, 10, 11, 40]
def k66_5 : SCode := .cond (.tmp 40) .skip (.exit 0)
def k66_6 : SCode := .seq k66_4 k66_5
def k66_7 : SCode := .reg [⟨some 43, none, .mov (.tmp 9), [], false⟩, ⟨some 44, none, .mov (.tmp 11), [], false⟩, ⟨some 45, none, .idxS 3 (.tmp 43) (.tmp 44), [], false⟩, ⟨some 46, none, .fld 0 (.tmp 45), [], false⟩, ⟨some 47, none, .load false 1 (.tmp 46), [], false⟩, ⟨some 48, none, .mov (.tmp 10), [], false⟩, ⟨some 49, none, .bin .eql (.tmp 47) (.tmp 48), [], false⟩, ⟨some 50, none, .mov (.tmp 49), [], false⟩, ⟨some 51, (some (50, true)), .mov (.tmp 11), [], false⟩, ⟨some 52, (some (50, true)), .idxA 8 1 (.tmp 4) (.tmp 51), [], false⟩, ⟨some 53, (some (50, true)), .load false 1 (.tmp 52), [], false⟩, ⟨some 54, (some (50, true)), .bin .geq (.tmp 53) (.const (.int .u8 100)), [], false⟩, ⟨some 55, none, .pick (.tmp 50) (.tmp 54) (.const (.bool false)), [], false⟩] [4, 7, 8, 9, 10, 11, 55]
def k66_8 : SCode := .reg [⟨some 56, none, .mov (.tmp 9), [], false⟩, ⟨some 57, none, .mov (.tmp 11), [], false⟩, ⟨some 58, none, .mov (.tmp 9), [], false⟩, ⟨some 59, none, .mov (.tmp 11), [], false⟩, ⟨some 60, none, .idxS 3 (.tmp 58) (.tmp 59), [], false⟩, ⟨some 61, none, .fld 1 (.tmp 60), [], false⟩, ⟨some 62, none, .load false 1 (.tmp 61), [], false⟩, ⟨some 63, none, .mov (.tmp 11), [], false⟩, ⟨some 64, none, .idxA 8 1 (.tmp 4) (.tmp 63), [], false⟩, ⟨some 65, none, .load false 1 (.tmp 64), [], false⟩, ⟨some 66, none, .conv .i64 (.tmp 65), [], false⟩, ⟨some 67, none, .bin .add (.tmp 62) (.tmp 66), [], false⟩, ⟨some 68, none, .bin .sub (.tmp 67) (.const (.int .i64 150)), [], false⟩, ⟨some 69, none, .max [(.const (.int .i64 0)), (.tmp 68)], [], false⟩, ⟨some 70, none, .idxS 3 (.tmp 56) (.tmp 57), [], false⟩, ⟨some 71, none, .fld 1 (.tmp 70), [], false⟩, ⟨none, none, .store 1 (.tmp 71) (.tmp 69), [], false⟩] [4, 7, 8, 9, 10, 11]
def k66_9 : SCode := .cond (.tmp 55) k66_8 .skip
def k66_10 : SCode := .seq k66_7 k66_9
def k66_11 : SCode := .block 1 k66_10
def k66_12 : SCode := .reg [⟨some 41, none, .mov (.tmp 11), [], false⟩, ⟨some 42, none, .bin .add (.tmp 41) (.const (.int .i64 1)), [], false⟩, ⟨some 11, none, .mov (.tmp 42), [], false⟩] [4, 7, 8, 9, 10, 11]
def k66_13 : SCode := .seq k66_11 k66_12
def k66_14 : SCode := .seq k66_6 k66_13
def k66_15 : SCode := .loop k66_14
def k66_16 : SCode := .block 0 k66_15
def k66_17 : SCode := .seq k66_3 k66_16
def k66_18 : SCode := .reg [⟨some 73, none, .mov (.tmp 7), [], false⟩, ⟨some 74, none, .callG 14 [(.tmp 73)], [], true⟩, ⟨some 75, none, .mov (.tmp 9), [], false⟩, ⟨some 76, none, .call 15 [(.tmp 75)], [], false⟩, ⟨some 77, none, .load true 2 (.tmp 8), [1], false⟩, ⟨some 78, none, .mov (.tmp 10), [], false⟩, ⟨some 79, none, .call 30 [(.tmp 74), (.tmp 76), (.tmp 77), (.tmp 78)], [], false⟩, ⟨some 72, none, .mov (.tmp 79), [], false⟩, ⟨some 80, none, .ext (.tmp 72) 0, [], false⟩, ⟨some 81, none, .ext (.tmp 72) 1, [], false⟩, ⟨some 12, none, .mov (.tmp 80), [], false⟩, ⟨some 13, none, .mov (.tmp 81), [], false⟩] [7, 8, 9, 10, 12, 13]
def k66_19 : SCode := .reg [⟨some 83, none, .mov (.tmp 7), [], false⟩, ⟨some 84, none, .callG 14 [(.tmp 83)], [], true⟩, ⟨some 85, none, .mov (.tmp 9), [], false⟩, ⟨some 86, none, .call 15 [(.tmp 85)], [], false⟩, ⟨some 87, none, .load true 2 (.tmp 8), [1], false⟩, ⟨some 88, none, .call 16 [(.tmp 84), (.tmp 86), (.tmp 87)], [], false⟩, ⟨some 82, none, .mov (.tmp 88), [], false⟩, ⟨some 89, none, .ext (.tmp 82) 0, [], false⟩, ⟨some 90, none, .ext (.tmp 82) 1, [], false⟩, ⟨some 14, none, .mov (.tmp 89), [], false⟩, ⟨some 15, none, .mov (.tmp 90), [], false⟩] [7, 8, 9, 10, 12, 13, 15]
def k66_20 : SCode := .reg [⟨some 91, none, .mov (.tmp 13), [], false⟩, ⟨some 92, none, .bin .eql (.tmp 91) (.const (.int .i64 9)), [], false⟩] [7, 8, 9, 10, 12, 13, 15, 92]
def k66_21 : SCode := .reg [⟨some 93, none, .mov (.tmp 12), [], false⟩, ⟨some 94, none, .bin .eql (.tmp 93) (.const (.int .i64 0)), [], false⟩, ⟨some 95, none, .mov (.tmp 94), [], false⟩, ⟨some 96, (some (95, true)), .mov (.tmp 15), [], false⟩, ⟨some 97, (some (95, true)), .bin .eql (.tmp 96) (.const (.int .i64 7)), [], false⟩, ⟨some 98, none, .pick (.tmp 95) (.tmp 97) (.const (.bool false)), [], false⟩, ⟨some 99, none, .mov (.tmp 98), [], false⟩, ⟨some 100, (some (99, true)), .call 13 [], [], false⟩, ⟨some 101, none, .pick (.tmp 99) (.tmp 100) (.const (.bool false)), [], false⟩, ⟨some 6, none, .mov (.tmp 101), [], false⟩] [6]
def k66_22 : SCode := .seq k66_21 .ret
def k66_23 : SCode := .cond (.tmp 92) k66_22 .skip
def k66_24 : SCode := .seq k66_20 k66_23
def k66_25 : SCode := .reg [⟨some 102, none, .mov (.tmp 13), [], false⟩, ⟨some 103, none, .bin .neq (.tmp 102) (.const (.int .i64 0)), [], false⟩, ⟨some 104, none, .mov (.tmp 103), [], false⟩, ⟨some 105, (some (104, false)), .mov (.tmp 12), [], false⟩, ⟨some 106, (some (104, false)), .bin .lss (.tmp 105) (.const (.int .i64 0)), [], false⟩, ⟨some 107, none, .pick (.tmp 104) (.const (.bool true)) (.tmp 106), [], false⟩, ⟨some 108, none, .mov (.tmp 107), [], false⟩, ⟨some 109, (some (108, false)), .mov (.tmp 12), [], false⟩, ⟨some 110, (some (108, false)), .bin .gtr (.tmp 109) (.const (.int .i64 10000)), [], false⟩, ⟨some 111, none, .pick (.tmp 108) (.const (.bool true)) (.tmp 110), [], false⟩, ⟨some 112, none, .mov (.tmp 111), [], false⟩, ⟨some 113, (some (112, false)), .mov (.tmp 12), [], false⟩, ⟨some 114, (some (112, false)), .bin .eql (.tmp 113) (.const (.int .i64 0)), [], false⟩, ⟨some 115, (some (112, false)), .mov (.tmp 15), [], false⟩, ⟨some 116, (some (112, false)), .bin .eql (.tmp 115) (.const (.int .i64 0)), [], false⟩, ⟨some 117, (some (112, false)), .binB true (.tmp 114) (.tmp 116), [], false⟩, ⟨some 118, none, .pick (.tmp 112) (.const (.bool true)) (.tmp 117), [], false⟩] [7, 8, 9, 10, 12, 118]
def k66_26 : SCode := .reg [⟨some 6, none, .mov (.const (.bool false)), [], false⟩] [6]
def k66_27 : SCode := .seq k66_26 .ret
def k66_28 : SCode := .cond (.tmp 118) k66_27 .skip
def k66_29 : SCode := .seq k66_25 k66_28
def k66_30 : SCode := .reg [⟨some 16, none, .mov (.const (.int .i64 0)), [], false⟩] [7, 8, 9, 10, 12, 16]
def k66_31 : SCode := .reg [⟨some 119, none, .mov (.tmp 16), [], false⟩, ⟨some 120, none, .bin .lss (.tmp 119) (.const (.int .i64 2)), [], false⟩, ⟨some 121, none, .mov (.tmp 120), [], false⟩, ⟨some 122, (some (121, true)), .mov (.tmp 16), [], false⟩, ⟨some 123, (some (121, true)), .mov (.tmp 12), [], false⟩, ⟨some 124, (some (121, true)), .bin .leq (.tmp 122) (.tmp 123), [], false⟩, ⟨some 125, none, .pick (.tmp 121) (.tmp 124) (.const (.bool false)), [], false⟩] [7, 8, 9, 10, 12, 16, 125]
def k66_32 : SCode := .cond (.tmp 125) .skip (.exit 2)
def k66_33 : SCode := .seq k66_31 k66_32
def k66_34 : SCode := .reg [⟨some 128, none, .mov (.tmp 7), [], false⟩, ⟨some 129, none, .callG 14 [(.tmp 128)], [], false⟩, ⟨some 17, none, .mov (.tmp 129), [], false⟩] [7, 8, 9, 10, 12, 16, 17]
def k66_35 : SCode := .reg [⟨some 130, none, .mov (.tmp 17), [], false⟩, ⟨some 131, none, .mov (.tmp 10), [], false⟩, ⟨some 132, none, .mov (.tmp 7), [], false⟩, ⟨some 133, none, .mov (.tmp 10), [], false⟩, ⟨some 134, none, .idxS 8 (.tmp 132) (.tmp 133), [], false⟩, ⟨some 135, none, .fld 1 (.tmp 134), [], false⟩, ⟨some 136, none, .fld 0 (.tmp 135), [], false⟩, ⟨some 137, none, .load false 1 (.tmp 136), [], false⟩, ⟨some 138, none, .mov (.tmp 12), [], false⟩, ⟨some 139, none, .bin .sub (.tmp 137) (.tmp 138), [], false⟩, ⟨some 140, none, .mov (.tmp 16), [], false⟩, ⟨some 141, none, .bin .add (.tmp 139) (.tmp 140), [], false⟩, ⟨some 142, none, .mov (.tmp 7), [], false⟩, ⟨some 143, none, .mov (.tmp 10), [], false⟩, ⟨some 144, none, .idxS 8 (.tmp 142) (.tmp 143), [], false⟩, ⟨some 145, none, .fld 1 (.tmp 144), [], false⟩, ⟨some 146, none, .fld 1 (.tmp 145), [], false⟩, ⟨some 147, none, .load false 1 (.tmp 146), [], false⟩, ⟨some 148, none, .mov (.tmp 12), [], false⟩, ⟨some 149, none, .bin .add (.tmp 147) (.tmp 148), [], false⟩, ⟨some 150, none, .mov (.tmp 16), [], false⟩, ⟨some 151, none, .bin .sub (.tmp 149) (.tmp 150), [], false⟩, ⟨some 152, none, .call 34 [(.tmp 141), (.tmp 151)], [], false⟩, ⟨some 153, none, .idxS 8 (.tmp 130) (.tmp 131), [], false⟩, ⟨some 154, none, .fld 1 (.tmp 153), [], false⟩, ⟨none, none, .store 2 (.tmp 154) (.tmp 152), [], false⟩] [7, 8, 9, 10, 12, 16, 17]
def k66_36 : SCode := .reg [⟨some 155, none, .mov (.tmp 17), [], false⟩, ⟨some 156, none, .mov (.tmp 10), [], false⟩, ⟨some 157, none, .idxS 8 (.tmp 155) (.tmp 156), [], false⟩, ⟨some 158, none, .fld 1 (.tmp 157), [], false⟩, ⟨some 159, none, .fld 0 (.tmp 158), [], false⟩, ⟨some 160, none, .load false 1 (.tmp 159), [], false⟩, ⟨some 161, none, .bin .lss (.tmp 160) (.const (.int .i64 (-3600))), [], false⟩, ⟨some 162, none, .mov (.tmp 161), [], false⟩, ⟨some 163, (some (162, false)), .mov (.tmp 17), [], false⟩, ⟨some 164, (some (162, false)), .mov (.tmp 10), [], false⟩, ⟨some 165, (some (162, false)), .idxS 8 (.tmp 163) (.tmp 164), [], false⟩, ⟨some 166, (some (162, false)), .fld 1 (.tmp 165), [], false⟩, ⟨some 167, (some (162, false)), .fld 1 (.tmp 166), [], false⟩, ⟨some 168, (some (162, false)), .load false 1 (.tmp 167), [], false⟩, ⟨some 169, (some (162, false)), .bin .gtr (.tmp 168) (.const (.int .i64 3600)), [], false⟩, ⟨some 170, none, .pick (.tmp 162) (.const (.bool true)) (.tmp 169), [], false⟩] [7, 8, 9, 10, 12, 16, 17, 170]
def k66_37 : SCode := .reg [⟨some 171, none, .call 13 [], [], false⟩, ⟨some 6, none, .mov (.tmp 171), [], false⟩] [6]
def k66_38 : SCode := .seq k66_37 .ret
def k66_39 : SCode := .cond (.tmp 170) k66_38 .skip
def k66_40 : SCode := .seq k66_36 k66_39
def k66_41 : SCode := .reg [⟨some 173, none, .mov (.tmp 17), [], false⟩, ⟨some 174, none, .mov (.tmp 9), [], false⟩, ⟨some 175, none, .call 15 [(.tmp 174)], [], false⟩, ⟨some 176, none, .load true 2 (.tmp 8), [], false⟩, ⟨some 177, none, .call 16 [(.tmp 173), (.tmp 175), (.tmp 176)], [], false⟩, ⟨some 172, none, .mov (.tmp 177), [], false⟩, ⟨some 178, none, .ext (.tmp 172) 0, [], false⟩, ⟨some 179, none, .ext (.tmp 172) 1, [], false⟩, ⟨some 18, none, .mov (.tmp 178), [], false⟩, ⟨some 19, none, .mov (.tmp 179), [], false⟩] [7, 8, 9, 10, 12, 16, 19]
def k66_42 : SCode := .reg [⟨some 180, none, .mov (.tmp 19), [], false⟩, ⟨some 181, none, .bin .eql (.tmp 180) (.const (.int .i64 0)), [], false⟩, ⟨some 182, none, .mov (.tmp 16), [], false⟩, ⟨some 183, none, .bin .eql (.tmp 182) (.const (.int .i64 0)), [], false⟩, ⟨some 184, none, .binB true (.tmp 181) (.tmp 183), [], false⟩] [7, 8, 9, 10, 12, 16, 184]
def k66_43 : SCode := .reg [⟨some 6, none, .mov (.const (.bool false)), [], false⟩] [6]
def k66_44 : SCode := .seq k66_43 .ret
def k66_45 : SCode := .cond (.tmp 184) k66_44 .skip
def k66_46 : SCode := .seq k66_42 k66_45
def k66_47 : SCode := .seq k66_41 k66_46
def k66_48 : SCode := .seq k66_40 k66_47
def k66_49 : SCode := .seq k66_35 k66_48
def k66_50 : SCode := .seq k66_34 k66_49
def k66_51 : SCode := .block 3 k66_50
def k66_52 : SCode := .reg [⟨some 126, none, .mov (.tmp 16), [], false⟩, ⟨some 127, none, .bin .add (.tmp 126) (.const (.int .i64 1)), [], false⟩, ⟨some 16, none, .mov (.tmp 127), [], false⟩] [7, 8, 9, 10, 12, 16]
def k66_53 : SCode := .seq k66_51 k66_52
def k66_54 : SCode := .seq k66_33 k66_53
def k66_55 : SCode := .loop k66_54
def k66_56 : SCode := .block 2 k66_55
def k66_57 : SCode := .seq k66_30 k66_56
def k66_58 : SCode := .reg [⟨some 185, none, .call 13 [], [], false⟩, ⟨some 6, none, .mov (.tmp 185), [], false⟩] [6]
def k66_59 : SCode := .seq k66_58 .ret
def k66_60 : SCode := .seq k66_57 k66_59
def k66_61 : SCode := .seq k66_29 k66_60
def k66_62 : SCode := .seq k66_24 k66_61
def k66_63 : SCode := .seq k66_19 k66_62
def k66_64 : SCode := .seq k66_18 k66_63
def k66_65 : SCode := .seq k66_17 k66_64
def k66_66 : SCode := .seq k66_2 k66_65
def k66_67 : SCode := .seq k66_1 k66_66
def k66_68 : SCode := .seq k66_0 k66_67
theorem glaw_turretlaw08_WireWider (cs : List CV) (r : CV) (hl : cs.length ≤ 186) (h : STri (cfF Try.prog fresh 186) k66_68 (initT 0 cs) [] (retQ rs_turretlaw08_WireWider r)) : SC Try.prog 9 cs r :=
  sc_of fresh follows Try.func9 rfl Try.ntmps9 (by decide) (by kernel_rfl) (by kernel_rfl) hl h
end Go.Proofs.Ytakdmliblijgmaa
/- Wire's plain laws, I: an office made of bytes; its sources. -/
namespace Go.Proofs.Ytakdmliblijgmaa
open Go.RowKit
abbrev U8 (n : Int) : CV := .val (.int .u8 n)
structure Sv where
  (a b c d e : Int)
structure Nv where
  (a b c : Int)
structure Of where
  (srcs : List Sv) (notes : List Nv) (by' : Int) (truth : List Int)
def isU8 (n : Int) : Prop := 0 ≤ n ∧ n ≤ 255
structure SvOk (v : Sv) : Prop where
  a : isU8 v.a
  b : isU8 v.b
  c : isU8 v.c
  d : isU8 v.d
  e : isU8 v.e
structure NvOk (v : Nv) : Prop where
  a : isU8 v.a
  b : isU8 v.b
  c : isU8 v.c
structure OfOk (x : Of) : Prop where
  s : ∀ v ∈ x.srcs, SvOk v
  n : ∀ v ∈ x.notes, NvOk v
  y : isU8 x.by'
  t : ∀ n ∈ x.truth, isU8 n
  sl : x.srcs.length ≤ 9223372036854775807
  nl : x.notes.length ≤ 9223372036854775807
  tl : x.truth.length ≤ 9223372036854775807
def rowSv (v : Sv) : List CV := [U8 v.a, U8 v.b, U8 v.c, U8 v.d, U8 v.e]
def rowNv (v : Nv) : List CV := [U8 v.a, U8 v.b, U8 v.c]
def rowY (n : Int) : List CV := [U8 n]
def rowOf (x : Of) : List CV := [.sl 5 (x.srcs.map rowSv), .sl 3 (x.notes.map rowNv), U8 x.by', .sl 1 (x.truth.map rowY)]
def cOf (x : Of) : CV := .agg (rowOf x)
attribute [simp] rowSv rowNv rowY rowOf cOf
def zeroV : Sv := ⟨0, 0, 0, 0, 0⟩
def lowS (v : Sv) : Int := v.b % 30 - 15
def drS (v : Sv) : Int := 50 * (v.e - 128)
def tabTo (v : Sv) (k : Nat) : List Int := (List.range k).map fun (i : Nat) => v.e * ((i : Int) + 1) % 200 - 100
def tabN (v : Sv) : Nat := (1 + v.d % 4).toNat
def srcS (v : Sv) : Wsrc := ⟨1 + v.a % 4, lowS v, lowS v + v.c % 12, 100 * v.d, drS v, drS v + 100 * (v.c % 7), 1 + 37 * v.e, tabTo v (tabN v)⟩
def svAt (x : Of) (i : Nat) : Sv := x.srcs.getD i zeroV
def numS (x : Of) : Nat := if x.srcs.length = 0 then 1 else min x.srcs.length 5
def offL (x : Of) (k : Nat) : List Wsrc := (List.range k).map fun i => srcS (svAt x i)
def offW (x : Of) : List Wsrc := offL x (numS x)
theorem tabTo_succ (v : Sv) (k : Nat) : tabTo v (k + 1) = tabTo v k ++ [v.e * ((k : Int) + 1) % 200 - 100] := by simp [tabTo, List.range_succ]
theorem tabTo_len (v : Sv) (k : Nat) : (tabTo v k).length = k := by simp [tabTo]
theorem offL_succ (x : Of) (k : Nat) : offL x (k + 1) = offL x k ++ [srcS (svAt x k)] := by simp [offL, List.range_succ]
theorem offL_len (x : Of) (k : Nat) : (offL x k).length = k := by simp [offL]
theorem numS_bd (x : Of) : 1 ≤ numS x ∧ numS x ≤ 5 := by unfold numS; split <;> omega
theorem zero_ok : SvOk zeroV := ⟨⟨by decide, by decide⟩, ⟨by decide, by decide⟩, ⟨by decide, by decide⟩, ⟨by decide, by decide⟩, ⟨by decide, by decide⟩⟩
theorem svAt_ok {x : Of} (hx : OfOk x) (i : Nat) : SvOk (svAt x i) := by
  unfold svAt
  rw [List.getD_eq_getElem?_getD]
  cases h : x.srcs[i]? with
  | none => exact zero_ok
  | some v => exact hx.s v (List.mem_of_getElem? h)
theorem lBy (x : Of) (hx : OfOk x) : SC Try.prog 35 [cOf x] (I (x.by' - 128)) := by
  refine law_turretlaw08_Office_by _ _ (by simp) ?_
  obtain ⟨h1, h2⟩ := hx.y
  (repeat' (first | ((first | with_reducible refine st_skip ?_ | with_reducible refine st_exit ?_); (try simp only [seqQ, blockQ, loopQ, forQ, whileQ, reduceIte, Nat.reduceEqDiff])) | (with_reducible refine st_ret ?_; ((try simp only [seqQ, blockQ, loopQ, forQ, whileQ]); first | (with_reducible refine retM_ret ?_) | refine retQ_ret ?_; simp)) | refine st_seq ?_ | refine st_block ?_ | ((with_reducible show (STri _ _ _ _ _) ∧ (STri _ _ _ _ _)); refine And.intro ?_ ?_) | ((first | refine st_reg ?_ | refine buildP_own ?_ | refine appP_own ?_) <;> (simp -dsimp; (repeat (simp -dsimp (disch := (first | omega | assumption | (refine Bool.eq_false_iff.1 ?_; assumption))) only [wrap_in, if_pos, if_neg]; (try simp -dsimp))))) | ((first | refine guardP_of (fun hc => ?_) (fun hc => ?_) | refine st_cond rfl (fun hc => ?_) (fun hc => ?_)) <;> (try simp only [lqA, lqB, lqC, lqD, lqE, lqF, lqG, lqH, lqI, lqJ, lqK, lqL, lqM, lqN, lqO] at hc) <;> (try (exfalso; first | omega | exact bool_tf hc (by assumption) | exact bool_ft hc (by assumption) | exact absurd (by assumption) hc)) <;> (first | with_reducible show STri _ _ _ _ _ _ | (simp -dsimp [hc]; (repeat (simp -dsimp (disch := (first | omega | assumption | (refine Bool.eq_false_iff.1 ?_; assumption))) only [wrap_in, if_pos, if_neg]; (try simp -dsimp [hc]))))))))
  exact .refl _
theorem lRest (n b : Int) (h3 : 0 < b) (h4 : b ≤ 1000000000000) : SC Try.prog 39 [I n, I b] (I (n % b)) := by
  refine law_turretlaw08_rest _ _ (by simp) ?_
  have hne : ¬ b = 0 := by omega
  have hb : IntKind.i64.wrap (n.tmod b + b) = n.tmod b + b := by
    have := tmod_lt n b h3
    exact wrap_in _ (by omega) (by omega)
  have he := mod_eq n b h3
  (repeat' (first | ((first | with_reducible refine st_skip ?_ | with_reducible refine st_exit ?_); (try simp only [seqQ, blockQ, loopQ, forQ, whileQ, reduceIte, Nat.reduceEqDiff])) | (with_reducible refine st_ret ?_; ((try simp only [seqQ, blockQ, loopQ, forQ, whileQ]); first | (with_reducible refine retM_ret ?_) | refine retQ_ret ?_; simp [hne, hb, he])) | refine st_seq ?_ | refine st_block ?_ | ((with_reducible show (STri _ _ _ _ _) ∧ (STri _ _ _ _ _)); refine And.intro ?_ ?_) | ((first | refine st_reg ?_ | refine buildP_own ?_ | refine appP_own ?_) <;> (simp -dsimp [hne, hb, he]; (repeat (simp -dsimp (disch := (first | omega | assumption | (refine Bool.eq_false_iff.1 ?_; assumption))) only [wrap_in, if_pos, if_neg]; (try simp -dsimp [hne, hb, he]))))) | ((first | refine guardP_of (fun hc => ?_) (fun hc => ?_) | refine st_cond rfl (fun hc => ?_) (fun hc => ?_)) <;> (try simp only [lqA, lqB, lqC, lqD, lqE, lqF, lqG, lqH, lqI, lqJ, lqK, lqL, lqM, lqN, lqO] at hc) <;> (try (exfalso; first | omega | exact bool_tf hc (by assumption) | exact bool_ft hc (by assumption) | exact absurd (by assumption) hc)) <;> (first | with_reducible show STri _ _ _ _ _ _ | (simp -dsimp [hne, hb, he, hc]; (repeat (simp -dsimp (disch := (first | omega | assumption | (refine Bool.eq_false_iff.1 ?_; assumption))) only [wrap_in, if_pos, if_neg]; (try simp -dsimp [hne, hb, he, hc]))))))))
  exact .refl _
def byV (l : List Int) (i : Nat) : Int := if l = [] then 0 else l.getD (i % l.length) 0
theorem byV_bd {l : List Int} (h : ∀ n ∈ l, isU8 n) (i : Nat) : isU8 (byV l i) := by
  unfold byV
  split
  · exact ⟨by decide, by decide⟩
  · rename_i hl
    have hlt : i % l.length < l.length := Nat.mod_lt _ (List.length_pos_iff.2 hl)
    have : l.getD (i % l.length) 0 = l[i % l.length] := by simp [hlt]
    rw [this]
    exact h _ (List.getElem_mem hlt)
theorem lByte (l : List Int) (hb : ∀ n ∈ l, isU8 n) (hl : l.length ≤ 9223372036854775807) (i : Nat) (hi : i ≤ 1000000) : SC Try.prog 58 [.sl 1 (l.map rowY), I i] (I (byV l i)) := by
  refine law_turretlaw08_byteOf _ _ (by simp) ?_
  by_cases hn : l = []
  · subst hn
    (repeat' (first | ((first | with_reducible refine st_skip ?_ | with_reducible refine st_exit ?_); (try simp only [seqQ, blockQ, loopQ, forQ, whileQ, reduceIte, Nat.reduceEqDiff])) | (with_reducible refine st_ret ?_; ((try simp only [seqQ, blockQ, loopQ, forQ, whileQ]); first | (with_reducible refine retM_ret ?_) | refine retQ_ret ?_; simp)) | refine st_seq ?_ | refine st_block ?_ | ((with_reducible show (STri _ _ _ _ _) ∧ (STri _ _ _ _ _)); refine And.intro ?_ ?_) | ((first | refine st_reg ?_ | refine buildP_own ?_ | refine appP_own ?_) <;> (simp -dsimp; (repeat (simp -dsimp (disch := (first | omega | assumption | (refine Bool.eq_false_iff.1 ?_; assumption))) only [wrap_in, if_pos, if_neg]; (try simp -dsimp))))) | ((first | refine guardP_of (fun hc => ?_) (fun hc => ?_) | refine st_cond rfl (fun hc => ?_) (fun hc => ?_)) <;> (try simp only [lqA, lqB, lqC, lqD, lqE, lqF, lqG, lqH, lqI, lqJ, lqK, lqL, lqM, lqN, lqO] at hc) <;> (try (exfalso; first | omega | exact bool_tf hc (by assumption) | exact bool_ft hc (by assumption) | exact absurd (by assumption) hc)) <;> (first | with_reducible show STri _ _ _ _ _ _ | (simp -dsimp [hc]; (repeat (simp -dsimp (disch := (first | omega | assumption | (refine Bool.eq_false_iff.1 ?_; assumption))) only [wrap_in, if_pos, if_neg]; (try simp -dsimp [hc]))))))))
    all_goals exact .refl _
  · have hlen : 0 < l.length := List.length_pos_iff.2 hn
    have hlt : i % l.length < l.length := Nat.mod_lt _ hlen
    have hv : byV l i = l[i % l.length] := by unfold byV; rw [if_neg hn]; simp [hlt]
    have hbd := hb _ (List.getElem_mem hlt)
    rw [hv]
    unfold isU8 at hbd
    have hm : (i : Int).tmod (l.length : Int) = ((i % l.length : Nat) : Int) := by
      rw [Int.tmod_eq_emod_of_nonneg (by omega)]; omega
    have hne : ¬ (l.length : Int) = 0 := by omega
    have hw : IntKind.i64.wrap ((i % l.length : Nat) : Int) = ((i % l.length : Nat) : Int) := wrap_in _ (by omega) (by omega)
    generalize i % l.length = j at *
    (repeat' (first | ((first | with_reducible refine st_skip ?_ | with_reducible refine st_exit ?_); (try simp only [seqQ, blockQ, loopQ, forQ, whileQ, reduceIte, Nat.reduceEqDiff])) | (with_reducible refine st_ret ?_; ((try simp only [seqQ, blockQ, loopQ, forQ, whileQ]); first | (with_reducible refine retM_ret ?_) | refine retQ_ret ?_; simp [hn, hm, hne, hlt, hw])) | refine st_seq ?_ | refine st_block ?_ | ((with_reducible show (STri _ _ _ _ _) ∧ (STri _ _ _ _ _)); refine And.intro ?_ ?_) | ((first | refine st_reg ?_ | refine buildP_own ?_ | refine appP_own ?_) <;> (simp -dsimp [hn, hm, hne, hlt, hw]; (repeat (simp -dsimp (disch := (first | omega | assumption | (refine Bool.eq_false_iff.1 ?_; assumption))) only [wrap_in, if_pos, if_neg]; (try simp -dsimp [hn, hm, hne, hlt, hw]))))) | ((first | refine guardP_of (fun hc => ?_) (fun hc => ?_) | refine st_cond rfl (fun hc => ?_) (fun hc => ?_)) <;> (try simp only [lqA, lqB, lqC, lqD, lqE, lqF, lqG, lqH, lqI, lqJ, lqK, lqL, lqM, lqN, lqO] at hc) <;> (try (exfalso; first | omega | exact bool_tf hc (by assumption) | exact bool_ft hc (by assumption) | exact absurd (by assumption) hc)) <;> (first | with_reducible show STri _ _ _ _ _ _ | (simp -dsimp [hn, hm, hne, hlt, hw, hc]; (repeat (simp -dsimp (disch := (first | omega | assumption | (refine Bool.eq_false_iff.1 ?_; assumption))) only [wrap_in, if_pos, if_neg]; (try simp -dsimp [hn, hm, hne, hlt, hw, hc]))))))))
    all_goals exact .refl _
def bxOf (x : Of) : Blk := .box 66 [.c (.sl 5 (x.srcs.map rowSv)), .c (.sl 3 (x.notes.map rowNv)), .c (U8 x.by'), .c (.sl 1 (x.truth.map rowY))]
attribute [simp] bxOf
theorem tab_bd (e : Int) (h : isU8 e) {n : Nat} (hn : n < 4) : 0 ≤ e * ((n : Int) + 1) ∧ e * ((n : Int) + 1) ≤ 1020 := by
  unfold isU8 at h
  rcases (show n = 0 ∨ n = 1 ∨ n = 2 ∨ n = 3 by omega) with rfl | rfl | rfl | rfl <;> simp <;> omega
set_option maxRecDepth 100000 in
set_option maxHeartbeats 2000000 in
theorem lOffS (x : Of) (hx : OfOk x) : SC Try.prog 33 [cOf x] (slSr (offW x)) := by
  refine law_turretlaw08_Office_sources _ _ (by simp) ?_
  unfold cOf offW
  (repeat' (first | ((first | with_reducible refine st_skip ?_ | with_reducible refine st_exit ?_); (try simp only [seqQ, blockQ, loopQ, forQ, whileQ, reduceIte, Nat.reduceEqDiff])) | (with_reducible refine st_ret ?_; ((try simp only [seqQ, blockQ, loopQ, forQ, whileQ]); first | (with_reducible refine retM_ret ?_) | refine retQ_ret ?_; simp)) | refine st_seq ?_ | refine st_block ?_ | ((with_reducible show (STri _ _ _ _ _) ∧ (STri _ _ _ _ _)); refine And.intro ?_ ?_) | ((first | refine st_reg ?_ | refine buildP_own ?_ | refine appP_own ?_) <;> (simp -dsimp; (repeat (simp -dsimp (disch := (first | omega | assumption | (refine Bool.eq_false_iff.1 ?_; assumption))) only [wrap_in, if_pos, if_neg]; (try simp -dsimp))))) | ((first | refine guardP_of (fun hc => ?_) (fun hc => ?_) | refine st_cond rfl (fun hc => ?_) (fun hc => ?_)) <;> (try simp only [lqA, lqB, lqC, lqD, lqE, lqF, lqG, lqH, lqI, lqJ, lqK, lqL, lqM, lqN, lqO] at hc) <;> (try (exfalso; first | omega | exact bool_tf hc (by assumption) | exact bool_ft hc (by assumption) | exact absurd (by assumption) hc)) <;> (first | with_reducible show STri _ _ _ _ _ _ | (simp -dsimp [hc]; (repeat (simp -dsimp (disch := (first | omega | assumption | (refine Bool.eq_false_iff.1 ?_; assumption))) only [wrap_in, if_pos, if_neg]; (try simp -dsimp [hc]))))))))
  refine st_for [1, 10] (numS x) (fun k T H => T = [(1, .ptr 1 0), (3, .own 10 k), (4, .c (I k))] ∧ H = [(1, bxOf x), (10, .arr 79 8 ((offL x k).map rowSr))]) (by simp) ⟨by simp, by simp [offL]⟩ ?_
  rintro k T H hk ⟨rfl, rfl⟩
  obtain ⟨nb1, nb2⟩ := numS_bd x
  have hlenO := offL_len x k
  by_cases hlt : k < numS x
  · have hs := offL_succ x k
    have hA : k ≤ 9223372036854775806 := by omega
    have hB : (k + 1) * 80 ≤ 140737488355328 := by omega
    have hvo := svAt_ok hx k
    obtain ⟨⟨a1, a2⟩, ⟨b1, b2⟩, ⟨c1, c2⟩, ⟨d1, d2⟩, he⟩ := hvo
    obtain ⟨e1, e2⟩ := he
    have htn : ((tabN (svAt x k) : Nat) : Int) = 1 + (svAt x k).d % 4 := by unfold tabN; omega
    have htn2 : tabN (svAt x k) ≤ 4 := by omega
    by_cases hv : k < x.srcs.length
    · have hk5 : (k : Int) < 5 := by omega
      have hgd : svAt x k = x.srcs[k] := by unfold svAt; simp [hv]
      have hgr : ∀ h : k < (x.srcs.map rowSv).length, (x.srcs.map rowSv)[k]'h = rowSv x.srcs[k] := fun h => by simp
      have hq : x.srcs[k]? = some x.srcs[k] := by simp
      rw [hgd] at hs a1 a2 b1 b2 c1 c2 d1 d2 e1 e2 htn htn2
      generalize x.srcs[k] = v at *
      have m1 : v.b.tmod 30 = v.b % 30 := Int.tmod_eq_emod_of_nonneg b1
      have m2 : v.a.tmod 4 = v.a % 4 := Int.tmod_eq_emod_of_nonneg a1
      have m3 : v.c.tmod 12 = v.c % 12 := Int.tmod_eq_emod_of_nonneg c1
      have m4 : v.c.tmod 7 = v.c % 7 := Int.tmod_eq_emod_of_nonneg c1
      have m5 : v.d.tmod 4 = v.d % 4 := Int.tmod_eq_emod_of_nonneg d1
      have l1 := lSpan (v.b % 30 - 15) (v.b % 30 - 15 + v.c % 12)
      have l2 := lSpan (50 * (v.e - 128)) (50 * (v.e - 128) + 100 * (v.c % 7))
      by_cases hk0 : k = 0
      · subst hk0
        (repeat' (first | ((first | with_reducible refine st_skip ?_ | with_reducible refine st_exit ?_); (try simp only [seqQ, blockQ, loopQ, forQ, whileQ, reduceIte, Nat.reduceEqDiff])) | (with_reducible refine st_ret ?_; ((try simp only [seqQ, blockQ, loopQ, forQ, whileQ]); first | (with_reducible refine retM_ret ?_) | refine retQ_ret ?_; simp [hlt, hv, hk5, hgr, hq, m1, m2, m3, m4, m5])) | refine st_seq ?_ | refine st_block ?_ | ((with_reducible show (STri _ _ _ _ _) ∧ (STri _ _ _ _ _)); refine And.intro ?_ ?_) | ((first | refine st_reg ?_ | refine buildP_own ?_ | refine appP_own ?_ | refine callP_b (l1) rfl ?_ | refine callP_b (l2) rfl ?_) <;> (simp -dsimp [hlt, hv, hk5, hgr, hq, m1, m2, m3, m4, m5]; (repeat (simp -dsimp (disch := (first | omega | assumption | (refine Bool.eq_false_iff.1 ?_; assumption))) only [wrap_in, if_pos, if_neg]; (try simp -dsimp [hlt, hv, hk5, hgr, hq, m1, m2, m3, m4, m5]))))) | ((first | refine guardP_of (fun hc => ?_) (fun hc => ?_) | refine st_cond rfl (fun hc => ?_) (fun hc => ?_)) <;> (try simp only [lqA, lqB, lqC, lqD, lqE, lqF, lqG, lqH, lqI, lqJ, lqK, lqL, lqM, lqN, lqO] at hc) <;> (try (exfalso; first | omega | exact bool_tf hc (by assumption) | exact bool_ft hc (by assumption) | exact absurd (by assumption) hc)) <;> (first | with_reducible show STri _ _ _ _ _ _ | (simp -dsimp [hlt, hv, hk5, hgr, hq, m1, m2, m3, m4, m5, hc]; (repeat (simp -dsimp (disch := (first | omega | assumption | (refine Bool.eq_false_iff.1 ?_; assumption))) only [wrap_in, if_pos, if_neg]; (try simp -dsimp [hlt, hv, hk5, hgr, hq, m1, m2, m3, m4, m5, hc]))))))))
        refine st_nilB 7 7 200 3 1 rfl (by simp) rfl (by simp [newOK, setL1]) ?_
        refine st_for [1, 10, 5, 7, 200] (tabN v) (fun n T H => T = [(1, .ptr 1 0), (3, .own 10 0), (4, .c (I 0)), (5, .ptr 5 0), (7, .ptr 7 0), (9, .c (I n))] ∧ H = [(1, bxOf x), (10, .arr 79 8 ((offL x 0).map rowSr)), (5, .box 108 [.c (U8 v.a), .c (U8 v.b), .c (U8 v.c), .c (U8 v.d), .c (U8 v.e)]),
          (7, .box 79 [.c (I (1 + v.a % 4)), .c (I (lowS v)), .c (I (lowS v + v.c % 12)), .c (I (100 * v.d)), .c (I (drS v)), .c (I (drS v + 100 * (v.c % 7))), .c (I (1 + 37 * v.e)), .own 200 n]), (200, .arr 3 1 ((tabTo v n).map rowI))]) (by simp [setL1]) ⟨by simp, by simp [setL1, tabTo, lowS, drS, offL]⟩ ?_
        rintro n T H hn ⟨rfl, rfl⟩
        have hlenT := tabTo_len v n
        by_cases hn2 : n < tabN v
        · have hn3 : (n : Int) < 1 + v.d % 4 := by omega
          have hn4 : n < 4 := by omega
          obtain ⟨p1, p2⟩ := tab_bd v.e ⟨e1, e2⟩ hn4
          have m6 : (v.e * ((n : Int) + 1)).tmod 200 = v.e * ((n : Int) + 1) % 200 := Int.tmod_eq_emod_of_nonneg p1
          have hst := tabTo_succ v n
          have hA2 : n ≤ 9223372036854775806 := by omega
          have hB2 : (n + 1) * 8 ≤ 140737488355328 := by omega
          have hw : IntKind.i64.wrap (v.e * ((n : Int) + 1)) = v.e * ((n : Int) + 1) := wrap_in _ (by omega) (by omega)
          (repeat' (first | ((first | with_reducible refine st_skip ?_ | with_reducible refine st_exit ?_); (try simp only [seqQ, blockQ, loopQ, forQ, whileQ, reduceIte, Nat.reduceEqDiff])) | (with_reducible refine st_ret ?_; ((try simp only [seqQ, blockQ, loopQ, forQ, whileQ]); first | (with_reducible refine retM_ret ?_) | refine retQ_ret ?_; simp [hn3, m5, m6, hw, hlenT, hA2, hB2])) | refine st_seq ?_ | refine st_block ?_ | ((with_reducible show (STri _ _ _ _ _) ∧ (STri _ _ _ _ _)); refine And.intro ?_ ?_) | ((first | refine st_reg ?_ | refine buildP_own ?_ | refine appP_own ?_) <;> (simp -dsimp [hn3, m5, m6, hw, hlenT, hA2, hB2]; (repeat (simp -dsimp (disch := (first | omega | assumption | (refine Bool.eq_false_iff.1 ?_; assumption))) only [wrap_in, if_pos, if_neg]; (try simp -dsimp [hn3, m5, m6, hw, hlenT, hA2, hB2]))))) | ((first | refine guardP_of (fun hc => ?_) (fun hc => ?_) | refine st_cond rfl (fun hc => ?_) (fun hc => ?_)) <;> (try simp only [lqA, lqB, lqC, lqD, lqE, lqF, lqG, lqH, lqI, lqJ, lqK, lqL, lqM, lqN, lqO] at hc) <;> (try (exfalso; first | omega | exact bool_tf hc (by assumption) | exact bool_ft hc (by assumption) | exact absurd (by assumption) hc)) <;> (first | with_reducible show STri _ _ _ _ _ _ | (simp -dsimp [hn3, m5, m6, hw, hlenT, hA2, hB2, hc]; (repeat (simp -dsimp (disch := (first | omega | assumption | (refine Bool.eq_false_iff.1 ?_; assumption))) only [wrap_in, if_pos, if_neg]; (try simp -dsimp [hn3, m5, m6, hw, hlenT, hA2, hB2, hc]))))))))
          all_goals exact ⟨hn2, by simp, by simp, by simp [hst]⟩
        · have hnn : n = tabN v := by omega
          have hn3 : ¬ (n : Int) < 1 + v.d % 4 := by omega
          (repeat' (first | ((with_reducible show STri _ k56_27 _ _ _); refine st_shut1 200 rfl (by simp [dropOK, dropK]) (by simp [ClosO, ownS, dropK, SV.outD, hlenT]) (by simp [ShutH, ShutB, ownL, ownS, dropK, SV.outD, outDL, Blk.outD, hlenT]) ?_; simp) | ((first | with_reducible refine st_skip ?_ | with_reducible refine st_exit ?_); (try simp only [seqQ, blockQ, loopQ, forQ, whileQ, reduceIte, Nat.reduceEqDiff])) | (with_reducible refine st_ret ?_; ((try simp only [seqQ, blockQ, loopQ, forQ, whileQ]); first | (with_reducible refine retM_ret ?_) | refine retQ_ret ?_; simp [hn3, m5, hlenO, hA, hB])) | refine st_seq ?_ | refine st_block ?_ | ((with_reducible show (STri _ _ _ _ _) ∧ (STri _ _ _ _ _)); refine And.intro ?_ ?_) | ((first | refine st_reg ?_ | refine buildP_own ?_ | refine appP_own ?_) <;> (simp -dsimp [hn3, m5, hlenO, hA, hB]; (repeat (simp -dsimp (disch := (first | omega | assumption | (refine Bool.eq_false_iff.1 ?_; assumption))) only [wrap_in, if_pos, if_neg]; (try simp -dsimp [hn3, m5, hlenO, hA, hB]))))) | ((first | refine guardP_of (fun hc => ?_) (fun hc => ?_) | refine st_cond rfl (fun hc => ?_) (fun hc => ?_)) <;> (try simp only [lqA, lqB, lqC, lqD, lqE, lqF, lqG, lqH, lqI, lqJ, lqK, lqL, lqM, lqN, lqO] at hc) <;> (try (exfalso; first | omega | exact bool_tf hc (by assumption) | exact bool_ft hc (by assumption) | exact absurd (by assumption) hc)) <;> (first | with_reducible show STri _ _ _ _ _ _ | (simp -dsimp [hn3, m5, hlenO, hA, hB, hc]; (repeat (simp -dsimp (disch := (first | omega | assumption | (refine Bool.eq_false_iff.1 ?_; assumption))) only [wrap_in, if_pos, if_neg]; (try simp -dsimp [hn3, m5, hlenO, hA, hB, hc]))))))))
          all_goals (subst hnn; exact ⟨hlt, by simp, by simp, by rw [hs]; simp [srcS, lowS, drS]⟩)
      · skip
        (repeat' (first | ((first | with_reducible refine st_skip ?_ | with_reducible refine st_exit ?_); (try simp only [seqQ, blockQ, loopQ, forQ, whileQ, reduceIte, Nat.reduceEqDiff])) | (with_reducible refine st_ret ?_; ((try simp only [seqQ, blockQ, loopQ, forQ, whileQ]); first | (with_reducible refine retM_ret ?_) | refine retQ_ret ?_; simp [hlt, hv, hk5, hgr, hq, m1, m2, m3, m4, m5])) | refine st_seq ?_ | refine st_block ?_ | ((with_reducible show (STri _ _ _ _ _) ∧ (STri _ _ _ _ _)); refine And.intro ?_ ?_) | ((first | refine st_reg ?_ | refine buildP_own ?_ | refine appP_own ?_ | refine callP_b (l1) rfl ?_ | refine callP_b (l2) rfl ?_) <;> (simp -dsimp [hlt, hv, hk5, hgr, hq, m1, m2, m3, m4, m5]; (repeat (simp -dsimp (disch := (first | omega | assumption | (refine Bool.eq_false_iff.1 ?_; assumption))) only [wrap_in, if_pos, if_neg]; (try simp -dsimp [hlt, hv, hk5, hgr, hq, m1, m2, m3, m4, m5]))))) | ((first | refine guardP_of (fun hc => ?_) (fun hc => ?_) | refine st_cond rfl (fun hc => ?_) (fun hc => ?_)) <;> (try simp only [lqA, lqB, lqC, lqD, lqE, lqF, lqG, lqH, lqI, lqJ, lqK, lqL, lqM, lqN, lqO] at hc) <;> (try (exfalso; first | omega | exact bool_tf hc (by assumption) | exact bool_ft hc (by assumption) | exact absurd (by assumption) hc)) <;> (first | with_reducible show STri _ _ _ _ _ _ | (simp -dsimp [hlt, hv, hk5, hgr, hq, m1, m2, m3, m4, m5, hc]; (repeat (simp -dsimp (disch := (first | omega | assumption | (refine Bool.eq_false_iff.1 ?_; assumption))) only [wrap_in, if_pos, if_neg]; (try simp -dsimp [hlt, hv, hk5, hgr, hq, m1, m2, m3, m4, m5, hc]))))))))
        refine st_nilB 7 7 200 3 1 rfl (by simp) rfl (by simp [newOK, setL1]) ?_
        refine st_for [1, 10, 5, 7, 200] (tabN v) (fun n T H => T = [(1, .ptr 1 0), (3, .own 10 k), (4, .c (I k)), (5, .ptr 5 0), (7, .ptr 7 0), (9, .c (I n))] ∧ H = [(1, bxOf x), (10, .arr 79 8 ((offL x k).map rowSr)), (5, .box 108 [.c (U8 v.a), .c (U8 v.b), .c (U8 v.c), .c (U8 v.d), .c (U8 v.e)]),
          (7, .box 79 [.c (I (1 + v.a % 4)), .c (I (lowS v)), .c (I (lowS v + v.c % 12)), .c (I (100 * v.d)), .c (I (drS v)), .c (I (drS v + 100 * (v.c % 7))), .c (I (1 + 37 * v.e)), .own 200 n]), (200, .arr 3 1 ((tabTo v n).map rowI))]) (by simp [setL1]) ⟨by simp, by simp [setL1, tabTo, lowS, drS]⟩ ?_
        rintro n T H hn ⟨rfl, rfl⟩
        have hlenT := tabTo_len v n
        by_cases hn2 : n < tabN v
        · have hn3 : (n : Int) < 1 + v.d % 4 := by omega
          have hn4 : n < 4 := by omega
          obtain ⟨p1, p2⟩ := tab_bd v.e ⟨e1, e2⟩ hn4
          have m6 : (v.e * ((n : Int) + 1)).tmod 200 = v.e * ((n : Int) + 1) % 200 := Int.tmod_eq_emod_of_nonneg p1
          have hst := tabTo_succ v n
          have hA2 : n ≤ 9223372036854775806 := by omega
          have hB2 : (n + 1) * 8 ≤ 140737488355328 := by omega
          have hw : IntKind.i64.wrap (v.e * ((n : Int) + 1)) = v.e * ((n : Int) + 1) := wrap_in _ (by omega) (by omega)
          (repeat' (first | ((first | with_reducible refine st_skip ?_ | with_reducible refine st_exit ?_); (try simp only [seqQ, blockQ, loopQ, forQ, whileQ, reduceIte, Nat.reduceEqDiff])) | (with_reducible refine st_ret ?_; ((try simp only [seqQ, blockQ, loopQ, forQ, whileQ]); first | (with_reducible refine retM_ret ?_) | refine retQ_ret ?_; simp [hn3, m5, m6, hw, hlenT, hA2, hB2])) | refine st_seq ?_ | refine st_block ?_ | ((with_reducible show (STri _ _ _ _ _) ∧ (STri _ _ _ _ _)); refine And.intro ?_ ?_) | ((first | refine st_reg ?_ | refine buildP_own ?_ | refine appP_own ?_) <;> (simp -dsimp [hn3, m5, m6, hw, hlenT, hA2, hB2]; (repeat (simp -dsimp (disch := (first | omega | assumption | (refine Bool.eq_false_iff.1 ?_; assumption))) only [wrap_in, if_pos, if_neg]; (try simp -dsimp [hn3, m5, m6, hw, hlenT, hA2, hB2]))))) | ((first | refine guardP_of (fun hc => ?_) (fun hc => ?_) | refine st_cond rfl (fun hc => ?_) (fun hc => ?_)) <;> (try simp only [lqA, lqB, lqC, lqD, lqE, lqF, lqG, lqH, lqI, lqJ, lqK, lqL, lqM, lqN, lqO] at hc) <;> (try (exfalso; first | omega | exact bool_tf hc (by assumption) | exact bool_ft hc (by assumption) | exact absurd (by assumption) hc)) <;> (first | with_reducible show STri _ _ _ _ _ _ | (simp -dsimp [hn3, m5, m6, hw, hlenT, hA2, hB2, hc]; (repeat (simp -dsimp (disch := (first | omega | assumption | (refine Bool.eq_false_iff.1 ?_; assumption))) only [wrap_in, if_pos, if_neg]; (try simp -dsimp [hn3, m5, m6, hw, hlenT, hA2, hB2, hc]))))))))
          all_goals exact ⟨hn2, by simp, by simp, by simp [hst]⟩
        · have hnn : n = tabN v := by omega
          have hn3 : ¬ (n : Int) < 1 + v.d % 4 := by omega
          (repeat' (first | ((with_reducible show STri _ k56_27 _ _ _); refine st_shut1 200 rfl (by simp [dropOK, dropK]) (by simp [ClosO, ownS, dropK, SV.outD, hlenT]) (by simp [ShutH, ShutB, ownL, ownS, dropK, SV.outD, outDL, Blk.outD, hlenT]) ?_; simp) | ((first | with_reducible refine st_skip ?_ | with_reducible refine st_exit ?_); (try simp only [seqQ, blockQ, loopQ, forQ, whileQ, reduceIte, Nat.reduceEqDiff])) | (with_reducible refine st_ret ?_; ((try simp only [seqQ, blockQ, loopQ, forQ, whileQ]); first | (with_reducible refine retM_ret ?_) | refine retQ_ret ?_; simp [hn3, m5, hlenO, hA, hB])) | refine st_seq ?_ | refine st_block ?_ | ((with_reducible show (STri _ _ _ _ _) ∧ (STri _ _ _ _ _)); refine And.intro ?_ ?_) | ((first | refine st_reg ?_ | refine buildP_own ?_ | refine appP_own ?_) <;> (simp -dsimp [hn3, m5, hlenO, hA, hB]; (repeat (simp -dsimp (disch := (first | omega | assumption | (refine Bool.eq_false_iff.1 ?_; assumption))) only [wrap_in, if_pos, if_neg]; (try simp -dsimp [hn3, m5, hlenO, hA, hB]))))) | ((first | refine guardP_of (fun hc => ?_) (fun hc => ?_) | refine st_cond rfl (fun hc => ?_) (fun hc => ?_)) <;> (try simp only [lqA, lqB, lqC, lqD, lqE, lqF, lqG, lqH, lqI, lqJ, lqK, lqL, lqM, lqN, lqO] at hc) <;> (try (exfalso; first | omega | exact bool_tf hc (by assumption) | exact bool_ft hc (by assumption) | exact absurd (by assumption) hc)) <;> (first | with_reducible show STri _ _ _ _ _ _ | (simp -dsimp [hn3, m5, hlenO, hA, hB, hc]; (repeat (simp -dsimp (disch := (first | omega | assumption | (refine Bool.eq_false_iff.1 ?_; assumption))) only [wrap_in, if_pos, if_neg]; (try simp -dsimp [hn3, m5, hlenO, hA, hB, hc]))))))))
          all_goals (subst hnn; exact ⟨hlt, by simp, by simp, by rw [hs]; simp [srcS, lowS, drS]⟩)
    · have hk0 : k = 0 ∧ x.srcs.length = 0 := by
        unfold numS at hlt
        split at hlt
        · omega
        · omega
      obtain ⟨rfl, hl0⟩ := hk0
      have hf0 : x.srcs = [] := List.length_eq_zero_iff.1 hl0
      have hgd : svAt x 0 = zeroV := by unfold svAt; rw [hf0]; rfl
      rw [hgd] at hs
      have l1 := lSpan (-15) (-15)
      have l2 := lSpan (-6400) (-6400)
      (repeat' (first | ((first | with_reducible refine st_skip ?_ | with_reducible refine st_exit ?_); (try simp only [seqQ, blockQ, loopQ, forQ, whileQ, reduceIte, Nat.reduceEqDiff])) | (with_reducible refine st_ret ?_; ((try simp only [seqQ, blockQ, loopQ, forQ, whileQ]); first | (with_reducible refine retM_ret ?_) | refine retQ_ret ?_; simp [hf0])) | refine st_seq ?_ | refine st_block ?_ | ((with_reducible show (STri _ _ _ _ _) ∧ (STri _ _ _ _ _)); refine And.intro ?_ ?_) | ((first | refine st_reg ?_ | refine buildP_own ?_ | refine appP_own ?_ | refine callP_b (l1) rfl ?_ | refine callP_b (l2) rfl ?_) <;> (simp -dsimp [hf0]; (repeat (simp -dsimp (disch := (first | omega | assumption | (refine Bool.eq_false_iff.1 ?_; assumption))) only [wrap_in, if_pos, if_neg]; (try simp -dsimp [hf0]))))) | ((first | refine guardP_of (fun hc => ?_) (fun hc => ?_) | refine st_cond rfl (fun hc => ?_) (fun hc => ?_)) <;> (try simp only [lqA, lqB, lqC, lqD, lqE, lqF, lqG, lqH, lqI, lqJ, lqK, lqL, lqM, lqN, lqO] at hc) <;> (try (exfalso; first | omega | exact bool_tf hc (by assumption) | exact bool_ft hc (by assumption) | exact absurd (by assumption) hc)) <;> (first | with_reducible show STri _ _ _ _ _ _ | (simp -dsimp [hf0, hc]; (repeat (simp -dsimp (disch := (first | omega | assumption | (refine Bool.eq_false_iff.1 ?_; assumption))) only [wrap_in, if_pos, if_neg]; (try simp -dsimp [hf0, hc]))))))))
      refine st_nilB 7 7 200 3 1 rfl (by simp) rfl (by simp [newOK, setL1]) ?_
      refine st_for [1, 10, 5, 7, 200] 1 (fun n T H => T = [(1, .ptr 1 0), (3, .own 10 0), (4, .c (I 0)), (5, .ptr 5 0), (7, .ptr 7 0), (9, .c (I n))] ∧ H = [(1, bxOf x), (10, .arr 79 8 []), (5, .box 108 [.c (U8 0), .c (U8 0), .c (U8 0), .c (U8 0), .c (U8 0)]),
          (7, .box 79 [.c (I 1), .c (I (-15)), .c (I (-15)), .c (I 0), .c (I (-6400)), .c (I (-6400)), .c (I 1), .own 200 n]), (200, .arr 3 1 ((tabTo zeroV n).map rowI))]) (by simp [setL1]) ⟨by simp, by simp [setL1, tabTo, offL, hf0]⟩ ?_
      rintro n T H hn ⟨rfl, rfl⟩
      have hlenT := tabTo_len zeroV n
      by_cases hn2 : n < 1
      · have hn0 : n = 0 := by omega
        subst hn0
        have hst := tabTo_succ zeroV 0
        (repeat' (first | ((first | with_reducible refine st_skip ?_ | with_reducible refine st_exit ?_); (try simp only [seqQ, blockQ, loopQ, forQ, whileQ, reduceIte, Nat.reduceEqDiff])) | (with_reducible refine st_ret ?_; ((try simp only [seqQ, blockQ, loopQ, forQ, whileQ]); first | (with_reducible refine retM_ret ?_) | refine retQ_ret ?_; simp [hlenT])) | refine st_seq ?_ | refine st_block ?_ | ((with_reducible show (STri _ _ _ _ _) ∧ (STri _ _ _ _ _)); refine And.intro ?_ ?_) | ((first | refine st_reg ?_ | refine buildP_own ?_ | refine appP_own ?_) <;> (simp -dsimp [hlenT]; (repeat (simp -dsimp (disch := (first | omega | assumption | (refine Bool.eq_false_iff.1 ?_; assumption))) only [wrap_in, if_pos, if_neg]; (try simp -dsimp [hlenT]))))) | ((first | refine guardP_of (fun hc => ?_) (fun hc => ?_) | refine st_cond rfl (fun hc => ?_) (fun hc => ?_)) <;> (try simp only [lqA, lqB, lqC, lqD, lqE, lqF, lqG, lqH, lqI, lqJ, lqK, lqL, lqM, lqN, lqO] at hc) <;> (try (exfalso; first | omega | exact bool_tf hc (by assumption) | exact bool_ft hc (by assumption) | exact absurd (by assumption) hc)) <;> (first | with_reducible show STri _ _ _ _ _ _ | (simp -dsimp [hlenT, hc]; (repeat (simp -dsimp (disch := (first | omega | assumption | (refine Bool.eq_false_iff.1 ?_; assumption))) only [wrap_in, if_pos, if_neg]; (try simp -dsimp [hlenT, hc]))))))))
        all_goals exact ⟨hn2, by simp, by simp, by simp [hst, tabTo, zeroV]⟩
      · have hnn : n = 1 := by omega
        subst hnn
        (repeat' (first | ((with_reducible show STri _ k56_27 _ _ _); refine st_shut1 200 rfl (by simp [dropOK, dropK]) (by simp [ClosO, ownS, dropK, SV.outD, hlenT]) (by simp [ShutH, ShutB, ownL, ownS, dropK, SV.outD, outDL, Blk.outD, hlenT]) ?_; simp) | ((first | with_reducible refine st_skip ?_ | with_reducible refine st_exit ?_); (try simp only [seqQ, blockQ, loopQ, forQ, whileQ, reduceIte, Nat.reduceEqDiff])) | (with_reducible refine st_ret ?_; ((try simp only [seqQ, blockQ, loopQ, forQ, whileQ]); first | (with_reducible refine retM_ret ?_) | refine retQ_ret ?_; simp [hlenT])) | refine st_seq ?_ | refine st_block ?_ | ((with_reducible show (STri _ _ _ _ _) ∧ (STri _ _ _ _ _)); refine And.intro ?_ ?_) | ((first | refine st_reg ?_ | refine buildP_own ?_ | refine appP_own ?_) <;> (simp -dsimp [hlenT]; (repeat (simp -dsimp (disch := (first | omega | assumption | (refine Bool.eq_false_iff.1 ?_; assumption))) only [wrap_in, if_pos, if_neg]; (try simp -dsimp [hlenT]))))) | ((first | refine guardP_of (fun hc => ?_) (fun hc => ?_) | refine st_cond rfl (fun hc => ?_) (fun hc => ?_)) <;> (try simp only [lqA, lqB, lqC, lqD, lqE, lqF, lqG, lqH, lqI, lqJ, lqK, lqL, lqM, lqN, lqO] at hc) <;> (try (exfalso; first | omega | exact bool_tf hc (by assumption) | exact bool_ft hc (by assumption) | exact absurd (by assumption) hc)) <;> (first | with_reducible show STri _ _ _ _ _ _ | (simp -dsimp [hlenT, hc]; (repeat (simp -dsimp (disch := (first | omega | assumption | (refine Bool.eq_false_iff.1 ?_; assumption))) only [wrap_in, if_pos, if_neg]; (try simp -dsimp [hlenT, hc]))))))))
        all_goals exact ⟨hlt, by simp, by simp, by rw [hs]; simp [srcS, lowS, drS, zeroV, offL, tabN, tabTo]⟩
  · have hkn : k = numS x := by omega
    have hb : ¬ k = 0 ∧ ¬ (k < x.srcs.length ∧ k < 5) := by
      unfold numS at hkn
      split at hkn
      · omega
      · omega
    obtain ⟨b1, b2⟩ := hb
    subst hkn
    by_cases hv : numS x < x.srcs.length
    · have hv2 : ¬ (numS x : Int) < 5 := by omega
      (repeat' (first | ((first | with_reducible refine st_skip ?_ | with_reducible refine st_exit ?_); (try simp only [seqQ, blockQ, loopQ, forQ, whileQ, reduceIte, Nat.reduceEqDiff])) | (with_reducible refine st_ret ?_; ((try simp only [seqQ, blockQ, loopQ, forQ, whileQ]); first | (with_reducible refine retM_ret ?_) | refine retQ_ret ?_; simp [b1, hv, hv2, hlenO])) | refine st_seq ?_ | refine st_block ?_ | ((with_reducible show (STri _ _ _ _ _) ∧ (STri _ _ _ _ _)); refine And.intro ?_ ?_) | ((first | refine st_reg ?_ | refine buildP_own ?_ | refine appP_own ?_) <;> (simp -dsimp [b1, hv, hv2, hlenO]; (repeat (simp -dsimp (disch := (first | omega | assumption | (refine Bool.eq_false_iff.1 ?_; assumption))) only [wrap_in, if_pos, if_neg]; (try simp -dsimp [b1, hv, hv2, hlenO]))))) | ((first | refine guardP_of (fun hc => ?_) (fun hc => ?_) | refine st_cond rfl (fun hc => ?_) (fun hc => ?_)) <;> (try simp only [lqA, lqB, lqC, lqD, lqE, lqF, lqG, lqH, lqI, lqJ, lqK, lqL, lqM, lqN, lqO] at hc) <;> (try (exfalso; first | omega | exact bool_tf hc (by assumption) | exact bool_ft hc (by assumption) | exact absurd (by assumption) hc)) <;> (first | with_reducible show STri _ _ _ _ _ _ | (simp -dsimp [b1, hv, hv2, hlenO, hc]; (repeat (simp -dsimp (disch := (first | omega | assumption | (refine Bool.eq_false_iff.1 ?_; assumption))) only [wrap_in, if_pos, if_neg]; (try simp -dsimp [b1, hv, hv2, hlenO, hc]))))))))
      all_goals exact .refl _
    · (repeat' (first | ((first | with_reducible refine st_skip ?_ | with_reducible refine st_exit ?_); (try simp only [seqQ, blockQ, loopQ, forQ, whileQ, reduceIte, Nat.reduceEqDiff])) | (with_reducible refine st_ret ?_; ((try simp only [seqQ, blockQ, loopQ, forQ, whileQ]); first | (with_reducible refine retM_ret ?_) | refine retQ_ret ?_; simp [b1, hv, hlenO])) | refine st_seq ?_ | refine st_block ?_ | ((with_reducible show (STri _ _ _ _ _) ∧ (STri _ _ _ _ _)); refine And.intro ?_ ?_) | ((first | refine st_reg ?_ | refine buildP_own ?_ | refine appP_own ?_) <;> (simp -dsimp [b1, hv, hlenO]; (repeat (simp -dsimp (disch := (first | omega | assumption | (refine Bool.eq_false_iff.1 ?_; assumption))) only [wrap_in, if_pos, if_neg]; (try simp -dsimp [b1, hv, hlenO]))))) | ((first | refine guardP_of (fun hc => ?_) (fun hc => ?_) | refine st_cond rfl (fun hc => ?_) (fun hc => ?_)) <;> (try simp only [lqA, lqB, lqC, lqD, lqE, lqF, lqG, lqH, lqI, lqJ, lqK, lqL, lqM, lqN, lqO] at hc) <;> (try (exfalso; first | omega | exact bool_tf hc (by assumption) | exact bool_ft hc (by assumption) | exact absurd (by assumption) hc)) <;> (first | with_reducible show STri _ _ _ _ _ _ | (simp -dsimp [b1, hv, hlenO, hc]; (repeat (simp -dsimp (disch := (first | omega | assumption | (refine Bool.eq_false_iff.1 ?_; assumption))) only [wrap_in, if_pos, if_neg]; (try simp -dsimp [b1, hv, hlenO, hc]))))))))
      all_goals exact .refl _
end Go.Proofs.Ytakdmliblijgmaa
/- Wire's plain laws, II: notes that were made truly. -/
namespace Go.Proofs.Ytakdmliblijgmaa
open Go.RowKit
/-! What a note says, and when -/
def nvAt (x : Of) (i : Nat) : Nv := x.notes.getD i ⟨0, 0, 0⟩
def srcI (x : Of) (i : Nat) : Nat := ((nvAt x i).a % (numS x : Nat)).toNat
def srcN (x : Of) (i : Nat) : Wsrc := srcS (svAt x (srcI x i))
def errN (x : Of) (i : Nat) : Int := (srcN x i).elo + byV x.truth i % ((srcN x i).ehi - (srcN x i).elo + 1)
def baseN (x : Of) (i : Nat) : Int := 30000 + 1000 * (nvAt x i).b + (nvAt x i).c
def tabAt (s : Wsrc) (d : Int) : Int := s.table.getD (d % (s.table.length : Nat)).toNat 0
def timeN (x : Of) (i : Nat) : Int :=
  if (srcN x i).kind = 2 then (srcN x i).at' + ((nvAt x i).b + 200) * (srcN x i).every + errN x i
  else if (srcN x i).kind = 3 then (1 + (nvAt x i).b) * 86400 + tabAt (srcN x i) (1 + (nvAt x i).b) + errN x i
  else if (srcN x i).kind = 4 then baseN x i + errN x i else baseN x i
def drfN (x : Of) (i : Nat) : Int := if (nvAt x i).c % 2 = 1 then (srcN x i).dhi * (baseN x i - (srcN x i).at') else (srcN x i).dlo * (baseN x i - (srcN x i).at')
def saidN (x : Of) (i : Nat) : Int :=
  if (srcN x i).kind = 2 then 0 else if (srcN x i).kind = 3 then 0 else if (srcN x i).kind = 4 then baseN x i
  else (baseN x i + errN x i + drfN x i / 86400000) % 43200
def noteN (x : Of) (i : Nat) : Wnt := ⟨srcI x i, timeN x i - (x.by' - 128), saidN x i⟩
def notesTo' (x : Of) (k : Nat) : List Wnt := ((List.range k).map (noteN x)).filter fun n => decide (0 ≤ n.tick)
def numN (x : Of) : Nat := min x.notes.length 8
def offN (x : Of) : List Wnt := notesTo' x (numN x)
theorem notesTo_succ' (x : Of) (k : Nat) : notesTo' x (k + 1) = if 0 ≤ timeN x k - (x.by' - 128) then notesTo' x k ++ [noteN x k] else notesTo' x k := by
  show notesTo' x (k + 1) = if 0 ≤ (noteN x k).tick then notesTo' x k ++ [noteN x k] else notesTo' x k
  unfold notesTo'
  rw [List.range_succ, List.map_append, List.filter_append]
  by_cases h : 0 ≤ (noteN x k).tick <;> simp [h]
theorem notesTo_len' (x : Of) (k : Nat) : (notesTo' x k).length ≤ k := by
  unfold notesTo'
  exact Nat.le_trans (List.length_filter_le _ _) (by simp)
theorem nvAt_ok {x : Of} (hx : OfOk x) (i : Nat) : NvOk (nvAt x i) := by
  unfold nvAt
  rw [List.getD_eq_getElem?_getD]
  cases h : x.notes[i]? with
  | none => exact ⟨⟨by decide, by decide⟩, ⟨by decide, by decide⟩, ⟨by decide, by decide⟩⟩
  | some v => exact hx.n v (List.mem_of_getElem? h)
structure SrcBd (s : Wsrc) : Prop where
  k : s.kind = 1 ∨ s.kind = 2 ∨ s.kind = 3 ∨ s.kind = 4
  e0 : -15 ≤ s.elo
  e1 : s.elo ≤ s.ehi
  e2 : s.ehi ≤ s.elo + 11
  e3 : s.elo ≤ 14
  a0 : 0 ≤ s.at'
  a1 : s.at' ≤ 25500
  d0 : -6400 ≤ s.dlo
  d1 : s.dlo ≤ s.dhi
  d2 : s.dhi ≤ s.dlo + 600
  d3 : s.dlo ≤ 6350
  v0 : 1 ≤ s.every
  v1 : s.every ≤ 9436
  t0 : 1 ≤ s.table.length
  t1 : s.table.length ≤ 4
  t2 : ∀ n ∈ s.table, -100 ≤ n ∧ n ≤ 99
theorem src_bd {v : Sv} (hv : SvOk v) : SrcBd (srcS v) := by
  obtain ⟨⟨a1, a2⟩, ⟨b1, b2⟩, ⟨c1, c2⟩, ⟨d1, d2⟩, ⟨e1, e2⟩⟩ := hv
  have ht : ((tabN v : Nat) : Int) = 1 + v.d % 4 := by unfold tabN; omega
  refine ⟨?_, ?_, ?_, ?_, ?_, ?_, ?_, ?_, ?_, ?_, ?_, ?_, ?_, ?_, ?_, fun n hn => ?_⟩
  any_goals (show _ ≤ _; simp only [srcS, lowS, drS]; omega)
  · show 1 + v.a % 4 = 1 ∨ 1 + v.a % 4 = 2 ∨ 1 + v.a % 4 = 3 ∨ 1 + v.a % 4 = 4
    omega
  · show 1 ≤ (tabTo v (tabN v)).length
    rw [tabTo_len]; omega
  · show (tabTo v (tabN v)).length ≤ 4
    rw [tabTo_len]; omega
  · have hn : n ∈ tabTo v (tabN v) := hn
    unfold tabTo at hn
    obtain ⟨i, _, rfl⟩ := List.mem_map.1 hn
    omega
theorem srcN_bd {x : Of} (hx : OfOk x) (i : Nat) : SrcBd (srcN x i) := src_bd (svAt_ok hx _)
theorem srcI_lt {x : Of} (i : Nat) : srcI x i < numS x := by
  have := numS_bd x
  have h1 := Int.emod_nonneg (nvAt x i).a (show ((numS x : Nat) : Int) ≠ 0 by omega)
  have h2 := Int.emod_lt_of_pos (nvAt x i).a (show 0 < ((numS x : Nat) : Int) by omega)
  unfold srcI; omega
theorem err_bd {x : Of} (hx : OfOk x) (i : Nat) : (srcN x i).elo ≤ errN x i ∧ errN x i ≤ (srcN x i).ehi := by
  have hs := srcN_bd hx i
  have h0 := hs.e1
  have h1 := Int.emod_nonneg (byV x.truth i) (show (srcN x i).ehi - (srcN x i).elo + 1 ≠ 0 by omega)
  have h2 := Int.emod_lt_of_pos (byV x.truth i) (show 0 < (srcN x i).ehi - (srcN x i).elo + 1 by omega)
  unfold errN; omega
theorem base_bd {x : Of} (hx : OfOk x) (i : Nat) : 30000 ≤ baseN x i ∧ baseN x i ≤ 285255 := by
  obtain ⟨_, ⟨b1, b2⟩, ⟨c1, c2⟩⟩ := nvAt_ok hx i
  unfold baseN; omega
theorem mulBd {a b A B : Int} (h1 : -A ≤ a) (h2 : a ≤ A) (h3 : 0 ≤ b) (h4 : b ≤ B) (h0 : 0 ≤ A) : -(A * B) ≤ a * b ∧ a * b ≤ A * B := by
  have e1 : a * b ≤ A * b := Int.mul_le_mul_of_nonneg_right h2 h3
  have e2 : A * b ≤ A * B := Int.mul_le_mul_of_nonneg_left h4 h0
  have e3 : -A * b ≤ a * b := Int.mul_le_mul_of_nonneg_right h1 h3
  have e4 : -A * b = -(A * b) := Int.neg_mul A b
  omega
theorem ev_bd {x : Of} (hx : OfOk x) (i : Nat) : 200 ≤ ((nvAt x i).b + 200) * (srcN x i).every ∧ ((nvAt x i).b + 200) * (srcN x i).every ≤ 4293380 := by
  obtain ⟨_, ⟨b1, b2⟩, _⟩ := nvAt_ok hx i
  have hs := srcN_bd hx i
  have h0 := hs.v0
  have h1 := hs.v1
  have e1 : ((nvAt x i).b + 200) * (srcN x i).every ≤ 455 * (srcN x i).every := Int.mul_le_mul_of_nonneg_right (by omega) (by omega)
  have e2 : ((nvAt x i).b + 200) * 1 ≤ ((nvAt x i).b + 200) * (srcN x i).every := Int.mul_le_mul_of_nonneg_left h0 (by omega)
  omega
theorem drf_bd {x : Of} (hx : OfOk x) (i : Nat) : (-2000000000 ≤ (srcN x i).dlo * (baseN x i - (srcN x i).at') ∧ (srcN x i).dlo * (baseN x i - (srcN x i).at') ≤ 2000000000) ∧ (-2000000000 ≤ (srcN x i).dhi * (baseN x i - (srcN x i).at') ∧ (srcN x i).dhi * (baseN x i - (srcN x i).at') ≤ 2000000000) := by
  have hs := srcN_bd hx i
  have hb := base_bd hx i
  obtain ⟨_, _, _, _, _, a0, a1, d0, d1, d2, d3, _, _, _, _, _⟩ := hs
  have h1 := mulBd (a := (srcN x i).dlo) (b := baseN x i - (srcN x i).at') (A := 7000) (B := 285255) (by omega) (by omega) (by omega) (by omega) (by omega)
  have h2 := mulBd (a := (srcN x i).dhi) (b := baseN x i - (srcN x i).at') (A := 7000) (B := 285255) (by omega) (by omega) (by omega) (by omega) (by omega)
  omega
theorem tabAt_bd {s : Wsrc} (hs : SrcBd s) (d : Int) : -100 ≤ tabAt s d ∧ tabAt s d ≤ 99 := by
  have h0 := hs.t0
  have h1 := Int.emod_nonneg d (show ((s.table.length : Nat) : Int) ≠ 0 by omega)
  have h2 := Int.emod_lt_of_pos d (show 0 < ((s.table.length : Nat) : Int) by omega)
  have hlt : (d % (s.table.length : Nat)).toNat < s.table.length := by omega
  have : tabAt s d = s.table[(d % (s.table.length : Nat)).toNat] := by unfold tabAt; simp [hlt]
  rw [this]
  exact hs.t2 _ (List.getElem_mem hlt)
theorem time_bd {x : Of} (hx : OfOk x) (i : Nat) : 100 ≤ timeN x i ∧ timeN x i ≤ 30000000 := by
  have hs := srcN_bd hx i
  obtain ⟨_, ⟨b1, b2⟩, _⟩ := nvAt_ok hx i
  have h1 := err_bd hx i
  have h2 := base_bd hx i
  have h3 := ev_bd hx i
  have h4 := tabAt_bd hs (1 + (nvAt x i).b)
  obtain ⟨_, e0, e1, e2, e3, a0, a1, _, _, _, _, _, _, _, _, _⟩ := hs
  unfold timeN
  (repeat' split) <;> omega
theorem saidBd {x : Of} (hx : OfOk x) (i : Nat) : 0 ≤ saidN x i ∧ saidN x i ≤ 285255 := by
  have h2 := base_bd hx i
  unfold saidN
  (repeat' split) <;> omega
end Go.Proofs.Ytakdmliblijgmaa
/- Wire's plain laws, III: an office's notes, walked. -/
namespace Go.Proofs.Ytakdmliblijgmaa
open Go.RowKit
theorem offW_len (x : Of) : (offW x).length = numS x := offL_len x _
theorem offW_get (x : Of) {j : Nat} (h : j < (offW x).length) : (offW x)[j] = srcS (svAt x j) := by simp [offW, offL]
set_option maxRecDepth 100000 in
set_option maxHeartbeats 4000000 in
theorem lOffN (x : Of) (hx : OfOk x) : FC Try.prog 36 [cOf x, slSr (offW x)] none 73 3 ((offN x).map rowN) := by
  refine flaw_turretlaw08_Office_notes _ _ _ _ _ (by simp) ?_
  unfold cOf offN
  (repeat' (first | ((first | with_reducible refine st_skip ?_ | with_reducible refine st_exit ?_); (try simp only [seqQ, blockQ, loopQ, forQ, whileQ, reduceIte, Nat.reduceEqDiff])) | (with_reducible refine st_ret ?_; ((try simp only [seqQ, blockQ, loopQ, forQ, whileQ]); first | (with_reducible refine retM_ret ?_) | (with_reducible refine retF_ret ?_) | (with_reducible refine retO_ret ?_) | refine retQ_ret ?_; simp)) | refine st_seq ?_ | refine st_block ?_ | ((with_reducible show (STri _ _ _ _ _) ∧ (STri _ _ _ _ _)); refine And.intro ?_ ?_) | ((first | refine st_reg ?_ | refine buildP_own ?_ | refine appP_own ?_) <;> (simp -dsimp; (repeat (simp -dsimp (disch := (first | omega | assumption | (refine Bool.eq_false_iff.1 ?_; assumption))) only [wrap_in, if_pos, if_neg]; (try simp -dsimp))))) | ((first | refine guardP_of (fun hc => ?_) (fun hc => ?_) | refine st_cond rfl (fun hc => ?_) (fun hc => ?_)) <;> (try simp only [lqA, lqB, lqC, lqD, lqE, lqF, lqG, lqH, lqI, lqJ, lqK, lqL, lqM, lqN, lqO] at hc) <;> (try (exfalso; first | omega | exact bool_tf hc (by assumption) | exact bool_ft hc (by assumption) | exact absurd (by assumption) hc)) <;> (first | with_reducible show STri _ _ _ _ _ _ | (simp -dsimp [hc]; (repeat (simp -dsimp (disch := (first | omega | assumption | (refine Bool.eq_false_iff.1 ?_; assumption))) only [wrap_in, if_pos, if_neg]; (try simp -dsimp [hc]))))))))
  refine st_for [2, 15] (numN x) (fun k T H => T = [(1, .c (slSr (offW x))), (2, .ptr 2 0), (5, .own 15 (notesTo' x k).length), (6, .c (I k))] ∧ H = [(2, bxOf x), (15, .arr 73 3 ((notesTo' x k).map rowN))]) (by simp) ⟨by simp [notesTo'], by simp [notesTo']⟩ ?_
  rintro k T H hk ⟨rfl, rfl⟩
  have hlenN := notesTo_len' x k
  have hnum : numN x ≤ 8 := by unfold numN; omega
  by_cases hlt : k < numN x
  · have hst := notesTo_succ' x k
    have hA : (notesTo' x k).length ≤ 9223372036854775806 := by omega
    have hB : ((notesTo' x k).length + 1) * 24 ≤ 140737488355328 := by omega
    have hv : k < x.notes.length := by unfold numN at hlt; omega
    have hk8 : (k : Int) < 8 := by omega
    have hgd : x.notes[k] = nvAt x k := by unfold nvAt; simp [hv]
    have hgr : ∀ h : k < (x.notes.map rowNv).length, (x.notes.map rowNv)[k]'h = rowNv (nvAt x k) := fun h => by simp [hgd]
    have hs := srcN_bd hx k
    have hvo := nvAt_ok hx k
    obtain ⟨⟨a1, a2⟩, ⟨b1, b2⟩, ⟨c1, c2⟩⟩ := hvo
    have hj : srcI x k < (offW x).length := by rw [offW_len]; exact srcI_lt k
    have hg : ∀ h : srcI x k < (offW x).length, (offW x)[srcI x k]'h = srcN x k := fun h => offW_get x h
    have hnb := numS_bd x
    have hm1 : (nvAt x k).a.tmod ((offW x).length : Int) = (srcI x k : Nat) := by
      rw [offW_len, Int.tmod_eq_emod_of_nonneg a1]
      have h1 := Int.emod_nonneg (nvAt x k).a (show ((numS x : Nat) : Int) ≠ 0 by omega)
      unfold srcI; omega
    have hne : ¬ offW x = [] := fun h => by have := offW_len x; rw [h] at this; simp at this; omega
    have hby := lBy x hx
    obtain ⟨y1, y2⟩ := hx.y
    have lb := lByte x.truth hx.t hx.tl k (by omega)
    obtain ⟨t1, t2⟩ := byV_bd hx.t k
    have heb := err_bd hx k
    have htb := time_bd hx k
    have hm2 : (byV x.truth k).tmod ((srcN x k).ehi - (srcN x k).elo + 1) = byV x.truth k % ((srcN x k).ehi - (srcN x k).elo + 1) := Int.tmod_eq_emod_of_nonneg t1
    have he : (srcN x k).elo + byV x.truth k % ((srcN x k).ehi - (srcN x k).elo + 1) = errN x k := rfl
    have hbb := base_bd hx k
    have hbs : 30000 + 1000 * (nvAt x k).b + (nvAt x k).c = baseN x k := rfl
    have hev := ev_bd hx k
    have hdf := drf_bd hx k
    have htt := tabAt_bd hs (1 + (nvAt x k).b)
    have s0 := hs.e1
    have s1 := hs.e0
    have s2 := hs.e2
    have s3 := hs.e3
    have s4 := hs.a0
    have s5 := hs.a1
    have s6 := hs.t0
    have s7 := hs.t1
    have hpos1 : (srcN x k).ehi - (srcN x k).elo + 1 ≠ 0 := by omega
    have r1 := Int.emod_nonneg (byV x.truth k) hpos1
    have r2 := Int.emod_lt_of_pos (byV x.truth k) (show 0 < (srcN x k).ehi - (srcN x k).elo + 1 by omega)
    have hne2 : ¬ (srcN x k).ehi - (srcN x k).elo + 1 = 0 := hpos1
    have hti : timeN x k = timeN x k := rfl
    have hsa : saidN x k = saidN x k := rfl
    conv at hti => rhs; unfold timeN
    conv at hsa => rhs; unfold saidN
    rcases hs.k with hq | hq | hq | hq
    · rw [hq] at hti hsa
      simp only [Int.reduceEq, if_false] at hti hsa
      have hcm : (nvAt x k).c.tmod 2 = (nvAt x k).c % 2 := Int.tmod_eq_emod_of_nonneg c1
      have hr1 := lRest ((srcN x k).dhi * (baseN x k - (srcN x k).at')) 86400000 (by omega) (by omega)
      have hr2 := lRest ((srcN x k).dlo * (baseN x k - (srcN x k).at')) 86400000 (by omega) (by omega)
      have dv : ∀ d : Int, (d - d % 86400000).tdiv 86400000 = d / 86400000 := fun d => by
        have e : d - d % 86400000 = 86400000 * (d / 86400000) := by have := Int.emod_add_mul_ediv d 86400000; omega
        rw [e, Int.mul_tdiv_cancel_left _ (by omega)]
      have hr3 := lRest (baseN x k + errN x k + drfN x k / 86400000) 43200 (by omega) (by omega)
      by_cases hc2 : (nvAt x k).c % 2 = 1
      · have hd : drfN x k = (srcN x k).dhi * (baseN x k - (srcN x k).at') := by unfold drfN; rw [if_pos hc2]
        rw [hd] at hsa hr3
        have hwd := wrap_in ((srcN x k).dhi * (baseN x k - (srcN x k).at')) (by omega) (by omega)
        by_cases hti0 : 0 ≤ timeN x k - (x.by' - 128)
        · rw [if_pos hti0] at hst
          rw [hti] at hti0
          (repeat' (first | ((first | with_reducible refine st_skip ?_ | with_reducible refine st_exit ?_); (try simp only [seqQ, blockQ, loopQ, forQ, whileQ, reduceIte, Nat.reduceEqDiff])) | (with_reducible refine st_ret ?_; ((try simp only [seqQ, blockQ, loopQ, forQ, whileQ]); first | (with_reducible refine retM_ret ?_) | (with_reducible refine retF_ret ?_) | (with_reducible refine retO_ret ?_) | refine retQ_ret ?_; simp [hlt, hv, hk8, hgr, hj, hg, hm1, hne, hm2, he, hne2, hbs, hq, hcm, hc2, dv, hwd, hti0, hA, hB])) | refine st_seq ?_ | refine st_block ?_ | ((with_reducible show (STri _ _ _ _ _) ∧ (STri _ _ _ _ _)); refine And.intro ?_ ?_) | ((first | refine st_reg ?_ | refine buildP_own ?_ | refine appP_own ?_ | refine callP_b (hby) rfl ?_ | refine callP_b (lb) rfl ?_ | refine callP_b (hr1) rfl ?_ | refine callP_b (hr2) rfl ?_ | refine callP_b (hr3) rfl ?_) <;> (simp -dsimp [hlt, hv, hk8, hgr, hj, hg, hm1, hne, hm2, he, hne2, hbs, hq, hcm, hc2, dv, hwd, hti0, hA, hB]; (repeat (simp -dsimp (disch := (first | omega | assumption | (refine Bool.eq_false_iff.1 ?_; assumption))) only [wrap_in, if_pos, if_neg]; (try simp -dsimp [hlt, hv, hk8, hgr, hj, hg, hm1, hne, hm2, he, hne2, hbs, hq, hcm, hc2, dv, hwd, hti0, hA, hB]))))) | ((first | refine guardP_of (fun hc => ?_) (fun hc => ?_) | refine st_cond rfl (fun hc => ?_) (fun hc => ?_)) <;> (try simp only [lqA, lqB, lqC, lqD, lqE, lqF, lqG, lqH, lqI, lqJ, lqK, lqL, lqM, lqN, lqO] at hc) <;> (try (exfalso; first | omega | exact bool_tf hc (by assumption) | exact bool_ft hc (by assumption) | exact absurd (by assumption) hc)) <;> (first | with_reducible show STri _ _ _ _ _ _ | (simp -dsimp [hlt, hv, hk8, hgr, hj, hg, hm1, hne, hm2, he, hne2, hbs, hq, hcm, hc2, dv, hwd, hti0, hA, hB, hc]; (repeat (simp -dsimp (disch := (first | omega | assumption | (refine Bool.eq_false_iff.1 ?_; assumption))) only [wrap_in, if_pos, if_neg]; (try simp -dsimp [hlt, hv, hk8, hgr, hj, hg, hm1, hne, hm2, he, hne2, hbs, hq, hcm, hc2, dv, hwd, hti0, hA, hB, hc]))))))))
          all_goals exact ⟨hlt, by simp, by simp [hst], by rw [hst]; simp [noteN, hti, hsa]⟩
        · rw [if_neg hti0] at hst
          rw [hti] at hti0
          (repeat' (first | ((first | with_reducible refine st_skip ?_ | with_reducible refine st_exit ?_); (try simp only [seqQ, blockQ, loopQ, forQ, whileQ, reduceIte, Nat.reduceEqDiff])) | (with_reducible refine st_ret ?_; ((try simp only [seqQ, blockQ, loopQ, forQ, whileQ]); first | (with_reducible refine retM_ret ?_) | (with_reducible refine retF_ret ?_) | (with_reducible refine retO_ret ?_) | refine retQ_ret ?_; simp [hlt, hv, hk8, hgr, hj, hg, hm1, hne, hm2, he, hne2, hbs, hq, hcm, hc2, dv, hwd, hti0])) | refine st_seq ?_ | refine st_block ?_ | ((with_reducible show (STri _ _ _ _ _) ∧ (STri _ _ _ _ _)); refine And.intro ?_ ?_) | ((first | refine st_reg ?_ | refine buildP_own ?_ | refine appP_own ?_ | refine callP_b (hby) rfl ?_ | refine callP_b (lb) rfl ?_ | refine callP_b (hr1) rfl ?_ | refine callP_b (hr2) rfl ?_ | refine callP_b (hr3) rfl ?_) <;> (simp -dsimp [hlt, hv, hk8, hgr, hj, hg, hm1, hne, hm2, he, hne2, hbs, hq, hcm, hc2, dv, hwd, hti0]; (repeat (simp -dsimp (disch := (first | omega | assumption | (refine Bool.eq_false_iff.1 ?_; assumption))) only [wrap_in, if_pos, if_neg]; (try simp -dsimp [hlt, hv, hk8, hgr, hj, hg, hm1, hne, hm2, he, hne2, hbs, hq, hcm, hc2, dv, hwd, hti0]))))) | ((first | refine guardP_of (fun hc => ?_) (fun hc => ?_) | refine st_cond rfl (fun hc => ?_) (fun hc => ?_)) <;> (try simp only [lqA, lqB, lqC, lqD, lqE, lqF, lqG, lqH, lqI, lqJ, lqK, lqL, lqM, lqN, lqO] at hc) <;> (try (exfalso; first | omega | exact bool_tf hc (by assumption) | exact bool_ft hc (by assumption) | exact absurd (by assumption) hc)) <;> (first | with_reducible show STri _ _ _ _ _ _ | (simp -dsimp [hlt, hv, hk8, hgr, hj, hg, hm1, hne, hm2, he, hne2, hbs, hq, hcm, hc2, dv, hwd, hti0, hc]; (repeat (simp -dsimp (disch := (first | omega | assumption | (refine Bool.eq_false_iff.1 ?_; assumption))) only [wrap_in, if_pos, if_neg]; (try simp -dsimp [hlt, hv, hk8, hgr, hj, hg, hm1, hne, hm2, he, hne2, hbs, hq, hcm, hc2, dv, hwd, hti0, hc]))))))))
          all_goals exact ⟨hlt, by simp, by simp [hst], by rw [hst]⟩
      · have hd : drfN x k = (srcN x k).dlo * (baseN x k - (srcN x k).at') := by unfold drfN; rw [if_neg hc2]
        rw [hd] at hsa hr3
        have hwd := wrap_in ((srcN x k).dlo * (baseN x k - (srcN x k).at')) (by omega) (by omega)
        by_cases hti0 : 0 ≤ timeN x k - (x.by' - 128)
        · rw [if_pos hti0] at hst
          rw [hti] at hti0
          (repeat' (first | ((first | with_reducible refine st_skip ?_ | with_reducible refine st_exit ?_); (try simp only [seqQ, blockQ, loopQ, forQ, whileQ, reduceIte, Nat.reduceEqDiff])) | (with_reducible refine st_ret ?_; ((try simp only [seqQ, blockQ, loopQ, forQ, whileQ]); first | (with_reducible refine retM_ret ?_) | (with_reducible refine retF_ret ?_) | (with_reducible refine retO_ret ?_) | refine retQ_ret ?_; simp [hlt, hv, hk8, hgr, hj, hg, hm1, hne, hm2, he, hne2, hbs, hq, hcm, hc2, dv, hwd, hti0, hA, hB])) | refine st_seq ?_ | refine st_block ?_ | ((with_reducible show (STri _ _ _ _ _) ∧ (STri _ _ _ _ _)); refine And.intro ?_ ?_) | ((first | refine st_reg ?_ | refine buildP_own ?_ | refine appP_own ?_ | refine callP_b (hby) rfl ?_ | refine callP_b (lb) rfl ?_ | refine callP_b (hr1) rfl ?_ | refine callP_b (hr2) rfl ?_ | refine callP_b (hr3) rfl ?_) <;> (simp -dsimp [hlt, hv, hk8, hgr, hj, hg, hm1, hne, hm2, he, hne2, hbs, hq, hcm, hc2, dv, hwd, hti0, hA, hB]; (repeat (simp -dsimp (disch := (first | omega | assumption | (refine Bool.eq_false_iff.1 ?_; assumption))) only [wrap_in, if_pos, if_neg]; (try simp -dsimp [hlt, hv, hk8, hgr, hj, hg, hm1, hne, hm2, he, hne2, hbs, hq, hcm, hc2, dv, hwd, hti0, hA, hB]))))) | ((first | refine guardP_of (fun hc => ?_) (fun hc => ?_) | refine st_cond rfl (fun hc => ?_) (fun hc => ?_)) <;> (try simp only [lqA, lqB, lqC, lqD, lqE, lqF, lqG, lqH, lqI, lqJ, lqK, lqL, lqM, lqN, lqO] at hc) <;> (try (exfalso; first | omega | exact bool_tf hc (by assumption) | exact bool_ft hc (by assumption) | exact absurd (by assumption) hc)) <;> (first | with_reducible show STri _ _ _ _ _ _ | (simp -dsimp [hlt, hv, hk8, hgr, hj, hg, hm1, hne, hm2, he, hne2, hbs, hq, hcm, hc2, dv, hwd, hti0, hA, hB, hc]; (repeat (simp -dsimp (disch := (first | omega | assumption | (refine Bool.eq_false_iff.1 ?_; assumption))) only [wrap_in, if_pos, if_neg]; (try simp -dsimp [hlt, hv, hk8, hgr, hj, hg, hm1, hne, hm2, he, hne2, hbs, hq, hcm, hc2, dv, hwd, hti0, hA, hB, hc]))))))))
          all_goals exact ⟨hlt, by simp, by simp [hst], by rw [hst]; simp [noteN, hti, hsa]⟩
        · rw [if_neg hti0] at hst
          rw [hti] at hti0
          (repeat' (first | ((first | with_reducible refine st_skip ?_ | with_reducible refine st_exit ?_); (try simp only [seqQ, blockQ, loopQ, forQ, whileQ, reduceIte, Nat.reduceEqDiff])) | (with_reducible refine st_ret ?_; ((try simp only [seqQ, blockQ, loopQ, forQ, whileQ]); first | (with_reducible refine retM_ret ?_) | (with_reducible refine retF_ret ?_) | (with_reducible refine retO_ret ?_) | refine retQ_ret ?_; simp [hlt, hv, hk8, hgr, hj, hg, hm1, hne, hm2, he, hne2, hbs, hq, hcm, hc2, dv, hwd, hti0])) | refine st_seq ?_ | refine st_block ?_ | ((with_reducible show (STri _ _ _ _ _) ∧ (STri _ _ _ _ _)); refine And.intro ?_ ?_) | ((first | refine st_reg ?_ | refine buildP_own ?_ | refine appP_own ?_ | refine callP_b (hby) rfl ?_ | refine callP_b (lb) rfl ?_ | refine callP_b (hr1) rfl ?_ | refine callP_b (hr2) rfl ?_ | refine callP_b (hr3) rfl ?_) <;> (simp -dsimp [hlt, hv, hk8, hgr, hj, hg, hm1, hne, hm2, he, hne2, hbs, hq, hcm, hc2, dv, hwd, hti0]; (repeat (simp -dsimp (disch := (first | omega | assumption | (refine Bool.eq_false_iff.1 ?_; assumption))) only [wrap_in, if_pos, if_neg]; (try simp -dsimp [hlt, hv, hk8, hgr, hj, hg, hm1, hne, hm2, he, hne2, hbs, hq, hcm, hc2, dv, hwd, hti0]))))) | ((first | refine guardP_of (fun hc => ?_) (fun hc => ?_) | refine st_cond rfl (fun hc => ?_) (fun hc => ?_)) <;> (try simp only [lqA, lqB, lqC, lqD, lqE, lqF, lqG, lqH, lqI, lqJ, lqK, lqL, lqM, lqN, lqO] at hc) <;> (try (exfalso; first | omega | exact bool_tf hc (by assumption) | exact bool_ft hc (by assumption) | exact absurd (by assumption) hc)) <;> (first | with_reducible show STri _ _ _ _ _ _ | (simp -dsimp [hlt, hv, hk8, hgr, hj, hg, hm1, hne, hm2, he, hne2, hbs, hq, hcm, hc2, dv, hwd, hti0, hc]; (repeat (simp -dsimp (disch := (first | omega | assumption | (refine Bool.eq_false_iff.1 ?_; assumption))) only [wrap_in, if_pos, if_neg]; (try simp -dsimp [hlt, hv, hk8, hgr, hj, hg, hm1, hne, hm2, he, hne2, hbs, hq, hcm, hc2, dv, hwd, hti0, hc]))))))))
          all_goals exact ⟨hlt, by simp, by simp [hst], by rw [hst]⟩
    · rw [hq] at hti hsa
      simp only [Int.reduceEq, if_false, if_true] at hti hsa
      have hwe := wrap_in (((nvAt x k).b + 200) * (srcN x k).every) (by omega) (by omega)
      by_cases hti0 : 0 ≤ timeN x k - (x.by' - 128)
      · rw [if_pos hti0] at hst
        rw [hti] at hti0
        (repeat' (first | ((first | with_reducible refine st_skip ?_ | with_reducible refine st_exit ?_); (try simp only [seqQ, blockQ, loopQ, forQ, whileQ, reduceIte, Nat.reduceEqDiff])) | (with_reducible refine st_ret ?_; ((try simp only [seqQ, blockQ, loopQ, forQ, whileQ]); first | (with_reducible refine retM_ret ?_) | (with_reducible refine retF_ret ?_) | (with_reducible refine retO_ret ?_) | refine retQ_ret ?_; simp [hlt, hv, hk8, hgr, hj, hg, hm1, hne, hm2, he, hne2, hbs, hq, hwe, hti0, hA, hB])) | refine st_seq ?_ | refine st_block ?_ | ((with_reducible show (STri _ _ _ _ _) ∧ (STri _ _ _ _ _)); refine And.intro ?_ ?_) | ((first | refine st_reg ?_ | refine buildP_own ?_ | refine appP_own ?_ | refine callP_b (hby) rfl ?_ | refine callP_b (lb) rfl ?_) <;> (simp -dsimp [hlt, hv, hk8, hgr, hj, hg, hm1, hne, hm2, he, hne2, hbs, hq, hwe, hti0, hA, hB]; (repeat (simp -dsimp (disch := (first | omega | assumption | (refine Bool.eq_false_iff.1 ?_; assumption))) only [wrap_in, if_pos, if_neg]; (try simp -dsimp [hlt, hv, hk8, hgr, hj, hg, hm1, hne, hm2, he, hne2, hbs, hq, hwe, hti0, hA, hB]))))) | ((first | refine guardP_of (fun hc => ?_) (fun hc => ?_) | refine st_cond rfl (fun hc => ?_) (fun hc => ?_)) <;> (try simp only [lqA, lqB, lqC, lqD, lqE, lqF, lqG, lqH, lqI, lqJ, lqK, lqL, lqM, lqN, lqO] at hc) <;> (try (exfalso; first | omega | exact bool_tf hc (by assumption) | exact bool_ft hc (by assumption) | exact absurd (by assumption) hc)) <;> (first | with_reducible show STri _ _ _ _ _ _ | (simp -dsimp [hlt, hv, hk8, hgr, hj, hg, hm1, hne, hm2, he, hne2, hbs, hq, hwe, hti0, hA, hB, hc]; (repeat (simp -dsimp (disch := (first | omega | assumption | (refine Bool.eq_false_iff.1 ?_; assumption))) only [wrap_in, if_pos, if_neg]; (try simp -dsimp [hlt, hv, hk8, hgr, hj, hg, hm1, hne, hm2, he, hne2, hbs, hq, hwe, hti0, hA, hB, hc]))))))))
        all_goals exact ⟨hlt, by simp, by simp [hst], by rw [hst]; simp [noteN, hti, hsa]⟩
      · rw [if_neg hti0] at hst
        rw [hti] at hti0
        (repeat' (first | ((first | with_reducible refine st_skip ?_ | with_reducible refine st_exit ?_); (try simp only [seqQ, blockQ, loopQ, forQ, whileQ, reduceIte, Nat.reduceEqDiff])) | (with_reducible refine st_ret ?_; ((try simp only [seqQ, blockQ, loopQ, forQ, whileQ]); first | (with_reducible refine retM_ret ?_) | (with_reducible refine retF_ret ?_) | (with_reducible refine retO_ret ?_) | refine retQ_ret ?_; simp [hlt, hv, hk8, hgr, hj, hg, hm1, hne, hm2, he, hne2, hbs, hq, hwe, hti0])) | refine st_seq ?_ | refine st_block ?_ | ((with_reducible show (STri _ _ _ _ _) ∧ (STri _ _ _ _ _)); refine And.intro ?_ ?_) | ((first | refine st_reg ?_ | refine buildP_own ?_ | refine appP_own ?_ | refine callP_b (hby) rfl ?_ | refine callP_b (lb) rfl ?_) <;> (simp -dsimp [hlt, hv, hk8, hgr, hj, hg, hm1, hne, hm2, he, hne2, hbs, hq, hwe, hti0]; (repeat (simp -dsimp (disch := (first | omega | assumption | (refine Bool.eq_false_iff.1 ?_; assumption))) only [wrap_in, if_pos, if_neg]; (try simp -dsimp [hlt, hv, hk8, hgr, hj, hg, hm1, hne, hm2, he, hne2, hbs, hq, hwe, hti0]))))) | ((first | refine guardP_of (fun hc => ?_) (fun hc => ?_) | refine st_cond rfl (fun hc => ?_) (fun hc => ?_)) <;> (try simp only [lqA, lqB, lqC, lqD, lqE, lqF, lqG, lqH, lqI, lqJ, lqK, lqL, lqM, lqN, lqO] at hc) <;> (try (exfalso; first | omega | exact bool_tf hc (by assumption) | exact bool_ft hc (by assumption) | exact absurd (by assumption) hc)) <;> (first | with_reducible show STri _ _ _ _ _ _ | (simp -dsimp [hlt, hv, hk8, hgr, hj, hg, hm1, hne, hm2, he, hne2, hbs, hq, hwe, hti0, hc]; (repeat (simp -dsimp (disch := (first | omega | assumption | (refine Bool.eq_false_iff.1 ?_; assumption))) only [wrap_in, if_pos, if_neg]; (try simp -dsimp [hlt, hv, hk8, hgr, hj, hg, hm1, hne, hm2, he, hne2, hbs, hq, hwe, hti0, hc]))))))))
        all_goals exact ⟨hlt, by simp, by simp [hst], by rw [hst]⟩
    · rw [hq] at hti hsa
      simp only [Int.reduceEq, if_false, if_true] at hti hsa
      obtain ⟨t, ht⟩ : ∃ t : Nat, ((1 + (nvAt x k).b) % ((srcN x k).table.length : Nat)).toNat = t := ⟨_, rfl⟩
      have hz1 := Int.emod_nonneg (1 + (nvAt x k).b) (show (((srcN x k).table.length : Nat) : Int) ≠ 0 by omega)
      have hz2 := Int.emod_lt_of_pos (1 + (nvAt x k).b) (show 0 < (((srcN x k).table.length : Nat) : Int) by omega)
      have htl : t < (srcN x k).table.length := by omega
      have hgt : ∀ h : t < (srcN x k).table.length, (srcN x k).table[t]'h = tabAt (srcN x k) (1 + (nvAt x k).b) := fun h => by unfold tabAt; rw [ht]; simp [h]
      have hmt : (1 + (nvAt x k).b).tmod ((srcN x k).table.length : Int) = (t : Nat) := by
        rw [Int.tmod_eq_emod_of_nonneg (by omega)]; omega
      have hne3 : ¬ (srcN x k).table = [] := fun h => by rw [h] at s6; simp at s6
      by_cases hti0 : 0 ≤ timeN x k - (x.by' - 128)
      · rw [if_pos hti0] at hst
        rw [hti] at hti0
        (repeat' (first | ((first | with_reducible refine st_skip ?_ | with_reducible refine st_exit ?_); (try simp only [seqQ, blockQ, loopQ, forQ, whileQ, reduceIte, Nat.reduceEqDiff])) | (with_reducible refine st_ret ?_; ((try simp only [seqQ, blockQ, loopQ, forQ, whileQ]); first | (with_reducible refine retM_ret ?_) | (with_reducible refine retF_ret ?_) | (with_reducible refine retO_ret ?_) | refine retQ_ret ?_; simp [hlt, hv, hk8, hgr, hj, hg, hm1, hne, hm2, he, hne2, hbs, hq, htl, hgt, hmt, hne3, hti0, hA, hB])) | refine st_seq ?_ | refine st_block ?_ | ((with_reducible show (STri _ _ _ _ _) ∧ (STri _ _ _ _ _)); refine And.intro ?_ ?_) | ((first | refine st_reg ?_ | refine buildP_own ?_ | refine appP_own ?_ | refine callP_b (hby) rfl ?_ | refine callP_b (lb) rfl ?_) <;> (simp -dsimp [hlt, hv, hk8, hgr, hj, hg, hm1, hne, hm2, he, hne2, hbs, hq, htl, hgt, hmt, hne3, hti0, hA, hB]; (repeat (simp -dsimp (disch := (first | omega | assumption | (refine Bool.eq_false_iff.1 ?_; assumption))) only [wrap_in, if_pos, if_neg]; (try simp -dsimp [hlt, hv, hk8, hgr, hj, hg, hm1, hne, hm2, he, hne2, hbs, hq, htl, hgt, hmt, hne3, hti0, hA, hB]))))) | ((first | refine guardP_of (fun hc => ?_) (fun hc => ?_) | refine st_cond rfl (fun hc => ?_) (fun hc => ?_)) <;> (try simp only [lqA, lqB, lqC, lqD, lqE, lqF, lqG, lqH, lqI, lqJ, lqK, lqL, lqM, lqN, lqO] at hc) <;> (try (exfalso; first | omega | exact bool_tf hc (by assumption) | exact bool_ft hc (by assumption) | exact absurd (by assumption) hc)) <;> (first | with_reducible show STri _ _ _ _ _ _ | (simp -dsimp [hlt, hv, hk8, hgr, hj, hg, hm1, hne, hm2, he, hne2, hbs, hq, htl, hgt, hmt, hne3, hti0, hA, hB, hc]; (repeat (simp -dsimp (disch := (first | omega | assumption | (refine Bool.eq_false_iff.1 ?_; assumption))) only [wrap_in, if_pos, if_neg]; (try simp -dsimp [hlt, hv, hk8, hgr, hj, hg, hm1, hne, hm2, he, hne2, hbs, hq, htl, hgt, hmt, hne3, hti0, hA, hB, hc]))))))))
        all_goals exact ⟨hlt, by simp, by simp [hst], by rw [hst]; simp [noteN, hti, hsa]⟩
      · rw [if_neg hti0] at hst
        rw [hti] at hti0
        (repeat' (first | ((first | with_reducible refine st_skip ?_ | with_reducible refine st_exit ?_); (try simp only [seqQ, blockQ, loopQ, forQ, whileQ, reduceIte, Nat.reduceEqDiff])) | (with_reducible refine st_ret ?_; ((try simp only [seqQ, blockQ, loopQ, forQ, whileQ]); first | (with_reducible refine retM_ret ?_) | (with_reducible refine retF_ret ?_) | (with_reducible refine retO_ret ?_) | refine retQ_ret ?_; simp [hlt, hv, hk8, hgr, hj, hg, hm1, hne, hm2, he, hne2, hbs, hq, htl, hgt, hmt, hne3, hti0])) | refine st_seq ?_ | refine st_block ?_ | ((with_reducible show (STri _ _ _ _ _) ∧ (STri _ _ _ _ _)); refine And.intro ?_ ?_) | ((first | refine st_reg ?_ | refine buildP_own ?_ | refine appP_own ?_ | refine callP_b (hby) rfl ?_ | refine callP_b (lb) rfl ?_) <;> (simp -dsimp [hlt, hv, hk8, hgr, hj, hg, hm1, hne, hm2, he, hne2, hbs, hq, htl, hgt, hmt, hne3, hti0]; (repeat (simp -dsimp (disch := (first | omega | assumption | (refine Bool.eq_false_iff.1 ?_; assumption))) only [wrap_in, if_pos, if_neg]; (try simp -dsimp [hlt, hv, hk8, hgr, hj, hg, hm1, hne, hm2, he, hne2, hbs, hq, htl, hgt, hmt, hne3, hti0]))))) | ((first | refine guardP_of (fun hc => ?_) (fun hc => ?_) | refine st_cond rfl (fun hc => ?_) (fun hc => ?_)) <;> (try simp only [lqA, lqB, lqC, lqD, lqE, lqF, lqG, lqH, lqI, lqJ, lqK, lqL, lqM, lqN, lqO] at hc) <;> (try (exfalso; first | omega | exact bool_tf hc (by assumption) | exact bool_ft hc (by assumption) | exact absurd (by assumption) hc)) <;> (first | with_reducible show STri _ _ _ _ _ _ | (simp -dsimp [hlt, hv, hk8, hgr, hj, hg, hm1, hne, hm2, he, hne2, hbs, hq, htl, hgt, hmt, hne3, hti0, hc]; (repeat (simp -dsimp (disch := (first | omega | assumption | (refine Bool.eq_false_iff.1 ?_; assumption))) only [wrap_in, if_pos, if_neg]; (try simp -dsimp [hlt, hv, hk8, hgr, hj, hg, hm1, hne, hm2, he, hne2, hbs, hq, htl, hgt, hmt, hne3, hti0, hc]))))))))
        all_goals exact ⟨hlt, by simp, by simp [hst], by rw [hst]⟩
    · rw [hq] at hti hsa
      simp only [Int.reduceEq, if_false, if_true] at hti hsa
      by_cases hti0 : 0 ≤ timeN x k - (x.by' - 128)
      · rw [if_pos hti0] at hst
        rw [hti] at hti0
        (repeat' (first | ((first | with_reducible refine st_skip ?_ | with_reducible refine st_exit ?_); (try simp only [seqQ, blockQ, loopQ, forQ, whileQ, reduceIte, Nat.reduceEqDiff])) | (with_reducible refine st_ret ?_; ((try simp only [seqQ, blockQ, loopQ, forQ, whileQ]); first | (with_reducible refine retM_ret ?_) | (with_reducible refine retF_ret ?_) | (with_reducible refine retO_ret ?_) | refine retQ_ret ?_; simp [hlt, hv, hk8, hgr, hj, hg, hm1, hne, hm2, he, hne2, hbs, hq, s0, hti0, hA, hB])) | refine st_seq ?_ | refine st_block ?_ | ((with_reducible show (STri _ _ _ _ _) ∧ (STri _ _ _ _ _)); refine And.intro ?_ ?_) | ((first | refine st_reg ?_ | refine buildP_own ?_ | refine appP_own ?_ | refine callP_b (hby) rfl ?_ | refine callP_b (lb) rfl ?_) <;> (simp -dsimp [hlt, hv, hk8, hgr, hj, hg, hm1, hne, hm2, he, hne2, hbs, hq, s0, hti0, hA, hB]; (repeat (simp -dsimp (disch := (first | omega | assumption | (refine Bool.eq_false_iff.1 ?_; assumption))) only [wrap_in, if_pos, if_neg]; (try simp -dsimp [hlt, hv, hk8, hgr, hj, hg, hm1, hne, hm2, he, hne2, hbs, hq, s0, hti0, hA, hB]))))) | ((first | refine guardP_of (fun hc => ?_) (fun hc => ?_) | refine st_cond rfl (fun hc => ?_) (fun hc => ?_)) <;> (try simp only [lqA, lqB, lqC, lqD, lqE, lqF, lqG, lqH, lqI, lqJ, lqK, lqL, lqM, lqN, lqO] at hc) <;> (try (exfalso; first | omega | exact bool_tf hc (by assumption) | exact bool_ft hc (by assumption) | exact absurd (by assumption) hc)) <;> (first | with_reducible show STri _ _ _ _ _ _ | (simp -dsimp [hlt, hv, hk8, hgr, hj, hg, hm1, hne, hm2, he, hne2, hbs, hq, s0, hti0, hA, hB, hc]; (repeat (simp -dsimp (disch := (first | omega | assumption | (refine Bool.eq_false_iff.1 ?_; assumption))) only [wrap_in, if_pos, if_neg]; (try simp -dsimp [hlt, hv, hk8, hgr, hj, hg, hm1, hne, hm2, he, hne2, hbs, hq, s0, hti0, hA, hB, hc]))))))))
        all_goals exact ⟨hlt, by simp, by simp [hst], by rw [hst]; simp [noteN, hti, hsa]⟩
      · rw [if_neg hti0] at hst
        rw [hti] at hti0
        (repeat' (first | ((first | with_reducible refine st_skip ?_ | with_reducible refine st_exit ?_); (try simp only [seqQ, blockQ, loopQ, forQ, whileQ, reduceIte, Nat.reduceEqDiff])) | (with_reducible refine st_ret ?_; ((try simp only [seqQ, blockQ, loopQ, forQ, whileQ]); first | (with_reducible refine retM_ret ?_) | (with_reducible refine retF_ret ?_) | (with_reducible refine retO_ret ?_) | refine retQ_ret ?_; simp [hlt, hv, hk8, hgr, hj, hg, hm1, hne, hm2, he, hne2, hbs, hq, s0, hti0])) | refine st_seq ?_ | refine st_block ?_ | ((with_reducible show (STri _ _ _ _ _) ∧ (STri _ _ _ _ _)); refine And.intro ?_ ?_) | ((first | refine st_reg ?_ | refine buildP_own ?_ | refine appP_own ?_ | refine callP_b (hby) rfl ?_ | refine callP_b (lb) rfl ?_) <;> (simp -dsimp [hlt, hv, hk8, hgr, hj, hg, hm1, hne, hm2, he, hne2, hbs, hq, s0, hti0]; (repeat (simp -dsimp (disch := (first | omega | assumption | (refine Bool.eq_false_iff.1 ?_; assumption))) only [wrap_in, if_pos, if_neg]; (try simp -dsimp [hlt, hv, hk8, hgr, hj, hg, hm1, hne, hm2, he, hne2, hbs, hq, s0, hti0]))))) | ((first | refine guardP_of (fun hc => ?_) (fun hc => ?_) | refine st_cond rfl (fun hc => ?_) (fun hc => ?_)) <;> (try simp only [lqA, lqB, lqC, lqD, lqE, lqF, lqG, lqH, lqI, lqJ, lqK, lqL, lqM, lqN, lqO] at hc) <;> (try (exfalso; first | omega | exact bool_tf hc (by assumption) | exact bool_ft hc (by assumption) | exact absurd (by assumption) hc)) <;> (first | with_reducible show STri _ _ _ _ _ _ | (simp -dsimp [hlt, hv, hk8, hgr, hj, hg, hm1, hne, hm2, he, hne2, hbs, hq, s0, hti0, hc]; (repeat (simp -dsimp (disch := (first | omega | assumption | (refine Bool.eq_false_iff.1 ?_; assumption))) only [wrap_in, if_pos, if_neg]; (try simp -dsimp [hlt, hv, hk8, hgr, hj, hg, hm1, hne, hm2, he, hne2, hbs, hq, s0, hti0, hc]))))))))
        all_goals exact ⟨hlt, by simp, by simp [hst], by rw [hst]⟩
  · have hkn : k = numN x := by omega
    subst hkn
    by_cases hv : numN x < x.notes.length
    · have hk8 : ¬ (numN x : Int) < 8 := by unfold numN at *; omega
      (repeat' (first | ((first | with_reducible refine st_skip ?_ | with_reducible refine st_exit ?_); (try simp only [seqQ, blockQ, loopQ, forQ, whileQ, reduceIte, Nat.reduceEqDiff])) | (with_reducible refine st_ret ?_; ((try simp only [seqQ, blockQ, loopQ, forQ, whileQ]); first | (with_reducible refine retM_ret ?_) | (with_reducible refine retF_ret ?_) | (with_reducible refine retO_ret ?_) | refine retQ_ret ?_; simp [hv, hk8])) | refine st_seq ?_ | refine st_block ?_ | ((with_reducible show (STri _ _ _ _ _) ∧ (STri _ _ _ _ _)); refine And.intro ?_ ?_) | ((first | refine st_reg ?_ | refine buildP_own ?_ | refine appP_own ?_) <;> (simp -dsimp [hv, hk8]; (repeat (simp -dsimp (disch := (first | omega | assumption | (refine Bool.eq_false_iff.1 ?_; assumption))) only [wrap_in, if_pos, if_neg]; (try simp -dsimp [hv, hk8]))))) | ((first | refine guardP_of (fun hc => ?_) (fun hc => ?_) | refine st_cond rfl (fun hc => ?_) (fun hc => ?_)) <;> (try simp only [lqA, lqB, lqC, lqD, lqE, lqF, lqG, lqH, lqI, lqJ, lqK, lqL, lqM, lqN, lqO] at hc) <;> (try (exfalso; first | omega | exact bool_tf hc (by assumption) | exact bool_ft hc (by assumption) | exact absurd (by assumption) hc)) <;> (first | with_reducible show STri _ _ _ _ _ _ | (simp -dsimp [hv, hk8, hc]; (repeat (simp -dsimp (disch := (first | omega | assumption | (refine Bool.eq_false_iff.1 ?_; assumption))) only [wrap_in, if_pos, if_neg]; (try simp -dsimp [hv, hk8, hc]))))))))
      all_goals exact ⟨15, by simp, rfl⟩
    · (repeat' (first | ((first | with_reducible refine st_skip ?_ | with_reducible refine st_exit ?_); (try simp only [seqQ, blockQ, loopQ, forQ, whileQ, reduceIte, Nat.reduceEqDiff])) | (with_reducible refine st_ret ?_; ((try simp only [seqQ, blockQ, loopQ, forQ, whileQ]); first | (with_reducible refine retM_ret ?_) | (with_reducible refine retF_ret ?_) | (with_reducible refine retO_ret ?_) | refine retQ_ret ?_; simp [hv])) | refine st_seq ?_ | refine st_block ?_ | ((with_reducible show (STri _ _ _ _ _) ∧ (STri _ _ _ _ _)); refine And.intro ?_ ?_) | ((first | refine st_reg ?_ | refine buildP_own ?_ | refine appP_own ?_) <;> (simp -dsimp [hv]; (repeat (simp -dsimp (disch := (first | omega | assumption | (refine Bool.eq_false_iff.1 ?_; assumption))) only [wrap_in, if_pos, if_neg]; (try simp -dsimp [hv]))))) | ((first | refine guardP_of (fun hc => ?_) (fun hc => ?_) | refine st_cond rfl (fun hc => ?_) (fun hc => ?_)) <;> (try simp only [lqA, lqB, lqC, lqD, lqE, lqF, lqG, lqH, lqI, lqJ, lqK, lqL, lqM, lqN, lqO] at hc) <;> (try (exfalso; first | omega | exact bool_tf hc (by assumption) | exact bool_ft hc (by assumption) | exact absurd (by assumption) hc)) <;> (first | with_reducible show STri _ _ _ _ _ _ | (simp -dsimp [hv, hc]; (repeat (simp -dsimp (disch := (first | omega | assumption | (refine Bool.eq_false_iff.1 ?_; assumption))) only [wrap_in, if_pos, if_neg]; (try simp -dsimp [hv, hc]))))))))
      all_goals exact ⟨15, by simp, rfl⟩
end Go.Proofs.Ytakdmliblijgmaa
/- Wire's plain laws, IV: spans in order, with gaps. -/
namespace Go.Proofs.Ytakdmliblijgmaa
open Go.RowKit
def GapsP (l : List (Int × Int)) : Prop := (∀ e ∈ l, e.1 ≤ e.2) ∧ l.Pairwise fun a b => a.2 + 1 < b.1
def insB (n : Int) (l : List (Int × Int)) : Bool := l.any fun e => decide (e.1 ≤ n) && decide (n ≤ e.2)
structure SpInv (b : Wbk) (p : Nat → Bool) (k : Nat) (l : List (Int × Int)) : Prop where
  gap : GapsP l
  lo : ∀ e ∈ l, b.nlo ≤ e.1 ∧ e.2 < b.nlo + k
  cov : ∀ y, insB y l = true ↔ b.nlo ≤ y ∧ y < b.nlo + k ∧ p (wrongN b y) = true
theorem insB_app (y : Int) (l m : List (Int × Int)) : insB y (l ++ m) = (insB y l || insB y m) := by unfold insB; exact List.any_append
theorem insB_one (y : Int) (e : Int × Int) : insB y [e] = true ↔ e.1 ≤ y ∧ y ≤ e.2 := by unfold insB; simp
theorem spInv (b : Wbk) (p : Nat → Bool) : ∀ k, k ≤ (allL b).length → SpInv b p k (spansTo b p k)
  | 0, _ => by
    have e0 : spansTo b p 0 = [] := rfl
    rw [e0]
    refine ⟨⟨fun e he => ?_, List.Pairwise.nil⟩, fun e he => ?_, fun y => ?_⟩
    · cases he
    · cases he
    · constructor
      · intro h
        simp [insB] at h
      · rintro ⟨h1, h2, _⟩
        omega
  | k + 1, hk => by
    have ih := spInv b p k (by omega)
    have hs := spansTo_succ (p := p) (show k < (allL b).length by omega)
    have hN : k < bookN b := by rw [← allL_len b]; omega
    have h3 : (allL b)[k]'(by omega) = (b.nlo + (k : Int), wrongN b (b.nlo + k)) := by
      have := allL_get hN
      rw [List.getElem?_eq_getElem (by omega)] at this
      exact Option.some.inj this
    rw [h3] at hs
    obtain ⟨⟨g1, g2⟩, i2, i3⟩ := ih
    rw [hs]
    unfold spanStep
    dsimp only
    generalize spansTo b p k = acc at *
    by_cases hp : p (wrongN b (b.nlo + k)) = true
    · rw [if_pos hp]
      have hnew : ∀ y, y = b.nlo + (k : Int) → p (wrongN b y) = true := fun y e => by rw [e]; exact hp
      rcases List.eq_nil_or_concat acc with rfl | ⟨ini, l, rfl⟩
      · simp only [List.getLast?_nil]
        refine ⟨⟨fun e he => ?_, List.pairwise_singleton _ _⟩, fun e he => ?_, fun y => ?_⟩
        · rw [List.mem_singleton.1 he]; exact Int.le_refl _
        · rw [List.mem_singleton.1 he]; dsimp only; omega
        · rw [insB_one]
          constructor
          · rintro ⟨h1, h2⟩
            dsimp only at h1 h2
            exact ⟨by omega, by omega, hnew y (by omega)⟩
          · rintro ⟨h1, h2, h4⟩
            dsimp only
            rcases (show y = b.nlo + (k : Int) ∨ y < b.nlo + (k : Int) by omega) with h | h
            · omega
            · have := (i3 y).2 ⟨h1, h, h4⟩
              simp [insB] at this
      · rw [List.concat_eq_append] at *
        simp only [List.getLast?_append, List.getLast?_singleton, Option.some_or, List.dropLast_concat]
        rw [List.pairwise_append] at g2
        obtain ⟨g2, _, g3⟩ := g2
        have hl := g1 l (by simp)
        have hl2 := i2 l (by simp)
        by_cases hq : l.2 = b.nlo + k - 1
        · rw [if_pos hq]
          refine ⟨⟨fun e he => ?_, ?_⟩, fun e he => ?_, fun y => ?_⟩
          · rcases List.mem_append.1 he with he | he
            · exact g1 e (by simp [he])
            · rw [List.mem_singleton.1 he]; dsimp only; omega
          · rw [List.pairwise_append]
            exact ⟨g2, List.pairwise_singleton _ _, fun a ha c hc => by rw [List.mem_singleton.1 hc]; exact g3 a ha l (by simp)⟩
          · rcases List.mem_append.1 he with he | he
            · have := i2 e (by simp [he]); omega
            · rw [List.mem_singleton.1 he]; dsimp only; omega
          · have h5 := i3 y
            rw [insB_app, Bool.or_eq_true, insB_one] at h5 ⊢
            dsimp only
            constructor
            · rintro (h | ⟨h1, h2⟩)
              · obtain ⟨h6, h7, h8⟩ := h5.1 (.inl h)
                exact ⟨h6, by omega, h8⟩
              · rcases (show y = b.nlo + (k : Int) ∨ y ≤ l.2 by omega) with h | h
                · exact ⟨by omega, by omega, hnew y h⟩
                · obtain ⟨h6, h7, h8⟩ := h5.1 (.inr ⟨h1, h⟩)
                  exact ⟨h6, by omega, h8⟩
            · rintro ⟨h1, h2, h4⟩
              rcases (show y = b.nlo + (k : Int) ∨ y < b.nlo + (k : Int) by omega) with h | h
              · exact .inr ⟨by omega, by omega⟩
              · rcases h5.2 ⟨h1, h, h4⟩ with h | h
                · exact .inl h
                · exact .inr ⟨h.1, by omega⟩
        · rw [if_neg hq]
          refine ⟨⟨fun e he => ?_, ?_⟩, fun e he => ?_, fun y => ?_⟩
          · rcases List.mem_append.1 he with he | he
            · exact g1 e he
            · rw [List.mem_singleton.1 he]; exact Int.le_refl _
          · rw [List.pairwise_append]
            refine ⟨?_, List.pairwise_singleton _ _, fun a ha c hc => ?_⟩
            · rw [List.pairwise_append]; exact ⟨g2, List.pairwise_singleton _ _, g3⟩
            · rw [List.mem_singleton.1 hc]
              dsimp only
              rcases List.mem_append.1 ha with ha | ha
              · have := g3 a ha l (by simp); omega
              · rw [List.mem_singleton.1 ha]; omega
          · rcases List.mem_append.1 he with he | he
            · have := i2 e he; omega
            · rw [List.mem_singleton.1 he]; dsimp only; omega
          · have h5 := i3 y
            rw [insB_app, Bool.or_eq_true, insB_one, h5]
            dsimp only
            constructor
            · rintro (⟨h6, h7, h8⟩ | ⟨h1, h2⟩)
              · exact ⟨h6, by omega, h8⟩
              · exact ⟨by omega, by omega, hnew y (by omega)⟩
            · rintro ⟨h1, h2, h4⟩
              rcases (show y = b.nlo + (k : Int) ∨ y < b.nlo + (k : Int) by omega) with h | h
              · exact .inr ⟨by omega, by omega⟩
              · exact .inl ⟨h1, h, h4⟩
    · rw [if_neg hp]
      refine ⟨⟨g1, g2⟩, fun e he => ?_, fun y => ?_⟩
      · have := i2 e he; omega
      · rw [i3 y]
        constructor
        · rintro ⟨h1, h2, h4⟩; exact ⟨h1, by omega, h4⟩
        · rintro ⟨h1, h2, h4⟩
          refine ⟨h1, ?_, h4⟩
          rcases (show y = b.nlo + (k : Int) ∨ y < b.nlo + (k : Int) by omega) with h | h
          · rw [h] at h4; exact absurd h4 hp
          · exact h
theorem spansInv {b : Wbk} (hb : BkOK b) (p : Nat → Bool) : GapsP (spansL b p) ∧ (∀ e ∈ spansL b p, b.nlo ≤ e.1 ∧ e.2 ≤ b.nhi) ∧ ∀ y, insB y (spansL b p) = true ↔ b.nlo ≤ y ∧ y ≤ b.nhi ∧ p (wrongN b y) = true := by
  have h := spInv b p (allL b).length (Nat.le_refl _)
  have e : spansTo b p (allL b).length = spansL b p := by unfold spansTo spansL; rw [List.take_length]
  rw [e] at h
  have hN : ((allL b).length : Int) = b.nhi + 1 - b.nlo := by
    rw [allL_len]; have := hb.n1; unfold bookN; omega
  refine ⟨h.gap, fun e he => ?_, fun y => ?_⟩
  · have := h.lo e he; omega
  · rw [h.cov y]
    constructor
    · rintro ⟨h1, h2, h3⟩; exact ⟨h1, by omega, h3⟩
    · rintro ⟨h1, h2, h3⟩; exact ⟨h1, by omega, h3⟩
end Go.Proofs.Ytakdmliblijgmaa
/- Wire's plain laws, V: true notes are right. -/
namespace Go.Proofs.Ytakdmliblijgmaa
open Go.RowKit
theorem off_size (x : Of) : sizeW (offW x) = true := by
  have := numS_bd x
  unfold sizeW within1
  rw [offW_len]
  simp; omega
theorem bd_valid {s : Wsrc} (h : SrcBd s) : validV s = true := by
  obtain ⟨hk, e0, e1, e2, e3, a0, a1, d0, d1, d2, d3, v0, v1, t0, t1, t2⟩ := h
  have h1 : spanW s.elo s.ehi 3600 = true := by unfold spanW; simp; omega
  have h2 : within1 0 3155760000 s.at' = true := by unfold within1; simp; omega
  have h3 : spanW s.dlo s.dhi 100000 = true := by unfold spanW; simp; omega
  have h4 : within1 1 3155760000 s.every = true := by unfold within1; simp; omega
  have h5 : within1 1 366 s.table.length = true := by unfold within1; simp; omega
  have h6 : allIn (-3600) 3600 s.table = true := by
    unfold allIn
    rw [List.all_eq_true]
    intro n hn
    have := t2 n hn
    unfold inB; simp; omega
  unfold validV baseV useV clockV eventV sunV kindOK
  rw [h1, h2, h3, h4, h5, h6]
  rcases hk with h | h | h | h <;> rw [h] <;> decide
theorem off_valid {x : Of} (hx : OfOk x) : (offW x).all validV = true := by
  rw [List.all_eq_true]
  intro s hs
  unfold offW offL at hs
  obtain ⟨i, _, rfl⟩ := List.mem_map.1 hs
  exact bd_valid (src_bd (svAt_ok hx i))
theorem off_wlen {x : Of} (hx : OfOk x) : WLen (offW x) := ⟨fun s hs => by
  unfold offW offL at hs
  obtain ⟨i, _, rfl⟩ := List.mem_map.1 hs
  have := (src_bd (svAt_ok hx i)).t1
  omega⟩
theorem offN_len (x : Of) : (offN x).length ≤ 8 := by
  have := notesTo_len' x (numN x)
  unfold offN
  unfold numN at *
  omega
structure NtIn (x : Of) (n : Wnt) : Prop where
  s : ∃ j : Nat, n.src = j ∧ j < numS x ∧ saidB (srcS (svAt x j)) n.said = true
  t0 : 0 ≤ n.tick
  t1 : n.tick ≤ 3155760000
theorem nt_err {x : Of} {n : Wnt} (h : NtIn x n) : noteErr (offW x) n = 0 := by
  obtain ⟨⟨j, h1, h2, h3⟩, t0, t1⟩ := h
  unfold noteErr
  have q1 : within1 0 ((offW x).length - 1) n.src = true := by rw [offW_len, h1]; unfold within1; simp; omega
  have q2 : within1 0 3155760000 n.tick = true := by unfold within1; simp; omega
  have q3 : (((offW x).map fun s => saidB s n.said).getD n.src.toNat false) = true := by
    have hj : j < (offW x).length := by rw [offW_len]; exact h2
    rw [h1, Int.toNat_natCast]
    have : ((offW x).map fun s => saidB s n.said).getD j false = saidB ((offW x)[j]) n.said := by simp [hj]
    rw [this, offW_get, h3]
  rw [if_pos q1, if_pos ⟨q2, q3⟩]
theorem newErr_zero {x : Of} (hx : OfOk x) {l : List Wnt} (hl : l.length ≤ 60) (hn : ∀ n ∈ l, NtIn x n) {lo hi : Int} (hs : spanW lo hi 7200 = true) : newErr (offW x) l lo hi = 0 := by
  have h1 := off_size x
  have h2 := off_valid hx
  have h3 : notesErr (offW x) l = 0 := by
    unfold notesErr
    have : l.find? (fun n => decide (noteErr (offW x) n ≠ 0)) = none := by
      rw [List.find?_eq_none]
      intro n hn'
      simp [nt_err (hn n hn')]
    rw [this]
  unfold newErr
  rw [h1, h2, h3, hs]
  simp; omega
theorem off_right {x : Of} {l : List Wnt} {lo hi : Int} (h : newErr (offW x) l lo hi = 0) {n : Wnt} {j : Nat} (h1 : n.src = j) (h2 : j < numS x) (y : Int) :
    rightN (newBk (offW x) l lo hi) n y = (within1 0 3155760000 (n.tick + y) && rightB (srcS (svAt x j)) (n.tick + y) n.said (srcS (svAt x j)).elo (srcS (svAt x j)).ehi) := by
  obtain ⟨e1, e2, _⟩ := new_nz h
  have hj : j < (offW x).length := by rw [offW_len]; exact h2
  unfold rightN
  rw [e1, e2, h1, Int.toNat_natCast]
  have q1 : (offW x).getD j noSrc = srcS (svAt x j) := by
    rw [← offW_get x hj]; simp [hj]
  have q2 : ((offW x).map errOf).getD j (0, 0) = errOf (srcS (svAt x j)) := by
    rw [← offW_get x hj]; simp [hj]
  rw [q1, q2]
  rfl
theorem said_ok {x : Of} (hx : OfOk x) (i : Nat) : saidB (srcN x i) (saidN x i) = true := by
  have hs := (srcN_bd hx i).k
  have hb := base_bd hx i
  unfold saidB saidN
  rcases hs with h | h | h | h <;> rw [h] <;> simp [within1] <;> omega
theorem noteN_in {x : Of} (hx : OfOk x) {i : Nat} (h : 0 ≤ (noteN x i).tick) : NtIn x (noteN x i) := by
  have ht := time_bd hx i
  obtain ⟨y1, y2⟩ := hx.y
  refine ⟨⟨srcI x i, rfl, srcI_lt i, said_ok hx i⟩, h, ?_⟩
  show timeN x i - (x.by' - 128) ≤ 3155760000
  omega
theorem offN_mem {x : Of} {n : Wnt} (h : n ∈ offN x) : ∃ i, n = noteN x i ∧ 0 ≤ (noteN x i).tick := by
  unfold offN notesTo' at h
  rw [List.mem_filter] at h
  obtain ⟨h1, h2⟩ := h
  obtain ⟨i, _, rfl⟩ := List.mem_map.1 h1
  exact ⟨i, rfl, by simpa using h2⟩
theorem true_right {x : Of} (hx : OfOk x) (i : Nat) : rightB (srcN x i) (timeN x i) (saidN x i) (srcN x i).elo (srcN x i).ehi = true := by
  have hs := srcN_bd hx i
  have he := err_bd hx i
  have hb := base_bd hx i
  have hev := ev_bd hx i
  obtain ⟨_, ⟨b1, b2⟩, _⟩ := nvAt_ok hx i
  have hq := hs.k
  unfold rightB
  rcases hq with hq | hq | hq | hq
  · rw [if_pos hq]
    have ht : timeN x i = baseN x i := by unfold timeN; simp [hq]
    have hsd : saidN x i = (baseN x i + errN x i + drfN x i / 86400000) % 43200 := by unfold saidN; simp [hq]
    have h0 : 0 ≤ baseN x i - (srcN x i).at' := by have := hs.a1; omega
    have hm : (srcN x i).dlo * (baseN x i - (srcN x i).at') ≤ (srcN x i).dhi * (baseN x i - (srcN x i).at') := Int.mul_le_mul_of_nonneg_right hs.d1 h0
    have hd : (srcN x i).dlo * (baseN x i - (srcN x i).at') ≤ drfN x i ∧ drfN x i ≤ (srcN x i).dhi * (baseN x i - (srcN x i).at') := by
      unfold drfN; split <;> omega
    rw [ht, hsd]
    unfold clockR clLo clHi upI
    generalize (srcN x i).dlo * (baseN x i - (srcN x i).at') = P at *
    generalize (srcN x i).dhi * (baseN x i - (srcN x i).at') = Q at *
    generalize drfN x i = D at *
    rw [Bool.and_eq_true, decide_eq_true_eq, decide_eq_true_eq]
    refine ⟨h0, ?_⟩
    omega
  · rw [if_neg (by omega), if_pos hq]
    have ht : timeN x i = (srcN x i).at' + ((nvAt x i).b + 200) * (srcN x i).every + errN x i := by unfold timeN; simp [hq]
    rw [ht]
    unfold eventR upI
    rw [decide_eq_true_eq]
    have hv := hs.v0
    have hN : 0 ≤ (nvAt x i).b + 200 := by omega
    generalize (nvAt x i).b + 200 = N at *
    generalize (srcN x i).every = E at *
    have e1 : N ≤ ((srcN x i).at' + N * E + errN x i - (srcN x i).at' - (srcN x i).elo) / E := by
      rw [Int.le_ediv_iff_mul_le (by omega)]; omega
    have e2 : -N ≤ -((srcN x i).at' + N * E + errN x i - (srcN x i).at' - (srcN x i).ehi) / E := by
      rw [Int.le_ediv_iff_mul_le (by omega), Int.neg_mul]; omega
    omega
  · rw [if_neg (by omega), if_neg (by omega), if_pos hq]
    have ht : timeN x i = (1 + (nvAt x i).b) * 86400 + tabAt (srcN x i) (1 + (nvAt x i).b) + errN x i := by unfold timeN; simp [hq]
    have hta := tabAt_bd hs (1 + (nvAt x i).b)
    have e0 := hs.e0
    have e2 := hs.e2
    have e3 := hs.e3
    unfold sunR
    rw [List.any_eq_true]
    refine ⟨(1 + (nvAt x i).b, noonI (srcN x i) (1 + (nvAt x i).b)), ?_, ?_⟩
    · unfold dayL
      have hlo : dayLo (timeN x i) = max 0 (timeN x i / 86400 - 1) := rfl
      have hdn : dayN (timeN x i) = (timeN x i / 86400 + 2 - dayLo (timeN x i)).toNat := rfl
      rw [List.mem_map]
      refine ⟨(1 + (nvAt x i).b - dayLo (timeN x i)).toNat, List.mem_range.2 (by omega), ?_⟩
      have e : dayLo (timeN x i) + ((1 + (nvAt x i).b - dayLo (timeN x i)).toNat : Int) = 1 + (nvAt x i).b := by omega
      rw [e]
    · have hn : noonI (srcN x i) (1 + (nvAt x i).b) = (1 + (nvAt x i).b) * 86400 + tabAt (srcN x i) (1 + (nvAt x i).b) := rfl
      rw [hn, ht]
      unfold within1
      simp; omega
  · rw [if_neg (by omega), if_neg (by omega), if_neg (by omega)]
    have ht : timeN x i = baseN x i + errN x i := by unfold timeN; simp [hq]
    have hsd : saidN x i = baseN x i := by unfold saidN; simp [hq]
    rw [ht, hsd]
    unfold signalR within1
    simp; omega
theorem note_right {x : Of} (hx : OfOk x) {l : List Wnt} {lo hi : Int} (h : newErr (offW x) l lo hi = 0) (i : Nat) : rightN (newBk (offW x) l lo hi) (noteN x i) (x.by' - 128) = true := by
  rw [off_right h (j := srcI x i) rfl (srcI_lt i)]
  have e : (noteN x i).tick + (x.by' - 128) = timeN x i := by show timeN x i - (x.by' - 128) + (x.by' - 128) = _; omega
  have ht := time_bd hx i
  rw [e]
  have h1 : within1 0 3155760000 (timeN x i) = true := by unfold within1; simp; omega
  rw [h1, Bool.true_and]
  exact true_right hx i
end Go.Proofs.Ytakdmliblijgmaa
/- Wire's plain laws, VI: the truth is there. -/
namespace Go.Proofs.Ytakdmliblijgmaa
open Go.RowKit
/-! When some correction suits all -/
theorem few_zero {b : Wbk} (h : 0 ∈ setsL b) : fewN b = 0 := by
  have := (minU_le (setsL b) b.srcs.length).2 0 h
  rw [pop_zero2] at this
  unfold fewN; omega
theorem filt_one : ∀ {l : List Nat}, l.Nodup → 0 ∈ l → l.filter (fun x => decide (x = 0)) = [0]
  | [], _, h => by cases h
  | a :: l, hn, h => by
    rw [List.nodup_cons] at hn
    by_cases ha : a = 0
    · subst ha
      rw [List.filter_cons_of_pos (by simp)]
      have : l.filter (fun x => decide (x = 0)) = [] := by
        rw [List.filter_eq_nil_iff]
        intro x hx
        simp only [decide_eq_true_eq]
        intro e; subst e; exact hn.1 hx
      rw [this]
    · rw [List.filter_cons_of_neg (by simpa using ha)]
      refine filt_one hn.2 ?_
      rcases List.mem_cons.1 h with h | h
      · exact absurd h.symm ha
      · exact h
theorem least_zero {b : Wbk} (hb : BkOK b) (h : 0 ∈ setsL b) : leastL b = [[]] := by
  have e : leastS b = [0] := by
    unfold leastS
    rw [few_zero h]
    have : (setsL b).filter (fun x => decide (popN x = 0)) = (setsL b).filter fun x => decide (x = 0) := List.filter_congr fun x hx => by
      rw [Bool.eq_iff_iff, decide_eq_true_eq, decide_eq_true_eq]
      exact ⟨pop_zero x (set_lt hb hx), fun e => by rw [e]; exact pop_zero2⟩
    rw [this, filt_one (setsL_nodup b) h]
  unfold leastL sortL
  rw [e]
  simp [numsL, numsTo, lenN]
theorem near_ok {y a c : Int} (y1 : -128 ≤ y) (y2 : y ≤ 127) (a1 : 0 ≤ a) (a2 : a ≤ 100) (c1 : 0 ≤ c) (c2 : c ≤ 100) : spanW (y - a) (y + c) 7200 = true := by
  unfold spanW; simp; omega
end Go.Proofs.Ytakdmliblijgmaa
/- Wire's plain laws, VII: shifted notes; later counters. -/
namespace Go.Proofs.Ytakdmliblijgmaa
open Go.RowKit
structure Sh8 where
  (s0 s1 s2 s3 s4 s5 s6 s7 : Int)
structure ShOk (s : Sh8) : Prop where
  h0 : isU8 s.s0
  h1 : isU8 s.s1
  h2 : isU8 s.s2
  h3 : isU8 s.s3
  h4 : isU8 s.s4
  h5 : isU8 s.s5
  h6 : isU8 s.s6
  h7 : isU8 s.s7
def rowSh (s : Sh8) : List CV := [U8 s.s0, U8 s.s1, U8 s.s2, U8 s.s3, U8 s.s4, U8 s.s5, U8 s.s6, U8 s.s7]
def cSh (s : Sh8) : CV := .agg (rowSh s)
def shAt (s : Sh8) (i : Nat) : Int := [s.s0, s.s1, s.s2, s.s3, s.s4, s.s5, s.s6, s.s7].getD i 0
attribute [simp] rowSh cSh
theorem sh_get (s : Sh8) {i : Nat} (h : i < 8) : List.take 1 (List.drop i [SV.c (U8 s.s0), SV.c (U8 s.s1), SV.c (U8 s.s2), SV.c (U8 s.s3), SV.c (U8 s.s4), SV.c (U8 s.s5), SV.c (U8 s.s6), SV.c (U8 s.s7)]) = [SV.c (U8 (shAt s i))] := by
  rcases (show i = 0 ∨ i = 1 ∨ i = 2 ∨ i = 3 ∨ i = 4 ∨ i = 5 ∨ i = 6 ∨ i = 7 by omega) with rfl | rfl | rfl | rfl | rfl | rfl | rfl | rfl <;> rfl
theorem shAt_bd {s : Sh8} (h : ShOk s) {i : Nat} (hi : i < 8) : isU8 (shAt s i) := by
  obtain ⟨h0, h1, h2, h3, h4, h5, h6, h7⟩ := h
  rcases (show i = 0 ∨ i = 1 ∨ i = 2 ∨ i = 3 ∨ i = 4 ∨ i = 5 ∨ i = 6 ∨ i = 7 by omega) with rfl | rfl | rfl | rfl | rfl | rfl | rfl | rfl <;> assumption
def chgL (f : Nat → Wnt → Wnt) (l : List Wnt) : List Wnt := l.mapIdx f
def chgTo (f : Nat → Wnt → Wnt) (l : List Wnt) (k : Nat) : List Wnt := (chgL f l).take k ++ l.drop k
theorem chgL_len (f : Nat → Wnt → Wnt) (l : List Wnt) : (chgL f l).length = l.length := by simp [chgL]
theorem chgTo_len (f : Nat → Wnt → Wnt) (l : List Wnt) {k : Nat} (h : k ≤ l.length) : (chgTo f l k).length = l.length := by
  unfold chgTo
  rw [List.length_append, List.length_take, List.length_drop, chgL_len]; omega
theorem chgTo_get (f : Nat → Wnt → Wnt) (l : List Wnt) {k : Nat} (h : k < l.length) : (chgTo f l k)[k]'(by rw [chgTo_len f l (by omega)]; exact h) = l[k] := by
  unfold chgTo
  rw [List.getElem_append_right (by rw [List.length_take]; omega)]
  simp [chgL_len, Nat.min_eq_left (Nat.le_of_lt h)]
theorem chgTo_set (f : Nat → Wnt → Wnt) (l : List Wnt) {k : Nat} (h : k < l.length) : (chgTo f l k).set k (f k l[k]) = chgTo f l (k + 1) := by
  have hk : k < (chgL f l).length := by rw [chgL_len]; exact h
  unfold chgTo
  rw [List.set_append_right _ _ (by rw [List.length_take]; omega)]
  have e : k - (List.take k (chgL f l)).length = 0 := by rw [List.length_take]; omega
  rw [e, List.drop_eq_getElem_cons h, List.set_cons_zero, List.take_succ_eq_append_getElem hk, List.append_assoc]
  have e2 : (chgL f l)[k] = f k l[k] := by simp [chgL]
  rw [e2]; rfl
theorem chgTo_skip (f : Nat → Wnt → Wnt) (l : List Wnt) {k : Nat} (h : k < l.length) (hf : f k l[k] = l[k]) : chgTo f l k = chgTo f l (k + 1) := by
  rw [← chgTo_set f l h, hf]
  have := chgTo_get f l h
  have hlt : k < (chgTo f l k).length := by rw [chgTo_len f l (by omega)]; exact h
  rw [← this]
  exact (List.set_getElem_self hlt).symm
theorem chgTo_zero (f : Nat → Wnt → Wnt) (l : List Wnt) : chgTo f l 0 = l := by simp [chgTo]
theorem chgTo_all (f : Nat → Wnt → Wnt) (l : List Wnt) : chgTo f l l.length = chgL f l := by
  unfold chgTo
  rw [List.drop_length, List.append_nil, ← chgL_len f l, List.take_length]
theorem chg_mem {f : Nat → Wnt → Wnt} {l : List Wnt} {n : Wnt} (h : n ∈ chgL f l) : ∃ i m, m ∈ l ∧ n = f i m ∧ i < l.length := by
  unfold chgL at h
  rw [List.mem_mapIdx] at h
  obtain ⟨i, hi, rfl⟩ := h
  exact ⟨i, l[i], List.getElem_mem hi, rfl, hi⟩
theorem offN_tick {x : Of} (hx : OfOk x) {n : Wnt} (h : n ∈ offN x) : NtIn x n ∧ n.tick ≤ 30001000 := by
  obtain ⟨i, rfl, h0⟩ := offN_mem h
  have ht := time_bd hx i
  obtain ⟨y1, y2⟩ := hx.y
  refine ⟨noteN_in hx h0, ?_⟩
  show timeN x i - (x.by' - 128) ≤ 30001000
  omega
/-! All ticks are greater, and the corrections smaller -/
end Go.Proofs.Ytakdmliblijgmaa
/- Wire's plain laws, VIII: a later counter. -/
namespace Go.Proofs.Ytakdmliblijgmaa
open Go.RowKit
end Go.Proofs.Ytakdmliblijgmaa
/- Wire's plain laws, IX: one source lies. -/
namespace Go.Proofs.Ytakdmliblijgmaa
open Go.RowKit
def lieAt (v : Nv) (t : Nat) : Int := [v.a, v.b, v.c].getD t 0
theorem lie_get (v : Nv) {t : Nat} (h : t < 3) : List.take 1 (List.drop t [SV.c (U8 v.a), SV.c (U8 v.b), SV.c (U8 v.c)]) = [SV.c (U8 (lieAt v t))] := by
  rcases (show t = 0 ∨ t = 1 ∨ t = 2 by omega) with rfl | rfl | rfl <;> rfl
theorem lieAt_bd {v : Nv} (h : NvOk v) {t : Nat} (ht : t < 3) : isU8 (lieAt v t) := by
  obtain ⟨h0, h1, h2⟩ := h
  rcases (show t = 0 ∨ t = 1 ∨ t = 2 by omega) with rfl | rfl | rfl <;> assumption
def chB (x : Of) (j : Nat) (v : Nv) (i : Nat) (n : Wnt) : Wnt :=
  if n.src = j then
    if (srcS (svAt x j)).kind = 1 then { n with said := (n.said + lieAt v (i % 3) - 100) % 43200 }
    else if (srcS (svAt x j)).kind = 4 then { n with said := max 0 (n.said + lieAt v (i % 3) - 100) }
    else { n with tick := max 0 (n.tick + lieAt v (i % 3) - 100) }
  else n
theorem offN_said {x : Of} (hx : OfOk x) {n : Wnt} (h : n ∈ offN x) : 0 ≤ n.said ∧ n.said ≤ 285255 := by
  obtain ⟨i, rfl, _⟩ := offN_mem h
  exact saidBd hx i
theorem chB_in {x : Of} (hx : OfOk x) {v : Nv} (hv : NvOk v) {j : Nat} {n : Wnt} (h : n ∈ chgL (chB x j v) (offN x)) : NtIn x n := by
  obtain ⟨i, m, hm, rfl, _⟩ := chg_mem h
  obtain ⟨⟨⟨j0, q1, q2, q3⟩, t0, t1⟩, t2⟩ := offN_tick hx hm
  obtain ⟨s0, s1⟩ := offN_said hx hm
  obtain ⟨l0, l1⟩ := lieAt_bd hv (Nat.mod_lt i (show 0 < 3 by omega))
  have hk := (src_bd (svAt_ok hx j)).k
  unfold chB
  by_cases hj : m.src = j
  · have e : j0 = j := by omega
    subst e
    rw [if_pos hj]
    rcases hk with hk | hk | hk | hk
    · rw [if_pos hk]
      refine ⟨⟨j0, q1, q2, ?_⟩, t0, t1⟩
      unfold saidB
      rw [if_pos hk]
      unfold within1
      simp; omega
    · rw [if_neg (by omega), if_neg (by omega)]
      exact ⟨⟨j0, q1, q2, q3⟩, by show 0 ≤ max _ _; omega, by show max _ _ ≤ _; omega⟩
    · rw [if_neg (by omega), if_neg (by omega)]
      exact ⟨⟨j0, q1, q2, q3⟩, by show 0 ≤ max _ _; omega, by show max _ _ ≤ _; omega⟩
    · rw [if_neg (by omega), if_pos hk]
      refine ⟨⟨j0, q1, q2, ?_⟩, t0, t1⟩
      unfold saidB
      rw [if_neg (by omega), if_neg (by omega)]
      unfold within1
      simp; omega
  · rw [if_neg hj]
    exact ⟨⟨j0, q1, q2, q3⟩, t0, t1⟩
theorem liar_bit {x : Of} (hx : OfOk x) {v : Nv} {j : Nat} {lo hi : Int} (h : newErr (offW x) (chgL (chB x j v) (offN x)) lo hi = 0) {i : Nat} (hij : i ≠ j) :
    (wrongN (newBk (offW x) (chgL (chB x j v) (offN x)) lo hi) (x.by' - 128)).testBit i = false := by
  obtain ⟨e1, e2, e3, _⟩ := new_nz h
  unfold wrongN
  rw [wrongTo_bit _ _ _ _ (Nat.le_refl _)]
  unfold wrongB
  rw [List.take_length, List.any_eq_false]
  intro n hn
  rw [e3] at hn
  obtain ⟨k, m, hm, rfl, _⟩ := chg_mem hn
  obtain ⟨⟨⟨j0, q1, _⟩, _⟩, _⟩ := offN_tick hx hm
  by_cases hj : m.src = j
  · have : (chB x j v k m).src = m.src := by unfold chB; rw [if_pos hj]; (repeat' split) <;> rfl
    rw [this, hj, Int.toNat_natCast]
    simp; intro e; exact absurd e.symm hij
  · have e : chB x j v k m = m := by unfold chB; rw [if_neg hj]
    rw [e]
    obtain ⟨c, rfl, _⟩ := offN_mem hm
    rw [note_right hx h c]
    simp
theorem liar_two {x : Of} (hx : OfOk x) {v : Nv} {j : Nat} {lo hi : Int} (h : newErr (offW x) (chgL (chB x j v) (offN x)) lo hi = 0) :
    wrongN (newBk (offW x) (chgL (chB x j v) (offN x)) lo hi) (x.by' - 128) = 0 ∨ wrongN (newBk (offW x) (chgL (chB x j v) (offN x)) lo hi) (x.by' - 128) = 2 ^ j := by
  have hb := fun i hij => liar_bit hx h (i := i) hij
  generalize wrongN (newBk (offW x) (chgL (chB x j v) (offN x)) lo hi) (x.by' - 128) = w at *
  cases hw : w.testBit j with
  | false =>
    left
    apply Nat.eq_of_testBit_eq
    intro i
    rw [Nat.zero_testBit]
    by_cases hij : i = j
    · rw [hij]; exact hw
    · exact hb i hij
  | true =>
    right
    apply Nat.eq_of_testBit_eq
    intro i
    by_cases hij : i = j
    · rw [hij, hw, Nat.testBit_two_pow_self]
    · rw [hb i hij, Nat.testBit_two_pow_of_ne (Ne.symm hij)]
theorem nums_pop : ∀ x : Nat, x < 1024 → (numsL x).length = popN x := by decide +kernel
theorem pop_pow : ∀ j : Nat, j < 10 → popN (2 ^ j) = 1 ∧ numsL (2 ^ j) = [(j : Int)] := by decide +kernel
theorem least_mem {b : Wbk} {s : List Int} : s ∈ leastL b ↔ ∃ x, x ∈ leastS b ∧ numsL x = s := by
  unfold leastL sortL
  rw [(List.mergeSort_perm _ _).mem_iff, List.mem_map]
theorem least_len {b : Wbk} (hb : BkOK b) {s : List Int} (h : s ∈ leastL b) : s.length = fewN b := by
  obtain ⟨x, hx, rfl⟩ := least_mem.1 h
  obtain ⟨h1, h2⟩ := List.mem_filter.1 hx
  rw [nums_pop x (set_lt hb h1)]
  simpa using h2
theorem few_pos {b : Wbk} (hb : BkOK b) (one : 1 ≤ b.srcs.length) (h : ¬ 0 ∈ setsL b) : 1 ≤ fewN b := by
  rcases minU_at (setsL b) b.srcs.length with e | ⟨x, hx, e⟩
  · unfold fewN; omega
  · unfold fewN
    rw [e]
    rcases Nat.eq_zero_or_pos (popN x) with h0 | h0
    · have := pop_zero x (set_lt hb hx) h0
      subst this; exact absurd hx h
    · exact h0
def isJ (j : Nat) (s : List Int) : Bool := match s with
  | [a] => decide (a = (j : Int))
  | _ => false
theorem liar_says {b : Wbk} (hb : BkOK b) (one : 1 ≤ b.srcs.length) {j : Nat} (hj : j < 10) (h : 0 ∈ setsL b ∨ 2 ^ j ∈ setsL b) :
    (∀ s ∈ leastL b, s.length ≤ 1) ∧ ∃ s0 ls, leastL b = s0 :: ls ∧ (decide (s0.length = 0) || (leastL b).any (isJ j)) = true ∧
      ((convE (leastL b) = (0, 7) ∧ s0.length = 0) ∨ (convE (leastL b) = ((j : Int), 0) ∧ ls = [] ∧ s0.length = 1) ∨ (convE (leastL b) = (0, 6) ∧ ls ≠ [])) := by
  by_cases h0 : 0 ∈ setsL b
  · have e := least_zero hb h0
    rw [e]
    exact ⟨by simp, [], [], rfl, by simp, .inl ⟨rfl, rfl⟩⟩
  · have hp := few_pos hb one h0
    have h1 : 2 ^ j ∈ setsL b := by
      rcases h with h | h
      · exact absurd h h0
      · exact h
    obtain ⟨p1, p2⟩ := pop_pow j hj
    have hf : fewN b = 1 := by
      have := (minU_le (setsL b) b.srcs.length).2 _ h1
      rw [p1] at this
      have h2 : fewN b ≤ 1 := this
      omega
    have hm : [(j : Int)] ∈ leastL b := least_mem.2 ⟨2 ^ j, List.mem_filter.2 ⟨h1, by simp [p1, hf]⟩, p2⟩
    have hlen : ∀ s ∈ leastL b, s.length = 1 := fun s hs => by rw [least_len hb hs, hf]
    refine ⟨fun s hs => by rw [hlen s hs]; exact Nat.le_refl _, ?_⟩
    have hany : (leastL b).any (isJ j) = true := by
      rw [List.any_eq_true]
      exact ⟨_, hm, by simp [isJ]⟩
    generalize leastL b = L at *
    cases L with
    | nil => cases hm
    | cons s0 ls =>
      refine ⟨s0, ls, rfl, by rw [hany, Bool.or_true], .inr ?_⟩
      have h3 := hlen s0 (by simp)
      match s0, h3 with
      | [a], _ =>
        cases ls with
        | nil =>
          left
          have := List.mem_singleton.1 hm
          cases this
          exact ⟨rfl, rfl, rfl⟩
        | cons t ls => exact .inr ⟨rfl, by simp⟩
end Go.Proofs.Ytakdmliblijgmaa
/- Wire's plain laws, X: the liar, walked. -/
namespace Go.Proofs.Ytakdmliblijgmaa
open Go.RowKit
def thereB (s0 : List Int) (L : List (List Int)) (j k : Nat) : Bool := decide (s0.length = 0) || (L.take k).any (isJ j)
theorem thereB_succ (s0 : List Int) {L : List (List Int)} (j : Nat) {k : Nat} (h : k < L.length) : thereB s0 L j (k + 1) = (thereB s0 L j k || isJ j L[k]) := by
  unfold thereB
  rw [anyTake_succ h, Bool.or_assoc]
theorem thereB_zero (s0 : List Int) (L : List (List Int)) (j : Nat) : thereB s0 L j 0 = ((s0.length : Int) == 0) := by
  unfold thereB
  rw [Bool.eq_iff_iff]
  simp
set_option maxRecDepth 100000 in
set_option maxHeartbeats 8000000 in
theorem lLiar (x : Of) (hx : OfOk x) (who : Int) (hwho : isU8 who) (v : Nv) (hv : NvOk v) : SC Try.prog 7 [cOf x, U8 who, .agg (rowNv v)] (B true) := by
  refine glaw_turretlaw08_WireLiar _ _ (by simp) ?_
  obtain ⟨w1, w2⟩ := hwho
  obtain ⟨y1, y2⟩ := hx.y
  have kn := sKnown
  have l1 := lOffS x hx
  have l2 := lBy x hx
  have l3 := lOffN x hx
  obtain ⟨y, hy⟩ : ∃ y, x.by' - 128 = y := ⟨_, rfl⟩
  rw [hy] at l2
  have l4 := lSpan (y - 100) (y + 100)
  have hsp := near_ok (y := y) (a := 100) (c := 100) (by omega) (by omega) (by omega) (by omega) (by omega) (by omega)
  have h8 := offN_len x
  have hwl := off_wlen hx
  have hw5 := numS_bd x
  have hol := offW_len x
  have c14 := lSources (offW x) hwl (by omega)
  have hz1 := Int.emod_nonneg who (show ((numS x : Nat) : Int) ≠ 0 by omega)
  have hz2 := Int.emod_lt_of_pos who (show 0 < ((numS x : Nat) : Int) by omega)
  obtain ⟨j, hj⟩ : ∃ j : Nat, who % ((numS x : Nat) : Int) = j := ⟨(who % ((numS x : Nat) : Int)).toNat, by omega⟩
  have hjn : j < numS x := by omega
  have hmw : who.tmod ((offW x).length : Int) = (j : Int) := by rw [hol, Int.tmod_eq_emod_of_nonneg w1, hj]
  have hnw : ¬ offW x = [] := fun h => by rw [h] at hol; simp at hol; omega
  have hjw : j < (offW x).length := by omega
  have hgw : ∀ h : j < (offW x).length, (offW x)[j]'h = srcS (svAt x j) := fun h => offW_get x h
  have hkd := (src_bd (svAt_ok hx j)).k
  -- what is known of the notes
  generalize hl : chgL (chB x j v) (offN x) = l
  have hll : l.length = (offN x).length := by rw [← hl, chgL_len]
  have hin : ∀ n ∈ l, NtIn x n := fun n hn => chB_in hx hv (by rw [hl]; exact hn)
  generalize ho : (offN x).filter (fun n => !decide (n.src = (j : Int))) = os
  have hos : os.length ≤ 8 := by rw [← ho]; exact Nat.le_trans (List.length_filter_le _ _) h8
  have hoin : ∀ n ∈ os, n ∈ offN x := fun n hn => by rw [← ho] at hn; exact (List.mem_filter.1 hn).1
  have c15 := lSaid l (by omega)
  have c16 := lSaid os (by omega)
  have hn1 := newErr_zero hx (l := l) (by omega) hin hsp
  have hn2 := newErr_zero hx (l := os) (by omega) (fun n hn => (offN_tick hx (hoin n hn)).1) hsp
  obtain ⟨e1, e2, e3, e4, e5⟩ := new_nz hn1
  obtain ⟨f1, f2, f3, f4, f5⟩ := new_nz hn2
  have hb := new_bk hn1
  have hb2 := new_bk hn2
  have p1 := sWrongs (offW x) hwl l (by omega) (y - 100) (y + 100)
  have p2 := sConvict (offW x) hwl l (by omega) (y - 100) (y + 100)
  have p3 := sFits (offW x) hwl os (by omega) (y - 100) (y + 100)
  have hwr : wrongN (newBk (offW x) os (y - 100) (y + 100)) y = 0 := by
    rw [wrong_zero, f3]
    intro n hn
    obtain ⟨c, hc, _⟩ := offN_mem (hoin n hn)
    rw [hc, ← hy]
    exact note_right hx (by rw [hy]; exact hn2) c
  have hfit : ¬ (spansL (newBk (offW x) os (y - 100) (y + 100)) fun m => decide (m = 0)) = [] := fun e => by
    have h3 := (spansInv hb2 fun m => decide (m = 0)).2.2 y
    rw [e, f4, f5, hwr] at h3
    have := h3.2 ⟨by omega, by omega, by simp⟩
    simp [insB] at this
  have hset : 0 ∈ setsL (newBk (offW x) l (y - 100) (y + 100)) ∨ 2 ^ j ∈ setsL (newBk (offW x) l (y - 100) (y + 100)) := by
    have h2 := liar_two hx (v := v) (j := j) (lo := y - 100) (hi := y + 100) (by rw [hl]; exact hn1)
    rw [hl, hy] at h2
    have hm : wrongN (newBk (offW x) l (y - 100) (y + 100)) y ∈ setsL (newBk (offW x) l (y - 100) (y + 100)) := mem_setsL.2 ⟨(y, _), mem_allL.2 ⟨by rw [e4]; show y - 100 ≤ y; omega, by rw [e5]; show y ≤ y + 100; omega, rfl⟩, rfl⟩
    rcases h2 with h | h
    · left; rw [h] at hm; exact hm
    · right; rw [h] at hm; exact hm
  obtain ⟨hs1, s0, ls, hls, hth, hcv⟩ := liar_says hb (by rw [e1]; omega) (by omega : j < 10) hset
  have hlsb : (leastL (newBk (offW x) l (y - 100) (y + 100))).length ≤ 20000 := by
    have h1 := (List.mergeSort_perm ((leastS (newBk (offW x) l (y - 100) (y + 100))).map numsL) fun x y => !ltL y x).length_eq
    have h2 : (leastS (newBk (offW x) l (y - 100) (y + 100))).length ≤ (setsL (newBk (offW x) l (y - 100) (y + 100))).length := List.length_filter_le _ _
    have h3 := setsTo_len (newBk (offW x) l (y - 100) (y + 100)) (allL (newBk (offW x) l (y - 100) (y + 100))).length (Nat.le_refl _)
    have h4 : setsTo (newBk (offW x) l (y - 100) (y + 100)) (allL (newBk (offW x) l (y - 100) (y + 100))).length = setsL (newBk (offW x) l (y - 100) (y + 100)) := by unfold setsTo setsL; rw [List.take_length]
    rw [h4] at h3
    have h5 := allL_len (newBk (offW x) l (y - 100) (y + 100))
    have h6 : bookN (newBk (offW x) l (y - 100) (y + 100)) ≤ 201 := by unfold bookN; rw [e4, e5]; omega
    unfold leastL sortL
    rw [h1, List.length_map]
    omega
  rw [hn1, if_pos rfl] at p1
  rw [hn1, if_pos rfl, if_pos rfl] at p2
  rw [if_pos hn2, if_pos hn2, if_neg hfit] at p3
  generalize (spansL (newBk (offW x) os (y - 100) (y + 100)) fun m => decide (m = 0)) = r at *
  generalize leastL (newBk (offW x) l (y - 100) (y + 100)) = L at *
  have hL0 : 0 < L.length := by rw [hls]; simp
  have hg0 : ∀ h : 0 < L.length, L[0]'h = s0 := fun h => by simp only [hls]; rfl
  have hLi : ¬ (L.length : Int) < 1 := by omega
  have hs0 : s0.length ≤ 1 := hs1 s0 (by rw [hls]; simp)
  have hs0i : ¬ (1 : Int) < s0.length := by omega
  generalize convE L = cv at *
  clear e1 e2 e3 e4 e5 f1 f2 f3 f4 f5 hb hb2 hn1 hn2 hwr hset hsp hoin
  obtain ⟨l0, hl0⟩ : ∃ l0, offN x = l0 := ⟨_, rfl⟩
  rw [hl0] at hl hll h8 l3 ho
  generalize hW : offW x = W at *
  (repeat' (first | ((first | with_reducible refine st_skip ?_ | with_reducible refine st_exit ?_); (try simp only [seqQ, blockQ, loopQ, forQ, whileQ, reduceIte, Nat.reduceEqDiff])) | (with_reducible refine st_ret ?_; ((try simp only [seqQ, blockQ, loopQ, forQ, whileQ]); first | (with_reducible refine retM_ret ?_) | refine retQ_ret ?_; simp [hy, hmw, hnw])) | refine st_seq ?_ | refine st_block ?_ | ((with_reducible show (STri _ _ _ _ _) ∧ (STri _ _ _ _ _)); refine And.intro ?_ ?_) | ((first | refine st_reg ?_ | refine buildP_own ?_ | refine appP_own ?_ | ((with_reducible show callGP _ _ _ _ _ _ _); refine callG_n (l3) ?hcc ?hpp ?hnn ?_; (case hcc => (first | rfl | (simp <;> fail) | (simp [] <;> fail))); (case hpp => (first | rfl | (simp <;> fail) | (simp [] <;> fail))); (case hnn => (first | rfl | (simp <;> fail) | (simp [] <;> fail)))) | ((with_reducible show callGP _ _ _ _ _ _ _); refine callG_b (l1) ?hcc ?hpp ?_; (case hcc => (first | rfl | (simp <;> fail))); (case hpp => (first | rfl | (simp <;> fail)))) | ((with_reducible show callGP _ _ _ _ _ _ _); refine callG_b (l2) ?hcc ?hpp ?_; (case hcc => (first | rfl | (simp <;> fail))); (case hpp => (first | rfl | (simp <;> fail)))) | ((with_reducible show callGP _ _ _ _ _ _ _); refine callG_b (l4) ?hcc ?hpp ?_; (case hcc => (first | rfl | (simp <;> fail))); (case hpp => (first | rfl | (simp <;> fail)))) | refine callP_b (l1) rfl ?_ | refine callP_b (l2) rfl ?_ | refine callP_b (l4) rfl ?_) <;> (simp -dsimp [hy, hmw, hnw]; (repeat (simp -dsimp (disch := (first | omega | assumption | (refine Bool.eq_false_iff.1 ?_; assumption))) only [wrap_in, if_pos, if_neg]; (try simp -dsimp [hy, hmw, hnw]))))) | ((first | refine guardP_of (fun hc => ?_) (fun hc => ?_) | refine st_cond rfl (fun hc => ?_) (fun hc => ?_)) <;> (try simp only [lqA, lqB, lqC, lqD, lqE, lqF, lqG, lqH, lqI, lqJ, lqK, lqL, lqM, lqN, lqO] at hc) <;> (try (exfalso; first | omega | exact bool_tf hc (by assumption) | exact bool_ft hc (by assumption) | exact absurd (by assumption) hc)) <;> (first | with_reducible show STri _ _ _ _ _ _ | (simp -dsimp [hy, hmw, hnw, hc]; (repeat (simp -dsimp (disch := (first | omega | assumption | (refine Bool.eq_false_iff.1 ?_; assumption))) only [wrap_in, if_pos, if_neg]; (try simp -dsimp [hy, hmw, hnw, hc]))))))))
  refine st_for [5, 8, 32, 38] l0.length (fun k T H => T = [(5, .ptr 5 0), (7, .c (slSr W)), (8, .ptr 8 0), (9, .own 32 l0.length), (10, .c (I j)), (11, .own 38 ((l0.take k).filter (fun n => !decide (n.src = (j : Int)))).length), (12, .c (I k))] ∧
    H = [(5, .box 76 ((rowNv v).map .c)), (8, .box 25 [.c (I (y - 100)), .c (I (y + 100))]), (32, .arr 73 3 ((chgTo (chB x j v) l0 k).map rowN)), (38, .arr 73 3 (((l0.take k).filter (fun n => !decide (n.src = (j : Int)))).map rowN))]) (by simp) ⟨by simp, by simp [chgTo_zero]⟩ ?_
  rintro k T H hk ⟨rfl, rfl⟩
  by_cases hlt : k < l0.length
  · have hcl := chgTo_len (chB x j v) l0 (k := k) (by omega)
    have hnl := chgTo_len (chB x j v) l0 (k := k + 1) (by omega)
    have hcg := chgTo_get (chB x j v) l0 hlt
    have hset := chgTo_set (chB x j v) l0 hlt
    have hskip := chgTo_skip (chB x j v) l0 hlt
    have htk := (offN_tick hx (n := l0[k]) (by rw [hl0]; exact List.getElem_mem hlt))
    obtain ⟨⟨_, t0, _⟩, t1⟩ := htk
    have hsd := offN_said hx (n := l0[k]) (by rw [hl0]; exact List.getElem_mem hlt)
    obtain ⟨q0, q1⟩ := hsd
    have hfl : (l0.take (k + 1)).filter (fun n => !decide (n.src = (j : Int))) = (l0.take k).filter (fun n => !decide (n.src = (j : Int))) ++ [l0[k]].filter (fun n => !decide (n.src = (j : Int))) := by
      rw [List.take_succ_eq_append_getElem hlt, List.filter_append]
    have hfb : ((l0.take k).filter (fun n => !decide (n.src = (j : Int)))).length ≤ k := Nat.le_trans (List.length_filter_le _ _) (by rw [List.length_take]; omega)
    generalize hfo : (l0.take k).filter (fun n => !decide (n.src = (j : Int))) = fo at *
    have hA : fo.length ≤ 9223372036854775806 := by omega
    have hB : (fo.length + 1) * 24 ≤ 140737488355328 := by omega
    have hge : ∀ h : k < (chgTo (chB x j v) l0 k).length, (chgTo (chB x j v) l0 k)[k]'h = l0[k] := fun _ => hcg
    have hsm : ((chgTo (chB x j v) l0 k).map rowN).set k (rowN (chB x j v k l0[k])) = (chgTo (chB x j v) l0 (k + 1)).map rowN := by
      rw [← hset, List.map_set]
    clear hcg hset
    generalize hfq : (l0.take (k + 1)).filter (fun n => !decide (n.src = (j : Int))) = fo2 at *
    generalize l0[k] = n at *
    generalize hcu : chgTo (chB x j v) l0 k = cur at *
    generalize hnx : chgTo (chB x j v) l0 (k + 1) = nxt at *
    have hch : chB x j v k n = chB x j v k n := rfl
    conv at hch => rhs; unfold chB
    by_cases hsj : n.src = j
    · have hne : ¬ ¬ n.src = j := by simpa using hsj
      have hf2 : fo2 = fo := by rw [hfl]; simp [hsj]
      rw [if_pos hsj] at hch
      obtain ⟨t, ht⟩ : ∃ t, k % 3 = t := ⟨_, rfl⟩
      have ht3 : t < 3 := by omega
      have hmt : (k : Int).tmod 3 = (t : Nat) := by rw [Int.tmod_eq_emod_of_nonneg (by omega)]; omega
      have hgl := lie_get v ht3
      obtain ⟨g0, g1⟩ := lieAt_bd hv ht3
      rw [ht] at hch
      generalize lieAt v t = li at *
      rcases hkd with hkd | hkd | hkd | hkd
      · rw [if_pos hkd] at hch
        rw [hch] at hsm
        simp only [rowN, hsj] at hsm
        have hr := lRest (n.said + li - 100) 43200 (by omega) (by omega)
        (repeat' (first | ((first | with_reducible refine st_skip ?_ | with_reducible refine st_exit ?_); (try simp only [seqQ, blockQ, loopQ, forQ, whileQ, reduceIte, Nat.reduceEqDiff])) | (with_reducible refine st_ret ?_; ((try simp only [seqQ, blockQ, loopQ, forQ, whileQ]); first | (with_reducible refine retM_ret ?_) | refine retQ_ret ?_; simp [hlt, hcl, hge, hsj, hkd, hjw, hgw, hmt, hgl, hsm, hnl])) | refine st_seq ?_ | refine st_block ?_ | ((with_reducible show (STri _ _ _ _ _) ∧ (STri _ _ _ _ _)); refine And.intro ?_ ?_) | ((first | refine st_reg ?_ | refine buildP_own ?_ | refine appP_own ?_ | refine callP_b (hr) rfl ?_) <;> (simp -dsimp [hlt, hcl, hge, hsj, hkd, hjw, hgw, hmt, hgl, hsm, hnl]; (repeat (simp -dsimp (disch := (first | omega | assumption | (refine Bool.eq_false_iff.1 ?_; assumption))) only [wrap_in, if_pos, if_neg]; (try simp -dsimp [hlt, hcl, hge, hsj, hkd, hjw, hgw, hmt, hgl, hsm, hnl]))))) | ((first | refine guardP_of (fun hc => ?_) (fun hc => ?_) | refine st_cond rfl (fun hc => ?_) (fun hc => ?_)) <;> (try simp only [lqA, lqB, lqC, lqD, lqE, lqF, lqG, lqH, lqI, lqJ, lqK, lqL, lqM, lqN, lqO] at hc) <;> (try (exfalso; first | omega | exact bool_tf hc (by assumption) | exact bool_ft hc (by assumption) | exact absurd (by assumption) hc)) <;> (first | with_reducible show STri _ _ _ _ _ _ | (simp -dsimp [hlt, hcl, hge, hsj, hkd, hjw, hgw, hmt, hgl, hsm, hnl, hc]; (repeat (simp -dsimp (disch := (first | omega | assumption | (refine Bool.eq_false_iff.1 ?_; assumption))) only [wrap_in, if_pos, if_neg]; (try simp -dsimp [hlt, hcl, hge, hsj, hkd, hjw, hgw, hmt, hgl, hsm, hnl, hc]))))))))
        all_goals exact ⟨hlt, by simp, by simp [hfq, hf2], by simp [hfq, hf2, hnx]⟩
      · rw [if_neg (by omega), if_neg (by omega)] at hch
        rw [hch] at hsm
        by_cases c2 : 0 < n.tick + li - 100
        · rw [show max 0 (n.tick + li - 100) = n.tick + li - 100 by omega] at hsm
          simp only [rowN, hsj] at hsm
          (repeat' (first | ((first | with_reducible refine st_skip ?_ | with_reducible refine st_exit ?_); (try simp only [seqQ, blockQ, loopQ, forQ, whileQ, reduceIte, Nat.reduceEqDiff])) | (with_reducible refine st_ret ?_; ((try simp only [seqQ, blockQ, loopQ, forQ, whileQ]); first | (with_reducible refine retM_ret ?_) | refine retQ_ret ?_; simp [hlt, hcl, hge, hsj, hkd, hjw, hgw, hmt, hgl, hsm, hnl, c2])) | refine st_seq ?_ | refine st_block ?_ | ((with_reducible show (STri _ _ _ _ _) ∧ (STri _ _ _ _ _)); refine And.intro ?_ ?_) | ((first | refine st_reg ?_ | refine buildP_own ?_ | refine appP_own ?_) <;> (simp -dsimp [hlt, hcl, hge, hsj, hkd, hjw, hgw, hmt, hgl, hsm, hnl, c2]; (repeat (simp -dsimp (disch := (first | omega | assumption | (refine Bool.eq_false_iff.1 ?_; assumption))) only [wrap_in, if_pos, if_neg]; (try simp -dsimp [hlt, hcl, hge, hsj, hkd, hjw, hgw, hmt, hgl, hsm, hnl, c2]))))) | ((first | refine guardP_of (fun hc => ?_) (fun hc => ?_) | refine st_cond rfl (fun hc => ?_) (fun hc => ?_)) <;> (try simp only [lqA, lqB, lqC, lqD, lqE, lqF, lqG, lqH, lqI, lqJ, lqK, lqL, lqM, lqN, lqO] at hc) <;> (try (exfalso; first | omega | exact bool_tf hc (by assumption) | exact bool_ft hc (by assumption) | exact absurd (by assumption) hc)) <;> (first | with_reducible show STri _ _ _ _ _ _ | (simp -dsimp [hlt, hcl, hge, hsj, hkd, hjw, hgw, hmt, hgl, hsm, hnl, c2, hc]; (repeat (simp -dsimp (disch := (first | omega | assumption | (refine Bool.eq_false_iff.1 ?_; assumption))) only [wrap_in, if_pos, if_neg]; (try simp -dsimp [hlt, hcl, hge, hsj, hkd, hjw, hgw, hmt, hgl, hsm, hnl, c2, hc]))))))))
          all_goals exact ⟨hlt, by simp, by simp [hfq, hf2], by simp [hfq, hf2, hnx]⟩
        · rw [show max 0 (n.tick + li - 100) = 0 by omega] at hsm
          simp only [rowN, hsj] at hsm
          (repeat' (first | ((first | with_reducible refine st_skip ?_ | with_reducible refine st_exit ?_); (try simp only [seqQ, blockQ, loopQ, forQ, whileQ, reduceIte, Nat.reduceEqDiff])) | (with_reducible refine st_ret ?_; ((try simp only [seqQ, blockQ, loopQ, forQ, whileQ]); first | (with_reducible refine retM_ret ?_) | refine retQ_ret ?_; simp [hlt, hcl, hge, hsj, hkd, hjw, hgw, hmt, hgl, hsm, hnl, c2])) | refine st_seq ?_ | refine st_block ?_ | ((with_reducible show (STri _ _ _ _ _) ∧ (STri _ _ _ _ _)); refine And.intro ?_ ?_) | ((first | refine st_reg ?_ | refine buildP_own ?_ | refine appP_own ?_) <;> (simp -dsimp [hlt, hcl, hge, hsj, hkd, hjw, hgw, hmt, hgl, hsm, hnl, c2]; (repeat (simp -dsimp (disch := (first | omega | assumption | (refine Bool.eq_false_iff.1 ?_; assumption))) only [wrap_in, if_pos, if_neg]; (try simp -dsimp [hlt, hcl, hge, hsj, hkd, hjw, hgw, hmt, hgl, hsm, hnl, c2]))))) | ((first | refine guardP_of (fun hc => ?_) (fun hc => ?_) | refine st_cond rfl (fun hc => ?_) (fun hc => ?_)) <;> (try simp only [lqA, lqB, lqC, lqD, lqE, lqF, lqG, lqH, lqI, lqJ, lqK, lqL, lqM, lqN, lqO] at hc) <;> (try (exfalso; first | omega | exact bool_tf hc (by assumption) | exact bool_ft hc (by assumption) | exact absurd (by assumption) hc)) <;> (first | with_reducible show STri _ _ _ _ _ _ | (simp -dsimp [hlt, hcl, hge, hsj, hkd, hjw, hgw, hmt, hgl, hsm, hnl, c2, hc]; (repeat (simp -dsimp (disch := (first | omega | assumption | (refine Bool.eq_false_iff.1 ?_; assumption))) only [wrap_in, if_pos, if_neg]; (try simp -dsimp [hlt, hcl, hge, hsj, hkd, hjw, hgw, hmt, hgl, hsm, hnl, c2, hc]))))))))
          all_goals exact ⟨hlt, by simp, by simp [hfq, hf2], by simp [hfq, hf2, hnx]⟩
      · rw [if_neg (by omega), if_neg (by omega)] at hch
        rw [hch] at hsm
        by_cases c2 : 0 < n.tick + li - 100
        · rw [show max 0 (n.tick + li - 100) = n.tick + li - 100 by omega] at hsm
          simp only [rowN, hsj] at hsm
          (repeat' (first | ((first | with_reducible refine st_skip ?_ | with_reducible refine st_exit ?_); (try simp only [seqQ, blockQ, loopQ, forQ, whileQ, reduceIte, Nat.reduceEqDiff])) | (with_reducible refine st_ret ?_; ((try simp only [seqQ, blockQ, loopQ, forQ, whileQ]); first | (with_reducible refine retM_ret ?_) | refine retQ_ret ?_; simp [hlt, hcl, hge, hsj, hkd, hjw, hgw, hmt, hgl, hsm, hnl, c2])) | refine st_seq ?_ | refine st_block ?_ | ((with_reducible show (STri _ _ _ _ _) ∧ (STri _ _ _ _ _)); refine And.intro ?_ ?_) | ((first | refine st_reg ?_ | refine buildP_own ?_ | refine appP_own ?_) <;> (simp -dsimp [hlt, hcl, hge, hsj, hkd, hjw, hgw, hmt, hgl, hsm, hnl, c2]; (repeat (simp -dsimp (disch := (first | omega | assumption | (refine Bool.eq_false_iff.1 ?_; assumption))) only [wrap_in, if_pos, if_neg]; (try simp -dsimp [hlt, hcl, hge, hsj, hkd, hjw, hgw, hmt, hgl, hsm, hnl, c2]))))) | ((first | refine guardP_of (fun hc => ?_) (fun hc => ?_) | refine st_cond rfl (fun hc => ?_) (fun hc => ?_)) <;> (try simp only [lqA, lqB, lqC, lqD, lqE, lqF, lqG, lqH, lqI, lqJ, lqK, lqL, lqM, lqN, lqO] at hc) <;> (try (exfalso; first | omega | exact bool_tf hc (by assumption) | exact bool_ft hc (by assumption) | exact absurd (by assumption) hc)) <;> (first | with_reducible show STri _ _ _ _ _ _ | (simp -dsimp [hlt, hcl, hge, hsj, hkd, hjw, hgw, hmt, hgl, hsm, hnl, c2, hc]; (repeat (simp -dsimp (disch := (first | omega | assumption | (refine Bool.eq_false_iff.1 ?_; assumption))) only [wrap_in, if_pos, if_neg]; (try simp -dsimp [hlt, hcl, hge, hsj, hkd, hjw, hgw, hmt, hgl, hsm, hnl, c2, hc]))))))))
          all_goals exact ⟨hlt, by simp, by simp [hfq, hf2], by simp [hfq, hf2, hnx]⟩
        · rw [show max 0 (n.tick + li - 100) = 0 by omega] at hsm
          simp only [rowN, hsj] at hsm
          (repeat' (first | ((first | with_reducible refine st_skip ?_ | with_reducible refine st_exit ?_); (try simp only [seqQ, blockQ, loopQ, forQ, whileQ, reduceIte, Nat.reduceEqDiff])) | (with_reducible refine st_ret ?_; ((try simp only [seqQ, blockQ, loopQ, forQ, whileQ]); first | (with_reducible refine retM_ret ?_) | refine retQ_ret ?_; simp [hlt, hcl, hge, hsj, hkd, hjw, hgw, hmt, hgl, hsm, hnl, c2])) | refine st_seq ?_ | refine st_block ?_ | ((with_reducible show (STri _ _ _ _ _) ∧ (STri _ _ _ _ _)); refine And.intro ?_ ?_) | ((first | refine st_reg ?_ | refine buildP_own ?_ | refine appP_own ?_) <;> (simp -dsimp [hlt, hcl, hge, hsj, hkd, hjw, hgw, hmt, hgl, hsm, hnl, c2]; (repeat (simp -dsimp (disch := (first | omega | assumption | (refine Bool.eq_false_iff.1 ?_; assumption))) only [wrap_in, if_pos, if_neg]; (try simp -dsimp [hlt, hcl, hge, hsj, hkd, hjw, hgw, hmt, hgl, hsm, hnl, c2]))))) | ((first | refine guardP_of (fun hc => ?_) (fun hc => ?_) | refine st_cond rfl (fun hc => ?_) (fun hc => ?_)) <;> (try simp only [lqA, lqB, lqC, lqD, lqE, lqF, lqG, lqH, lqI, lqJ, lqK, lqL, lqM, lqN, lqO] at hc) <;> (try (exfalso; first | omega | exact bool_tf hc (by assumption) | exact bool_ft hc (by assumption) | exact absurd (by assumption) hc)) <;> (first | with_reducible show STri _ _ _ _ _ _ | (simp -dsimp [hlt, hcl, hge, hsj, hkd, hjw, hgw, hmt, hgl, hsm, hnl, c2, hc]; (repeat (simp -dsimp (disch := (first | omega | assumption | (refine Bool.eq_false_iff.1 ?_; assumption))) only [wrap_in, if_pos, if_neg]; (try simp -dsimp [hlt, hcl, hge, hsj, hkd, hjw, hgw, hmt, hgl, hsm, hnl, c2, hc]))))))))
          all_goals exact ⟨hlt, by simp, by simp [hfq, hf2], by simp [hfq, hf2, hnx]⟩
      · rw [if_neg (by omega), if_pos hkd] at hch
        rw [hch] at hsm
        by_cases c2 : 0 < n.said + li - 100
        · rw [show max 0 (n.said + li - 100) = n.said + li - 100 by omega] at hsm
          simp only [rowN, hsj] at hsm
          (repeat' (first | ((first | with_reducible refine st_skip ?_ | with_reducible refine st_exit ?_); (try simp only [seqQ, blockQ, loopQ, forQ, whileQ, reduceIte, Nat.reduceEqDiff])) | (with_reducible refine st_ret ?_; ((try simp only [seqQ, blockQ, loopQ, forQ, whileQ]); first | (with_reducible refine retM_ret ?_) | refine retQ_ret ?_; simp [hlt, hcl, hge, hsj, hkd, hjw, hgw, hmt, hgl, hsm, hnl, c2])) | refine st_seq ?_ | refine st_block ?_ | ((with_reducible show (STri _ _ _ _ _) ∧ (STri _ _ _ _ _)); refine And.intro ?_ ?_) | ((first | refine st_reg ?_ | refine buildP_own ?_ | refine appP_own ?_) <;> (simp -dsimp [hlt, hcl, hge, hsj, hkd, hjw, hgw, hmt, hgl, hsm, hnl, c2]; (repeat (simp -dsimp (disch := (first | omega | assumption | (refine Bool.eq_false_iff.1 ?_; assumption))) only [wrap_in, if_pos, if_neg]; (try simp -dsimp [hlt, hcl, hge, hsj, hkd, hjw, hgw, hmt, hgl, hsm, hnl, c2]))))) | ((first | refine guardP_of (fun hc => ?_) (fun hc => ?_) | refine st_cond rfl (fun hc => ?_) (fun hc => ?_)) <;> (try simp only [lqA, lqB, lqC, lqD, lqE, lqF, lqG, lqH, lqI, lqJ, lqK, lqL, lqM, lqN, lqO] at hc) <;> (try (exfalso; first | omega | exact bool_tf hc (by assumption) | exact bool_ft hc (by assumption) | exact absurd (by assumption) hc)) <;> (first | with_reducible show STri _ _ _ _ _ _ | (simp -dsimp [hlt, hcl, hge, hsj, hkd, hjw, hgw, hmt, hgl, hsm, hnl, c2, hc]; (repeat (simp -dsimp (disch := (first | omega | assumption | (refine Bool.eq_false_iff.1 ?_; assumption))) only [wrap_in, if_pos, if_neg]; (try simp -dsimp [hlt, hcl, hge, hsj, hkd, hjw, hgw, hmt, hgl, hsm, hnl, c2, hc]))))))))
          all_goals exact ⟨hlt, by simp, by simp [hfq, hf2], by simp [hfq, hf2, hnx]⟩
        · rw [show max 0 (n.said + li - 100) = 0 by omega] at hsm
          simp only [rowN, hsj] at hsm
          (repeat' (first | ((first | with_reducible refine st_skip ?_ | with_reducible refine st_exit ?_); (try simp only [seqQ, blockQ, loopQ, forQ, whileQ, reduceIte, Nat.reduceEqDiff])) | (with_reducible refine st_ret ?_; ((try simp only [seqQ, blockQ, loopQ, forQ, whileQ]); first | (with_reducible refine retM_ret ?_) | refine retQ_ret ?_; simp [hlt, hcl, hge, hsj, hkd, hjw, hgw, hmt, hgl, hsm, hnl, c2])) | refine st_seq ?_ | refine st_block ?_ | ((with_reducible show (STri _ _ _ _ _) ∧ (STri _ _ _ _ _)); refine And.intro ?_ ?_) | ((first | refine st_reg ?_ | refine buildP_own ?_ | refine appP_own ?_) <;> (simp -dsimp [hlt, hcl, hge, hsj, hkd, hjw, hgw, hmt, hgl, hsm, hnl, c2]; (repeat (simp -dsimp (disch := (first | omega | assumption | (refine Bool.eq_false_iff.1 ?_; assumption))) only [wrap_in, if_pos, if_neg]; (try simp -dsimp [hlt, hcl, hge, hsj, hkd, hjw, hgw, hmt, hgl, hsm, hnl, c2]))))) | ((first | refine guardP_of (fun hc => ?_) (fun hc => ?_) | refine st_cond rfl (fun hc => ?_) (fun hc => ?_)) <;> (try simp only [lqA, lqB, lqC, lqD, lqE, lqF, lqG, lqH, lqI, lqJ, lqK, lqL, lqM, lqN, lqO] at hc) <;> (try (exfalso; first | omega | exact bool_tf hc (by assumption) | exact bool_ft hc (by assumption) | exact absurd (by assumption) hc)) <;> (first | with_reducible show STri _ _ _ _ _ _ | (simp -dsimp [hlt, hcl, hge, hsj, hkd, hjw, hgw, hmt, hgl, hsm, hnl, c2, hc]; (repeat (simp -dsimp (disch := (first | omega | assumption | (refine Bool.eq_false_iff.1 ?_; assumption))) only [wrap_in, if_pos, if_neg]; (try simp -dsimp [hlt, hcl, hge, hsj, hkd, hjw, hgw, hmt, hgl, hsm, hnl, c2, hc]))))))))
          all_goals exact ⟨hlt, by simp, by simp [hfq, hf2], by simp [hfq, hf2, hnx]⟩
    · have hf2 : fo2 = fo ++ [n] := by rw [hfl]; simp [hsj]
      rw [if_neg hsj] at hch
      have hcn := hskip hch
      (repeat' (first | ((first | with_reducible refine st_skip ?_ | with_reducible refine st_exit ?_); (try simp only [seqQ, blockQ, loopQ, forQ, whileQ, reduceIte, Nat.reduceEqDiff])) | (with_reducible refine st_ret ?_; ((try simp only [seqQ, blockQ, loopQ, forQ, whileQ]); first | (with_reducible refine retM_ret ?_) | refine retQ_ret ?_; simp [hlt, hcl, hge, hsj, hA, hB])) | refine st_seq ?_ | refine st_block ?_ | ((with_reducible show (STri _ _ _ _ _) ∧ (STri _ _ _ _ _)); refine And.intro ?_ ?_) | ((first | refine st_reg ?_ | refine buildP_own ?_ | refine appP_own ?_) <;> (simp -dsimp [hlt, hcl, hge, hsj, hA, hB]; (repeat (simp -dsimp (disch := (first | omega | assumption | (refine Bool.eq_false_iff.1 ?_; assumption))) only [wrap_in, if_pos, if_neg]; (try simp -dsimp [hlt, hcl, hge, hsj, hA, hB]))))) | ((first | refine guardP_of (fun hc => ?_) (fun hc => ?_) | refine st_cond rfl (fun hc => ?_) (fun hc => ?_)) <;> (try simp only [lqA, lqB, lqC, lqD, lqE, lqF, lqG, lqH, lqI, lqJ, lqK, lqL, lqM, lqN, lqO] at hc) <;> (try (exfalso; first | omega | exact bool_tf hc (by assumption) | exact bool_ft hc (by assumption) | exact absurd (by assumption) hc)) <;> (first | with_reducible show STri _ _ _ _ _ _ | (simp -dsimp [hlt, hcl, hge, hsj, hA, hB, hc]; (repeat (simp -dsimp (disch := (first | omega | assumption | (refine Bool.eq_false_iff.1 ?_; assumption))) only [wrap_in, if_pos, if_neg]; (try simp -dsimp [hlt, hcl, hge, hsj, hA, hB, hc]))))))))
      all_goals exact ⟨hlt, by simp, by simp [hfq, hf2], by simp [hfq, hf2, hnx, hcn]⟩
  · have hkk : k = l0.length := by omega
    subst hkk
    rw [chgTo_all, hl, List.take_length, ho]
    have hLr : ∀ k, (h : k < L.length) → (L[k]).length ≤ 1 := fun k h => hs1 _ (List.getElem_mem h)
    clear hl ho
    (repeat' (first | ((with_reducible show STri _ k65_75 _ _ _); refine st_shut1 32 rfl (by simp [dropOK, dropK]) (by simp [ClosO, ownS, dropK, SV.outD, hll]) (by simp [ShutH, ShutB, ownL, ownS, dropK, SV.outD, outDL, Blk.outD, hll]) ?_; simp; refine st_shut1 38 rfl (by simp [dropOK, dropK]) (by simp [ClosO, ownS, dropK, SV.outD]) (by simp [ShutH, ShutB, ownL, ownS, dropK, SV.outD, outDL, Blk.outD]) ?_; simp) | ((first | with_reducible refine st_skip ?_ | with_reducible refine st_exit ?_); (try simp only [seqQ, blockQ, loopQ, forQ, whileQ, reduceIte, Nat.reduceEqDiff])) | (with_reducible refine st_ret ?_; ((try simp only [seqQ, blockQ, loopQ, forQ, whileQ]); first | (with_reducible refine retM_ret ?_) | refine retQ_ret ?_; simp [hll, hL0, hg0, hLi, hs0i])) | refine st_seq ?_ | refine st_block ?_ | ((with_reducible show (STri _ _ _ _ _) ∧ (STri _ _ _ _ _)); refine And.intro ?_ ?_) | ((first | refine st_reg ?_ | refine buildP_own ?_ | refine appP_own ?_ | ((with_reducible show callGP _ _ _ _ _ _ _); refine callG_b (c14) ?hcc ?hpp ?_; (case hcc => (first | rfl | (simp <;> fail))); (case hpp => (first | rfl | (simp <;> fail)))) | ((with_reducible show callGP _ _ _ _ _ _ _); refine callG_b (c15) ?hcc ?hpp ?_; (case hcc => (first | rfl | (simp <;> fail))); (case hpp => (first | rfl | (simp <;> fail)))) | ((with_reducible show callGP _ _ _ _ _ _ _); refine callG_b (c16) ?hcc ?hpp ?_; (case hcc => (first | rfl | (simp <;> fail))); (case hpp => (first | rfl | (simp <;> fail)))) | ((with_reducible show callGP _ _ _ _ _ _ _); refine callG_b (p1) ?hcc ?hpp ?_; (case hcc => (first | rfl | (simp <;> fail))); (case hpp => (first | rfl | (simp <;> fail)))) | ((with_reducible show callGP _ _ _ _ _ _ _); refine callG_b (p2) ?hcc ?hpp ?_; (case hcc => (first | rfl | (simp <;> fail))); (case hpp => (first | rfl | (simp <;> fail)))) | ((with_reducible show callGP _ _ _ _ _ _ _); refine callG_b (p3) ?hcc ?hpp ?_; (case hcc => (first | rfl | (simp <;> fail))); (case hpp => (first | rfl | (simp <;> fail)))) | refine callP_b (c14) rfl ?_ | refine callP_b (c15) rfl ?_ | refine callP_b (c16) rfl ?_ | refine callP_b (p1) rfl ?_ | refine callP_b (p2) rfl ?_ | refine callP_b (p3) rfl ?_) <;> (simp -dsimp [hll, hL0, hg0, hLi, hs0i]; (repeat (simp -dsimp (disch := (first | omega | assumption | (refine Bool.eq_false_iff.1 ?_; assumption))) only [wrap_in, if_pos, if_neg]; (try simp -dsimp [hll, hL0, hg0, hLi, hs0i]))))) | ((first | refine guardP_of (fun hc => ?_) (fun hc => ?_) | refine st_cond rfl (fun hc => ?_) (fun hc => ?_)) <;> (try simp only [lqA, lqB, lqC, lqD, lqE, lqF, lqG, lqH, lqI, lqJ, lqK, lqL, lqM, lqN, lqO] at hc) <;> (try (exfalso; first | omega | exact bool_tf hc (by assumption) | exact bool_ft hc (by assumption) | exact absurd (by assumption) hc)) <;> (first | with_reducible show STri _ _ _ _ _ _ | (simp -dsimp [hll, hL0, hg0, hLi, hs0i, hc]; (repeat (simp -dsimp (disch := (first | omega | assumption | (refine Bool.eq_false_iff.1 ?_; assumption))) only [wrap_in, if_pos, if_neg]; (try simp -dsimp [hll, hL0, hg0, hLi, hs0i, hc]))))))))
    refine st_for [] L.length (fun k T H => T = [(10, .c (I j)), (13, .c (slL L)), (15, .c (I cv.1)), (16, .c (I cv.2)), (19, .c (B (thereB s0 L j k))), (20, .c (I k))] ∧ H = []) (by simp) ⟨by simp [thereB_zero], by simp⟩ ?_
    rintro k T H hk ⟨rfl, rfl⟩
    by_cases hlt2 : k < L.length
    · have hs := thereB_succ s0 j hlt2
      have hr1 := hLr k hlt2
      obtain ⟨row, hrow⟩ : ∃ row, L[k] = row := ⟨_, rfl⟩
      have hg : ∀ h : k < L.length, L[k]'h = row := fun _ => hrow
      rw [hrow] at hs hr1
      generalize thereB s0 L j k = u at *
      rcases row with _ | ⟨a, _ | ⟨b, row⟩⟩
      · cases u
        all_goals
          (repeat' (first | ((first | with_reducible refine st_skip ?_ | with_reducible refine st_exit ?_); (try simp only [seqQ, blockQ, loopQ, forQ, whileQ, reduceIte, Nat.reduceEqDiff])) | (with_reducible refine st_ret ?_; ((try simp only [seqQ, blockQ, loopQ, forQ, whileQ]); first | (with_reducible refine retM_ret ?_) | refine retQ_ret ?_; simp [hlt2, hg])) | refine st_seq ?_ | refine st_block ?_ | ((with_reducible show (STri _ _ _ _ _) ∧ (STri _ _ _ _ _)); refine And.intro ?_ ?_) | ((first | refine st_reg ?_ | refine buildP_own ?_ | refine appP_own ?_) <;> (simp -dsimp [hlt2, hg]; (repeat (simp -dsimp (disch := (first | omega | assumption | (refine Bool.eq_false_iff.1 ?_; assumption))) only [wrap_in, if_pos, if_neg]; (try simp -dsimp [hlt2, hg]))))) | ((first | refine guardP_of (fun hc => ?_) (fun hc => ?_) | refine st_cond rfl (fun hc => ?_) (fun hc => ?_)) <;> (try simp only [lqA, lqB, lqC, lqD, lqE, lqF, lqG, lqH, lqI, lqJ, lqK, lqL, lqM, lqN, lqO] at hc) <;> (try (exfalso; first | omega | exact bool_tf hc (by assumption) | exact bool_ft hc (by assumption) | exact absurd (by assumption) hc)) <;> (first | with_reducible show STri _ _ _ _ _ _ | (simp -dsimp [hlt2, hg, hc]; (repeat (simp -dsimp (disch := (first | omega | assumption | (refine Bool.eq_false_iff.1 ?_; assumption))) only [wrap_in, if_pos, if_neg]; (try simp -dsimp [hlt2, hg, hc]))))))))
          all_goals exact ⟨hlt2, by simp, by simp [hs, isJ], by simp⟩
      · by_cases ha : a = j
        · cases u
          all_goals
            (repeat' (first | ((first | with_reducible refine st_skip ?_ | with_reducible refine st_exit ?_); (try simp only [seqQ, blockQ, loopQ, forQ, whileQ, reduceIte, Nat.reduceEqDiff])) | (with_reducible refine st_ret ?_; ((try simp only [seqQ, blockQ, loopQ, forQ, whileQ]); first | (with_reducible refine retM_ret ?_) | refine retQ_ret ?_; simp [hlt2, hg, ha])) | refine st_seq ?_ | refine st_block ?_ | ((with_reducible show (STri _ _ _ _ _) ∧ (STri _ _ _ _ _)); refine And.intro ?_ ?_) | ((first | refine st_reg ?_ | refine buildP_own ?_ | refine appP_own ?_) <;> (simp -dsimp [hlt2, hg, ha]; (repeat (simp -dsimp (disch := (first | omega | assumption | (refine Bool.eq_false_iff.1 ?_; assumption))) only [wrap_in, if_pos, if_neg]; (try simp -dsimp [hlt2, hg, ha]))))) | ((first | refine guardP_of (fun hc => ?_) (fun hc => ?_) | refine st_cond rfl (fun hc => ?_) (fun hc => ?_)) <;> (try simp only [lqA, lqB, lqC, lqD, lqE, lqF, lqG, lqH, lqI, lqJ, lqK, lqL, lqM, lqN, lqO] at hc) <;> (try (exfalso; first | omega | exact bool_tf hc (by assumption) | exact bool_ft hc (by assumption) | exact absurd (by assumption) hc)) <;> (first | with_reducible show STri _ _ _ _ _ _ | (simp -dsimp [hlt2, hg, ha, hc]; (repeat (simp -dsimp (disch := (first | omega | assumption | (refine Bool.eq_false_iff.1 ?_; assumption))) only [wrap_in, if_pos, if_neg]; (try simp -dsimp [hlt2, hg, ha, hc]))))))))
            all_goals exact ⟨hlt2, by simp, by simp [hs, isJ, ha], by simp⟩
        · cases u
          all_goals
            (repeat' (first | ((first | with_reducible refine st_skip ?_ | with_reducible refine st_exit ?_); (try simp only [seqQ, blockQ, loopQ, forQ, whileQ, reduceIte, Nat.reduceEqDiff])) | (with_reducible refine st_ret ?_; ((try simp only [seqQ, blockQ, loopQ, forQ, whileQ]); first | (with_reducible refine retM_ret ?_) | refine retQ_ret ?_; simp [hlt2, hg, ha])) | refine st_seq ?_ | refine st_block ?_ | ((with_reducible show (STri _ _ _ _ _) ∧ (STri _ _ _ _ _)); refine And.intro ?_ ?_) | ((first | refine st_reg ?_ | refine buildP_own ?_ | refine appP_own ?_) <;> (simp -dsimp [hlt2, hg, ha]; (repeat (simp -dsimp (disch := (first | omega | assumption | (refine Bool.eq_false_iff.1 ?_; assumption))) only [wrap_in, if_pos, if_neg]; (try simp -dsimp [hlt2, hg, ha]))))) | ((first | refine guardP_of (fun hc => ?_) (fun hc => ?_) | refine st_cond rfl (fun hc => ?_) (fun hc => ?_)) <;> (try simp only [lqA, lqB, lqC, lqD, lqE, lqF, lqG, lqH, lqI, lqJ, lqK, lqL, lqM, lqN, lqO] at hc) <;> (try (exfalso; first | omega | exact bool_tf hc (by assumption) | exact bool_ft hc (by assumption) | exact absurd (by assumption) hc)) <;> (first | with_reducible show STri _ _ _ _ _ _ | (simp -dsimp [hlt2, hg, ha, hc]; (repeat (simp -dsimp (disch := (first | omega | assumption | (refine Bool.eq_false_iff.1 ?_; assumption))) only [wrap_in, if_pos, if_neg]; (try simp -dsimp [hlt2, hg, ha, hc]))))))))
            all_goals exact ⟨hlt2, by simp, by simp [hs, isJ, ha], by simp⟩
      · simp at hr1
    · have hkk : k = L.length := by omega
      subst hkk
      have hth2 : thereB s0 L j L.length = true := by unfold thereB; rw [List.take_length]; exact hth
      rw [hth2]
      rcases hcv with ⟨rfl, h1⟩ | ⟨rfl, h1, h2⟩ | ⟨rfl, h1⟩
      · have h1i : (s0.length : Int) = 0 := by omega
        (repeat' (first | ((first | with_reducible refine st_skip ?_ | with_reducible refine st_exit ?_); (try simp only [seqQ, blockQ, loopQ, forQ, whileQ, reduceIte, Nat.reduceEqDiff])) | (with_reducible refine st_ret ?_; ((try simp only [seqQ, blockQ, loopQ, forQ, whileQ]); first | (with_reducible refine retM_ret ?_) | refine retQ_ret ?_; simp [hlt2, hL0, hg0, h1])) | refine st_seq ?_ | refine st_block ?_ | ((with_reducible show (STri _ _ _ _ _) ∧ (STri _ _ _ _ _)); refine And.intro ?_ ?_) | ((first | refine st_reg ?_ | refine buildP_own ?_ | refine appP_own ?_ | refine callP_b (kn) rfl ?_) <;> (simp -dsimp [hlt2, hL0, hg0, h1]; (repeat (simp -dsimp (disch := (first | omega | assumption | (refine Bool.eq_false_iff.1 ?_; assumption))) only [wrap_in, if_pos, if_neg]; (try simp -dsimp [hlt2, hL0, hg0, h1]))))) | ((first | refine guardP_of (fun hc => ?_) (fun hc => ?_) | refine st_cond rfl (fun hc => ?_) (fun hc => ?_)) <;> (try simp only [lqA, lqB, lqC, lqD, lqE, lqF, lqG, lqH, lqI, lqJ, lqK, lqL, lqM, lqN, lqO] at hc) <;> (try (exfalso; first | omega | exact bool_tf hc (by assumption) | exact bool_ft hc (by assumption) | exact absurd (by assumption) hc)) <;> (first | with_reducible show STri _ _ _ _ _ _ | (simp -dsimp [hlt2, hL0, hg0, h1, hc]; (repeat (simp -dsimp (disch := (first | omega | assumption | (refine Bool.eq_false_iff.1 ?_; assumption))) only [wrap_in, if_pos, if_neg]; (try simp -dsimp [hlt2, hL0, hg0, h1, hc]))))))))
        all_goals exact .refl _
      · have h1i : L.length = 1 := by rw [hls, h1]; rfl
        (repeat' (first | ((first | with_reducible refine st_skip ?_ | with_reducible refine st_exit ?_); (try simp only [seqQ, blockQ, loopQ, forQ, whileQ, reduceIte, Nat.reduceEqDiff])) | (with_reducible refine st_ret ?_; ((try simp only [seqQ, blockQ, loopQ, forQ, whileQ]); first | (with_reducible refine retM_ret ?_) | refine retQ_ret ?_; simp [hlt2, hL0, hg0, h1i, h2])) | refine st_seq ?_ | refine st_block ?_ | ((with_reducible show (STri _ _ _ _ _) ∧ (STri _ _ _ _ _)); refine And.intro ?_ ?_) | ((first | refine st_reg ?_ | refine buildP_own ?_ | refine appP_own ?_ | refine callP_b (kn) rfl ?_) <;> (simp -dsimp [hlt2, hL0, hg0, h1i, h2]; (repeat (simp -dsimp (disch := (first | omega | assumption | (refine Bool.eq_false_iff.1 ?_; assumption))) only [wrap_in, if_pos, if_neg]; (try simp -dsimp [hlt2, hL0, hg0, h1i, h2]))))) | ((first | refine guardP_of (fun hc => ?_) (fun hc => ?_) | refine st_cond rfl (fun hc => ?_) (fun hc => ?_)) <;> (try simp only [lqA, lqB, lqC, lqD, lqE, lqF, lqG, lqH, lqI, lqJ, lqK, lqL, lqM, lqN, lqO] at hc) <;> (try (exfalso; first | omega | exact bool_tf hc (by assumption) | exact bool_ft hc (by assumption) | exact absurd (by assumption) hc)) <;> (first | with_reducible show STri _ _ _ _ _ _ | (simp -dsimp [hlt2, hL0, hg0, h1i, h2, hc]; (repeat (simp -dsimp (disch := (first | omega | assumption | (refine Bool.eq_false_iff.1 ?_; assumption))) only [wrap_in, if_pos, if_neg]; (try simp -dsimp [hlt2, hL0, hg0, h1i, h2, hc]))))))))
        all_goals exact .refl _
      · have h1i : (1 : Int) < L.length := by
          rw [hls]
          cases ls with
          | nil => exact absurd rfl h1
          | cons a t => simp; omega
        (repeat' (first | ((first | with_reducible refine st_skip ?_ | with_reducible refine st_exit ?_); (try simp only [seqQ, blockQ, loopQ, forQ, whileQ, reduceIte, Nat.reduceEqDiff])) | (with_reducible refine st_ret ?_; ((try simp only [seqQ, blockQ, loopQ, forQ, whileQ]); first | (with_reducible refine retM_ret ?_) | refine retQ_ret ?_; simp [hlt2, hL0, hg0, h1i])) | refine st_seq ?_ | refine st_block ?_ | ((with_reducible show (STri _ _ _ _ _) ∧ (STri _ _ _ _ _)); refine And.intro ?_ ?_) | ((first | refine st_reg ?_ | refine buildP_own ?_ | refine appP_own ?_ | refine callP_b (kn) rfl ?_) <;> (simp -dsimp [hlt2, hL0, hg0, h1i]; (repeat (simp -dsimp (disch := (first | omega | assumption | (refine Bool.eq_false_iff.1 ?_; assumption))) only [wrap_in, if_pos, if_neg]; (try simp -dsimp [hlt2, hL0, hg0, h1i]))))) | ((first | refine guardP_of (fun hc => ?_) (fun hc => ?_) | refine st_cond rfl (fun hc => ?_) (fun hc => ?_)) <;> (try simp only [lqA, lqB, lqC, lqD, lqE, lqF, lqG, lqH, lqI, lqJ, lqK, lqL, lqM, lqN, lqO] at hc) <;> (try (exfalso; first | omega | exact bool_tf hc (by assumption) | exact bool_ft hc (by assumption) | exact absurd (by assumption) hc)) <;> (first | with_reducible show STri _ _ _ _ _ _ | (simp -dsimp [hlt2, hL0, hg0, h1i, hc]; (repeat (simp -dsimp (disch := (first | omega | assumption | (refine Bool.eq_false_iff.1 ?_; assumption))) only [wrap_in, if_pos, if_neg]; (try simp -dsimp [hlt2, hL0, hg0, h1i, hc]))))))))
        all_goals exact .refl _
end Go.Proofs.Ytakdmliblijgmaa
/- From a contract by value to a given statement: arguments of plain types are opened, and read again behind the call. -/
namespace Go.Proofs.Ytakdmliblijgmaa
open Go.RowKit Go.ChangeShapes Go.WideShapes
section
variable {P : Program}
def tyF (P : Program) (r : TypeId → List CV → Prop) : List Field → List CV → Prop
  | [], cs => cs = []
  | f :: fs, cs => ∃ c1 c2, cs = c1 ++ c2 ∧ r f.type c1 ∧ tyF P r fs c2
def tyA (r : List CV → Prop) : Nat → List CV → Prop
  | 0, cs => cs = []
  | n + 1, cs => ∃ c1 c2, cs = c1 ++ c2 ∧ r c1 ∧ tyA r n c2
def tyC (P : Program) : Nat → TypeId → List CV → Prop
  | 0, _, _ => False
  | d + 1, t, cs => match P.underlying t with
    | some .bool => ∃ b, cs = [.val (.bool b)]
    | some (.int k) => ∃ n, cs = [.val (.int k n)] ∧ (Lit.int k n).wf = true
    | some (.slice e) => ∃ rows, cs = [.sl (P.cellsOf e) rows] ∧ rows.length ≤ maxLen ∧ ∀ row ∈ rows, tyC P d e row
    | some (.struct fs) => tyF P (tyC P d) fs.toList cs
    | some (.array n e) => tyA (tyC P d e) n cs
    | _ => False
theorem tyC_int {d : Nat} {t : TypeId} {k : IntKind} {cs : List CV} (hu : P.underlying t = some (.int k)) (h : tyC P d t cs) : ∃ n, cs = [.val (.int k n)] ∧ (Lit.int k n).wf = true := by
  cases d with
  | zero => exact h.elim
  | succ d => unfold tyC at h; rw [hu] at h; exact h
theorem tyC_slice {d : Nat} {t e : TypeId} {cs : List CV} (hu : P.underlying t = some (.slice e)) (h : tyC P d t cs) : ∃ d' rows, cs = [.sl (P.cellsOf e) rows] ∧ rows.length ≤ maxLen ∧ ∀ row ∈ rows, tyC P d' e row := by
  cases d with
  | zero => exact h.elim
  | succ d => unfold tyC at h; rw [hu] at h; exact ⟨d, h⟩
theorem tyC_struct {d : Nat} {t : TypeId} {fs : Array Field} {cs : List CV} (hu : P.underlying t = some (.struct fs)) (h : tyC P d t cs) : ∃ d', tyF P (tyC P d') fs.toList cs := by
  cases d with
  | zero => exact h.elim
  | succ d => unfold tyC at h; rw [hu] at h; exact ⟨d, h⟩
theorem tyC_array {d : Nat} {t e : TypeId} {n : Nat} {cs : List CV} (hu : P.underlying t = some (.array n e)) (h : tyC P d t cs) : ∃ d', tyA (tyC P d' e) n cs := by
  cases d with
  | zero => exact h.elim
  | succ d => unfold tyC at h; rw [hu] at h; exact ⟨d, h⟩
theorem rows_map {α : Type} {f : α → List CV} : ∀ {rows : List (List CV)}, (∀ row ∈ rows, ∃ x, row = f x) → ∃ xs : List α, rows = xs.map f
  | [], _ => ⟨[], rfl⟩
  | r :: rs, h => by
    obtain ⟨x, rfl⟩ := h r (by simp)
    obtain ⟨xs, rfl⟩ := rows_map (rows := rs) (fun r hr => h r (by simp [hr]))
    exact ⟨x :: xs, rfl⟩
theorem agg_cells {v : Value} (h : v.cells.size ≠ 1) : v = .agg v.cells := by
  cases v <;> first | rfl | (exact absurd rfl h)
def tileB (P : Program) : List Field → Nat → Nat → Bool
  | [], acc, n => acc == n
  | f :: fs, acc, n => f.offset == acc && tileB P fs (acc + P.cellsOf f.type) n
def plainB (P : Program) : Nat → TypeId → Bool
  | 0, _ => false
  | d + 1, t => match P.underlying t with
    | some .bool => P.cellsOf t == 1
    | some (.int _) => P.cellsOf t == 1
    | some (.slice e) => P.cellsOf t == 1 && decide (0 < P.cellsOf e) && plainB P d e
    | some (.struct fs) => tileB P fs.toList 0 (P.cellsOf t) && fs.toList.all fun f => plainB P d f.type
    | some (.array n e) => P.cellsOf t == n * P.cellsOf e && plainB P d e
    | _ => false
theorem tile_le : ∀ {fs : List Field} {acc n : Nat}, tileB P fs acc n = true → acc ≤ n
  | [], _, _, h => by simp [tileB] at h; omega
  | f :: fs, acc, n, h => by
    simp only [tileB, Bool.and_eq_true] at h
    have := tile_le h.2
    omega
theorem tyF_len {fs : List Field} {r : TypeId → List CV → Prop} (hr : ∀ (f : Field) c, f ∈ fs → r f.type c → c.length = P.cellsOf f.type ∧ c.all CV.one = true) : ∀ {fs' : List Field}, (∀ f ∈ fs', f ∈ fs) → ∀ {acc n : Nat} {cs : List CV}, tileB P fs' acc n = true → tyF P r fs' cs → acc + cs.length = n ∧ cs.all CV.one = true
  | [], _, acc, n, cs, ht, h => by simp [tileB] at ht; simp [tyF] at h; subst h; simp [ht]
  | f :: fs', hm, acc, n, cs, ht, h => by
    simp only [tileB, Bool.and_eq_true] at ht
    obtain ⟨c1, c2, rfl, h1, h2⟩ := h
    obtain ⟨l1, o1⟩ := hr f c1 (hm f (by simp)) h1
    obtain ⟨l2, o2⟩ := tyF_len hr (fun g hg => hm g (by simp [hg])) ht.2 h2
    rw [List.length_append, List.all_append, o1, o2]
    exact ⟨by omega, rfl⟩
theorem tyA_len {r : List CV → Prop} {k : Nat} (hr : ∀ c, r c → c.length = k ∧ c.all CV.one = true) : ∀ {n : Nat} {cs : List CV}, tyA r n cs → cs.length = n * k ∧ cs.all CV.one = true
  | 0, cs, h => by simp [tyA] at h; subst h; simp
  | n + 1, cs, h => by
    obtain ⟨c1, c2, rfl, h1, h2⟩ := h
    obtain ⟨l1, o1⟩ := hr c1 h1
    obtain ⟨l2, o2⟩ := tyA_len hr h2
    rw [List.length_append, List.all_append, o1, o2, l1, l2, Nat.succ_mul]
    exact ⟨by omega, rfl⟩
theorem tyC_len : ∀ {d : Nat} {t : TypeId} {cs : List CV}, plainB P d t = true → tyC P d t cs → cs.length = P.cellsOf t ∧ cs.all CV.one = true
  | 0, _, _, hp, _ => by simp [plainB] at hp
  | d + 1, t, cs, hp, h => by
    unfold plainB at hp
    unfold tyC at h
    split at hp <;> rename_i hu
    · rw [hu] at h; obtain ⟨b, rfl⟩ := h; simp at hp; simp [hp, CV.one]
    · rw [hu] at h; obtain ⟨n, rfl, _⟩ := h; simp at hp; simp [hp, CV.one]
    · rw [hu] at h; obtain ⟨rows, rfl, _⟩ := h; simp at hp; simp [hp.1.1, CV.one]
    · rw [hu] at h
      simp only [Bool.and_eq_true, List.all_eq_true] at hp
      obtain ⟨l, o⟩ := tyF_len (P := P) (fun f c hf hc => tyC_len (hp.2 f hf) hc) (fun f hf => hf) hp.1 h
      exact ⟨by omega, o⟩
    · rw [hu] at h
      simp only [Bool.and_eq_true, beq_iff_eq] at hp
      obtain ⟨l, o⟩ := tyA_len (fun c hc => tyC_len hp.2 hc) h
      exact ⟨by rw [l, hp.1], o⟩
    · simp at hp
def RCs (w : World) (cs : List CV) (vs : List Value) : Prop := cs.length = vs.length ∧ ∀ (i : Nat) x v, cs[i]? = some x → vs[i]? = some v → RepC w (fun _ => False) x v
theorem RCs.append {w : World} {a b : List CV} {c d : List Value} (h : RCs w a c) (k : RCs w b d) : RCs w (a ++ b) (c ++ d) := by
  refine ⟨by rw [List.length_append, List.length_append, h.1, k.1], fun i x v hx hv => ?_⟩
  rw [List.getElem?_append] at hx hv
  rw [← h.1] at hv
  split at hx
  · rename_i hi; rw [if_pos hi] at hv; exact h.2 i x v hx hv
  · rename_i hi; rw [if_neg hi] at hv; exact k.2 _ x v hx hv
theorem RCs.one {w : World} {x : CV} {v : Value} (h : RepC w (fun _ => False) x v) : RCs w [x] [v] := ⟨rfl, fun i y u hx hv => by
  cases i with
  | zero => cases hx; cases hv; exact h
  | succ i => simp at hx⟩
section
variable {H : Type} {enc : TypeId × Value → H} {w : World} {spare : Nat → Bool} {held : Bool}
theorem cell_at {w : World} {a : Addr} {k len i j : Nat} {vr : List Value} (ha : a.spot = none) (h : w.cells? 0 (a.add (i * k)) k = some vr) (hj : j < k) : w.cell? ⟨a.block, a.off + i * k + j, none⟩ = vr[j]? := by
  obtain ⟨_, _, h3⟩ := World.cells?_some h
  rw [← h3 j hj]
  have e : ∀ m : Nat, a.add m = ⟨a.block, a.off + m, none⟩ := fun m => by
    unfold Addr.add
    split
    · rename_i h0; subst h0; cases a; simp at ha; simp [ha]
    · rfl
  rw [e]
  unfold Addr.add
  split
  · rename_i h0; subst h0; rfl
  · rfl
theorem open_tyC : ∀ {d n : Nat} {t : TypeId} {vs : List Value} {x : DataW H × List MemPlace}, plainB P d t = true → DataW.trod enc P w 0 spare held n t vs = some x → ∃ cs, tyC P d t cs ∧ RCs w cs vs
  | 0, _, _, _, _, hp, _ => by simp [plainB] at hp
  | d + 1, n, t, vs, x, hp, h => by
    unfold plainB at hp
    split at hp <;> rename_i hu
    · obtain ⟨b, rfl, _⟩ := DataW.trod_bool hu h
      exact ⟨[.val (.bool b)], by unfold tyC; rw [hu]; exact ⟨b, rfl⟩, .one (.val _)⟩
    · rename_i k
      obtain ⟨m, rfl, _, hw⟩ := DataW.trod_int hu h
      exact ⟨[.val (.int k m)], by unfold tyC; rw [hu]; exact ⟨m, rfl, hw⟩, .one (.val _)⟩
    · rename_i e
      simp only [Bool.and_eq_true, beq_iff_eq, decide_eq_true_eq] at hp
      obtain ⟨⟨_, hk⟩, hpe⟩ := hp
      rcases DataW.trod_slice hu h with ⟨rfl, _⟩ | ⟨a, len, cap, elems, rest, m, _, rfl, _, _, hl, hm, hlen, hel, _⟩
      · exact ⟨[.sl (P.cellsOf e) []], by unfold tyC; rw [hu]; exact ⟨[], rfl, Nat.zero_le _, by simp⟩, .one (.nil _ none 0 (Nat.zero_le _))⟩
      · have hrow : ∀ i, i < len → ∃ vr cr, w.cells? 0 (a.add (i * P.cellsOf e)) (P.cellsOf e) = some vr ∧ tyC P d e cr ∧ RCs w cr vr := fun i hi => by
          have h1 := hel i hi
          rw [List.getElem?_eq_getElem (by omega)] at h1
          obtain ⟨vr, h2, h3⟩ := Option.bind_eq_some_iff.1 h1
          obtain ⟨cr, h4, h5⟩ := open_tyC hpe h3
          exact ⟨vr, cr, h2, h4, h5⟩
        by_cases h0 : len = 0
        · subst h0
          exact ⟨[.sl (P.cellsOf e) []], by unfold tyC; rw [hu]; exact ⟨[], rfl, Nat.zero_le _, by simp⟩, .one (.nil _ (some a) cap hm)⟩
        have hch : ∃ (V : Nat → List Value) (C : Nat → List CV), ∀ i, i < len → w.cells? 0 (a.add (i * P.cellsOf e)) (P.cellsOf e) = some (V i) ∧ tyC P d e (C i) ∧ RCs w (C i) (V i) := by
          refine ⟨fun i => if h : i < len then Classical.choose (hrow i h) else [], fun i => if h : i < len then Classical.choose (Classical.choose_spec (hrow i h)) else [], fun i hi => ?_⟩
          simp only [dif_pos hi]
          exact Classical.choose_spec (Classical.choose_spec (hrow i hi))
        obtain ⟨V, C, hVC⟩ := hch
        have hfirst := hVC 0 (by omega)
        have hsp : a.spot = none := by
          obtain ⟨_, l1, h3⟩ := World.cells?_some hfirst.1
          have h4 := h3 0 hk
          rw [List.getElem?_eq_getElem (by omega)] at h4
          simp only [Nat.zero_mul, Addr.add, if_true] at h4
          unfold World.cell? at h4
          split at h4
          · split at h4
            · cases h4
            · rename_i hs; simpa using hs
          · cases h4
        have hblk : a.block < w.heap.size := by
          have := World.cells?_block hfirst.1 hk
          simpa [Addr.add] using this
        have hlenC : ∀ i, i < len → (C i).length = P.cellsOf e ∧ (C i).all CV.one = true := fun i hi => tyC_len hpe (hVC i hi).2.1
        have hget : ∀ (j : Nat) row, ((List.range len).map C)[j]? = some row → j < len ∧ row = C j := fun j row hj => by
          rw [List.getElem?_map] at hj
          obtain ⟨i, hi, rfl⟩ := Option.map_eq_some_iff.1 hj
          obtain ⟨h1, h2⟩ := List.getElem?_eq_some_iff.1 hi
          simp at h1 h2; subst h2; exact ⟨h1, rfl⟩
        have hsl := RepC.sl (w := w) (N := fun _ => False) (P.cellsOf e) ((List.range len).map C) a.block a.off cap (fun j i => ((V j)[i]?).getD undef) (by simpa using hl) hm hblk (fun h => h) (fun j row hj => by obtain ⟨h1, rfl⟩ := hget j row hj; exact hlenC j h1) (fun j row i y hj hy => by
            obtain ⟨h1, rfl⟩ := hget j row hj
            obtain ⟨q1, q2, q3⟩ := hVC j h1
            have hik : i < P.cellsOf e := by rw [← (hlenC j h1).1]; exact (List.getElem?_eq_some_iff.1 hy).1
            rw [cell_at (len := len) hsp q1 hik]
            have : i < (V j).length := by rw [← q3.1, (hlenC j h1).1]; exact hik
            rw [List.getElem?_eq_getElem this]; rfl) (fun j row i y hj hy => by
            obtain ⟨h1, rfl⟩ := hget j row hj
            obtain ⟨q1, q2, q3⟩ := hVC j h1
            have hik : i < P.cellsOf e := by rw [← (hlenC j h1).1]; exact (List.getElem?_eq_some_iff.1 hy).1
            have : i < (V j).length := by rw [← q3.1, (hlenC j h1).1]; exact hik
            refine q3.2 i y _ hy ?_
            rw [List.getElem?_eq_getElem this]; rfl)
        have ea : a = ⟨a.block, a.off, none⟩ := by cases a; simp at hsp; simp [hsp]
        rw [List.length_map, List.length_range, ← ea] at hsl
        have hrows : ∀ row ∈ (List.range len).map C, tyC P d e row := fun row hr => by
          obtain ⟨i, hi, rfl⟩ := List.mem_map.1 hr
          exact (hVC i (by simpa using hi)).2.1
        exact ⟨[.sl (P.cellsOf e) ((List.range len).map C)], by unfold tyC; rw [hu]; exact ⟨_, rfl, by simp; omega, hrows⟩, .one hsl⟩
    · rename_i fs
      simp only [Bool.and_eq_true, List.all_eq_true] at hp
      obtain ⟨xs, m, _, _, hlen, _, hf⟩ := DataW.trod_struct hu h
      have key : ∀ (fs' : List Field) (acc : Nat), (∀ f ∈ fs', plainB P d f.type = true ∧ ∃ y, DataW.trod enc P w 0 spare held m f.type ((vs.drop f.offset).take (P.cellsOf f.type)) = some y) → tileB P fs' acc (P.cellsOf t) = true → acc ≤ P.cellsOf t → ∃ cs, tyF P (tyC P d) fs' cs ∧ RCs w cs (vs.drop acc) := by
        intro fs'
        induction fs' with
        | nil =>
          intro acc _ ht _
          simp [tileB] at ht
          exact ⟨[], by simp [tyF], by constructor <;> simp [← hlen, ht] <;> omega⟩
        | cons f fs' ih =>
          intro acc hall ht hacc
          simp only [tileB, Bool.and_eq_true, beq_iff_eq] at ht
          obtain ⟨hpf, y, hy⟩ := hall f (by simp)
          obtain ⟨c1, t1, r1⟩ := open_tyC hpf hy
          have hlt := tile_le ht.2
          obtain ⟨c2, t2, r2⟩ := ih (acc + P.cellsOf f.type) (fun g hg => hall g (by simp [hg])) ht.2 hlt
          refine ⟨c1 ++ c2, ⟨c1, c2, rfl, t1, t2⟩, ?_⟩
          rw [ht.1] at r1
          have e : vs.drop acc = (vs.drop acc).take (P.cellsOf f.type) ++ vs.drop (acc + P.cellsOf f.type) := by rw [← List.drop_drop, List.take_append_drop]
          rw [e]; exact r1.append r2
      obtain ⟨cs, h1, h2⟩ := key fs.toList 0 (fun f hf' => by
        refine ⟨hp.2 f hf', ?_⟩
        obtain ⟨i, hi, he⟩ := List.getElem_of_mem hf'
        have := hf i f (by simp at hi; simp at he; simp [← he, hi])
        have hxl : i < xs.length := by simp at hi; omega
        rw [List.getElem?_eq_getElem hxl] at this
        exact ⟨_, this⟩) hp.1 (Nat.zero_le _)
      exact ⟨cs, by unfold tyC; rw [hu]; exact h1, by simpa using h2⟩
    · rename_i k e
      simp only [Bool.and_eq_true, beq_iff_eq] at hp
      obtain ⟨xs, m, _, _, hlen, hxs, hf⟩ := DataW.trod_array hu h
      have key : ∀ (r i : Nat), i + r = k → ∃ cs, tyA (tyC P d e) r cs ∧ RCs w cs (vs.drop (i * P.cellsOf e)) := by
        intro r
        induction r with
        | zero =>
          intro i hi
          have : vs.length ≤ i * P.cellsOf e := by rw [hlen, hp.1]; have : i = k := by omega
                                                   subst this; exact Nat.le_refl _
          exact ⟨[], by simp [tyA], by rw [List.drop_of_length_le this]; constructor <;> simp⟩
        | succ r ih =>
          intro i hi
          have h1 := hf i (by omega)
          rw [List.getElem?_eq_getElem (by omega)] at h1
          obtain ⟨c1, t1, r1⟩ := open_tyC hp.2 h1
          obtain ⟨c2, t2, r2⟩ := ih (i + 1) (by omega)
          refine ⟨c1 ++ c2, ⟨c1, c2, rfl, t1, t2⟩, ?_⟩
          have e' : vs.drop (i * P.cellsOf e) = (vs.drop (i * P.cellsOf e)).take (P.cellsOf e) ++ vs.drop ((i + 1) * P.cellsOf e) := by rw [Nat.succ_mul, ← List.drop_drop, List.take_append_drop]
          rw [e']; exact r1.append r2
      obtain ⟨cs, h1, h2⟩ := key k 0 (by omega)
      exact ⟨cs, by unfold tyC; rw [hu]; exact h1, by simpa using h2⟩
    · simp at hp
theorem trodAll_carry {w w' : World} {base : Nat} {spare : Nat → Bool} {held : Bool} : ∀ {ts : List TypeId} {vs : List Value} {ds : List (DataW H)} {ps : List MemPlace}, DataW.TrodAll enc P w base spare held ts vs ds ps → (∀ p ∈ ps, w.sameAt w' p) → DataW.TrodAll enc P w' base spare held ts vs ds ps
  | [], [], [], _, h, _ => h
  | _ :: _, _ :: _, _ :: _, _, ⟨p, q, ⟨n, h1⟩, h2, e⟩, hs =>
    ⟨p, q, ⟨n, DataW.trod_carry n _ _ _ h1 (fun x hx => hs x (by rw [e]; exact List.mem_append_left _ hx))⟩, trodAll_carry h2 (fun x hx => hs x (by rw [e]; exact List.mem_append_right _ hx)), e⟩
theorem post_ext {T : TypeId → Prop} (K : Kids P T) (hz : ∀ t e, T t → P.underlying t = some (.slice e) → 0 < P.cellsOf e) {f : Func} {s : ChangeSpec} {apart fresh handsOn again : Bool} {W W' : World} {args : Array Value} {v : Value} {ds gs : List (DataW H)} {before : List MemPlace}
    (hT : ∀ t ∈ f.params.toList, T t) (hsv : s.vars = []) (hW : DataW.Whole enc P f.params.toList s.vars apart W args.toList ds gs before)
    (hres : ∀ (b : Nat) (sp : Nat → Bool) (hd : Bool), DataW.TrodAll enc P W' b sp hd f.resultTypes.toList (v.resultList f.resultTypes.size) (s.fn H (ds ++ gs)).results [])
    (hargs : (s.fn H (ds ++ gs)).args = ds) (hvars : (s.fn H (ds ++ gs)).vars = []) (hx : Ext W W')
    (hok : ∀ (j : Nat) (t : TypeId) (r : Value), f.resultTypes[j]? = some t → (v.resultList f.resultTypes.size)[j]? = some r → Value.okWide P W' .any 0 t r) :
    s.post enc P f apart fresh handsOn again W args v W' := by
  have hlt := hW.lt
  have hold : ∀ p ∈ before, (fun b => decide (b < W.heap.size)) p.block = true := fun p hp => by simpa using hlt p hp
  have hW0 := hW
  obtain ⟨p, q, hA, hV, e, hfz, hn⟩ := hW
  rw [hsv] at hV
  obtain ⟨hg, hq⟩ := trodVars_none hV
  subst hq
  rw [List.append_nil] at e
  subst e
  have ha : ∀ sp : Nat → Bool, (∀ p ∈ before, sp p.block = true) → DataW.TrodAll enc P W' 0 sp true f.params.toList args.toList (s.fn H (ds ++ gs)).args before := fun sp hsp => by
    rw [hargs]
    exact trodAll_carry (DataW.TrodAll.respare K hz hT hA hsp) (fun p hp => hx.same (hlt p hp))
  have hv : ∀ sp : Nat → Bool, DataW.TrodVars enc P W' sp s.vars (s.fn H (ds ++ gs)).vars [] := fun sp => by rw [hvars, hsv]; exact rfl
  refine ⟨ds, gs, before, [], before, [], hW0, hres _ _ _, ha _ hold, hv _, World.keptBut_mono (fun p hp => ⟨hp, Or.inr (Or.inl hp)⟩) (hx.frame (· ∈ before)), fun _ => ?_⟩
  refine ⟨hok, _, _, ([] ++ before) ++ [], ⟨[] ++ before, [], trodAll_append (ha _ (fun _ _ => rfl)) (hres _ _ _), hv _, rfl, ?_, ?_⟩, ?_⟩
  · intro b off hp
    simp at hp
    rw [Below.frozen hx (p := ⟨b, off, none⟩) (hlt _ hp)]
    exact hfz b off hp
  · intro h
    simpa using hn h
  · intro p hp _
    simpa using hp
end
end
end Go.Proofs.Ytakdmliblijgmaa
/- Arguments opened: slices and integers. -/
namespace Go.Proofs.Ytakdmliblijgmaa
open Go.RowKit Go.ChangeShapes Go.WideShapes Go.ChangeAt
section
variable {H : Type} {enc : TypeId × Value → H} {P : Program} {w : World} {base b0 : Nat} {spare : Nat → Bool} {held : Bool} {v : Value} {x : DataW H} {ps : List MemPlace} {t : TypeId} {r : Reach}
end
end Go.Proofs.Ytakdmliblijgmaa
/- Wire's types opened. -/
namespace Go.Proofs.Ytakdmliblijgmaa
open Go.RowKit Go.ChangeShapes Go.WideShapes Go.ChangeAt
theorem Try.own : ownKnob Try.prog.godebug = none := by kernel_rfl
theorem Try.kids : Kids Try.prog (· < Try.prog.types.size) := kids_rows (by kernel_rfl) (by kernel_rfl)
theorem Try.full : ∀ t e, t < Try.prog.types.size → Try.prog.underlying t = some (.slice e) → 0 < Try.prog.cellsOf e := slices_full_of Try.prog (by kernel_rfl)
theorem val_inv {w : World} {N : Nat → Prop} {u v : Value} (h : RepC w N (.val u) v) : v = u := by cases h; rfl
section
variable {H : Type} {enc : TypeId × Value → H} {w : World} {b0 : Nat} {spare : Nat → Bool} {held : Bool} {v : Value} {x : DataW H} {ps : List MemPlace} {r : Reach}
end
end Go.Proofs.Ytakdmliblijgmaa
/- Wire's offices opened. -/
namespace Go.Proofs.Ytakdmliblijgmaa
open Go.RowKit Go.ChangeShapes Go.WideShapes Go.ChangeAt
theorem Try.plainO : plainB Try.prog 8 66 = true := by kernel_rfl
theorem Try.cells5 : Try.prog.cellsOf 108 = 5 := by kernel_rfl
theorem Try.cells3 : Try.prog.cellsOf 76 = 3 := by kernel_rfl
theorem Try.cells1 : Try.prog.cellsOf 5 = 1 := by kernel_rfl
theorem wf8 {n : Int} (h : (Lit.int .u8 n).wf = true) : isU8 n := by
  simp only [Lit.wf, Bool.and_eq_true, decide_eq_true_eq] at h
  exact h
theorem ty_u8 {d : Nat} {cs : List CV} (h : tyC Try.prog d 5 cs) : ∃ n, cs = [U8 n] ∧ isU8 n := by
  obtain ⟨n, h, hw⟩ := tyC_int Try.underlying5 h; exact ⟨n, h, wf8 hw⟩
theorem ty_three {d : Nat} {cs : List CV} (h : tyC Try.prog d 76 cs) : ∃ v, cs = rowNv v ∧ NvOk v := by
  obtain ⟨d, c1, r1, rfl, t1, c2, r2, rfl, t2, c3, r3, rfl, t3, t4⟩ := tyC_array Try.underlying76 h
  obtain ⟨n1, rfl, h1⟩ := ty_u8 t1
  obtain ⟨n2, rfl, h2⟩ := ty_u8 t2
  obtain ⟨n3, rfl, h3⟩ := ty_u8 t3
  have t4 : r3 = [] := t4
  subst t4
  exact ⟨⟨n1, n2, n3⟩, rfl, h1, h2, h3⟩
theorem ty_five {d : Nat} {cs : List CV} (h : tyC Try.prog d 108 cs) : ∃ v, cs = rowSv v ∧ SvOk v := by
  obtain ⟨d, c1, r1, rfl, t1, c2, r2, rfl, t2, c3, r3, rfl, t3, c4, r4, rfl, t4, c5, r5, rfl, t5, t6⟩ := tyC_array Try.underlying108 h
  obtain ⟨n1, rfl, h1⟩ := ty_u8 t1
  obtain ⟨n2, rfl, h2⟩ := ty_u8 t2
  obtain ⟨n3, rfl, h3⟩ := ty_u8 t3
  obtain ⟨n4, rfl, h4⟩ := ty_u8 t4
  obtain ⟨n5, rfl, h5⟩ := ty_u8 t5
  have t6 : r5 = [] := t6
  subst t6
  exact ⟨⟨n1, n2, n3, n4, n5⟩, rfl, h1, h2, h3, h4, h5⟩
theorem ty_svs {d : Nat} {cs : List CV} (h : tyC Try.prog d 62 cs) : ∃ xs : List Sv, cs = [.sl 5 (xs.map rowSv)] ∧ xs.length ≤ 9223372036854775807 ∧ ∀ v ∈ xs, SvOk v := by
  obtain ⟨d', rows, h, hl, h2⟩ := tyC_slice Try.underlying62 h
  rw [Try.cells5] at h
  obtain ⟨xs, rfl⟩ := rows_map (f := fun v : {v : Sv // SvOk v} => rowSv v.1) (fun row hr => by obtain ⟨v, h1, h2⟩ := ty_five (h2 row hr); exact ⟨⟨v, h2⟩, h1⟩)
  refine ⟨xs.map (·.1), by rw [h]; simp, by simpa [maxLen] using hl, fun v hv => ?_⟩
  obtain ⟨x, _, rfl⟩ := List.mem_map.1 hv
  exact x.2
theorem ty_nvs {d : Nat} {cs : List CV} (h : tyC Try.prog d 63 cs) : ∃ xs : List Nv, cs = [.sl 3 (xs.map rowNv)] ∧ xs.length ≤ 9223372036854775807 ∧ ∀ v ∈ xs, NvOk v := by
  obtain ⟨d', rows, h, hl, h2⟩ := tyC_slice Try.underlying63 h
  rw [Try.cells3] at h
  obtain ⟨xs, rfl⟩ := rows_map (f := fun v : {v : Nv // NvOk v} => rowNv v.1) (fun row hr => by obtain ⟨v, h1, h2⟩ := ty_three (h2 row hr); exact ⟨⟨v, h2⟩, h1⟩)
  refine ⟨xs.map (·.1), by rw [h]; simp, by simpa [maxLen] using hl, fun v hv => ?_⟩
  obtain ⟨x, _, rfl⟩ := List.mem_map.1 hv
  exact x.2
theorem ty_bytes {d : Nat} {cs : List CV} (h : tyC Try.prog d 64 cs) : ∃ xs : List Int, cs = [.sl 1 (xs.map rowY)] ∧ xs.length ≤ 9223372036854775807 ∧ ∀ n ∈ xs, isU8 n := by
  obtain ⟨d', rows, h, hl, h2⟩ := tyC_slice Try.underlying64 h
  rw [Try.cells1] at h
  obtain ⟨xs, rfl⟩ := rows_map (f := fun v : {n : Int // isU8 n} => rowY v.1) (fun row hr => by obtain ⟨v, h1, h2⟩ := ty_u8 (h2 row hr); exact ⟨⟨v, h2⟩, h1⟩)
  refine ⟨xs.map (·.1), by rw [h]; simp, by simpa [maxLen] using hl, fun v hv => ?_⟩
  obtain ⟨x, _, rfl⟩ := List.mem_map.1 hv
  exact x.2
theorem ty_office {d : Nat} {cs : List CV} (h : tyC Try.prog d 66 cs) : ∃ x : Of, cs = rowOf x ∧ OfOk x := by
  obtain ⟨d', c1, r1, rfl, h1, c2, r2, rfl, h2, c3, r3, rfl, h3, c4, r4, rfl, h4, h5⟩ := tyC_struct Try.underlying66 h
  obtain ⟨ss, rfl, hs1, hs2⟩ := ty_svs h1
  obtain ⟨ns, rfl, hn1, hn2⟩ := ty_nvs h2
  obtain ⟨y, rfl, hy⟩ := ty_u8 h3
  obtain ⟨bs, rfl, hb1, hb2⟩ := ty_bytes h4
  have h5 : r4 = [] := h5
  subst h5
  exact ⟨⟨ss, ns, y, bs⟩, rfl, hs2, hn2, hy, hb2, hs1, hn1, hb1⟩
set_option maxRecDepth 100000 in
theorem open_office {H : Type} {enc : TypeId × Value → H} {w : World} {spare : Nat → Bool} {held : Bool} {v : Value} {x : DataW H} {ps : List MemPlace} (h : DataW.Trod enc Try.prog w 0 spare held 66 v x ps) : ∃ c : Of, RepC w (fun _ => False) (cOf c) v ∧ OfOk c := by
  obtain ⟨n, h⟩ := h
  obtain ⟨cs, h1, h2⟩ := open_tyC Try.plainO h
  obtain ⟨c, rfl, hm⟩ := ty_office h1
  have hs : v.cells.size = 4 := by have := h2.1; simp at this; omega
  have hv := agg_cells (v := v) (by omega)
  refine ⟨c, ?_, hm⟩
  rw [hv]
  exact .agg _ _ (by simpa using hs) (fun i x u hx hu => h2.2 i x u hx (by simpa using hu))
end Go.Proofs.Ytakdmliblijgmaa
/- Wire's laws, VI: WireFits. -/
namespace Go.Proofs.Ytakdmliblijgmaa
open Go.RowKit
end Go.Proofs.Ytakdmliblijgmaa
/- Wire's laws, VII: WireStretches. -/
namespace Go.Proofs.Ytakdmliblijgmaa
open Go.RowKit
theorem leastN_spec (p : Nat → Bool) (n : Nat) : leastN p n ≤ n ∧ (∀ i, i < leastN p n → p i = false) ∧ (leastN p n < n → p (leastN p n) = true) := by
  unfold leastN
  cases h : (List.range n).find? p with
  | none =>
    rw [List.find?_eq_none] at h
    refine ⟨Nat.le_refl _, fun i hi => ?_, fun hlt => absurd hlt (Nat.lt_irrefl _)⟩
    have := h i (List.mem_range.2 hi)
    simpa using this
  | some m =>
    rw [List.find?_range_eq_some] at h
    obtain ⟨h1, h2, h3⟩ := h
    simp only [Option.getD_some]
    refine ⟨?_, fun i hi => ?_, fun _ => h1⟩
    · have := List.mem_range.1 h2
      omega
    · have := h3 i hi
      simpa using this
end Go.Proofs.Ytakdmliblijgmaa
/- Wire's plain laws, XI: stretched errors. -/
namespace Go.Proofs.Ytakdmliblijgmaa
open Go.RowKit
set_option maxRecDepth 100000 in
theorem lSourcesF (w : List Wsrc) (hw : WLen w) (hl : w.length ≤ 1000000) : FC Try.prog 14 [slSr w] none 79 8 (w.map rowSr) := by
  refine flaw_turretlaw08_sources _ _ _ _ _ (by simp) ?_
  have hA2 : w.length ≤ 9223372036854775807 := by omega
  have hB : w.length * 80 ≤ 140737488355328 := by omega
  (repeat' (first | ((first | with_reducible refine st_skip ?_ | with_reducible refine st_exit ?_); (try simp only [seqQ, blockQ, loopQ, forQ, whileQ, reduceIte, Nat.reduceEqDiff])) | (with_reducible refine st_ret ?_; ((try simp only [seqQ, blockQ, loopQ, forQ, whileQ]); first | (with_reducible refine retM_ret ?_) | (with_reducible refine retF_ret ?_) | (with_reducible refine retO_ret ?_) | refine retQ_ret ?_; simp [hA2, hB])) | refine st_seq ?_ | refine st_block ?_ | ((with_reducible show (STri _ _ _ _ _) ∧ (STri _ _ _ _ _)); refine And.intro ?_ ?_) | ((first | refine st_reg ?_ | refine buildP_own ?_ | refine appP_own ?_) <;> (simp -dsimp [hA2, hB]; (repeat (simp -dsimp (disch := (first | omega | assumption | (refine Bool.eq_false_iff.1 ?_; assumption))) only [wrap_in, if_pos, if_neg]; (try simp -dsimp [hA2, hB]))))) | ((first | refine guardP_of (fun hc => ?_) (fun hc => ?_) | refine st_cond rfl (fun hc => ?_) (fun hc => ?_)) <;> (try simp only [lqA, lqB, lqC, lqD, lqE, lqF, lqG, lqH, lqI, lqJ, lqK, lqL, lqM, lqN, lqO] at hc) <;> (try (exfalso; first | omega | exact bool_tf hc (by assumption) | exact bool_ft hc (by assumption) | exact absurd (by assumption) hc)) <;> (first | with_reducible show STri _ _ _ _ _ _ | (simp -dsimp [hA2, hB, hc]; (repeat (simp -dsimp (disch := (first | omega | assumption | (refine Bool.eq_false_iff.1 ?_; assumption))) only [wrap_in, if_pos, if_neg]; (try simp -dsimp [hA2, hB, hc]))))))))
  refine st_for [5] w.length (fun k T H => T = [(3, .own 5 w.length), (4, .c (I k))] ∧ H = [(5, .arr 79 8 (w.map rowSr))]) (by simp) ⟨by simp, by simp⟩ ?_
  rintro k T H hk ⟨rfl, rfl⟩
  by_cases hlt : k < w.length
  · have ht := hw.h _ (List.getElem_mem hlt)
    have hset : (w.map rowSr).set k [I (w[k]).kind, I (w[k]).elo, I (w[k]).ehi, I (w[k]).at', I (w[k]).dlo, I (w[k]).dhi, I (w[k]).every, .sl 1 ((w[k]).table.map rowI)] = w.map rowSr := by
      have e : [I (w[k]).kind, I (w[k]).elo, I (w[k]).ehi, I (w[k]).at', I (w[k]).dlo, I (w[k]).dhi, I (w[k]).every, .sl 1 ((w[k]).table.map rowI)] = (w.map rowSr)[k]'(by simpa using hlt) := by simp
      rw [e, List.set_getElem_self]
    have hC : (w[k]).table.length ≤ 9223372036854775807 := by omega
    have hD : (w[k]).table.length * 8 ≤ 140737488355328 := by omega
    (repeat' (first | ((first | with_reducible refine st_skip ?_ | with_reducible refine st_exit ?_); (try simp only [seqQ, blockQ, loopQ, forQ, whileQ, reduceIte, Nat.reduceEqDiff])) | (with_reducible refine st_ret ?_; ((try simp only [seqQ, blockQ, loopQ, forQ, whileQ]); first | (with_reducible refine retM_ret ?_) | (with_reducible refine retF_ret ?_) | (with_reducible refine retO_ret ?_) | refine retQ_ret ?_; simp [hlt, hset, hC, hD])) | refine st_seq ?_ | refine st_block ?_ | ((with_reducible show (STri _ _ _ _ _) ∧ (STri _ _ _ _ _)); refine And.intro ?_ ?_) | ((first | refine st_reg ?_ | refine buildP_own ?_ | refine appP_frz ?_) <;> (simp -dsimp [hlt, hset, hC, hD]; (repeat (simp -dsimp (disch := (first | omega | assumption | (refine Bool.eq_false_iff.1 ?_; assumption))) only [wrap_in, if_pos, if_neg]; (try simp -dsimp [hlt, hset, hC, hD]))))) | ((first | refine guardP_of (fun hc => ?_) (fun hc => ?_) | refine st_cond rfl (fun hc => ?_) (fun hc => ?_)) <;> (try simp only [lqA, lqB, lqC, lqD, lqE, lqF, lqG, lqH, lqI, lqJ, lqK, lqL, lqM, lqN, lqO] at hc) <;> (try (exfalso; first | omega | exact bool_tf hc (by assumption) | exact bool_ft hc (by assumption) | exact absurd (by assumption) hc)) <;> (first | with_reducible show STri _ _ _ _ _ _ | (simp -dsimp [hlt, hset, hC, hD, hc]; (repeat (simp -dsimp (disch := (first | omega | assumption | (refine Bool.eq_false_iff.1 ?_; assumption))) only [wrap_in, if_pos, if_neg]; (try simp -dsimp [hlt, hset, hC, hD, hc]))))))))
    exact ⟨hlt, by simp, by simp, by simp⟩
  · have hkk : k = w.length := by omega
    subst hkk
    (repeat' (first | ((first | with_reducible refine st_skip ?_ | with_reducible refine st_exit ?_); (try simp only [seqQ, blockQ, loopQ, forQ, whileQ, reduceIte, Nat.reduceEqDiff])) | (with_reducible refine st_ret ?_; ((try simp only [seqQ, blockQ, loopQ, forQ, whileQ]); first | (with_reducible refine retM_ret ?_) | (with_reducible refine retF_ret ?_) | (with_reducible refine retO_ret ?_) | refine retQ_ret ?_; simp [hlt])) | refine st_seq ?_ | refine st_block ?_ | ((with_reducible show (STri _ _ _ _ _) ∧ (STri _ _ _ _ _)); refine And.intro ?_ ?_) | ((first | refine st_reg ?_ | refine buildP_own ?_ | refine appP_own ?_) <;> (simp -dsimp [hlt]; (repeat (simp -dsimp (disch := (first | omega | assumption | (refine Bool.eq_false_iff.1 ?_; assumption))) only [wrap_in, if_pos, if_neg]; (try simp -dsimp [hlt]))))) | ((first | refine guardP_of (fun hc => ?_) (fun hc => ?_) | refine st_cond rfl (fun hc => ?_) (fun hc => ?_)) <;> (try simp only [lqA, lqB, lqC, lqD, lqE, lqF, lqG, lqH, lqI, lqJ, lqK, lqL, lqM, lqN, lqO] at hc) <;> (try (exfalso; first | omega | exact bool_tf hc (by assumption) | exact bool_ft hc (by assumption) | exact absurd (by assumption) hc)) <;> (first | with_reducible show STri _ _ _ _ _ _ | (simp -dsimp [hlt, hc]; (repeat (simp -dsimp (disch := (first | omega | assumption | (refine Bool.eq_false_iff.1 ?_; assumption))) only [wrap_in, if_pos, if_neg]; (try simp -dsimp [hlt, hc]))))))))
    exact ⟨5, by simp, rfl⟩
def chC (j : Nat) (s : Sh8) (i : Nat) (n : Wnt) : Wnt := if n.src = (j : Int) ∧ 100 ≤ shAt s i then { n with tick := max 0 (n.tick + shAt s i - 150) } else n
theorem chC_in {x : Of} (hx : OfOk x) {s : Sh8} (hs : ShOk s) {j : Nat} {n : Wnt} (h : n ∈ chgL (chC j s) (offN x)) : NtIn x n := by
  obtain ⟨i, m, hm, rfl, hi⟩ := chg_mem h
  obtain ⟨⟨q1, q2, q3⟩, q4⟩ := offN_tick hx hm
  have h8 := offN_len x
  obtain ⟨s0, s1⟩ := shAt_bd hs (i := i) (by omega)
  unfold chC
  split
  · refine ⟨q1, ?_, ?_⟩ <;> (dsimp only; omega)
  · exact ⟨q1, q2, q3⟩
theorem wide_zero {b : Wbk} {j : Nat} (hj : j < b.errs.length) : wideB b j 0 = b := by
  have e : wide1 b.errs j 0 = b.errs := by
    unfold wide1
    have hg : b.errs.getD j (0, 0) = b.errs[j] := by simp [hj]
    rw [hg, Int.sub_zero, Int.add_zero]
    exact List.set_getElem_self hj
  unfold wideB
  rw [e]
theorem str_fit {b : Wbk} {j : Nat} (hj : j < b.errs.length) : strN b j = 0 ↔ fitB b = true := by
  obtain ⟨m1, m2, m3⟩ := leastN_spec (fun y => fitB (wideB b j (y : Nat))) 10001
  have e0 : fitB (wideB b j ((0 : Nat) : Int)) = fitB b := by
    rw [show ((0 : Nat) : Int) = 0 from rfl, wide_zero hj]
  constructor
  · intro h
    have h3 := m3 (by show strN b j < 10001; omega)
    have h4 : fitB (wideB b j ((strN b j : Nat) : Int)) = true := h3
    rw [h, e0] at h4
    exact h4
  · intro h
    rcases Nat.eq_zero_or_pos (strN b j) with h0 | h0
    · exact h0
    · have h5 : fitB (wideB b j ((0 : Nat) : Int)) = false := m2 0 h0
      rw [e0, h] at h5; cases h5
theorem fit_nil {b : Wbk} : (spansL b fun m => decide (m = 0)) = [] ↔ fitB b = false := by
  unfold fitB
  cases spansL b fun m => decide (m = 0) <;> simp
def wideW (w : List Wsrc) (j : Nat) (y : Int) : List Wsrc := w.set j (wideS (w.getD j noSrc) y)
theorem wideW_len (w : List Wsrc) (j : Nat) (y : Int) : (wideW w j y).length = w.length := by simp [wideW]
theorem wideW_ok {w : List Wsrc} (hw : WLen w) {j : Nat} (hj : j < w.length) (y : Int) : WLen (wideW w j y) := ⟨fun s hs => by
  rcases List.mem_or_eq_of_mem_set hs with h | rfl
  · exact hw.h s h
  · have : w.getD j noSrc = w[j] := by simp [hj]
    rw [this]
    show (w[j]).table.length ≤ _
    exact hw.h _ (List.getElem_mem hj)⟩
theorem wideS_said (s : Wsrc) (y n : Int) : saidB (wideS s y) n = saidB s n := rfl
theorem wideW_err {w : List Wsrc} {l : List Wnt} {lo hi : Int} (h : newErr w l lo hi = 0) {j : Nat} (hj : j < w.length) {y : Int} (y0 : 0 ≤ y) (h1 : -3600 ≤ (w.getD j noSrc).elo - y) (h2 : (w.getD j noSrc).ehi + y ≤ 3600) : newErr (wideW w j y) l lo hi = 0 := by
  obtain ⟨_, q1, q2, q3, q4, q5⟩ := new_ok h
  have hg : w.getD j noSrc = w[j] := by simp [hj]
  have r1 : sizeW (wideW w j y) = true := by
    unfold sizeW at *
    rw [wideW_len]; exact q1
  have r2 : (wideW w j y).all validV = true := by
    rw [List.all_eq_true] at *
    intro s hs
    rcases List.mem_or_eq_of_mem_set hs with h | rfl
    · exact q2 s h
    · have hv := q2 _ (List.getElem_mem hj)
      rw [hg] at h1 h2 ⊢
      unfold validV baseV at *
      have hsp : spanW (wideS w[j] y).elo (wideS w[j] y).ehi 3600 = true := by
        rw [Bool.and_eq_true, Bool.and_eq_true] at hv
        have := hv.1.2
        unfold spanW at this ⊢
        simp only [Bool.and_eq_true, decide_eq_true_eq] at this ⊢
        show (-3600 ≤ (w[j]).elo - y ∧ (w[j]).elo - y ≤ (w[j]).ehi + y) ∧ (w[j]).ehi + y ≤ 3600
        omega
      rw [Bool.and_eq_true, Bool.and_eq_true] at *
      exact ⟨⟨hv.1.1, hsp⟩, hv.2⟩
  have r3 : notesErr (wideW w j y) l = 0 := by
    have e : ∀ n, noteErr (wideW w j y) n = noteErr w n := fun n => by
      unfold noteErr
      have : (wideW w j y).map (fun s => saidB s n.said) = w.map fun s => saidB s n.said := by
        unfold wideW
        rw [List.map_set, wideS_said, hg]
        have hk : j < (w.map fun s => saidB s n.said).length := by simpa using hj
        have := List.set_getElem_self hk
        simpa using this
      rw [wideW_len, this]
    unfold notesErr at *
    simp only [e]
    exact q4
  unfold newErr
  rw [r1, r2, r3, q5]
  simp; omega
theorem wideW_fit {w : List Wsrc} {l : List Wnt} {lo hi : Int} (h : newErr w l lo hi = 0) {j : Nat} (hj : j < w.length) {y : Int} (h2 : newErr (wideW w j y) l lo hi = 0) :
    fitB (newBk (wideW w j y) l lo hi) = fitB (wideB (newBk w l lo hi) j y) := by
  have e0 : newBk (wideW w j y) l lo hi = wideR (newBk w l lo hi) j y := by
    rw [(new_ok h2).1, (new_ok h).1]
    unfold wideR wideW
    simp only [Wbk.mk.injEq, true_and, and_true]
    unfold wide1
    rw [List.map_set]
    congr 1
    have hg : w.getD j noSrc = w[j] := by simp [hj]
    rw [hg]
    simp [hj, errOf, wideS]
  rw [e0, Bool.eq_iff_iff, fit_iff, fit_iff]
  constructor
  · rintro ⟨t, h1, h2, h3⟩
    exact ⟨t, h1, h2, fun n hn => by rw [← wideR_right]; exact h3 n hn⟩
  · rintro ⟨t, h1, h2, h3⟩
    exact ⟨t, h1, h2, fun n hn => by rw [wideR_right]; exact h3 n hn⟩
end Go.Proofs.Ytakdmliblijgmaa
