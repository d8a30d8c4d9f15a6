/- Part 4 of a proof: CodeZ, Za, Zb, Zc, CodeO, CodeB, Bit, Bits, Zd, Ze. -/
import Derived.Test.YtboifcengmgcaaaGreatT3
set_option linter.unusedSimpArgs false
set_option linter.unusedVariables false
/- The shadow code of functions, as the kit's translation has them. -/
namespace Go.Proofs.YtboifcengmgcaaaGreat
open Go.RowKit
def k40_0 : SCode := .reg [⟨some 2, none, .box 53 (.tmp 0), [], false⟩, ⟨some 4, none, .mov (.const (.int .i64 0)), [], false⟩, ⟨some 5, none, .mov (.const (.int .i64 0)), [], false⟩, ⟨some 6, none, .mov (.const (.int .i64 0)), [], false⟩] [1, 2]
def k40_1 : SCode := .reg [⟨some 9, none, .load true 2 (.tmp 2), [], false⟩, ⟨some 10, none, .call 27 [(.tmp 9)], [], false⟩, ⟨some 11, none, .bin .neq (.tmp 10) (.const (.int .i64 0)), [], false⟩, ⟨some 8, none, .mov (.tmp 11), [], false⟩] [1, 2, 8]
def k40_2 : SCode := .reg [⟨some 4, none, .mov (.const (.int .i64 0)), [], false⟩, ⟨some 5, none, .mov (.const (.int .i64 0)), [], false⟩, ⟨some 6, none, .mov (.const (.int .i64 2)), [], false⟩] [4, 5, 6]
def k40_3 : SCode := .seq k40_2 .ret
def k40_4 : SCode := .reg [⟨some 13, none, .mov (.tmp 1), [], false⟩, ⟨some 14, none, .buildSl 3 1 [(.int .i64 0)] 1 [(0, (.tmp 13))], [], false⟩, ⟨some 15, none, .call 28 [(.const (.int .i64 0)), (.const (.int .i64 3155760000)), (.tmp 14)], [], false⟩, ⟨some 16, none, .un .not (.tmp 15), [], false⟩, ⟨some 12, none, .mov (.tmp 16), [], false⟩] [1, 2, 12]
def k40_5 : SCode := .reg [⟨some 4, none, .mov (.const (.int .i64 0)), [], false⟩, ⟨some 5, none, .mov (.const (.int .i64 0)), [], false⟩, ⟨some 6, none, .mov (.const (.int .i64 3)), [], false⟩] [4, 5, 6]
def k40_6 : SCode := .seq k40_5 .ret
def k40_7 : SCode := .cond (.tmp 12) k40_6 .skip
def k40_8 : SCode := .seq k40_4 k40_7
def k40_9 : SCode := .cond (.tmp 8) k40_3 k40_8
def k40_10 : SCode := .seq k40_1 k40_9
def k40_11 : SCode := .block 0 k40_10
def k40_12 : SCode := .reg [⟨some 17, none, .load true 2 (.tmp 2), [], false⟩, ⟨some 18, none, .build [(.int .i64 0), (.slice none 0 0)] [(0, 2, (.tmp 17))], [], false⟩, ⟨some 19, none, .mov (.tmp 1), [], false⟩, ⟨some 20, none, .call 29 [(.tmp 18), (.tmp 19)], [], false⟩, ⟨some 21, none, .mov (.tmp 1), [], false⟩, ⟨some 22, none, .call 30 [(.tmp 20), (.tmp 21)], [], false⟩, ⟨some 7, none, .mov (.tmp 22), [], false⟩] [7]
def k40_13 : SCode := .reg [⟨some 23, none, .mov (.tmp 7), [], false⟩, ⟨some 24, none, .call 31 [(.tmp 23), (.const (.int .i64 86400))], [], false⟩, ⟨some 25, none, .mov (.tmp 7), [], false⟩, ⟨some 26, none, .call 32 [(.tmp 25), (.const (.int .i64 86400))], [], false⟩, ⟨some 4, none, .mov (.tmp 24), [], false⟩, ⟨some 5, none, .mov (.tmp 26), [], false⟩, ⟨some 6, none, .mov (.const (.int .i64 0)), [], false⟩] [4, 5, 6]
def k40_14 : SCode := .seq k40_13 .ret
def k40_15 : SCode := .seq k40_12 k40_14
def k40_16 : SCode := .seq k40_11 k40_15
def k40_17 : SCode := .seq k40_0 k40_16
@[simp] def rs_zone_Says : List SRes := [.tmp 4, .tmp 5, .tmp 6]
theorem law_zone_Says (cs : List CV) (r : CV) (hl : cs.length ≤ 27) (h : STri (cfF Tryz.prog [] 27) k40_17 (initT 0 cs) [] (retQ rs_zone_Says r)) : SC Tryz.prog 12 cs r :=
  sc_of [] follows Tryz.func12 rfl Tryz.ntmps12 (by decide) (by kernel_rfl) (by kernel_rfl) hl h
def k41_0 : SCode := .reg [⟨some 1, none, .box 53 (.tmp 0), [], false⟩, ⟨some 2, none, .mov (.const (.int .i64 0)), [], false⟩] [1]
def k41_1 : SCode := .reg [⟨some 3, none, .mov (.const (.int .i64 0)), [], false⟩] [1, 3]
def k41_2 : SCode := .reg [⟨some 6, none, .fld 1 (.tmp 1), [], false⟩, ⟨some 7, none, .load false 1 (.tmp 6), [], false⟩, ⟨some 8, none, .len (.tmp 7), [], false⟩, ⟨some 9, none, .mov (.const (.int .i64 0)), [], false⟩] [1, 3, 7, 8, 9]
def k41_3 : SCode := .reg [⟨some 10, none, .bin .lss (.tmp 9) (.tmp 8), [], false⟩] [1, 3, 7, 8, 9, 10]
def k41_4 : SCode := .cond (.tmp 10) .skip (.exit 0)
def k41_5 : SCode := .reg [⟨some 11, none, .idxS 2 (.tmp 7) (.tmp 9), [], false⟩, ⟨some 12, none, .load true 2 (.tmp 11), [], false⟩, ⟨some 5, none, .alloc 87 [(.int .i64 0), (.int .i64 0)], [], false⟩, ⟨none, none, .store 2 (.tmp 5) (.tmp 12), [], false⟩] [1, 3, 5, 7, 8, 9]
def k41_6 : SCode := .reg [⟨some 13, none, .mov (.tmp 3), [], false⟩, ⟨some 14, none, .bin .add (.tmp 13) (.const (.int .i64 1)), [], false⟩, ⟨some 15, none, .fld 0 (.tmp 5), [], false⟩, ⟨some 16, none, .load false 1 (.tmp 15), [], false⟩, ⟨some 17, none, .buildSl 3 1 [(.int .i64 0)] 1 [(0, (.tmp 16))], [], false⟩, ⟨some 18, none, .call 28 [(.tmp 14), (.const (.int .i64 3155760000)), (.tmp 17)], [], false⟩, ⟨some 19, none, .un .not (.tmp 18), [], false⟩, ⟨some 20, none, .mov (.tmp 19), [], false⟩, ⟨some 21, (some (20, false)), .fld 1 (.tmp 5), [], false⟩, ⟨some 22, (some (20, false)), .load false 1 (.tmp 21), [], false⟩, ⟨some 23, (some (20, false)), .call 50 [(.tmp 22)], [], false⟩, ⟨some 24, (some (20, false)), .un .not (.tmp 23), [], false⟩, ⟨some 25, none, .pick (.tmp 20) (.const (.bool true)) (.tmp 24), [], false⟩] [1, 5, 7, 8, 9, 25]
def k41_7 : SCode := .reg [⟨some 2, none, .mov (.const (.int .i64 2)), [], false⟩] [2]
def k41_8 : SCode := .seq k41_7 .ret
def k41_9 : SCode := .cond (.tmp 25) k41_8 .skip
def k41_10 : SCode := .seq k41_6 k41_9
def k41_11 : SCode := .reg [⟨some 26, none, .fld 0 (.tmp 5), [], false⟩, ⟨some 27, none, .load false 1 (.tmp 26), [], false⟩, ⟨some 3, none, .mov (.tmp 27), [], false⟩] [1, 3, 7, 8, 9]
def k41_12 : SCode := .seq k41_10 k41_11
def k41_13 : SCode := .seq k41_5 k41_12
def k41_14 : SCode := .block 1 k41_13
def k41_15 : SCode := .reg [⟨some 28, none, .bin .add (.tmp 9) (.const (.int .i64 1)), [], false⟩, ⟨some 9, none, .mov (.tmp 28), [], false⟩] [1, 3, 7, 8, 9]
def k41_16 : SCode := .seq k41_14 k41_15
def k41_17 : SCode := .seq k41_4 k41_16
def k41_18 : SCode := .seq k41_3 k41_17
def k41_19 : SCode := .loop k41_18
def k41_20 : SCode := .block 0 k41_19
def k41_21 : SCode := .seq k41_2 k41_20
def k41_22 : SCode := .reg [⟨some 29, none, .fld 0 (.tmp 1), [], false⟩, ⟨some 30, none, .load false 1 (.tmp 29), [], false⟩, ⟨some 31, none, .call 50 [(.tmp 30)], [], false⟩, ⟨some 32, none, .un .not (.tmp 31), [], false⟩, ⟨some 33, none, .mov (.tmp 32), [], false⟩, ⟨some 34, (some (33, false)), .fld 1 (.tmp 1), [], false⟩, ⟨some 35, (some (33, false)), .load false 1 (.tmp 34), [], false⟩, ⟨some 36, (some (33, false)), .len (.tmp 35), [], false⟩, ⟨some 37, (some (33, false)), .bin .gtr (.tmp 36) (.const (.int .i64 12)), [], false⟩, ⟨some 38, none, .pick (.tmp 33) (.const (.bool true)) (.tmp 37), [], false⟩] [38]
def k41_23 : SCode := .reg [⟨some 2, none, .mov (.const (.int .i64 2)), [], false⟩] [2]
def k41_24 : SCode := .seq k41_23 .ret
def k41_25 : SCode := .cond (.tmp 38) k41_24 .skip
def k41_26 : SCode := .seq k41_22 k41_25
def k41_27 : SCode := .reg [⟨some 2, none, .mov (.const (.int .i64 0)), [], false⟩] [2]
def k41_28 : SCode := .seq k41_27 .ret
def k41_29 : SCode := .seq k41_26 k41_28
def k41_30 : SCode := .seq k41_21 k41_29
def k41_31 : SCode := .seq k41_1 k41_30
def k41_32 : SCode := .seq k41_0 k41_31
@[simp] def rs_zone_Check : List SRes := [.tmp 2]
theorem law_zone_Check (cs : List CV) (r : CV) (hl : cs.length ≤ 39) (h : STri (cfF Tryz.prog [] 39) k41_32 (initT 0 cs) [] (retQ rs_zone_Check r)) : SC Tryz.prog 27 cs r :=
  sc_of [] follows Tryz.func27 rfl Tryz.ntmps27 (by decide) (by kernel_rfl) (by kernel_rfl) hl h
def k42_0 : SCode := .reg [⟨some 3, none, .boxZ 3 (.tmp 0), [], false⟩, ⟨some 4, none, .boxZ 3 (.tmp 1), [], false⟩, ⟨some 6, none, .mov (.const (.bool false)), [], false⟩] [2, 3, 4]
def k42_1 : SCode := .reg [⟨some 7, none, .mov (.tmp 2), [], false⟩, ⟨some 8, none, .mkFn 52 [] [(.tmp 3), (.tmp 4)], [], false⟩, ⟨some 9, none, .call 51 [(.tmp 7), (.tmp 8)], [], false⟩, ⟨some 10, none, .un .not (.tmp 9), [], false⟩, ⟨some 6, none, .mov (.tmp 10), [], false⟩] [6]
def k42_2 : SCode := .seq k42_1 .ret
def k42_3 : SCode := .seq k42_0 k42_2
@[simp] def rs_zone_within : List SRes := [.tmp 6]
theorem law_zone_within (cs : List CV) (r : CV) (hl : cs.length ≤ 11) (h : STri (cfF Tryz.prog [] 11) k42_3 (initT 0 cs) [] (retQ rs_zone_within r)) : SC Tryz.prog 28 cs r :=
  sc_of [] follows Tryz.func28 rfl Tryz.ntmps28 (by decide) (by kernel_rfl) (by kernel_rfl) hl h
def k43_0 : SCode := .reg [⟨some 4, none, .mov (.const (.int .i64 0)), [], false⟩] [0, 1]
def k43_1 : SCode := .reg [⟨some 5, none, .mov (.tmp 0), [], false⟩, ⟨some 6, none, .mov (.tmp 0), [], false⟩, ⟨some 7, none, .mov (.tmp 1), [], false⟩, ⟨some 8, none, .call 32 [(.tmp 6), (.tmp 7)], [], false⟩, ⟨some 9, none, .bin .sub (.tmp 5) (.tmp 8), [], false⟩, ⟨some 10, none, .mov (.tmp 1), [], false⟩, ⟨some 11, none, .bin .quo (.tmp 9) (.tmp 10), [], false⟩, ⟨some 4, none, .mov (.tmp 11), [], false⟩] [4]
def k43_2 : SCode := .seq k43_1 .ret
def k43_3 : SCode := .seq k43_0 k43_2
@[simp] def rs_zone_down : List SRes := [.tmp 4]
theorem law_zone_down (cs : List CV) (r : CV) (hl : cs.length ≤ 12) (h : STri (cfF Tryz.prog [] 12) k43_3 (initT 0 cs) [] (retQ rs_zone_down r)) : SC Tryz.prog 31 cs r :=
  sc_of [] follows Tryz.func31 rfl Tryz.ntmps31 (by decide) (by kernel_rfl) (by kernel_rfl) hl h
def k44_0 : SCode := .reg [⟨some 4, none, .mov (.const (.int .i64 0)), [], false⟩] [0, 1]
def k44_1 : SCode := .reg [⟨some 5, none, .mov (.tmp 0), [], false⟩, ⟨some 6, none, .mov (.tmp 1), [], false⟩, ⟨some 7, none, .bin .rem (.tmp 5) (.tmp 6), [], false⟩, ⟨some 8, none, .mov (.tmp 1), [], false⟩, ⟨some 9, none, .bin .add (.tmp 7) (.tmp 8), [], false⟩, ⟨some 10, none, .mov (.tmp 1), [], false⟩, ⟨some 11, none, .bin .rem (.tmp 9) (.tmp 10), [], false⟩, ⟨some 4, none, .mov (.tmp 11), [], false⟩] [4]
def k44_2 : SCode := .seq k44_1 .ret
def k44_3 : SCode := .seq k44_0 k44_2
@[simp] def rs_zone_modulo : List SRes := [.tmp 4]
theorem law_zone_modulo (cs : List CV) (r : CV) (hl : cs.length ≤ 12) (h : STri (cfF Tryz.prog [] 12) k44_3 (initT 0 cs) [] (retQ rs_zone_modulo r)) : SC Tryz.prog 32 cs r :=
  sc_of [] follows Tryz.func32 rfl Tryz.ntmps32 (by decide) (by kernel_rfl) (by kernel_rfl) hl h
def k45_0 : SCode := .reg [⟨some 1, none, .box 53 (.tmp 0), [], false⟩, ⟨some 2, none, .mov (.const (.slice none 0 0)), [], false⟩, ⟨some 3, none, .mov (.const (.slice none 0 0)), [], false⟩, ⟨some 4, none, .mov (.const (.int .i64 0)), [], false⟩] [1, 2, 3, 4]
def k45_1 : SCode := .reg [⟨some 16, none, .load true 2 (.tmp 1), [], false⟩, ⟨some 17, none, .call 27 [(.tmp 16)], [], false⟩, ⟨some 5, none, .mov (.tmp 17), [], false⟩] [1, 2, 3, 4, 5]
def k45_2 : SCode := .reg [⟨some 18, none, .mov (.tmp 5), [], false⟩, ⟨some 19, none, .bin .neq (.tmp 18) (.const (.int .i64 0)), [], false⟩] [1, 2, 3, 4, 5, 19]
def k45_3 : SCode := .reg [⟨some 20, none, .mov (.tmp 5), [], false⟩, ⟨some 2, none, .mov (.const (.slice none 0 0)), [], false⟩, ⟨some 3, none, .mov (.const (.slice none 0 0)), [], false⟩, ⟨some 4, none, .mov (.tmp 20), [], false⟩] [2, 3, 4]
def k45_4 : SCode := .seq k45_3 .ret
def k45_5 : SCode := .cond (.tmp 19) k45_4 .skip
def k45_6 : SCode := .seq k45_2 k45_5
def k45_7 : SCode := .seq k45_1 k45_6
def k45_8 : SCode := .reg [⟨some 21, none, .load true 2 (.tmp 1), [], false⟩, ⟨some 22, none, .build [(.int .i64 0), (.slice none 0 0)] [(0, 2, (.tmp 21))], [], false⟩, ⟨some 6, none, .alloc 93 [(.int .i64 0), (.slice none 0 0)], [], false⟩, ⟨none, none, .store 2 (.tmp 6) (.tmp 22), [], false⟩] [2, 3, 4, 6]
def k45_9 : SCode := .reg [⟨some 7, none, .alloc 38 [(.slice none 0 0)], [], false⟩] [2, 3, 4, 6, 7]
def k45_10 : SCode := .reg [⟨some 23, none, .load true 2 (.tmp 6), [], false⟩, ⟨some 24, none, .mkFn 53 [(.tmp 23)] [], [], false⟩] [2, 3, 4, 6, 7, 24]
def k45_11 : SCode := .reg [⟨some 8, none, .alloc 91 [(.int .i64 0), (.int .i64 0), (.int .i64 0)], [], false⟩, ⟨none, none, .store 3 (.tmp 8) (.tmp 25), [], false⟩] [7, 8]
def k45_12 : SCode := .reg [⟨some 26, none, .load true 3 (.tmp 8), [], false⟩, ⟨some 27, none, .call 60 [(.tmp 26)], [], false⟩, ⟨some 9, none, .alloc 24 [(.int .i64 0), (.int .i64 0)], [], false⟩, ⟨none, none, .store 2 (.tmp 9) (.tmp 27), [], false⟩] [7, 9]
def k45_13 : SCode := .reg [⟨some 28, none, .load false 1 (.tmp 7), [], false⟩, ⟨some 29, none, .fld 0 (.tmp 9), [], false⟩, ⟨some 30, none, .load false 1 (.tmp 29), [], false⟩, ⟨some 31, none, .fld 0 (.tmp 9), [], false⟩, ⟨some 32, none, .load false 1 (.tmp 31), [], false⟩, ⟨some 33, none, .bin .add (.tmp 32) (.const (.int .i64 1)), [], false⟩, ⟨some 34, none, .fld 1 (.tmp 9), [], false⟩, ⟨some 35, none, .load false 1 (.tmp 34), [], false⟩, ⟨some 36, none, .fld 1 (.tmp 9), [], false⟩, ⟨some 37, none, .load false 1 (.tmp 36), [], false⟩, ⟨some 38, none, .bin .add (.tmp 37) (.const (.int .i64 1)), [], false⟩, ⟨some 39, none, .buildSl 3 1 [(.int .i64 0)] 4 [(0, (.tmp 30)), (1, (.tmp 33)), (2, (.tmp 35)), (3, (.tmp 38))], [], false⟩, ⟨some 40, none, .append 3 1 8 (.tmp 28) (.tmp 39), [], false⟩, ⟨none, none, .store 1 (.tmp 7) (.tmp 40), [], false⟩] []
def k45_14 : SCode := .seq k45_12 k45_13
def k45_15 : SCode := .block 1 k45_14
def k45_16 : SCode := .range (.tmp 24) [25] k45_11 k45_15
def k45_17 : SCode := .block 0 k45_16
def k45_18 : SCode := .seq k45_10 k45_17
def k45_19 : SCode := .reg [⟨some 41, none, .load false 1 (.tmp 7), [], false⟩, ⟨some 42, none, .call 61 [(.tmp 41)], [], false⟩] [6, 7]
def k45_20 : SCode := .reg [⟨some 43, none, .load false 1 (.tmp 7), [], false⟩, ⟨some 44, none, .call 62 [(.tmp 43)], [], false⟩, ⟨none, none, .store 1 (.tmp 7) (.tmp 44), [], false⟩] [6, 7]
def k45_21 : SCode := .reg [⟨some 10, none, .mov (.const (.slice none 0 0)), [], false⟩, ⟨some 11, none, .mov (.const (.slice none 0 0)), [], false⟩] [6, 7, 10, 11]
def k45_22 : SCode := .reg [⟨some 45, none, .load false 1 (.tmp 7), [], false⟩, ⟨some 46, none, .load false 1 (.tmp 7), [], false⟩, ⟨some 47, none, .len (.tmp 46), [], false⟩, ⟨some 48, none, .bin .sub (.tmp 47) (.const (.int .i64 1)), [], false⟩, ⟨some 49, none, .slcS 1 (.tmp 45) none (some (.tmp 48)), [], false⟩, ⟨some 50, none, .len (.tmp 49), [], false⟩, ⟨some 51, none, .mov (.const (.int .i64 0)), [], false⟩] [6, 7, 10, 11, 49, 50, 51]
def k45_23 : SCode := .reg [⟨some 52, none, .bin .lss (.tmp 51) (.tmp 50), [], false⟩] [6, 7, 10, 11, 49, 50, 51, 52]
def k45_24 : SCode := .cond (.tmp 52) .skip (.exit 2)
def k45_25 : SCode := .reg [⟨some 53, none, .mov (.tmp 51), [], false⟩, ⟨some 54, none, .idxS 1 (.tmp 49) (.tmp 51), [], false⟩, ⟨some 55, none, .load false 1 (.tmp 54), [], false⟩, ⟨some 12, none, .mov (.tmp 53), [], false⟩, ⟨some 13, none, .mov (.tmp 55), [], false⟩] [6, 7, 10, 11, 12, 13, 49, 50, 51]
def k45_26 : SCode := .reg [⟨some 56, none, .mov (.tmp 13), [], false⟩, ⟨some 57, none, .load false 1 (.tmp 7), [], false⟩, ⟨some 58, none, .mov (.tmp 12), [], false⟩, ⟨some 59, none, .bin .add (.tmp 58) (.const (.int .i64 1)), [], false⟩, ⟨some 60, none, .idxS 1 (.tmp 57) (.tmp 59), [], false⟩, ⟨some 61, none, .load false 1 (.tmp 60), [], false⟩, ⟨some 62, none, .bin .sub (.tmp 61) (.const (.int .i64 1)), [], false⟩, ⟨some 63, none, .build [(.int .i64 0), (.int .i64 0)] [(0, 1, (.tmp 56)), (1, 1, (.tmp 62))], [], false⟩, ⟨some 14, none, .alloc 24 [(.int .i64 0), (.int .i64 0)], [], false⟩, ⟨none, none, .store 2 (.tmp 14) (.tmp 63), [], false⟩] [6, 7, 10, 11, 13, 14, 49, 50, 51]
def k45_27 : SCode := .reg [⟨some 64, none, .load true 2 (.tmp 6), [], false⟩, ⟨some 65, none, .mov (.tmp 13), [], false⟩, ⟨some 66, none, .call 63 [(.tmp 64), (.tmp 65)], [], false⟩, ⟨some 67, none, .len (.tmp 66), [], false⟩, ⟨some 15, none, .mov (.tmp 67), [], false⟩] [6, 7, 10, 11, 14, 15, 49, 50, 51]
def k45_28 : SCode := .reg [⟨some 69, none, .mov (.tmp 15), [], false⟩, ⟨some 70, none, .bin .gtr (.tmp 69) (.const (.int .i64 1)), [], false⟩, ⟨some 68, none, .mov (.tmp 70), [], false⟩] [6, 7, 10, 11, 14, 15, 49, 50, 51, 68]
def k45_29 : SCode := .reg [⟨some 71, none, .mov (.tmp 10), [], false⟩, ⟨some 72, none, .load true 2 (.tmp 14), [], false⟩, ⟨some 73, none, .buildSl 24 2 [(.int .i64 0), (.int .i64 0)] 1 [(0, (.tmp 72))], [], false⟩, ⟨some 74, none, .append 24 2 16 (.tmp 71) (.tmp 73), [], false⟩, ⟨some 10, none, .mov (.tmp 74), [], false⟩] [6, 7, 10, 11, 49, 50, 51]
def k45_30 : SCode := .reg [⟨some 76, none, .mov (.tmp 15), [], false⟩, ⟨some 77, none, .bin .eql (.tmp 76) (.const (.int .i64 0)), [], false⟩, ⟨some 75, none, .mov (.tmp 77), [], false⟩] [6, 7, 10, 11, 14, 49, 50, 51, 75]
def k45_31 : SCode := .reg [⟨some 78, none, .mov (.tmp 11), [], false⟩, ⟨some 79, none, .load true 2 (.tmp 14), [], false⟩, ⟨some 80, none, .buildSl 24 2 [(.int .i64 0), (.int .i64 0)] 1 [(0, (.tmp 79))], [], false⟩, ⟨some 81, none, .append 24 2 16 (.tmp 78) (.tmp 80), [], false⟩, ⟨some 11, none, .mov (.tmp 81), [], false⟩] [6, 7, 10, 11, 49, 50, 51]
def k45_32 : SCode := .cond (.tmp 75) k45_31 .skip
def k45_33 : SCode := .seq k45_30 k45_32
def k45_34 : SCode := .cond (.tmp 68) k45_29 k45_33
def k45_35 : SCode := .seq k45_28 k45_34
def k45_36 : SCode := .block 4 k45_35
def k45_37 : SCode := .seq k45_27 k45_36
def k45_38 : SCode := .seq k45_26 k45_37
def k45_39 : SCode := .seq k45_25 k45_38
def k45_40 : SCode := .block 3 k45_39
def k45_41 : SCode := .reg [⟨some 82, none, .bin .add (.tmp 51) (.const (.int .i64 1)), [], false⟩, ⟨some 51, none, .mov (.tmp 82), [], false⟩] [6, 7, 10, 11, 49, 50, 51]
def k45_42 : SCode := .seq k45_40 k45_41
def k45_43 : SCode := .seq k45_24 k45_42
def k45_44 : SCode := .seq k45_23 k45_43
def k45_45 : SCode := .loop k45_44
def k45_46 : SCode := .block 2 k45_45
def k45_47 : SCode := .seq k45_22 k45_46
def k45_48 : SCode := .reg [⟨some 83, none, .mov (.tmp 10), [], false⟩, ⟨some 84, none, .call 64 [(.tmp 83)], [], false⟩, ⟨some 85, none, .mov (.tmp 11), [], false⟩, ⟨some 86, none, .call 64 [(.tmp 85)], [], false⟩, ⟨some 2, none, .mov (.tmp 84), [], false⟩, ⟨some 3, none, .mov (.tmp 86), [], false⟩, ⟨some 4, none, .mov (.const (.int .i64 0)), [], false⟩] [2, 3, 4]
def k45_49 : SCode := .seq k45_48 .ret
def k45_50 : SCode := .seq k45_47 k45_49
def k45_51 : SCode := .seq k45_21 k45_50
def k45_52 : SCode := .seq k45_20 k45_51
def k45_53 : SCode := .seq k45_19 k45_52
def k45_54 : SCode := .seq k45_18 k45_53
def k45_55 : SCode := .seq k45_9 k45_54
def k45_56 : SCode := .seq k45_8 k45_55
def k45_57 : SCode := .seq k45_7 k45_56
def k45_58 : SCode := .seq k45_0 k45_57
@[simp] def rs_zone_Odd : List SRes := [.tmp 2, .tmp 3, .tmp 4]
theorem law_zone_Odd (cs : List CV) (r : CV) (hl : cs.length ≤ 87) (h : STri (cfF Tryz.prog [] 87) k45_58 (initT 0 cs) [] (retQ rs_zone_Odd r)) : SC Tryz.prog 35 cs r :=
  sc_of [] follows Tryz.func35 rfl Tryz.ntmps35 (by decide) (by kernel_rfl) (by kernel_rfl) hl h
def k46_0 : SCode := .reg [⟨some 2, none, .mov (.const (.bool false)), [], false⟩] [0]
def k46_1 : SCode := .reg [⟨some 3, none, .mov (.tmp 0), [], false⟩, ⟨some 4, none, .buildSl 3 1 [(.int .i64 0)] 1 [(0, (.tmp 3))], [], false⟩, ⟨some 5, none, .call 28 [(.const (.int .i64 (-43200))), (.const (.int .i64 43200)), (.tmp 4)], [], false⟩, ⟨some 2, none, .mov (.tmp 5), [], false⟩] [2]
def k46_2 : SCode := .seq k46_1 .ret
def k46_3 : SCode := .seq k46_0 k46_2
@[simp] def rs_zone_isOffset : List SRes := [.tmp 2]
theorem law_zone_isOffset (cs : List CV) (r : CV) (hl : cs.length ≤ 6) (h : STri (cfF Tryz.prog [] 6) k46_3 (initT 0 cs) [] (retQ rs_zone_isOffset r)) : SC Tryz.prog 50 cs r :=
  sc_of [] follows Tryz.func50 rfl Tryz.ntmps50 (by decide) (by kernel_rfl) (by kernel_rfl) hl h
def k47_0 : SCode := .reg [⟨some 4, none, .mov (.const (.bool false)), [], false⟩] [0, 1, 2]
def k47_1 : SCode := .reg [⟨some 5, none, .mov (.tmp 0), [], false⟩, ⟨some 6, none, .load false 1 (.tmp 1), [], false⟩, ⟨some 7, none, .bin .lss (.tmp 5) (.tmp 6), [], false⟩, ⟨some 8, none, .mov (.tmp 7), [], false⟩, ⟨some 9, (some (8, false)), .mov (.tmp 0), [], false⟩, ⟨some 10, (some (8, false)), .load false 1 (.tmp 2), [], false⟩, ⟨some 11, (some (8, false)), .bin .gtr (.tmp 9) (.tmp 10), [], false⟩, ⟨some 12, none, .pick (.tmp 8) (.const (.bool true)) (.tmp 11), [], false⟩, ⟨some 4, none, .mov (.tmp 12), [], false⟩] [4]
def k47_2 : SCode := .seq k47_1 .ret
def k47_3 : SCode := .seq k47_0 k47_2
@[simp] def rs_zone_within_1 : List SRes := [.tmp 4]
theorem law_zone_within_1 (cs : List CV) (r : CV) (hl : cs.length ≤ 13) (h : STri (cfF Tryz.prog [] 13) k47_3 (initT 0 cs) [] (retQ rs_zone_within_1 r)) : SC Tryz.prog 52 cs r :=
  sc_of [] follows Tryz.func52 rfl Tryz.ntmps52 (by decide) (by kernel_rfl) (by kernel_rfl) hl h
def k48_0 : SCode := .reg [⟨some 2, none, .box 93 (.tmp 0), [], false⟩, ⟨some 3, none, .box 3 (.tmp 1), [], false⟩, ⟨some 4, none, .alloc 91 [(.int .i64 0), (.int .i64 0), (.int .i64 0)], [], false⟩] [2, 3, 4]
def k48_1 : SCode := .reg [⟨some 6, none, .load true 2 (.tmp 2), [], false⟩, ⟨some 7, none, .mkFn 53 [(.tmp 6)] [], [], false⟩] [3, 4, 7]
def k48_2 : SCode := .reg [⟨some 5, none, .alloc 91 [(.int .i64 0), (.int .i64 0), (.int .i64 0)], [], false⟩, ⟨none, none, .store 3 (.tmp 5) (.tmp 8), [], false⟩] [3, 4, 5]
def k48_3 : SCode := .reg [⟨some 9, none, .fld 0 (.tmp 5), [], false⟩, ⟨some 10, none, .fld 0 (.tmp 9), [], false⟩, ⟨some 11, none, .load false 1 (.tmp 10), [], false⟩, ⟨some 12, none, .fld 0 (.tmp 5), [], false⟩, ⟨some 13, none, .fld 1 (.tmp 12), [], false⟩, ⟨some 14, none, .load false 1 (.tmp 13), [], false⟩, ⟨some 15, none, .load false 1 (.tmp 3), [], false⟩, ⟨some 16, none, .buildSl 3 1 [(.int .i64 0)] 1 [(0, (.tmp 15))], [], false⟩, ⟨some 17, none, .call 28 [(.tmp 11), (.tmp 14), (.tmp 16)], [], false⟩] [4, 5, 17]
def k48_4 : SCode := .reg [⟨some 18, none, .load true 3 (.tmp 5), [], false⟩, ⟨none, none, .store 3 (.tmp 4) (.tmp 18), [], false⟩] []
def k48_5 : SCode := .cond (.tmp 17) k48_4 .skip
def k48_6 : SCode := .seq k48_3 k48_5
def k48_7 : SCode := .block 1 k48_6
def k48_8 : SCode := .range (.tmp 7) [8] k48_2 k48_7
def k48_9 : SCode := .block 0 k48_8
def k48_10 : SCode := .seq k48_1 k48_9
def k48_11 : SCode := .reg [⟨some 19, none, .load true 3 (.tmp 4), [], false⟩, ⟨none, none, .store 3 (.tmp 4) (.tmp 19), [], false⟩] [4]
def k48_12 : SCode := .seq k48_11 .ret
def k48_13 : SCode := .seq k48_10 k48_12
def k48_14 : SCode := .seq k48_0 k48_13
@[simp] def rs_zone_town_at : List SRes := [.cell 4 true 3]
theorem law_zone_town_at (cs : List CV) (r : CV) (hl : cs.length ≤ 20) (h : STri (cfF Tryz.prog [] 20) k48_14 (initT 0 cs) [] (retQ rs_zone_town_at r)) : SC Tryz.prog 29 cs r :=
  sc_of [] follows Tryz.func29 rfl Tryz.ntmps29 (by decide) (by kernel_rfl) (by kernel_rfl) hl h
def k49_0 : SCode := .reg [⟨some 2, none, .box 91 (.tmp 0), [], false⟩, ⟨some 4, none, .mov (.const (.int .i64 0)), [], false⟩] [1, 2]
def k49_1 : SCode := .reg [⟨some 5, none, .mov (.tmp 1), [], false⟩, ⟨some 6, none, .fld 2 (.tmp 2), [], false⟩, ⟨some 7, none, .load false 1 (.tmp 6), [], false⟩, ⟨some 8, none, .bin .add (.tmp 5) (.tmp 7), [], false⟩, ⟨some 4, none, .mov (.tmp 8), [], false⟩] [4]
def k49_2 : SCode := .seq k49_1 .ret
def k49_3 : SCode := .seq k49_0 k49_2
@[simp] def rs_zone_era_says : List SRes := [.tmp 4]
theorem law_zone_era_says (cs : List CV) (r : CV) (hl : cs.length ≤ 9) (h : STri (cfF Tryz.prog [] 9) k49_3 (initT 0 cs) [] (retQ rs_zone_era_says r)) : SC Tryz.prog 30 cs r :=
  sc_of [] follows Tryz.func30 rfl Tryz.ntmps30 (by decide) (by kernel_rfl) (by kernel_rfl) hl h
def k50_0 : SCode := .reg [⟨some 2, none, .box 93 (.tmp 0), [], false⟩] [1, 2]
def k50_1 : SCode := .reg [⟨some 7, none, .fld 0 (.tmp 2), [], false⟩, ⟨some 8, none, .fld 0 (.tmp 7), [], false⟩, ⟨some 9, none, .load false 1 (.tmp 8), [], false⟩, ⟨some 10, none, .build [(.int .i64 0), (.int .i64 0), (.int .i64 0)] [(2, 1, (.tmp 9))], [], false⟩, ⟨some 4, none, .alloc 91 [(.int .i64 0), (.int .i64 0), (.int .i64 0)], [], false⟩, ⟨none, none, .store 3 (.tmp 4) (.tmp 10), [], false⟩] [1, 2, 4]
def k50_2 : SCode := .reg [⟨some 11, none, .fld 0 (.tmp 2), [], false⟩, ⟨some 12, none, .fld 1 (.tmp 11), [], false⟩, ⟨some 13, none, .load false 1 (.tmp 12), [], false⟩, ⟨some 14, none, .len (.tmp 13), [], false⟩, ⟨some 15, none, .mov (.const (.int .i64 0)), [], false⟩] [1, 4, 13, 14, 15]
def k50_3 : SCode := .reg [⟨some 16, none, .bin .lss (.tmp 15) (.tmp 14), [], false⟩] [1, 4, 13, 14, 15, 16]
def k50_4 : SCode := .cond (.tmp 16) .skip (.exit 0)
def k50_5 : SCode := .reg [⟨some 17, none, .idxS 2 (.tmp 13) (.tmp 15), [], false⟩, ⟨some 18, none, .load true 2 (.tmp 17), [], false⟩, ⟨some 6, none, .alloc 87 [(.int .i64 0), (.int .i64 0)], [], false⟩, ⟨none, none, .store 2 (.tmp 6) (.tmp 18), [], false⟩] [1, 4, 6, 13, 14, 15]
def k50_6 : SCode := .reg [⟨some 19, none, .fld 0 (.tmp 6), [], false⟩, ⟨some 20, none, .load false 1 (.tmp 19), [], false⟩, ⟨some 21, none, .bin .sub (.tmp 20) (.const (.int .i64 1)), [], false⟩, ⟨some 22, none, .fld 0 (.tmp 4), [], false⟩, ⟨some 23, none, .fld 1 (.tmp 22), [], false⟩, ⟨none, none, .store 1 (.tmp 23) (.tmp 21), [], false⟩] [1, 4, 6, 13, 14, 15]
def k50_7 : SCode := .reg [⟨some 24, none, .mov (.tmp 1), [], false⟩, ⟨some 25, none, .load true 3 (.tmp 4), [], false⟩, ⟨some 26, none, .callV (.tmp 24) [(.tmp 25)], [], false⟩, ⟨some 27, none, .un .not (.tmp 26), [], false⟩] [1, 4, 6, 13, 14, 15, 27]
def k50_8 : SCode := .cond (.tmp 27) .ret .skip
def k50_9 : SCode := .seq k50_7 k50_8
def k50_10 : SCode := .reg [⟨some 28, none, .fld 0 (.tmp 6), [], false⟩, ⟨some 29, none, .load false 1 (.tmp 28), [], false⟩, ⟨some 30, none, .build [(.int .i64 0), (.int .i64 0)] [(0, 1, (.tmp 29))], [], false⟩, ⟨some 31, none, .fld 1 (.tmp 6), [], false⟩, ⟨some 32, none, .load false 1 (.tmp 31), [], false⟩, ⟨some 33, none, .build [(.int .i64 0), (.int .i64 0), (.int .i64 0)] [(0, 2, (.tmp 30)), (2, 1, (.tmp 32))], [], false⟩, ⟨none, none, .store 3 (.tmp 4) (.tmp 33), [], false⟩] [1, 4, 13, 14, 15]
def k50_11 : SCode := .seq k50_9 k50_10
def k50_12 : SCode := .seq k50_6 k50_11
def k50_13 : SCode := .seq k50_5 k50_12
def k50_14 : SCode := .block 1 k50_13
def k50_15 : SCode := .reg [⟨some 34, none, .bin .add (.tmp 15) (.const (.int .i64 1)), [], false⟩, ⟨some 15, none, .mov (.tmp 34), [], false⟩] [1, 4, 13, 14, 15]
def k50_16 : SCode := .seq k50_14 k50_15
def k50_17 : SCode := .seq k50_4 k50_16
def k50_18 : SCode := .seq k50_3 k50_17
def k50_19 : SCode := .loop k50_18
def k50_20 : SCode := .block 0 k50_19
def k50_21 : SCode := .seq k50_2 k50_20
def k50_22 : SCode := .reg [⟨some 35, none, .fld 0 (.tmp 4), [], false⟩, ⟨some 36, none, .fld 1 (.tmp 35), [], false⟩, ⟨none, none, .store 1 (.tmp 36) (.const (.int .i64 3155760000)), [], false⟩] [1, 4]
def k50_23 : SCode := .reg [⟨some 37, none, .mov (.tmp 1), [], false⟩, ⟨some 38, none, .load true 3 (.tmp 4), [], false⟩, ⟨some 39, none, .callV (.tmp 37) [(.tmp 38)], [], false⟩] []
def k50_24 : SCode := .seq k50_22 k50_23
def k50_25 : SCode := .seq k50_21 k50_24
def k50_26 : SCode := .seq k50_1 k50_25
def k50_27 : SCode := .seq k50_0 k50_26
theorem ilaw_zone_town_eras (b : Nat) (fs cs : List CV) (xs : List (List CV)) (hb2 : b + 1000 ≤ 1000000000) (hl : fs.length + 1 + cs.length ≤ 40) (h : ∀ Iv A G id, (∃ v, G (.yl id) v) → (∀ k row, xs[k]? = some row → YT Tryz.prog Iv A G id k row) → STri (cfI Tryz.prog [] 40 b Iv A G) k50_27 (initS 0 (fs.map .c ++ .yl id :: cs.map .c)) [(1000000000 + b, .gh 0 false)] (itQ b xs.length)) : IterL Tryz.prog 53 b fs cs xs :=
  iter_of [] follows Tryz.func53 rfl Tryz.ntmps53 (by decide) hb2 (by kernel_rfl) rfl hl h
def k51_0 : SCode := .reg [⟨some 1, none, .box 91 (.tmp 0), [], false⟩, ⟨some 2, none, .alloc 24 [(.int .i64 0), (.int .i64 0)], [], false⟩] [1, 2]
def k51_1 : SCode := .reg [⟨some 3, none, .load true 3 (.tmp 1), [], false⟩, ⟨some 4, none, .fld 0 (.tmp 1), [], false⟩, ⟨some 5, none, .fld 0 (.tmp 4), [], false⟩, ⟨some 6, none, .load false 1 (.tmp 5), [], false⟩, ⟨some 7, none, .call 81 [(.tmp 3), (.tmp 6)], [], false⟩, ⟨some 8, none, .load true 3 (.tmp 1), [], false⟩, ⟨some 9, none, .fld 0 (.tmp 1), [], false⟩, ⟨some 10, none, .fld 1 (.tmp 9), [], false⟩, ⟨some 11, none, .load false 1 (.tmp 10), [], false⟩, ⟨some 12, none, .call 81 [(.tmp 8), (.tmp 11)], [], false⟩, ⟨some 13, none, .build [(.int .i64 0), (.int .i64 0)] [(0, 1, (.tmp 7)), (1, 1, (.tmp 12))], [], false⟩, ⟨none, none, .store 2 (.tmp 2) (.tmp 13), [], false⟩] [2]
def k51_2 : SCode := .seq k51_1 .ret
def k51_3 : SCode := .seq k51_0 k51_2
@[simp] def rs_zone_era_minutes : List SRes := [.cell 2 true 2]
theorem law_zone_era_minutes (cs : List CV) (r : CV) (hl : cs.length ≤ 14) (h : STri (cfF Tryz.prog [] 14) k51_3 (initT 0 cs) [] (retQ rs_zone_era_minutes r)) : SC Tryz.prog 60 cs r :=
  sc_of [] follows Tryz.func60 rfl Tryz.ntmps60 (by decide) (by kernel_rfl) (by kernel_rfl) hl h
def k52_0 : SCode := .reg [⟨some 2, none, .box 93 (.tmp 0), [], false⟩, ⟨some 3, none, .box 3 (.tmp 1), [], false⟩, ⟨some 4, none, .alloc 138 [(.slice none 0 0)], [], false⟩] [2, 3, 4]
def k52_1 : SCode := .reg [⟨some 7, none, .load true 2 (.tmp 2), [], false⟩, ⟨some 8, none, .mkFn 53 [(.tmp 7)] [], [], false⟩] [3, 4, 8]
def k52_2 : SCode := .reg [⟨some 5, none, .alloc 91 [(.int .i64 0), (.int .i64 0), (.int .i64 0)], [], false⟩, ⟨none, none, .store 3 (.tmp 5) (.tmp 9), [], false⟩] [3, 4, 5]
def k52_3 : SCode := .reg [⟨some 10, none, .load true 3 (.tmp 5), [], false⟩, ⟨some 11, none, .call 60 [(.tmp 10)], [], false⟩, ⟨some 6, none, .alloc 24 [(.int .i64 0), (.int .i64 0)], [], false⟩, ⟨none, none, .store 2 (.tmp 6) (.tmp 11), [], false⟩] [3, 4, 5, 6]
def k52_4 : SCode := .reg [⟨some 12, none, .fld 0 (.tmp 6), [], false⟩, ⟨some 13, none, .load false 1 (.tmp 12), [], false⟩, ⟨some 14, none, .fld 1 (.tmp 6), [], false⟩, ⟨some 15, none, .load false 1 (.tmp 14), [], false⟩, ⟨some 16, none, .load false 1 (.tmp 3), [], false⟩, ⟨some 17, none, .buildSl 3 1 [(.int .i64 0)] 1 [(0, (.tmp 16))], [], false⟩, ⟨some 18, none, .call 28 [(.tmp 13), (.tmp 15), (.tmp 17)], [], false⟩] [3, 4, 5, 18]
def k52_5 : SCode := .reg [⟨some 19, none, .load false 1 (.tmp 4), [], true⟩, ⟨some 20, none, .load true 3 (.tmp 5), [], false⟩, ⟨some 21, none, .load false 1 (.tmp 3), [], false⟩, ⟨some 22, none, .call 83 [(.tmp 20), (.tmp 21)], [], false⟩, ⟨some 23, none, .buildSl 24 2 [(.int .i64 0), (.int .i64 0)] 1 [(0, (.tmp 22))], [0], false⟩, ⟨some 24, none, .append 24 2 16 (.tmp 19) (.tmp 23), [], false⟩, ⟨none, none, .store 1 (.tmp 4) (.tmp 24), [], false⟩] []
def k52_6 : SCode := .cond (.tmp 18) k52_5 .skip
def k52_7 : SCode := .seq k52_4 k52_6
def k52_8 : SCode := .seq k52_3 k52_7
def k52_9 : SCode := .block 1 k52_8
def k52_10 : SCode := .range (.tmp 8) [9] k52_2 k52_9
def k52_11 : SCode := .block 0 k52_10
def k52_12 : SCode := .seq k52_1 k52_11
def k52_13 : SCode := .reg [⟨some 25, none, .load false 1 (.tmp 4), [], false⟩, ⟨some 26, none, .call 64 [(.tmp 25)], [], false⟩, ⟨none, none, .store 1 (.tmp 4) (.tmp 26), [], false⟩] [4]
def k52_14 : SCode := .seq k52_13 .ret
def k52_15 : SCode := .seq k52_12 k52_14
def k52_16 : SCode := .seq k52_0 k52_15
@[simp] def rs_zone_town_means : List SRes := [.cell 4 false 1]
theorem law_zone_town_means (cs : List CV) (r : CV) (hl : cs.length ≤ 27) (h : STri (cfF Tryz.prog [] 27) k52_16 (initT 0 cs) [] (retQ rs_zone_town_means r)) : SC Tryz.prog 63 cs r :=
  sc_of [] follows Tryz.func63 rfl Tryz.ntmps63 (by decide) (by kernel_rfl) (by kernel_rfl) hl h
def k53_0 : SCode := .reg [⟨some 2, none, .box 91 (.tmp 0), [], false⟩, ⟨some 4, none, .mov (.const (.int .i64 0)), [], false⟩] [1, 2]
def k53_1 : SCode := .reg [⟨some 5, none, .load true 3 (.tmp 2), [], false⟩, ⟨some 6, none, .mov (.tmp 1), [], false⟩, ⟨some 7, none, .call 30 [(.tmp 5), (.tmp 6)], [], false⟩, ⟨some 8, none, .call 31 [(.tmp 7), (.const (.int .i64 60))], [], false⟩, ⟨some 4, none, .mov (.tmp 8), [], false⟩] [4]
def k53_2 : SCode := .seq k53_1 .ret
def k53_3 : SCode := .seq k53_0 k53_2
@[simp] def rs_zone_era_minute : List SRes := [.tmp 4]
theorem law_zone_era_minute (cs : List CV) (r : CV) (hl : cs.length ≤ 9) (h : STri (cfF Tryz.prog [] 9) k53_3 (initT 0 cs) [] (retQ rs_zone_era_minute r)) : SC Tryz.prog 81 cs r :=
  sc_of [] follows Tryz.func81 rfl Tryz.ntmps81 (by decide) (by kernel_rfl) (by kernel_rfl) hl h
def k54_0 : SCode := .reg [⟨some 2, none, .box 91 (.tmp 0), [], false⟩, ⟨some 4, none, .alloc 24 [(.int .i64 0), (.int .i64 0)], [], false⟩] [1, 2, 4]
def k54_1 : SCode := .reg [⟨some 6, none, .mov (.tmp 1), [], false⟩, ⟨some 7, none, .bin .mul (.tmp 6) (.const (.int .i64 60)), [], false⟩, ⟨some 8, none, .fld 2 (.tmp 2), [], false⟩, ⟨some 9, none, .load false 1 (.tmp 8), [], false⟩, ⟨some 10, none, .bin .sub (.tmp 7) (.tmp 9), [], false⟩, ⟨some 5, none, .mov (.tmp 10), [], false⟩] [2, 4, 5]
def k54_2 : SCode := .reg [⟨some 11, none, .fld 0 (.tmp 2), [], false⟩, ⟨some 12, none, .fld 0 (.tmp 11), [], false⟩, ⟨some 13, none, .load false 1 (.tmp 12), [], false⟩, ⟨some 14, none, .mov (.tmp 5), [], false⟩, ⟨some 15, none, .max [(.tmp 13), (.tmp 14)], [], false⟩, ⟨some 16, none, .fld 0 (.tmp 2), [], false⟩, ⟨some 17, none, .fld 1 (.tmp 16), [], false⟩, ⟨some 18, none, .load false 1 (.tmp 17), [], false⟩, ⟨some 19, none, .mov (.tmp 5), [], false⟩, ⟨some 20, none, .bin .add (.tmp 19) (.const (.int .i64 60)), [], false⟩, ⟨some 21, none, .bin .sub (.tmp 20) (.const (.int .i64 1)), [], false⟩, ⟨some 22, none, .min [(.tmp 18), (.tmp 21)], [], false⟩, ⟨some 23, none, .build [(.int .i64 0), (.int .i64 0)] [(0, 1, (.tmp 15)), (1, 1, (.tmp 22))], [], false⟩, ⟨none, none, .store 2 (.tmp 4) (.tmp 23), [], false⟩] [4]
def k54_3 : SCode := .seq k54_2 .ret
def k54_4 : SCode := .seq k54_1 k54_3
def k54_5 : SCode := .seq k54_0 k54_4
@[simp] def rs_zone_era_instants : List SRes := [.cell 4 true 2]
theorem law_zone_era_instants (cs : List CV) (r : CV) (hl : cs.length ≤ 24) (h : STri (cfF Tryz.prog [] 24) k54_5 (initT 0 cs) [] (retQ rs_zone_era_instants r)) : SC Tryz.prog 83 cs r :=
  sc_of [] follows Tryz.func83 rfl Tryz.ntmps83 (by decide) (by kernel_rfl) (by kernel_rfl) hl h
def k55_0 : SCode := .reg [⟨some 2, none, .mov (.const (.slice none 0 0)), [], false⟩] [0, 2]
def k55_1 : SCode := .reg [⟨some 6, none, .mov (.tmp 0), [], false⟩, ⟨some 7, none, .call 84 [(.tmp 6), (.func 85)], [], false⟩] [0, 2]
def k55_2 : SCode := .reg [⟨some 8, none, .mov (.tmp 0), [], false⟩, ⟨some 9, none, .len (.tmp 8), [], false⟩, ⟨some 10, none, .mov (.const (.int .i64 0)), [], false⟩] [2, 8, 9, 10]
def k55_3 : SCode := .reg [⟨some 11, none, .bin .lss (.tmp 10) (.tmp 9), [], false⟩] [2, 8, 9, 10, 11]
def k55_4 : SCode := .cond (.tmp 11) .skip (.exit 0)
def k55_5 : SCode := .reg [⟨some 12, none, .idxS 2 (.tmp 8) (.tmp 10), [], false⟩, ⟨some 13, none, .load true 2 (.tmp 12), [], false⟩, ⟨some 4, none, .alloc 24 [(.int .i64 0), (.int .i64 0)], [], false⟩, ⟨none, none, .store 2 (.tmp 4) (.tmp 13), [], false⟩] [2, 4, 8, 9, 10]
def k55_6 : SCode := .reg [⟨some 14, none, .mov (.tmp 2), [], false⟩, ⟨some 15, none, .len (.tmp 14), [], false⟩, ⟨some 16, none, .bin .sub (.tmp 15) (.const (.int .i64 1)), [], false⟩, ⟨some 5, none, .mov (.tmp 16), [], false⟩] [2, 4, 5, 8, 9, 10]
def k55_7 : SCode := .reg [⟨some 17, none, .mov (.tmp 5), [], false⟩, ⟨some 18, none, .bin .geq (.tmp 17) (.const (.int .i64 0)), [], false⟩, ⟨some 19, none, .mov (.tmp 18), [], false⟩, ⟨some 20, (some (19, true)), .fld 0 (.tmp 4), [], false⟩, ⟨some 21, (some (19, true)), .load false 1 (.tmp 20), [], false⟩, ⟨some 22, (some (19, true)), .mov (.tmp 2), [], false⟩, ⟨some 23, (some (19, true)), .mov (.tmp 5), [], false⟩, ⟨some 24, (some (19, true)), .idxS 2 (.tmp 22) (.tmp 23), [], false⟩, ⟨some 25, (some (19, true)), .fld 1 (.tmp 24), [], false⟩, ⟨some 26, (some (19, true)), .load false 1 (.tmp 25), [], false⟩, ⟨some 27, (some (19, true)), .bin .add (.tmp 26) (.const (.int .i64 1)), [], false⟩, ⟨some 28, (some (19, true)), .bin .leq (.tmp 21) (.tmp 27), [], false⟩, ⟨some 29, none, .pick (.tmp 19) (.tmp 28) (.const (.bool false)), [], false⟩] [2, 4, 5, 8, 9, 10, 29]
def k55_8 : SCode := .reg [⟨some 30, none, .mov (.tmp 2), [], false⟩, ⟨some 31, none, .mov (.tmp 5), [], false⟩, ⟨some 32, none, .mov (.tmp 2), [], false⟩, ⟨some 33, none, .mov (.tmp 5), [], false⟩, ⟨some 34, none, .idxS 2 (.tmp 32) (.tmp 33), [], false⟩, ⟨some 35, none, .fld 1 (.tmp 34), [], false⟩, ⟨some 36, none, .load false 1 (.tmp 35), [], false⟩, ⟨some 37, none, .fld 1 (.tmp 4), [], false⟩, ⟨some 38, none, .load false 1 (.tmp 37), [], false⟩, ⟨some 39, none, .max [(.tmp 36), (.tmp 38)], [], false⟩, ⟨some 40, none, .idxS 2 (.tmp 30) (.tmp 31), [], false⟩, ⟨some 41, none, .fld 1 (.tmp 40), [], false⟩, ⟨none, none, .store 1 (.tmp 41) (.tmp 39), [], false⟩] [2, 8, 9, 10]
def k55_9 : SCode := .reg [⟨some 42, none, .mov (.tmp 2), [], false⟩, ⟨some 43, none, .load true 2 (.tmp 4), [], false⟩, ⟨some 44, none, .buildSl 24 2 [(.int .i64 0), (.int .i64 0)] 1 [(0, (.tmp 43))], [], false⟩, ⟨some 45, none, .append 24 2 16 (.tmp 42) (.tmp 44), [], false⟩, ⟨some 2, none, .mov (.tmp 45), [], false⟩] [2, 8, 9, 10]
def k55_10 : SCode := .cond (.tmp 29) k55_8 k55_9
def k55_11 : SCode := .seq k55_7 k55_10
def k55_12 : SCode := .seq k55_6 k55_11
def k55_13 : SCode := .seq k55_5 k55_12
def k55_14 : SCode := .block 1 k55_13
def k55_15 : SCode := .reg [⟨some 46, none, .bin .add (.tmp 10) (.const (.int .i64 1)), [], false⟩, ⟨some 10, none, .mov (.tmp 46), [], false⟩] [2, 8, 9, 10]
def k55_16 : SCode := .seq k55_14 k55_15
def k55_17 : SCode := .seq k55_4 k55_16
def k55_18 : SCode := .seq k55_3 k55_17
def k55_19 : SCode := .loop k55_18
def k55_20 : SCode := .block 0 k55_19
def k55_21 : SCode := .seq k55_2 k55_20
def k55_22 : SCode := .reg [⟨some 47, none, .mov (.tmp 2), [], false⟩, ⟨some 2, none, .mov (.tmp 47), [], false⟩] [2]
def k55_23 : SCode := .seq k55_22 .ret
def k55_24 : SCode := .seq k55_21 k55_23
def k55_25 : SCode := .seq k55_1 k55_24
def k55_26 : SCode := .seq k55_0 k55_25
@[simp] def rs_zone_spans_joined : List SRes := [.tmp 2]
theorem law_zone_spans_joined (cs : List CV) (r : CV) (hl : cs.length ≤ 48) (h : STri (cfF Tryz.prog [] 48) k55_26 (initT 0 cs) [] (retQ rs_zone_spans_joined r)) : SC Tryz.prog 64 cs r :=
  sc_of [] follows Tryz.func64 rfl Tryz.ntmps64 (by decide) (by kernel_rfl) (by kernel_rfl) hl h
end Go.Proofs.YtboifcengmgcaaaGreat
/- Zone, I: small functions; towns that are valid. -/
namespace Go.Proofs.YtboifcengmgcaaaGreat
open Go.RowKit
theorem sWithin1Z (n lo hi : Int) : SC Tryz.prog 52 [I n, .ref [I lo], .ref [I hi]] (B (outB lo hi n)) := by
  refine law_zone_within_1 _ _ (by simp) ?_
  unfold outB
  (repeat' (first | ((first | with_reducible refine st_skip ?_ | with_reducible refine st_exit ?_); (try simp only [seqQ, blockQ, loopQ, forQ, whileQ, reduceIte, Nat.reduceEqDiff])) | (with_reducible refine st_ret ?_; ((try simp only [seqQ, blockQ, loopQ, forQ, whileQ]); first | (with_reducible refine retM_ret ?_) | refine retQ_ret ?_; simp)) | refine st_seq ?_ | refine st_block ?_ | ((with_reducible show (STri _ _ _ _ _) ∧ (STri _ _ _ _ _)); refine And.intro ?_ ?_) | ((first | refine st_reg ?_ | refine buildP_own ?_ | refine appP_own ?_) <;> (simp -dsimp; (repeat (simp -dsimp (disch := (first | omega | assumption | (refine Bool.eq_false_iff.1 ?_; assumption))) only [wrap_in, if_pos, if_neg]; (try simp -dsimp))))) | ((first | refine guardP_of (fun hc => ?_) (fun hc => ?_) | refine st_cond rfl (fun hc => ?_) (fun hc => ?_)) <;> (try simp only [lqA, lqB, lqC, lqD, lqE, lqF, lqG, lqH, lqI, lqJ, lqK, lqL, lqM, lqN, lqO] at hc) <;> (try (exfalso; first | omega | exact bool_tf hc (by assumption) | exact bool_ft hc (by assumption) | exact absurd (by assumption) hc)) <;> (first | with_reducible show STri _ _ _ _ _ _ | (simp -dsimp [hc]; (repeat (simp -dsimp (disch := (first | omega | assumption | (refine Bool.eq_false_iff.1 ?_; assumption))) only [wrap_in, if_pos, if_neg]; (try simp -dsimp [hc]))))))))
  all_goals (refine CLe.bool ?_; rw [Bool.eq_iff_iff]; simp; try omega)
theorem sWithinZ (lo hi : Int) (l : List Int) (hl : l.length ≤ 1000000) : SC Tryz.prog 28 [I lo, I hi, slI l] (B (allIn lo hi l)) := by
  refine law_zone_within _ _ (by simp) ?_
  (repeat' (first | ((first | with_reducible refine st_skip ?_ | with_reducible refine st_exit ?_); (try simp only [seqQ, blockQ, loopQ, forQ, whileQ, reduceIte, Nat.reduceEqDiff])) | (with_reducible refine st_ret ?_; ((try simp only [seqQ, blockQ, loopQ, forQ, whileQ]); first | (with_reducible refine retM_ret ?_) | refine retQ_ret ?_; simp)) | refine st_seq ?_ | refine st_block ?_ | ((with_reducible show (STri _ _ _ _ _) ∧ (STri _ _ _ _ _)); refine And.intro ?_ ?_) | ((first | refine st_reg ?_ | refine buildP_own ?_ | refine appP_own ?_ | refine callP_b (sContainsFunc l 52 [] [.ref [I lo], .ref [I hi]] (outB lo hi) hl ⟨by kernel_rfl⟩ (fun x _ => sWithin1Z x lo hi)) rfl ?_) <;> (simp -dsimp; (repeat (simp -dsimp (disch := (first | omega | assumption | (refine Bool.eq_false_iff.1 ?_; assumption))) only [wrap_in, if_pos, if_neg]; (try simp -dsimp))))) | ((first | refine guardP_of (fun hc => ?_) (fun hc => ?_) | refine st_cond rfl (fun hc => ?_) (fun hc => ?_)) <;> (try simp only [lqA, lqB, lqC, lqD, lqE, lqF, lqG, lqH, lqI, lqJ, lqK, lqL, lqM, lqN, lqO] at hc) <;> (try (exfalso; first | omega | exact bool_tf hc (by assumption) | exact bool_ft hc (by assumption) | exact absurd (by assumption) hc)) <;> (first | with_reducible show STri _ _ _ _ _ _ | (simp -dsimp [hc]; (repeat (simp -dsimp (disch := (first | omega | assumption | (refine Bool.eq_false_iff.1 ?_; assumption))) only [wrap_in, if_pos, if_neg]; (try simp -dsimp [hc]))))))))
  all_goals (refine CLe.bool ?_; exact allIn_eq lo hi l)
def inZ (lo hi n : Int) : Bool := decide (lo ≤ n) && decide (n ≤ hi)
theorem allIn_oneZ (lo hi n : Int) : allIn lo hi [n] = inZ lo hi n := by simp [allIn, inB, inZ]
theorem sOffsetZ (n : Int) : SC Tryz.prog 50 [I n] (B (inZ (-43200) 43200 n)) := by
  refine law_zone_isOffset _ _ (by simp) ?_
  have h := sWithinZ (-43200) 43200 [n] (by simp)
  rw [allIn_oneZ] at h
  (repeat' (first | ((first | with_reducible refine st_skip ?_ | with_reducible refine st_exit ?_); (try simp only [seqQ, blockQ, loopQ, forQ, whileQ, reduceIte, Nat.reduceEqDiff])) | (with_reducible refine st_ret ?_; ((try simp only [seqQ, blockQ, loopQ, forQ, whileQ]); first | (with_reducible refine retM_ret ?_) | refine retQ_ret ?_; simp)) | refine st_seq ?_ | refine st_block ?_ | ((with_reducible show (STri _ _ _ _ _) ∧ (STri _ _ _ _ _)); refine And.intro ?_ ?_) | ((first | refine st_reg ?_ | refine buildP_own ?_ | refine appP_own ?_ | refine callP_b (h) rfl ?_) <;> (simp -dsimp; (repeat (simp -dsimp (disch := (first | omega | assumption | (refine Bool.eq_false_iff.1 ?_; assumption))) only [wrap_in, if_pos, if_neg]; (try simp -dsimp))))) | ((first | refine guardP_of (fun hc => ?_) (fun hc => ?_) | refine st_cond rfl (fun hc => ?_) (fun hc => ?_)) <;> (try simp only [lqA, lqB, lqC, lqD, lqE, lqF, lqG, lqH, lqI, lqJ, lqK, lqL, lqM, lqN, lqO] at hc) <;> (try (exfalso; first | omega | exact bool_tf hc (by assumption) | exact bool_ft hc (by assumption) | exact absurd (by assumption) hc)) <;> (first | with_reducible show STri _ _ _ _ _ _ | (simp -dsimp [hc]; (repeat (simp -dsimp (disch := (first | omega | assumption | (refine Bool.eq_false_iff.1 ?_; assumption))) only [wrap_in, if_pos, if_neg]; (try simp -dsimp [hc]))))))))
  all_goals exact .refl _
theorem sModuloZ (n b : Int) (h3 : 0 < b) (h4 : b ≤ 1000000000000) : SC Tryz.prog 32 [I n, I b] (I (n % b)) := by
  refine law_zone_modulo _ _ (by simp) ?_
  have hne : ¬ b = 0 := by omega
  have hb : IntKind.i64.wrap (n.tmod b + b) = n.tmod b + b := by
    have := tmod_lt n b h3
    exact wrap_in _ (by omega) (by omega)
  have he := mod_eq n b h3
  (repeat' (first | ((first | with_reducible refine st_skip ?_ | with_reducible refine st_exit ?_); (try simp only [seqQ, blockQ, loopQ, forQ, whileQ, reduceIte, Nat.reduceEqDiff])) | (with_reducible refine st_ret ?_; ((try simp only [seqQ, blockQ, loopQ, forQ, whileQ]); first | (with_reducible refine retM_ret ?_) | refine retQ_ret ?_; simp [hne, hb, he])) | refine st_seq ?_ | refine st_block ?_ | ((with_reducible show (STri _ _ _ _ _) ∧ (STri _ _ _ _ _)); refine And.intro ?_ ?_) | ((first | refine st_reg ?_ | refine buildP_own ?_ | refine appP_own ?_) <;> (simp -dsimp [hne, hb, he]; (repeat (simp -dsimp (disch := (first | omega | assumption | (refine Bool.eq_false_iff.1 ?_; assumption))) only [wrap_in, if_pos, if_neg]; (try simp -dsimp [hne, hb, he]))))) | ((first | refine guardP_of (fun hc => ?_) (fun hc => ?_) | refine st_cond rfl (fun hc => ?_) (fun hc => ?_)) <;> (try simp only [lqA, lqB, lqC, lqD, lqE, lqF, lqG, lqH, lqI, lqJ, lqK, lqL, lqM, lqN, lqO] at hc) <;> (try (exfalso; first | omega | exact bool_tf hc (by assumption) | exact bool_ft hc (by assumption) | exact absurd (by assumption) hc)) <;> (first | with_reducible show STri _ _ _ _ _ _ | (simp -dsimp [hne, hb, he, hc]; (repeat (simp -dsimp (disch := (first | omega | assumption | (refine Bool.eq_false_iff.1 ?_; assumption))) only [wrap_in, if_pos, if_neg]; (try simp -dsimp [hne, hb, he, hc]))))))))
  exact .refl _
theorem sDownZ (n b : Int) (h1 : -1000000000000000000 ≤ n) (h2 : n ≤ 1000000000000000000) (h3 : 0 < b) (h4 : b ≤ 1000000000000) : SC Tryz.prog 31 [I n, I b] (I (n / b)) := by
  refine law_zone_down _ _ (by simp) ?_
  have hne : ¬ b = 0 := by omega
  have h5 := Int.emod_nonneg n (show b ≠ 0 by omega)
  have h6 := Int.emod_lt_of_pos n h3
  have h7 : (n - n % b).tdiv b = n / b := by
    have e : n - n % b = b * (n / b) := by have := Int.emod_add_mul_ediv n b; omega
    rw [e, Int.mul_tdiv_cancel_left _ hne]
  have h8 : IntKind.i64.wrap (n / b) = n / b := by
    have e := Int.natAbs_tdiv_le_natAbs (n - n % b) b
    rw [h7] at e
    exact wrap_in _ (by omega) (by omega)
  (repeat' (first | ((first | with_reducible refine st_skip ?_ | with_reducible refine st_exit ?_); (try simp only [seqQ, blockQ, loopQ, forQ, whileQ, reduceIte, Nat.reduceEqDiff])) | (with_reducible refine st_ret ?_; ((try simp only [seqQ, blockQ, loopQ, forQ, whileQ]); first | (with_reducible refine retM_ret ?_) | refine retQ_ret ?_; simp [hne, h7, h8])) | refine st_seq ?_ | refine st_block ?_ | ((with_reducible show (STri _ _ _ _ _) ∧ (STri _ _ _ _ _)); refine And.intro ?_ ?_) | ((first | refine st_reg ?_ | refine buildP_own ?_ | refine appP_own ?_ | refine callP_b (sModuloZ n b h3 h4) rfl ?_) <;> (simp -dsimp [hne, h7, h8]; (repeat (simp -dsimp (disch := (first | omega | assumption | (refine Bool.eq_false_iff.1 ?_; assumption))) only [wrap_in, if_pos, if_neg]; (try simp -dsimp [hne, h7, h8]))))) | ((first | refine guardP_of (fun hc => ?_) (fun hc => ?_) | refine st_cond rfl (fun hc => ?_) (fun hc => ?_)) <;> (try simp only [lqA, lqB, lqC, lqD, lqE, lqF, lqG, lqH, lqI, lqJ, lqK, lqL, lqM, lqN, lqO] at hc) <;> (try (exfalso; first | omega | exact bool_tf hc (by assumption) | exact bool_ft hc (by assumption) | exact absurd (by assumption) hc)) <;> (first | with_reducible show STri _ _ _ _ _ _ | (simp -dsimp [hne, h7, h8, hc]; (repeat (simp -dsimp (disch := (first | omega | assumption | (refine Bool.eq_false_iff.1 ?_; assumption))) only [wrap_in, if_pos, if_neg]; (try simp -dsimp [hne, h7, h8, hc]))))))))
  exact .refl _
structure Zt where
  (off : Int) (ch : List (Int × Int))
def rowC (x : Int × Int) : List CV := [I x.1, I x.2]
def cZt (z : Zt) : CV := .agg [I z.off, .sl 2 (z.ch.map rowC)]
attribute [simp] rowC cZt
def befZ (l : List (Int × Int)) (k : Nat) : Int := if k = 0 then 0 else (l.getD (k - 1) (0, 0)).1
theorem befZ_succ {l : List (Int × Int)} {k : Nat} (h : k < l.length) : befZ l (k + 1) = l[k].1 := by
  unfold befZ; simp [h]
structure ZtOk (z : Zt) : Prop where
  len : z.ch.length ≤ 12
  off : -43200 ≤ z.off ∧ z.off ≤ 43200
  ch : ∀ k (h : k < z.ch.length), (befZ z.ch k + 1 ≤ z.ch[k].1 ∧ z.ch[k].1 ≤ 3155760000) ∧ -43200 ≤ z.ch[k].2 ∧ z.ch[k].2 ≤ 43200
theorem befZ_bd {z : Zt} (hz : ZtOk z) {k : Nat} (hk : k ≤ z.ch.length) : 0 ≤ befZ z.ch k ∧ befZ z.ch k ≤ 3155760000 := by
  induction k with
  | zero => simp [befZ]
  | succ k ih =>
    have := ih (by omega)
    have h := hz.ch k (by omega)
    rw [befZ_succ (by omega)]
    omega
theorem sCheckZ (z : Zt) (hz : ZtOk z) : SC Tryz.prog 27 [cZt z] (I 0) := by
  refine law_zone_Check _ _ (by simp) ?_
  have hl := hz.len
  have h1 := hz.off
  (repeat' (first | ((first | with_reducible refine st_skip ?_ | with_reducible refine st_exit ?_); (try simp only [seqQ, blockQ, loopQ, forQ, whileQ, reduceIte, Nat.reduceEqDiff])) | (with_reducible refine st_ret ?_; ((try simp only [seqQ, blockQ, loopQ, forQ, whileQ]); first | (with_reducible refine retM_ret ?_) | refine retQ_ret ?_; simp)) | refine st_seq ?_ | refine st_block ?_ | ((with_reducible show (STri _ _ _ _ _) ∧ (STri _ _ _ _ _)); refine And.intro ?_ ?_) | ((first | refine st_reg ?_ | refine buildP_own ?_ | refine appP_own ?_) <;> (simp -dsimp; (repeat (simp -dsimp (disch := (first | omega | assumption | (refine Bool.eq_false_iff.1 ?_; assumption))) only [wrap_in, if_pos, if_neg]; (try simp -dsimp))))) | ((first | refine guardP_of (fun hc => ?_) (fun hc => ?_) | refine st_cond rfl (fun hc => ?_) (fun hc => ?_)) <;> (try simp only [lqA, lqB, lqC, lqD, lqE, lqF, lqG, lqH, lqI, lqJ, lqK, lqL, lqM, lqN, lqO] at hc) <;> (try (exfalso; first | omega | exact bool_tf hc (by assumption) | exact bool_ft hc (by assumption) | exact absurd (by assumption) hc)) <;> (first | with_reducible show STri _ _ _ _ _ _ | (simp -dsimp [hc]; (repeat (simp -dsimp (disch := (first | omega | assumption | (refine Bool.eq_false_iff.1 ?_; assumption))) only [wrap_in, if_pos, if_neg]; (try simp -dsimp [hc]))))))))
  refine st_for [1] z.ch.length (fun k T H => T = [(1, .ptr 1 0), (3, .c (I (befZ z.ch k))), (7, .c (.sl 2 (z.ch.map rowC))), (8, .c (I z.ch.length)), (9, .c (I k))] ∧ H = [(1, .box 53 [.c (I z.off), .c (.sl 2 (z.ch.map rowC))])]) (by simp) ⟨by simp [befZ], by simp⟩ ?_
  rintro k T H hk ⟨rfl, rfl⟩
  have b1 := befZ_bd hz hk
  by_cases hlt : k < z.ch.length
  · obtain ⟨⟨q1, q2⟩, q3, q4⟩ := hz.ch k hlt
    have hs := befZ_succ hlt
    have s1 := sWithinZ (befZ z.ch k + 1) 3155760000 [z.ch[k].1] (by simp)
    have s2 := sOffsetZ (z.ch[k].2)
    rw [allIn_oneZ] at s1
    have e1 : inZ (befZ z.ch k + 1) 3155760000 z.ch[k].1 = true := by unfold inZ; simp; omega
    have e2 : inZ (-43200) 43200 z.ch[k].2 = true := by unfold inZ; simp; omega
    rw [e1] at s1
    rw [e2] at s2
    (repeat' (first | ((first | with_reducible refine st_skip ?_ | with_reducible refine st_exit ?_); (try simp only [seqQ, blockQ, loopQ, forQ, whileQ, reduceIte, Nat.reduceEqDiff])) | (with_reducible refine st_ret ?_; ((try simp only [seqQ, blockQ, loopQ, forQ, whileQ]); first | (with_reducible refine retM_ret ?_) | refine retQ_ret ?_; simp [hlt])) | refine st_seq ?_ | refine st_block ?_ | ((with_reducible show (STri _ _ _ _ _) ∧ (STri _ _ _ _ _)); refine And.intro ?_ ?_) | ((first | refine st_reg ?_ | refine buildP_own ?_ | refine appP_own ?_ | refine callP_b (s1) rfl ?_ | refine callP_b (s2) rfl ?_) <;> (simp -dsimp [hlt]; (repeat (simp -dsimp (disch := (first | omega | assumption | (refine Bool.eq_false_iff.1 ?_; assumption))) only [wrap_in, if_pos, if_neg]; (try simp -dsimp [hlt]))))) | ((first | refine guardP_of (fun hc => ?_) (fun hc => ?_) | refine st_cond rfl (fun hc => ?_) (fun hc => ?_)) <;> (try simp only [lqA, lqB, lqC, lqD, lqE, lqF, lqG, lqH, lqI, lqJ, lqK, lqL, lqM, lqN, lqO] at hc) <;> (try (exfalso; first | omega | exact bool_tf hc (by assumption) | exact bool_ft hc (by assumption) | exact absurd (by assumption) hc)) <;> (first | with_reducible show STri _ _ _ _ _ _ | (simp -dsimp [hlt, hc]; (repeat (simp -dsimp (disch := (first | omega | assumption | (refine Bool.eq_false_iff.1 ?_; assumption))) only [wrap_in, if_pos, if_neg]; (try simp -dsimp [hlt, hc]))))))))
    exact ⟨hlt, by simp, by rw [hs]; simp, by simp⟩
  · have s2 := sOffsetZ z.off
    have e2 : inZ (-43200) 43200 z.off = true := by unfold inZ; simp; omega
    rw [e2] at s2
    have hl2 : ¬ (12 : Int) < z.ch.length := by omega
    (repeat' (first | ((first | with_reducible refine st_skip ?_ | with_reducible refine st_exit ?_); (try simp only [seqQ, blockQ, loopQ, forQ, whileQ, reduceIte, Nat.reduceEqDiff])) | (with_reducible refine st_ret ?_; ((try simp only [seqQ, blockQ, loopQ, forQ, whileQ]); first | (with_reducible refine retM_ret ?_) | refine retQ_ret ?_; simp [hlt, hl2])) | refine st_seq ?_ | refine st_block ?_ | ((with_reducible show (STri _ _ _ _ _) ∧ (STri _ _ _ _ _)); refine And.intro ?_ ?_) | ((first | refine st_reg ?_ | refine buildP_own ?_ | refine appP_own ?_ | refine callP_b (s2) rfl ?_) <;> (simp -dsimp [hlt, hl2]; (repeat (simp -dsimp (disch := (first | omega | assumption | (refine Bool.eq_false_iff.1 ?_; assumption))) only [wrap_in, if_pos, if_neg]; (try simp -dsimp [hlt, hl2]))))) | ((first | refine guardP_of (fun hc => ?_) (fun hc => ?_) | refine st_cond rfl (fun hc => ?_) (fun hc => ?_)) <;> (try simp only [lqA, lqB, lqC, lqD, lqE, lqF, lqG, lqH, lqI, lqJ, lqK, lqL, lqM, lqN, lqO] at hc) <;> (try (exfalso; first | omega | exact bool_tf hc (by assumption) | exact bool_ft hc (by assumption) | exact absurd (by assumption) hc)) <;> (first | with_reducible show STri _ _ _ _ _ _ | (simp -dsimp [hlt, hl2, hc]; (repeat (simp -dsimp (disch := (first | omega | assumption | (refine Bool.eq_false_iff.1 ?_; assumption))) only [wrap_in, if_pos, if_neg]; (try simp -dsimp [hlt, hl2, hc]))))))))
    all_goals exact .refl _
end Go.Proofs.YtboifcengmgcaaaGreat
/- Zone, II: eras; what the clocks say. -/
namespace Go.Proofs.YtboifcengmgcaaaGreat
open Go.RowKit
def offZ (z : Zt) (k : Nat) : Int := if k = 0 then z.off else (z.ch.getD (k - 1) (0, 0)).2
def hiZ (z : Zt) (k : Nat) : Int := if k < z.ch.length then (z.ch.getD k (0, 0)).1 - 1 else 3155760000
structure Era where
  (lo hi off : Int)
def eraZ (z : Zt) (k : Nat) : Era := ⟨befZ z.ch k, hiZ z k, offZ z k⟩
def erasL (z : Zt) : List Era := (List.range (z.ch.length + 1)).map (eraZ z)
def cEra (x : Era) : CV := .agg [I x.lo, I x.hi, I x.off]
def rowEra (x : Era) : List CV := [cEra x]
attribute [simp] cEra
theorem offZ_succ {z : Zt} {k : Nat} (h : k < z.ch.length) : offZ z (k + 1) = z.ch[k].2 := by
  unfold offZ; simp [h]
theorem hiZ_lt {z : Zt} {k : Nat} (h : k < z.ch.length) : hiZ z k = z.ch[k].1 - 1 := by
  unfold hiZ; simp [h]
theorem hiZ_end (z : Zt) : hiZ z z.ch.length = 3155760000 := by
  unfold hiZ; simp
theorem erasL_get {z : Zt} {k : Nat} (h : k < z.ch.length + 1) : (erasL z)[k]? = some (eraZ z k) := by simp [erasL, h]
theorem era_bd {z : Zt} (hz : ZtOk z) {k : Nat} (hk : k ≤ z.ch.length) : (0 ≤ (eraZ z k).lo ∧ (eraZ z k).lo ≤ 3155760000) ∧ (0 ≤ (eraZ z k).hi ∧ (eraZ z k).hi ≤ 3155760000) ∧ -43200 ≤ (eraZ z k).off ∧ (eraZ z k).off ≤ 43200 := by
  have h1 := befZ_bd hz hk
  refine ⟨h1, ?_, ?_⟩
  · show 0 ≤ hiZ z k ∧ hiZ z k ≤ 3155760000
    by_cases h : k < z.ch.length
    · rw [hiZ_lt h]
      have := hz.ch k h
      omega
    · unfold hiZ; rw [if_neg h]; omega
  · show -43200 ≤ offZ z k ∧ offZ z k ≤ 43200
    cases k with
    | zero => exact hz.off
    | succ k =>
      rw [offZ_succ (by omega)]
      exact (hz.ch k (by omega)).2
theorem st_id {cf : Cf} {sc : SCode} {T : TL} {H : HL} {Q : Exit → TL → HL → Prop} {id : Nat} (hG : ∃ v, cf.G (.yl id) v) (hK : cf.K = []) (h : (∀ j, cf.b ≤ j → j < cf.b + 1000 → ¬ id = j) → STri cf sc T H Q) : STri cf sc T H Q := fun ok =>
  h (fun j h1 h2 e => by
    obtain ⟨v, hv⟩ := hG
    have q : Rg cf.b id → id ∈ cf.K := ok.G _ v hv
    have := q (.inl ⟨by omega, by omega⟩)
    rw [hK] at this
    cases this) ok
theorem iEras (z : Zt) (hz : ZtOk z) : IterL Tryz.prog 53 1000 [cZt z] [] ((erasL z).map rowEra) := by
  refine ilaw_zone_town_eras 1000 _ _ _ (by omega) (by simp) (fun Iv A G id hG hY => ?_)
  have hlen : ((erasL z).map rowEra).length = z.ch.length + 1 := by simp [erasL]
  have hl := hz.len
  refine st_id hG rfl (fun hid => ?_)
  have i1 := hid 1002 (by show 1000 ≤ 1002; decide) (by show 1002 < 1000 + 1000; decide)
  have i2 := hid 1004 (by show 1000 ≤ 1004; decide) (by show 1004 < 1000 + 1000; decide)
  have i3 := hid 1006 (by show 1000 ≤ 1006; decide) (by show 1006 < 1000 + 1000; decide)
  clear hid
  (repeat' (first | ((first | with_reducible refine st_skip ?_ | with_reducible refine st_exit ?_); (try simp only [seqQ, blockQ, loopQ, forQ, whileQ, reduceIte, Nat.reduceEqDiff])) | (with_reducible refine st_ret ?_; ((try simp only [seqQ, blockQ, loopQ, forQ, whileQ]); first | (with_reducible refine retM_ret ?_) | refine retQ_ret ?_; simp)) | refine st_seq ?_ | refine st_block ?_ | ((with_reducible show (STri _ _ _ _ _) ∧ (STri _ _ _ _ _)); refine And.intro ?_ ?_) | ((first | refine st_reg ?_ | refine buildP_own ?_ | refine appP_own ?_) <;> (simp -dsimp; (repeat (simp -dsimp (disch := (first | omega | assumption | (refine Bool.eq_false_iff.1 ?_; assumption))) only [wrap_in, if_pos, if_neg]; (try simp -dsimp))))) | ((first | refine guardP_of (fun hc => ?_) (fun hc => ?_) | refine st_cond rfl (fun hc => ?_) (fun hc => ?_)) <;> (try simp only [lqA, lqB, lqC, lqD, lqE, lqF, lqG, lqH, lqI, lqJ, lqK, lqL, lqM, lqN, lqO] at hc) <;> (try (exfalso; first | omega | exact bool_tf hc (by assumption) | exact bool_ft hc (by assumption) | exact absurd (by assumption) hc)) <;> (first | with_reducible show STri _ _ _ _ _ _ | (simp -dsimp [hc]; (repeat (simp -dsimp (disch := (first | omega | assumption | (refine Bool.eq_false_iff.1 ?_; assumption))) only [wrap_in, if_pos, if_neg]; (try simp -dsimp [hc]))))))))
  refine st_for [1000001000, 1004] z.ch.length (fun k T H => T = [(1, .yl id), (4, .ptr 1004 0), (13, .c (.sl 2 (z.ch.map rowC))), (14, .c (I z.ch.length)), (15, .c (I k))] ∧
    H = [(1000001000, .gh k false), (1004, .box 91 [.c (I (befZ z.ch k)), .c (I 0), .c (I (offZ z k))])]) (by simp [i1]) ⟨by simp, by simp [befZ, offZ]⟩ ?_
  rintro k T H hk ⟨rfl, rfl⟩
  have b1 := befZ_bd hz hk
  have hrow : ((erasL z).map rowEra)[k]? = some [.agg [I (befZ z.ch k), I (hiZ z k), I (offZ z k)]] := by
    rw [List.getElem?_map, erasL_get (by omega)]; rfl
  by_cases hlt : k < z.ch.length
  · obtain ⟨⟨q1, q2⟩, q3, q4⟩ := hz.ch k hlt
    have hs := befZ_succ hlt
    have ho := offZ_succ hlt
    rw [hiZ_lt hlt] at hrow
    (repeat' (first | ((first | with_reducible refine st_skip ?_ | with_reducible refine st_exit ?_); (try simp only [seqQ, blockQ, loopQ, forQ, whileQ, reduceIte, Nat.reduceEqDiff])) | (with_reducible refine st_ret ?_; ((try simp only [seqQ, blockQ, loopQ, forQ, whileQ]); first | (with_reducible refine retM_ret ?_) | refine retQ_ret ?_; simp [hlt])) | refine st_seq ?_ | refine st_block ?_ | ((with_reducible show (STri _ _ _ _ _) ∧ (STri _ _ _ _ _)); refine And.intro ?_ ?_) | ((first | refine st_reg ?_ | ((with_reducible show callVP _ _ _ _ _ _ _); refine callV_yl (hY k _ hrow) [] (by first | rfl | simp) (fun j hj => by cases hj) rfl ?_ ?_) | refine buildP_own ?_ | refine appP_own ?_) <;> (simp -dsimp [hlt]; (repeat (simp -dsimp (disch := (first | omega | assumption | (refine Bool.eq_false_iff.1 ?_; assumption))) only [wrap_in, if_pos, if_neg]; (try simp -dsimp [hlt]))))) | ((first | refine guardP_of (fun hc => ?_) (fun hc => ?_) | refine st_cond rfl (fun hc => ?_) (fun hc => ?_)) <;> (try simp only [lqA, lqB, lqC, lqD, lqE, lqF, lqG, lqH, lqI, lqJ, lqK, lqL, lqM, lqN, lqO] at hc) <;> (try (exfalso; first | omega | exact bool_tf hc (by assumption) | exact bool_ft hc (by assumption) | exact absurd (by assumption) hc)) <;> (first | with_reducible show STri _ _ _ _ _ _ | (simp -dsimp [hlt, hc]; (repeat (simp -dsimp (disch := (first | omega | assumption | (refine Bool.eq_false_iff.1 ?_; assumption))) only [wrap_in, if_pos, if_neg]; (try simp -dsimp [hlt, hc]))))))))
    · exact ⟨hlt, by simp [i3], by simp, by rw [hs, ho]; simp⟩
    · exact st_ret ⟨.inr rfl, k + 1, true, rfl, fun h => by cases h⟩
  · have : k = z.ch.length := by omega
    subst this
    rw [hiZ_end] at hrow
    (repeat' (first | ((first | with_reducible refine st_skip ?_ | with_reducible refine st_exit ?_); (try simp only [seqQ, blockQ, loopQ, forQ, whileQ, reduceIte, Nat.reduceEqDiff])) | (with_reducible refine st_ret ?_; ((try simp only [seqQ, blockQ, loopQ, forQ, whileQ]); first | (with_reducible refine retM_ret ?_) | refine retQ_ret ?_; simp)) | refine st_seq ?_ | refine st_block ?_ | ((with_reducible show (STri _ _ _ _ _) ∧ (STri _ _ _ _ _)); refine And.intro ?_ ?_) | ((first | refine st_reg ?_ | ((with_reducible show callVP _ _ _ _ _ _ _); refine callV_yl (hY z.ch.length _ hrow) [] (by first | rfl | simp) (fun j hj => by cases hj) rfl ?_ ?_) | refine buildP_own ?_ | refine appP_own ?_) <;> (simp -dsimp; (repeat (simp -dsimp (disch := (first | omega | assumption | (refine Bool.eq_false_iff.1 ?_; assumption))) only [wrap_in, if_pos, if_neg]; (try simp -dsimp))))) | ((first | refine guardP_of (fun hc => ?_) (fun hc => ?_) | refine st_cond rfl (fun hc => ?_) (fun hc => ?_)) <;> (try simp only [lqA, lqB, lqC, lqD, lqE, lqF, lqG, lqH, lqI, lqJ, lqK, lqL, lqM, lqN, lqO] at hc) <;> (try (exfalso; first | omega | exact bool_tf hc (by assumption) | exact bool_ft hc (by assumption) | exact absurd (by assumption) hc)) <;> (first | with_reducible show STri _ _ _ _ _ _ | (simp -dsimp [hc]; (repeat (simp -dsimp (disch := (first | omega | assumption | (refine Bool.eq_false_iff.1 ?_; assumption))) only [wrap_in, if_pos, if_neg]; (try simp -dsimp [hc]))))))))
    all_goals first
      | exact ⟨.inl rfl, z.ch.length + 1, false, rfl, fun _ => by simp [erasL]⟩
      | exact ⟨.inl rfl, z.ch.length + 1, true, rfl, fun h => by cases h⟩
      | simp [erasL]
end Go.Proofs.YtboifcengmgcaaaGreat
/- Zone, III: eras' minutes; what the clocks say. -/
namespace Go.Proofs.YtboifcengmgcaaaGreat
open Go.RowKit
theorem sEraSays (x : Era) (t : Int) (h1 : -10000000000 ≤ x.off) (h2 : x.off ≤ 10000000000) (h3 : -10000000000 ≤ t) (h4 : t ≤ 10000000000) : SC Tryz.prog 30 [cEra x, I t] (I (t + x.off)) := by
  refine law_zone_era_says _ _ (by simp) ?_
  (repeat' (first | ((first | with_reducible refine st_skip ?_ | with_reducible refine st_exit ?_); (try simp only [seqQ, blockQ, loopQ, forQ, whileQ, reduceIte, Nat.reduceEqDiff])) | (with_reducible refine st_ret ?_; ((try simp only [seqQ, blockQ, loopQ, forQ, whileQ]); first | (with_reducible refine retM_ret ?_) | refine retQ_ret ?_; simp)) | refine st_seq ?_ | refine st_block ?_ | ((with_reducible show (STri _ _ _ _ _) ∧ (STri _ _ _ _ _)); refine And.intro ?_ ?_) | ((first | refine st_reg ?_ | refine buildP_own ?_ | refine appP_own ?_) <;> (simp -dsimp; (repeat (simp -dsimp (disch := (first | omega | assumption | (refine Bool.eq_false_iff.1 ?_; assumption))) only [wrap_in, if_pos, if_neg]; (try simp -dsimp))))) | ((first | refine guardP_of (fun hc => ?_) (fun hc => ?_) | refine st_cond rfl (fun hc => ?_) (fun hc => ?_)) <;> (try simp only [lqA, lqB, lqC, lqD, lqE, lqF, lqG, lqH, lqI, lqJ, lqK, lqL, lqM, lqN, lqO] at hc) <;> (try (exfalso; first | omega | exact bool_tf hc (by assumption) | exact bool_ft hc (by assumption) | exact absurd (by assumption) hc)) <;> (first | with_reducible show STri _ _ _ _ _ _ | (simp -dsimp [hc]; (repeat (simp -dsimp (disch := (first | omega | assumption | (refine Bool.eq_false_iff.1 ?_; assumption))) only [wrap_in, if_pos, if_neg]; (try simp -dsimp [hc]))))))))
  all_goals exact .refl _
structure EraSm (x : Era) : Prop where
  o0 : -10000000 ≤ x.off
  o1 : x.off ≤ 10000000
  l0 : -10000000000 ≤ x.lo
  l1 : x.lo ≤ 10000000000
  h0 : -10000000000 ≤ x.hi
  h1 : x.hi ≤ 10000000000
theorem era_sm {z : Zt} (hz : ZtOk z) {x : Era} (hx : x ∈ erasL z) : EraSm x := by
  obtain ⟨k, hk, rfl⟩ := List.mem_map.1 hx
  have hk := List.mem_range.1 hk
  have := era_bd hz (k := k) (by omega)
  exact ⟨by omega, by omega, by omega, by omega, by omega, by omega⟩
def atK (z : Zt) (t : Int) (k : Nat) : Era := ((erasL z).take k).foldl (fun o x => if inZ x.lo x.hi t = true then x else o) ⟨0, 0, 0⟩
def atZ (z : Zt) (t : Int) : Era := (erasL z).foldl (fun o x => if inZ x.lo x.hi t = true then x else o) ⟨0, 0, 0⟩
theorem atK_succ {z : Zt} {t : Int} {k : Nat} {x : Era} (h : (erasL z)[k]? = some x) : atK z t (k + 1) = if inZ x.lo x.hi t = true then x else atK z t k := by
  obtain ⟨h1, h2⟩ := List.getElem?_eq_some_iff.1 h
  unfold atK
  rw [List.take_succ_eq_append_getElem h1, List.foldl_append, h2]
  rfl
theorem atK_sm {z : Zt} (hz : ZtOk z) (t : Int) : ∀ k, k ≤ (erasL z).length → EraSm (atK z t k)
  | 0, _ => by
    show EraSm ⟨0, 0, 0⟩
    exact ⟨by decide, by decide, by decide, by decide, by decide, by decide⟩
  | k + 1, hk => by
    have hx := List.getElem?_eq_getElem (l := erasL z) (i := k) (by omega)
    rw [atK_succ hx]
    split
    · exact era_sm hz (List.getElem_mem _)
    · exact atK_sm hz t k (by omega)
theorem atK_all (z : Zt) (t : Int) : atK z t (erasL z).length = atZ z t := by unfold atK atZ; rw [List.take_length]
theorem sAt (z : Zt) (hz : ZtOk z) (t : Int) : SC Tryz.prog 29 [cZt z, I t] (cEra (atZ z t)) := by
  refine law_zone_town_at _ _ (by simp) ?_
  (repeat' (first | ((first | with_reducible refine st_skip ?_ | with_reducible refine st_exit ?_); (try simp only [seqQ, blockQ, loopQ, forQ, whileQ, reduceIte, Nat.reduceEqDiff])) | (with_reducible refine st_ret ?_; ((try simp only [seqQ, blockQ, loopQ, forQ, whileQ]); first | (with_reducible refine retM_ret ?_) | refine retQ_ret ?_; simp)) | refine st_seq ?_ | refine st_block ?_ | ((with_reducible show (STri _ _ _ _ _) ∧ (STri _ _ _ _ _)); refine And.intro ?_ ?_) | ((first | refine st_reg ?_ | refine buildP_own ?_ | refine appP_own ?_) <;> (simp -dsimp; (repeat (simp -dsimp (disch := (first | omega | assumption | (refine Bool.eq_false_iff.1 ?_; assumption))) only [wrap_in, if_pos, if_neg]; (try simp -dsimp))))) | ((first | refine guardP_of (fun hc => ?_) (fun hc => ?_) | refine st_cond rfl (fun hc => ?_) (fun hc => ?_)) <;> (try simp only [lqA, lqB, lqC, lqD, lqE, lqF, lqG, lqH, lqI, lqJ, lqK, lqL, lqM, lqN, lqO] at hc) <;> (try (exfalso; first | omega | exact bool_tf hc (by assumption) | exact bool_ft hc (by assumption) | exact absurd (by assumption) hc)) <;> (first | with_reducible show STri _ _ _ _ _ _ | (simp -dsimp [hc]; (repeat (simp -dsimp (disch := (first | omega | assumption | (refine Bool.eq_false_iff.1 ?_; assumption))) only [wrap_in, if_pos, if_neg]; (try simp -dsimp [hc]))))))))
  refine st_range (iEras z hz) [3, 4] [] (fun k R => R = [(3, .box 3 [.c (I t)]), (4, .box 91 [.c (I (atK z t k).lo), .c (I (atK z t k).hi), .c (I (atK z t k).off)])])
    rfl rfl rfl (by kernel_rfl) (by show (0 : Nat) + 1000 ≤ 1000; decide) (fun j hj => by cases hj) (fun row hrow => by obtain ⟨y, _, rfl⟩ := List.mem_map.1 hrow; rfl) (by simp) (by simp) (by simp [atK]) ?_ ?_
  · rintro k row R rfl hrow Iv1 G1 hGG hin
    obtain ⟨x, hx, rfl⟩ : ∃ x, (erasL z)[k]? = some x ∧ row = rowEra x := by
      rw [List.getElem?_map, Option.map_eq_some_iff] at hrow
      obtain ⟨d, h1, h2⟩ := hrow
      exact ⟨d, h1, h2.symm⟩
    have hs := atK_succ (t := t) hx
    have sw := sWithinZ x.lo x.hi [t] (by simp)
    rw [allIn_oneZ] at sw
    unfold rowEra
    (repeat' (first | ((first | with_reducible refine st_skip ?_ | with_reducible refine st_exit ?_); (try simp only [seqQ, blockQ, loopQ, forQ, whileQ, reduceIte, Nat.reduceEqDiff])) | (with_reducible refine st_ret ?_; ((try simp only [seqQ, blockQ, loopQ, forQ, whileQ]); first | (with_reducible refine retM_ret ?_) | refine retQ_ret ?_; simp)) | refine st_seq ?_ | refine st_block ?_ | ((with_reducible show (STri _ _ _ _ _) ∧ (STri _ _ _ _ _)); refine And.intro ?_ ?_) | ((first | refine st_reg ?_ | refine buildP_own ?_ | refine appP_own ?_) <;> (simp -dsimp; (repeat (simp -dsimp (disch := (first | omega | assumption | (refine Bool.eq_false_iff.1 ?_; assumption))) only [wrap_in, if_pos, if_neg]; (try simp -dsimp))))) | ((first | refine guardP_of (fun hc => ?_) (fun hc => ?_) | refine st_cond rfl (fun hc => ?_) (fun hc => ?_)) <;> (try simp only [lqA, lqB, lqC, lqD, lqE, lqF, lqG, lqH, lqI, lqJ, lqK, lqL, lqM, lqN, lqO] at hc) <;> (try (exfalso; first | omega | exact bool_tf hc (by assumption) | exact bool_ft hc (by assumption) | exact absurd (by assumption) hc)) <;> (first | with_reducible show STri _ _ _ _ _ _ | (simp -dsimp [hc]; (repeat (simp -dsimp (disch := (first | omega | assumption | (refine Bool.eq_false_iff.1 ?_; assumption))) only [wrap_in, if_pos, if_neg]; (try simp -dsimp [hc]))))))))
    refine ⟨rfl, fun Iv2 hin2 => ?_⟩
    show STri _ _ _ _ (rangeQ _ _ _ _ _ _ _)
    by_cases hc : inZ x.lo x.hi t = true
    · rw [if_pos hc] at hs
      rw [hc] at sw
      (repeat' (first | ((first | with_reducible refine st_skip ?_ | with_reducible refine st_exit ?_); (try simp only [seqQ, blockQ, loopQ, forQ, whileQ, reduceIte, Nat.reduceEqDiff])) | (with_reducible refine st_ret ?_; ((try simp only [seqQ, blockQ, loopQ, forQ, whileQ]); first | (with_reducible refine retM_ret ?_) | refine retQ_ret ?_; simp)) | refine st_seq ?_ | refine st_block ?_ | ((with_reducible show (STri _ _ _ _ _) ∧ (STri _ _ _ _ _)); refine And.intro ?_ ?_) | ((first | refine st_reg ?_ | refine buildP_own ?_ | refine appP_own ?_ | refine callP_b (sw) rfl ?_) <;> (simp -dsimp; (repeat (simp -dsimp (disch := (first | omega | assumption | (refine Bool.eq_false_iff.1 ?_; assumption))) only [wrap_in, if_pos, if_neg]; (try simp -dsimp))))) | ((first | refine guardP_of (fun hc => ?_) (fun hc => ?_) | refine st_cond rfl (fun hc => ?_) (fun hc => ?_)) <;> (try simp only [lqA, lqB, lqC, lqD, lqE, lqF, lqG, lqH, lqI, lqJ, lqK, lqL, lqM, lqN, lqO] at hc) <;> (try (exfalso; first | omega | exact bool_tf hc (by assumption) | exact bool_ft hc (by assumption) | exact absurd (by assumption) hc)) <;> (first | with_reducible show STri _ _ _ _ _ _ | (simp -dsimp [hc]; (repeat (simp -dsimp (disch := (first | omega | assumption | (refine Bool.eq_false_iff.1 ?_; assumption))) only [wrap_in, if_pos, if_neg]; (try simp -dsimp [hc]))))))))
      exact ⟨by simp, by simp, by simp [hs]⟩
    · rw [if_neg hc] at hs
      rw [Bool.not_eq_true] at hc
      rw [hc] at sw
      (repeat' (first | ((first | with_reducible refine st_skip ?_ | with_reducible refine st_exit ?_); (try simp only [seqQ, blockQ, loopQ, forQ, whileQ, reduceIte, Nat.reduceEqDiff])) | (with_reducible refine st_ret ?_; ((try simp only [seqQ, blockQ, loopQ, forQ, whileQ]); first | (with_reducible refine retM_ret ?_) | refine retQ_ret ?_; simp)) | refine st_seq ?_ | refine st_block ?_ | ((with_reducible show (STri _ _ _ _ _) ∧ (STri _ _ _ _ _)); refine And.intro ?_ ?_) | ((first | refine st_reg ?_ | refine buildP_own ?_ | refine appP_own ?_ | refine callP_b (sw) rfl ?_) <;> (simp -dsimp; (repeat (simp -dsimp (disch := (first | omega | assumption | (refine Bool.eq_false_iff.1 ?_; assumption))) only [wrap_in, if_pos, if_neg]; (try simp -dsimp))))) | ((first | refine guardP_of (fun hc => ?_) (fun hc => ?_) | refine st_cond rfl (fun hc => ?_) (fun hc => ?_)) <;> (try simp only [lqA, lqB, lqC, lqD, lqE, lqF, lqG, lqH, lqI, lqJ, lqK, lqL, lqM, lqN, lqO] at hc) <;> (try (exfalso; first | omega | exact bool_tf hc (by assumption) | exact bool_ft hc (by assumption) | exact absurd (by assumption) hc)) <;> (first | with_reducible show STri _ _ _ _ _ _ | (simp -dsimp [hc]; (repeat (simp -dsimp (disch := (first | omega | assumption | (refine Bool.eq_false_iff.1 ?_; assumption))) only [wrap_in, if_pos, if_neg]; (try simp -dsimp [hc]))))))))
      exact ⟨by simp, by simp, by simp [hs]⟩
  · rintro R rfl
    simp only [blockQ, seqQ]
    have e : atK z t ((erasL z).map rowEra).length = atZ z t := by rw [List.length_map]; exact atK_all z t
    rw [e]
    (repeat' (first | ((first | with_reducible refine st_skip ?_ | with_reducible refine st_exit ?_); (try simp only [seqQ, blockQ, loopQ, forQ, whileQ, reduceIte, Nat.reduceEqDiff])) | (with_reducible refine st_ret ?_; ((try simp only [seqQ, blockQ, loopQ, forQ, whileQ]); first | (with_reducible refine retM_ret ?_) | refine retQ_ret ?_; simp)) | refine st_seq ?_ | refine st_block ?_ | ((with_reducible show (STri _ _ _ _ _) ∧ (STri _ _ _ _ _)); refine And.intro ?_ ?_) | ((first | refine st_reg ?_ | refine buildP_own ?_ | refine appP_own ?_) <;> (simp -dsimp; (repeat (simp -dsimp (disch := (first | omega | assumption | (refine Bool.eq_false_iff.1 ?_; assumption))) only [wrap_in, if_pos, if_neg]; (try simp -dsimp))))) | ((first | refine guardP_of (fun hc => ?_) (fun hc => ?_) | refine st_cond rfl (fun hc => ?_) (fun hc => ?_)) <;> (try simp only [lqA, lqB, lqC, lqD, lqE, lqF, lqG, lqH, lqI, lqJ, lqK, lqL, lqM, lqN, lqO] at hc) <;> (try (exfalso; first | omega | exact bool_tf hc (by assumption) | exact bool_ft hc (by assumption) | exact absurd (by assumption) hc)) <;> (first | with_reducible show STri _ _ _ _ _ _ | (simp -dsimp [hc]; (repeat (simp -dsimp (disch := (first | omega | assumption | (refine Bool.eq_false_iff.1 ?_; assumption))) only [wrap_in, if_pos, if_neg]; (try simp -dsimp [hc]))))))))
    exact .refl _
theorem atZ_sm {z : Zt} (hz : ZtOk z) (t : Int) : EraSm (atZ z t) := by
  rw [← atK_all]; exact atK_sm hz t _ (Nat.le_refl _)
theorem sSays (z : Zt) (hz : ZtOk z) (t : Int) (h0 : 0 ≤ t) (h1 : t ≤ 3155760000) : SC Tryz.prog 12 [cZt z, I t] (.tup [I ((t + (atZ z t).off) / 86400), I ((t + (atZ z t).off) % 86400), I 0]) := by
  refine law_zone_Says _ _ (by simp) ?_
  have sc := sCheckZ z hz
  have sw := sWithinZ 0 3155760000 [t] (by simp)
  rw [allIn_oneZ, show inZ 0 3155760000 t = true from by unfold inZ; simp; omega] at sw
  have hsm := atZ_sm hz t
  have sa := sAt z hz t
  have o0 := hsm.o0
  have o1 := hsm.o1
  have ss := sEraSays (atZ z t) t (by omega) (by omega) (by omega) (by omega)
  generalize atZ z t = x at *
  have d1 := sDownZ (t + x.off) 86400 (by omega) (by omega) (by omega) (by omega)
  have d2 := sModuloZ (t + x.off) 86400 (by omega) (by omega)
  (repeat' (first | ((first | with_reducible refine st_skip ?_ | with_reducible refine st_exit ?_); (try simp only [seqQ, blockQ, loopQ, forQ, whileQ, reduceIte, Nat.reduceEqDiff])) | (with_reducible refine st_ret ?_; ((try simp only [seqQ, blockQ, loopQ, forQ, whileQ]); first | (with_reducible refine retM_ret ?_) | refine retQ_ret ?_; simp)) | refine st_seq ?_ | refine st_block ?_ | ((with_reducible show (STri _ _ _ _ _) ∧ (STri _ _ _ _ _)); refine And.intro ?_ ?_) | ((first | refine st_reg ?_ | refine buildP_own ?_ | refine appP_own ?_ | refine callP_b (sc) rfl ?_ | refine callP_b (sw) rfl ?_ | refine callP_b (sa) rfl ?_ | refine callP_b (ss) rfl ?_ | refine callP_b (d1) rfl ?_ | refine callP_b (d2) rfl ?_) <;> (simp -dsimp; (repeat (simp -dsimp (disch := (first | omega | assumption | (refine Bool.eq_false_iff.1 ?_; assumption))) only [wrap_in, if_pos, if_neg]; (try simp -dsimp))))) | ((first | refine guardP_of (fun hc => ?_) (fun hc => ?_) | refine st_cond rfl (fun hc => ?_) (fun hc => ?_)) <;> (try simp only [lqA, lqB, lqC, lqD, lqE, lqF, lqG, lqH, lqI, lqJ, lqK, lqL, lqM, lqN, lqO] at hc) <;> (try (exfalso; first | omega | exact bool_tf hc (by assumption) | exact bool_ft hc (by assumption) | exact absurd (by assumption) hc)) <;> (first | with_reducible show STri _ _ _ _ _ _ | (simp -dsimp [hc]; (repeat (simp -dsimp (disch := (first | omega | assumption | (refine Bool.eq_false_iff.1 ?_; assumption))) only [wrap_in, if_pos, if_neg]; (try simp -dsimp [hc]))))))))
  all_goals exact .refl _
end Go.Proofs.YtboifcengmgcaaaGreat
/- The shadow code of functions, as the kit's translation has them. -/
namespace Go.Proofs.YtboifcengmgcaaaGreat
open Go.RowKit
def k56_0 : SCode := .reg [⟨some 3, none, .mov (.tmp 0), [], false⟩, ⟨some 4, none, .len (.tmp 3), [], false⟩, ⟨some 2, none, .mov (.tmp 4), [], false⟩] [0, 2]
def k56_1 : SCode := .reg [⟨some 5, none, .mov (.tmp 0), [], false⟩, ⟨some 6, none, .mov (.tmp 2), [], false⟩, ⟨some 7, none, .mov (.tmp 2), [], false⟩, ⟨some 8, none, .conv .u64 (.tmp 7), [], false⟩, ⟨some 9, none, .call 78 [(.tmp 8)], [], false⟩, ⟨some 10, none, .call 82 [(.tmp 5), (.const (.int .i64 0)), (.tmp 6), (.tmp 9)], [], false⟩] []
def k56_2 : SCode := .seq k56_0 k56_1
@[simp] def rs_slices_Sort_int_int : List SRes := []
theorem law_slices_Sort_int_int (cs : List CV) (r : CV) (hl : cs.length ≤ 11) (h : STri (cfF Tryz.prog [] 11) k56_2 (initT 0 cs) [] (retQ rs_slices_Sort_int_int r)) : SC Tryz.prog 61 cs r :=
  sc_of [] follows Tryz.func61 rfl Tryz.ntmps61 (by decide) (by kernel_rfl) (by kernel_rfl) hl h
def k57_0 : SCode := .reg [⟨some 2, none, .mov (.const (.slice none 0 0)), [], false⟩] [0]
def k57_1 : SCode := .reg [⟨some 6, none, .mov (.tmp 0), [], false⟩, ⟨some 7, none, .len (.tmp 6), [], false⟩, ⟨some 8, none, .bin .lss (.tmp 7) (.const (.int .i64 2)), [], false⟩] [0, 8]
def k57_2 : SCode := .reg [⟨some 9, none, .mov (.tmp 0), [], false⟩, ⟨some 2, none, .mov (.tmp 9), [], false⟩] [2]
def k57_3 : SCode := .seq k57_2 .ret
def k57_4 : SCode := .cond (.tmp 8) k57_3 .skip
def k57_5 : SCode := .seq k57_1 k57_4
def k57_6 : SCode := .reg [⟨some 3, none, .mov (.const (.int .i64 1)), [], false⟩] [0, 3]
def k57_7 : SCode := .reg [⟨some 10, none, .mov (.tmp 3), [], false⟩, ⟨some 11, none, .mov (.tmp 0), [], false⟩, ⟨some 12, none, .len (.tmp 11), [], false⟩, ⟨some 13, none, .bin .lss (.tmp 10) (.tmp 12), [], false⟩] [0, 3, 13]
def k57_8 : SCode := .cond (.tmp 13) .skip (.exit 0)
def k57_9 : SCode := .seq k57_7 k57_8
def k57_10 : SCode := .reg [⟨some 16, none, .mov (.tmp 0), [], false⟩, ⟨some 17, none, .mov (.tmp 3), [], false⟩, ⟨some 18, none, .idxS 1 (.tmp 16) (.tmp 17), [], false⟩, ⟨some 19, none, .load false 1 (.tmp 18), [], false⟩, ⟨some 20, none, .mov (.tmp 0), [], false⟩, ⟨some 21, none, .mov (.tmp 3), [], false⟩, ⟨some 22, none, .bin .sub (.tmp 21) (.const (.int .i64 1)), [], false⟩, ⟨some 23, none, .idxS 1 (.tmp 20) (.tmp 22), [], false⟩, ⟨some 24, none, .load false 1 (.tmp 23), [], false⟩, ⟨some 25, none, .bin .eql (.tmp 19) (.tmp 24), [], false⟩] [0, 3, 25]
def k57_11 : SCode := .reg [⟨some 26, none, .mov (.tmp 0), [], false⟩, ⟨some 27, none, .mov (.tmp 3), [], false⟩, ⟨some 28, none, .slcS 1 (.tmp 26) (some (.tmp 27)) none, [], false⟩, ⟨some 4, none, .mov (.tmp 28), [], false⟩] [0, 3, 4]
def k57_12 : SCode := .reg [⟨some 5, none, .mov (.const (.int .i64 1)), [], false⟩] [0, 3, 4, 5]
def k57_13 : SCode := .reg [⟨some 29, none, .mov (.tmp 5), [], false⟩, ⟨some 30, none, .mov (.tmp 4), [], false⟩, ⟨some 31, none, .len (.tmp 30), [], false⟩, ⟨some 32, none, .bin .lss (.tmp 29) (.tmp 31), [], false⟩] [0, 3, 4, 5, 32]
def k57_14 : SCode := .cond (.tmp 32) .skip (.exit 2)
def k57_15 : SCode := .seq k57_13 k57_14
def k57_16 : SCode := .reg [⟨some 35, none, .mov (.tmp 4), [], false⟩, ⟨some 36, none, .mov (.tmp 5), [], false⟩, ⟨some 37, none, .idxS 1 (.tmp 35) (.tmp 36), [], false⟩, ⟨some 38, none, .load false 1 (.tmp 37), [], false⟩, ⟨some 39, none, .mov (.tmp 4), [], false⟩, ⟨some 40, none, .mov (.tmp 5), [], false⟩, ⟨some 41, none, .bin .sub (.tmp 40) (.const (.int .i64 1)), [], false⟩, ⟨some 42, none, .idxS 1 (.tmp 39) (.tmp 41), [], false⟩, ⟨some 43, none, .load false 1 (.tmp 42), [], false⟩, ⟨some 44, none, .bin .neq (.tmp 38) (.tmp 43), [], false⟩] [0, 3, 4, 5, 44]
def k57_17 : SCode := .reg [⟨some 45, none, .mov (.tmp 0), [], false⟩, ⟨some 46, none, .mov (.tmp 3), [], false⟩, ⟨some 47, none, .mov (.tmp 4), [], false⟩, ⟨some 48, none, .mov (.tmp 5), [], false⟩, ⟨some 49, none, .idxS 1 (.tmp 47) (.tmp 48), [], false⟩, ⟨some 50, none, .load false 1 (.tmp 49), [], false⟩, ⟨some 51, none, .idxS 1 (.tmp 45) (.tmp 46), [], false⟩, ⟨none, none, .store 1 (.tmp 51) (.tmp 50), [], false⟩] [0, 3, 4, 5]
def k57_18 : SCode := .reg [⟨some 52, none, .mov (.tmp 3), [], false⟩, ⟨some 53, none, .bin .add (.tmp 52) (.const (.int .i64 1)), [], false⟩, ⟨some 3, none, .mov (.tmp 53), [], false⟩] [0, 3, 4, 5]
def k57_19 : SCode := .seq k57_17 k57_18
def k57_20 : SCode := .cond (.tmp 44) k57_19 .skip
def k57_21 : SCode := .seq k57_16 k57_20
def k57_22 : SCode := .block 3 k57_21
def k57_23 : SCode := .reg [⟨some 33, none, .mov (.tmp 5), [], false⟩, ⟨some 34, none, .bin .add (.tmp 33) (.const (.int .i64 1)), [], false⟩, ⟨some 5, none, .mov (.tmp 34), [], false⟩] [0, 3, 4, 5]
def k57_24 : SCode := .seq k57_22 k57_23
def k57_25 : SCode := .seq k57_15 k57_24
def k57_26 : SCode := .loop k57_25
def k57_27 : SCode := .block 2 k57_26
def k57_28 : SCode := .seq k57_12 k57_27
def k57_29 : SCode := .reg [⟨some 54, none, .mov (.tmp 0), [], false⟩, ⟨some 55, none, .mov (.tmp 3), [], false⟩, ⟨some 56, none, .slcS 1 (.tmp 54) (some (.tmp 55)) none, [], false⟩, ⟨none, none, .callM 0 [(.tmp 56)], [], false⟩] [0, 3]
def k57_30 : SCode := .reg [⟨some 57, none, .mov (.tmp 0), [], false⟩, ⟨some 58, none, .mov (.tmp 3), [], false⟩, ⟨some 59, none, .slcS 1 (.tmp 57) none (some (.tmp 58)), [], false⟩, ⟨some 2, none, .mov (.tmp 59), [], false⟩] [2]
def k57_31 : SCode := .seq k57_30 .ret
def k57_32 : SCode := .seq k57_29 k57_31
def k57_33 : SCode := .seq k57_28 k57_32
def k57_34 : SCode := .seq k57_11 k57_33
def k57_35 : SCode := .cond (.tmp 25) k57_34 .skip
def k57_36 : SCode := .seq k57_10 k57_35
def k57_37 : SCode := .block 1 k57_36
def k57_38 : SCode := .reg [⟨some 14, none, .mov (.tmp 3), [], false⟩, ⟨some 15, none, .bin .add (.tmp 14) (.const (.int .i64 1)), [], false⟩, ⟨some 3, none, .mov (.tmp 15), [], false⟩] [0, 3]
def k57_39 : SCode := .seq k57_37 k57_38
def k57_40 : SCode := .seq k57_9 k57_39
def k57_41 : SCode := .loop k57_40
def k57_42 : SCode := .block 0 k57_41
def k57_43 : SCode := .seq k57_6 k57_42
def k57_44 : SCode := .reg [⟨some 60, none, .mov (.tmp 0), [], false⟩, ⟨some 2, none, .mov (.tmp 60), [], false⟩] [2]
def k57_45 : SCode := .seq k57_44 .ret
def k57_46 : SCode := .seq k57_43 k57_45
def k57_47 : SCode := .seq k57_5 k57_46
def k57_48 : SCode := .seq k57_0 k57_47
@[simp] def rs_slices_Compact_int_int : List SRes := [.tmp 2]
theorem law_slices_Compact_int_int (cs : List CV) (r : CV) (hl : cs.length ≤ 61) (h : STri (cfF Tryz.prog [] 61) k57_48 (initT 0 cs) [] (retQ rs_slices_Compact_int_int r)) : SC Tryz.prog 62 cs r :=
  sc_of [] follows Tryz.func62 rfl Tryz.ntmps62 (by decide) (by kernel_rfl) (by kernel_rfl) hl h
def k58_0 : SCode := .reg [⟨some 8, none, .mov (.const (.bool true)), [], false⟩] [0, 1, 2, 3, 8]
def k58_1 : SCode := .reg [⟨some 9, none, .mov (.const (.bool true)), [], false⟩] [0, 1, 2, 3, 8, 9]
def k58_2 : SCode := .reg [⟨some 19, none, .mov (.tmp 2), [], false⟩, ⟨some 20, none, .mov (.tmp 1), [], false⟩, ⟨some 21, none, .bin .sub (.tmp 19) (.tmp 20), [], false⟩, ⟨some 10, none, .mov (.tmp 21), [], false⟩] [0, 1, 2, 3, 8, 9, 10]
def k58_3 : SCode := .reg [⟨some 22, none, .mov (.tmp 10), [], false⟩, ⟨some 23, none, .bin .leq (.tmp 22) (.const (.int .i64 12)), [], false⟩] [0, 1, 2, 3, 8, 9, 10, 23]
def k58_4 : SCode := .reg [⟨some 24, none, .mov (.tmp 0), [], false⟩, ⟨some 25, none, .mov (.tmp 1), [], false⟩, ⟨some 26, none, .mov (.tmp 2), [], false⟩, ⟨some 27, none, .call 106 [(.tmp 24), (.tmp 25), (.tmp 26)], [], false⟩] []
def k58_5 : SCode := .seq k58_4 .ret
def k58_6 : SCode := .cond (.tmp 23) k58_5 .skip
def k58_7 : SCode := .seq k58_3 k58_6
def k58_8 : SCode := .reg [⟨some 28, none, .mov (.tmp 3), [], false⟩, ⟨some 29, none, .bin .eql (.tmp 28) (.const (.int .i64 0)), [], false⟩] [0, 1, 2, 3, 8, 9, 10, 29]
def k58_9 : SCode := .reg [⟨some 30, none, .mov (.tmp 0), [], false⟩, ⟨some 31, none, .mov (.tmp 1), [], false⟩, ⟨some 32, none, .mov (.tmp 2), [], false⟩, ⟨some 33, none, .call 107 [(.tmp 30), (.tmp 31), (.tmp 32)], [], false⟩] []
def k58_10 : SCode := .seq k58_9 .ret
def k58_11 : SCode := .cond (.tmp 29) k58_10 .skip
def k58_12 : SCode := .seq k58_8 k58_11
def k58_13 : SCode := .reg [⟨some 34, none, .mov (.tmp 8), [], false⟩, ⟨some 35, none, .un .not (.tmp 34), [], false⟩] [0, 1, 2, 3, 8, 9, 10, 35]
def k58_14 : SCode := .reg [⟨some 36, none, .mov (.tmp 0), [], false⟩, ⟨some 37, none, .mov (.tmp 1), [], false⟩, ⟨some 38, none, .mov (.tmp 2), [], false⟩, ⟨some 39, none, .call 108 [(.tmp 36), (.tmp 37), (.tmp 38)], [], false⟩] [0, 1, 2, 3, 8, 9, 10]
def k58_15 : SCode := .reg [⟨some 40, none, .mov (.tmp 3), [], false⟩, ⟨some 41, none, .bin .sub (.tmp 40) (.const (.int .i64 1)), [], false⟩, ⟨some 3, none, .mov (.tmp 41), [], false⟩] [0, 1, 2, 3, 8, 9, 10]
def k58_16 : SCode := .seq k58_14 k58_15
def k58_17 : SCode := .cond (.tmp 35) k58_16 .skip
def k58_18 : SCode := .seq k58_13 k58_17
def k58_19 : SCode := .reg [⟨some 43, none, .mov (.tmp 0), [], false⟩, ⟨some 44, none, .mov (.tmp 1), [], false⟩, ⟨some 45, none, .mov (.tmp 2), [], false⟩, ⟨some 46, none, .call 109 [(.tmp 43), (.tmp 44), (.tmp 45)], [], false⟩, ⟨some 42, none, .mov (.tmp 46), [], false⟩, ⟨some 47, none, .ext (.tmp 42) 0, [], false⟩, ⟨some 48, none, .ext (.tmp 42) 1, [], false⟩, ⟨some 11, none, .mov (.tmp 47), [], false⟩, ⟨some 12, none, .mov (.tmp 48), [], false⟩] [0, 1, 2, 3, 8, 9, 10, 11, 12]
def k58_20 : SCode := .reg [⟨some 49, none, .mov (.tmp 12), [], false⟩, ⟨some 50, none, .bin .eql (.tmp 49) (.const (.int .i64 2)), [], false⟩] [0, 1, 2, 3, 8, 9, 10, 11, 12, 50]
def k58_21 : SCode := .reg [⟨some 51, none, .mov (.tmp 0), [], false⟩, ⟨some 52, none, .mov (.tmp 1), [], false⟩, ⟨some 53, none, .mov (.tmp 2), [], false⟩, ⟨some 54, none, .call 110 [(.tmp 51), (.tmp 52), (.tmp 53)], [], false⟩] [0, 1, 2, 3, 8, 9, 10, 11]
def k58_22 : SCode := .reg [⟨some 55, none, .mov (.tmp 2), [], false⟩, ⟨some 56, none, .bin .sub (.tmp 55) (.const (.int .i64 1)), [], false⟩, ⟨some 57, none, .mov (.tmp 11), [], false⟩, ⟨some 58, none, .mov (.tmp 1), [], false⟩, ⟨some 59, none, .bin .sub (.tmp 57) (.tmp 58), [], false⟩, ⟨some 60, none, .bin .sub (.tmp 56) (.tmp 59), [], false⟩, ⟨some 11, none, .mov (.tmp 60), [], false⟩] [0, 1, 2, 3, 8, 9, 10, 11]
def k58_23 : SCode := .reg [⟨some 12, none, .mov (.const (.int .i64 1)), [], false⟩] [0, 1, 2, 3, 8, 9, 10, 11, 12]
def k58_24 : SCode := .seq k58_22 k58_23
def k58_25 : SCode := .seq k58_21 k58_24
def k58_26 : SCode := .cond (.tmp 50) k58_25 .skip
def k58_27 : SCode := .seq k58_20 k58_26
def k58_28 : SCode := .reg [⟨some 61, none, .mov (.tmp 8), [], false⟩, ⟨some 62, none, .mov (.tmp 61), [], false⟩, ⟨some 63, (some (62, true)), .mov (.tmp 9), [], false⟩, ⟨some 64, none, .pick (.tmp 62) (.tmp 63) (.const (.bool false)), [], false⟩, ⟨some 65, none, .mov (.tmp 64), [], false⟩, ⟨some 66, (some (65, true)), .mov (.tmp 12), [], false⟩, ⟨some 67, (some (65, true)), .bin .eql (.tmp 66) (.const (.int .i64 1)), [], false⟩, ⟨some 68, none, .pick (.tmp 65) (.tmp 67) (.const (.bool false)), [], false⟩] [0, 1, 2, 3, 8, 9, 10, 11, 68]
def k58_29 : SCode := .reg [⟨some 69, none, .mov (.tmp 0), [], false⟩, ⟨some 70, none, .mov (.tmp 1), [], false⟩, ⟨some 71, none, .mov (.tmp 2), [], false⟩, ⟨some 72, none, .call 111 [(.tmp 69), (.tmp 70), (.tmp 71)], [], false⟩] [0, 1, 2, 3, 8, 9, 10, 11, 72]
def k58_30 : SCode := .cond (.tmp 72) .ret .skip
def k58_31 : SCode := .seq k58_29 k58_30
def k58_32 : SCode := .cond (.tmp 68) k58_31 .skip
def k58_33 : SCode := .seq k58_28 k58_32
def k58_34 : SCode := .reg [⟨some 73, none, .mov (.tmp 1), [], false⟩, ⟨some 74, none, .bin .gtr (.tmp 73) (.const (.int .i64 0)), [], false⟩, ⟨some 75, none, .mov (.tmp 74), [], false⟩, ⟨some 76, (some (75, true)), .mov (.tmp 0), [], false⟩, ⟨some 77, (some (75, true)), .mov (.tmp 1), [], false⟩, ⟨some 78, (some (75, true)), .bin .sub (.tmp 77) (.const (.int .i64 1)), [], false⟩, ⟨some 79, (some (75, true)), .idxS 1 (.tmp 76) (.tmp 78), [], false⟩, ⟨some 80, (some (75, true)), .load false 1 (.tmp 79), [], false⟩, ⟨some 81, (some (75, true)), .mov (.tmp 0), [], false⟩, ⟨some 82, (some (75, true)), .mov (.tmp 11), [], false⟩, ⟨some 83, (some (75, true)), .idxS 1 (.tmp 81) (.tmp 82), [], false⟩, ⟨some 84, (some (75, true)), .load false 1 (.tmp 83), [], false⟩, ⟨some 85, (some (75, true)), .call 112 [(.tmp 80), (.tmp 84)], [], false⟩, ⟨some 86, (some (75, true)), .un .not (.tmp 85), [], false⟩, ⟨some 87, none, .pick (.tmp 75) (.tmp 86) (.const (.bool false)), [], false⟩] [0, 1, 2, 3, 8, 9, 10, 11, 87]
def k58_35 : SCode := .reg [⟨some 88, none, .mov (.tmp 0), [], false⟩, ⟨some 89, none, .mov (.tmp 1), [], false⟩, ⟨some 90, none, .mov (.tmp 2), [], false⟩, ⟨some 91, none, .mov (.tmp 11), [], false⟩, ⟨some 92, none, .call 113 [(.tmp 88), (.tmp 89), (.tmp 90), (.tmp 91)], [], false⟩, ⟨some 13, none, .mov (.tmp 92), [], false⟩] [0, 2, 3, 8, 9, 13]
def k58_36 : SCode := .reg [⟨some 93, none, .mov (.tmp 13), [], false⟩, ⟨some 1, none, .mov (.tmp 93), [], false⟩] [0, 1, 2, 3, 8, 9]
def k58_37 : SCode := .seq k58_36 (.exit 1)
def k58_38 : SCode := .seq k58_35 k58_37
def k58_39 : SCode := .cond (.tmp 87) k58_38 .skip
def k58_40 : SCode := .seq k58_34 k58_39
def k58_41 : SCode := .reg [⟨some 95, none, .mov (.tmp 0), [], false⟩, ⟨some 96, none, .mov (.tmp 1), [], false⟩, ⟨some 97, none, .mov (.tmp 2), [], false⟩, ⟨some 98, none, .mov (.tmp 11), [], false⟩, ⟨some 99, none, .call 114 [(.tmp 95), (.tmp 96), (.tmp 97), (.tmp 98)], [], false⟩, ⟨some 94, none, .mov (.tmp 99), [], false⟩, ⟨some 100, none, .ext (.tmp 94) 0, [], false⟩, ⟨some 101, none, .ext (.tmp 94) 1, [], false⟩, ⟨some 14, none, .mov (.tmp 100), [], false⟩, ⟨some 15, none, .mov (.tmp 101), [], false⟩] [0, 1, 2, 3, 10, 14, 15]
def k58_42 : SCode := .reg [⟨some 102, none, .mov (.tmp 15), [], false⟩, ⟨some 9, none, .mov (.tmp 102), [], false⟩] [0, 1, 2, 3, 9, 10, 14]
def k58_43 : SCode := .reg [⟨some 103, none, .mov (.tmp 14), [], false⟩, ⟨some 104, none, .mov (.tmp 1), [], false⟩, ⟨some 105, none, .bin .sub (.tmp 103) (.tmp 104), [], false⟩, ⟨some 106, none, .mov (.tmp 2), [], false⟩, ⟨some 107, none, .mov (.tmp 14), [], false⟩, ⟨some 108, none, .bin .sub (.tmp 106) (.tmp 107), [], false⟩, ⟨some 16, none, .mov (.tmp 105), [], false⟩, ⟨some 17, none, .mov (.tmp 108), [], false⟩] [0, 1, 2, 3, 9, 10, 14, 16, 17]
def k58_44 : SCode := .reg [⟨some 109, none, .mov (.tmp 10), [], false⟩, ⟨some 110, none, .bin .quo (.tmp 109) (.const (.int .i64 8)), [], false⟩, ⟨some 18, none, .mov (.tmp 110), [], false⟩] [0, 1, 2, 3, 9, 14, 16, 17, 18]
def k58_45 : SCode := .reg [⟨some 111, none, .mov (.tmp 16), [], false⟩, ⟨some 112, none, .mov (.tmp 17), [], false⟩, ⟨some 113, none, .bin .lss (.tmp 111) (.tmp 112), [], false⟩] [0, 1, 2, 3, 9, 14, 16, 17, 18, 113]
def k58_46 : SCode := .reg [⟨some 114, none, .mov (.tmp 16), [], false⟩, ⟨some 115, none, .mov (.tmp 18), [], false⟩, ⟨some 116, none, .bin .geq (.tmp 114) (.tmp 115), [], false⟩, ⟨some 8, none, .mov (.tmp 116), [], false⟩] [0, 1, 2, 3, 8, 9, 14]
def k58_47 : SCode := .reg [⟨some 117, none, .mov (.tmp 0), [], false⟩, ⟨some 118, none, .mov (.tmp 1), [], false⟩, ⟨some 119, none, .mov (.tmp 14), [], false⟩, ⟨some 120, none, .mov (.tmp 3), [], false⟩, ⟨some 121, none, .call 82 [(.tmp 117), (.tmp 118), (.tmp 119), (.tmp 120)], [], false⟩] [0, 2, 3, 8, 9, 14]
def k58_48 : SCode := .reg [⟨some 122, none, .mov (.tmp 14), [], false⟩, ⟨some 123, none, .bin .add (.tmp 122) (.const (.int .i64 1)), [], false⟩, ⟨some 1, none, .mov (.tmp 123), [], false⟩] [0, 1, 2, 3, 8, 9]
def k58_49 : SCode := .seq k58_47 k58_48
def k58_50 : SCode := .seq k58_46 k58_49
def k58_51 : SCode := .reg [⟨some 124, none, .mov (.tmp 17), [], false⟩, ⟨some 125, none, .mov (.tmp 18), [], false⟩, ⟨some 126, none, .bin .geq (.tmp 124) (.tmp 125), [], false⟩, ⟨some 8, none, .mov (.tmp 126), [], false⟩] [0, 1, 2, 3, 8, 9, 14]
def k58_52 : SCode := .reg [⟨some 127, none, .mov (.tmp 0), [], false⟩, ⟨some 128, none, .mov (.tmp 14), [], false⟩, ⟨some 129, none, .bin .add (.tmp 128) (.const (.int .i64 1)), [], false⟩, ⟨some 130, none, .mov (.tmp 2), [], false⟩, ⟨some 131, none, .mov (.tmp 3), [], false⟩, ⟨some 132, none, .call 82 [(.tmp 127), (.tmp 129), (.tmp 130), (.tmp 131)], [], false⟩] [0, 1, 3, 8, 9, 14]
def k58_53 : SCode := .reg [⟨some 133, none, .mov (.tmp 14), [], false⟩, ⟨some 2, none, .mov (.tmp 133), [], false⟩] [0, 1, 2, 3, 8, 9]
def k58_54 : SCode := .seq k58_52 k58_53
def k58_55 : SCode := .seq k58_51 k58_54
def k58_56 : SCode := .cond (.tmp 113) k58_50 k58_55
def k58_57 : SCode := .seq k58_45 k58_56
def k58_58 : SCode := .seq k58_44 k58_57
def k58_59 : SCode := .seq k58_43 k58_58
def k58_60 : SCode := .seq k58_42 k58_59
def k58_61 : SCode := .seq k58_41 k58_60
def k58_62 : SCode := .seq k58_40 k58_61
def k58_63 : SCode := .seq k58_33 k58_62
def k58_64 : SCode := .seq k58_27 k58_63
def k58_65 : SCode := .seq k58_19 k58_64
def k58_66 : SCode := .seq k58_18 k58_65
def k58_67 : SCode := .seq k58_12 k58_66
def k58_68 : SCode := .seq k58_7 k58_67
def k58_69 : SCode := .seq k58_2 k58_68
def k58_70 : SCode := .block 1 k58_69
def k58_71 : SCode := .loop k58_70
def k58_72 : SCode := .block 0 k58_71
def k58_73 : SCode := .seq k58_1 k58_72
def k58_74 : SCode := .seq k58_0 k58_73
@[simp] def rs_slices_pdqsortOrdered_int : List SRes := []
theorem law_slices_pdqsortOrdered_int (cs : List CV) (r : CV) (hl : cs.length ≤ 134) (h : STri (cfF Tryz.prog [] 134) k58_74 (initT 0 cs) [] (retQ rs_slices_pdqsortOrdered_int r)) : SC Tryz.prog 82 cs r :=
  sc_of [] follows Tryz.func82 rfl Tryz.ntmps82 (by decide) (by kernel_rfl) (by kernel_rfl) hl h
def k59_0 : SCode := .reg [⟨some 8, none, .mov (.tmp 1), [], false⟩, ⟨some 9, none, .bin .add (.tmp 8) (.const (.int .i64 1)), [], false⟩, ⟨some 6, none, .mov (.tmp 9), [], false⟩] [0, 1, 2, 6]
def k59_1 : SCode := .reg [⟨some 10, none, .mov (.tmp 6), [], false⟩, ⟨some 11, none, .mov (.tmp 2), [], false⟩, ⟨some 12, none, .bin .lss (.tmp 10) (.tmp 11), [], false⟩] [0, 1, 2, 6, 12]
def k59_2 : SCode := .cond (.tmp 12) .skip (.exit 0)
def k59_3 : SCode := .seq k59_1 k59_2
def k59_4 : SCode := .reg [⟨some 15, none, .mov (.tmp 6), [], false⟩, ⟨some 7, none, .mov (.tmp 15), [], false⟩] [0, 1, 2, 6, 7]
def k59_5 : SCode := .reg [⟨some 16, none, .mov (.tmp 7), [], false⟩, ⟨some 17, none, .mov (.tmp 1), [], false⟩, ⟨some 18, none, .bin .gtr (.tmp 16) (.tmp 17), [], false⟩, ⟨some 19, none, .mov (.tmp 18), [], false⟩, ⟨some 20, (some (19, true)), .mov (.tmp 0), [], false⟩, ⟨some 21, (some (19, true)), .mov (.tmp 7), [], false⟩, ⟨some 22, (some (19, true)), .idxS 1 (.tmp 20) (.tmp 21), [], false⟩, ⟨some 23, (some (19, true)), .load false 1 (.tmp 22), [], false⟩, ⟨some 24, (some (19, true)), .mov (.tmp 0), [], false⟩, ⟨some 25, (some (19, true)), .mov (.tmp 7), [], false⟩, ⟨some 26, (some (19, true)), .bin .sub (.tmp 25) (.const (.int .i64 1)), [], false⟩, ⟨some 27, (some (19, true)), .idxS 1 (.tmp 24) (.tmp 26), [], false⟩, ⟨some 28, (some (19, true)), .load false 1 (.tmp 27), [], false⟩, ⟨some 29, (some (19, true)), .call 112 [(.tmp 23), (.tmp 28)], [], false⟩, ⟨some 30, none, .pick (.tmp 19) (.tmp 29) (.const (.bool false)), [], false⟩] [0, 1, 2, 6, 7, 30]
def k59_6 : SCode := .cond (.tmp 30) .skip (.exit 2)
def k59_7 : SCode := .seq k59_5 k59_6
def k59_8 : SCode := .reg [⟨some 33, none, .mov (.tmp 0), [], false⟩, ⟨some 34, none, .mov (.tmp 7), [], false⟩, ⟨some 35, none, .mov (.tmp 0), [], false⟩, ⟨some 36, none, .mov (.tmp 7), [], false⟩, ⟨some 37, none, .bin .sub (.tmp 36) (.const (.int .i64 1)), [], false⟩, ⟨some 38, none, .mov (.tmp 0), [], false⟩, ⟨some 39, none, .mov (.tmp 7), [], false⟩, ⟨some 40, none, .bin .sub (.tmp 39) (.const (.int .i64 1)), [], false⟩, ⟨some 41, none, .idxS 1 (.tmp 38) (.tmp 40), [], false⟩, ⟨some 42, none, .load false 1 (.tmp 41), [], false⟩, ⟨some 43, none, .mov (.tmp 0), [], false⟩, ⟨some 44, none, .mov (.tmp 7), [], false⟩, ⟨some 45, none, .idxS 1 (.tmp 43) (.tmp 44), [], false⟩, ⟨some 46, none, .load false 1 (.tmp 45), [], false⟩, ⟨some 47, none, .idxS 1 (.tmp 33) (.tmp 34), [], false⟩, ⟨none, none, .store 1 (.tmp 47) (.tmp 42), [], false⟩, ⟨some 48, none, .idxS 1 (.tmp 35) (.tmp 37), [], false⟩, ⟨none, none, .store 1 (.tmp 48) (.tmp 46), [], false⟩] [0, 1, 2, 6, 7]
def k59_9 : SCode := .block 3 k59_8
def k59_10 : SCode := .reg [⟨some 31, none, .mov (.tmp 7), [], false⟩, ⟨some 32, none, .bin .sub (.tmp 31) (.const (.int .i64 1)), [], false⟩, ⟨some 7, none, .mov (.tmp 32), [], false⟩] [0, 1, 2, 6, 7]
def k59_11 : SCode := .seq k59_9 k59_10
def k59_12 : SCode := .seq k59_7 k59_11
def k59_13 : SCode := .loop k59_12
def k59_14 : SCode := .block 2 k59_13
def k59_15 : SCode := .seq k59_4 k59_14
def k59_16 : SCode := .block 1 k59_15
def k59_17 : SCode := .reg [⟨some 13, none, .mov (.tmp 6), [], false⟩, ⟨some 14, none, .bin .add (.tmp 13) (.const (.int .i64 1)), [], false⟩, ⟨some 6, none, .mov (.tmp 14), [], false⟩] [0, 1, 2, 6]
def k59_18 : SCode := .seq k59_16 k59_17
def k59_19 : SCode := .seq k59_3 k59_18
def k59_20 : SCode := .loop k59_19
def k59_21 : SCode := .block 0 k59_20
def k59_22 : SCode := .seq k59_0 k59_21
@[simp] def rs_slices_insertionSortOrdered_int : List SRes := []
theorem law_slices_insertionSortOrdered_int (cs : List CV) (r : CV) (hl : cs.length ≤ 49) (h : STri (cfF Tryz.prog [] 49) k59_22 (initT 0 cs) [] (retQ rs_slices_insertionSortOrdered_int r)) : SC Tryz.prog 106 cs r :=
  sc_of [] follows Tryz.func106 rfl Tryz.ntmps106 (by decide) (by kernel_rfl) (by kernel_rfl) hl h
def k60_0 : SCode := .reg [⟨some 2, none, .mov (.const (.bool false)), [], false⟩] [0]
def k60_1 : SCode := .reg [⟨some 3, none, .mov (.tmp 0), [], false⟩, ⟨some 4, none, .mov (.tmp 0), [], false⟩, ⟨some 5, none, .bin .neq (.tmp 3) (.tmp 4), [], false⟩, ⟨some 2, none, .mov (.tmp 5), [], false⟩] [2]
def k60_2 : SCode := .seq k60_1 .ret
def k60_3 : SCode := .seq k60_0 k60_2
@[simp] def rs_cmp_isNaN_int : List SRes := [.tmp 2]
theorem law_cmp_isNaN_int (cs : List CV) (r : CV) (hl : cs.length ≤ 6) (h : STri (cfF Tryz.prog [] 6) k60_3 (initT 0 cs) [] (retQ rs_cmp_isNaN_int r)) : SC Tryz.prog 105 cs r :=
  sc_of [] follows Tryz.func105 rfl Tryz.ntmps105 (by decide) (by kernel_rfl) (by kernel_rfl) hl h
def k61_0 : SCode := .reg [⟨some 4, none, .mov (.const (.bool false)), [], false⟩] [0, 1]
def k61_1 : SCode := .reg [⟨some 5, none, .mov (.tmp 0), [], false⟩, ⟨some 6, none, .call 105 [(.tmp 5)], [], false⟩, ⟨some 7, none, .mov (.tmp 6), [], false⟩, ⟨some 8, (some (7, true)), .mov (.tmp 1), [], false⟩, ⟨some 9, (some (7, true)), .call 105 [(.tmp 8)], [], false⟩, ⟨some 10, (some (7, true)), .un .not (.tmp 9), [], false⟩, ⟨some 11, none, .pick (.tmp 7) (.tmp 10) (.const (.bool false)), [], false⟩, ⟨some 12, none, .mov (.tmp 11), [], false⟩, ⟨some 13, (some (12, false)), .mov (.tmp 0), [], false⟩, ⟨some 14, (some (12, false)), .mov (.tmp 1), [], false⟩, ⟨some 15, (some (12, false)), .bin .lss (.tmp 13) (.tmp 14), [], false⟩, ⟨some 16, none, .pick (.tmp 12) (.const (.bool true)) (.tmp 15), [], false⟩, ⟨some 4, none, .mov (.tmp 16), [], false⟩] [4]
def k61_2 : SCode := .seq k61_1 .ret
def k61_3 : SCode := .seq k61_0 k61_2
@[simp] def rs_cmp_Less_int : List SRes := [.tmp 4]
theorem law_cmp_Less_int (cs : List CV) (r : CV) (hl : cs.length ≤ 17) (h : STri (cfF Tryz.prog [] 17) k61_3 (initT 0 cs) [] (retQ rs_cmp_Less_int r)) : SC Tryz.prog 112 cs r :=
  sc_of [] follows Tryz.func112 rfl Tryz.ntmps112 (by decide) (by kernel_rfl) (by kernel_rfl) hl h
def k62_0 : SCode := .reg [⟨some 5, none, .mov (.tmp 0), [], false⟩, ⟨some 6, none, .len (.tmp 5), [], false⟩, ⟨some 4, none, .mov (.tmp 6), [], false⟩] [0, 1, 4]
def k62_1 : SCode := .reg [⟨some 7, none, .mov (.tmp 0), [], false⟩, ⟨some 8, none, .mov (.tmp 4), [], false⟩, ⟨some 9, none, .mov (.tmp 4), [], false⟩, ⟨some 10, none, .conv .u64 (.tmp 9), [], false⟩, ⟨some 11, none, .call 78 [(.tmp 10)], [], false⟩, ⟨some 12, none, .mov (.tmp 1), [], false⟩, ⟨some 13, none, .call 115 [(.tmp 7), (.const (.int .i64 0)), (.tmp 8), (.tmp 11), (.tmp 12)], [], false⟩] []
def k62_2 : SCode := .seq k62_0 k62_1
@[simp] def rs_slices_SortFunc_zone_spans_api_Span : List SRes := []
theorem law_slices_SortFunc_zone_spans_api_Span (cs : List CV) (r : CV) (hl : cs.length ≤ 14) (h : STri (cfF Tryz.prog [] 14) k62_2 (initT 0 cs) [] (retQ rs_slices_SortFunc_zone_spans_api_Span r)) : SC Tryz.prog 84 cs r :=
  sc_of [] follows Tryz.func84 rfl Tryz.ntmps84 (by decide) (by kernel_rfl) (by kernel_rfl) hl h
def k63_0 : SCode := .reg [⟨some 10, none, .mov (.const (.bool true)), [], false⟩] [0, 1, 2, 3, 4, 10]
def k63_1 : SCode := .reg [⟨some 11, none, .mov (.const (.bool true)), [], false⟩] [0, 1, 2, 3, 4, 10, 11]
def k63_2 : SCode := .reg [⟨some 21, none, .mov (.tmp 2), [], false⟩, ⟨some 22, none, .mov (.tmp 1), [], false⟩, ⟨some 23, none, .bin .sub (.tmp 21) (.tmp 22), [], false⟩, ⟨some 12, none, .mov (.tmp 23), [], false⟩] [0, 1, 2, 3, 4, 10, 11, 12]
def k63_3 : SCode := .reg [⟨some 24, none, .mov (.tmp 12), [], false⟩, ⟨some 25, none, .bin .leq (.tmp 24) (.const (.int .i64 12)), [], false⟩] [0, 1, 2, 3, 4, 10, 11, 12, 25]
def k63_4 : SCode := .reg [⟨some 26, none, .mov (.tmp 0), [], false⟩, ⟨some 27, none, .mov (.tmp 1), [], false⟩, ⟨some 28, none, .mov (.tmp 2), [], false⟩, ⟨some 29, none, .mov (.tmp 4), [], false⟩, ⟨some 30, none, .call 125 [(.tmp 26), (.tmp 27), (.tmp 28), (.tmp 29)], [], false⟩] []
def k63_5 : SCode := .seq k63_4 .ret
def k63_6 : SCode := .cond (.tmp 25) k63_5 .skip
def k63_7 : SCode := .seq k63_3 k63_6
def k63_8 : SCode := .reg [⟨some 31, none, .mov (.tmp 3), [], false⟩, ⟨some 32, none, .bin .eql (.tmp 31) (.const (.int .i64 0)), [], false⟩] [0, 1, 2, 3, 4, 10, 11, 12, 32]
def k63_9 : SCode := .reg [⟨some 33, none, .mov (.tmp 0), [], false⟩, ⟨some 34, none, .mov (.tmp 1), [], false⟩, ⟨some 35, none, .mov (.tmp 2), [], false⟩, ⟨some 36, none, .mov (.tmp 4), [], false⟩, ⟨some 37, none, .call 126 [(.tmp 33), (.tmp 34), (.tmp 35), (.tmp 36)], [], false⟩] []
def k63_10 : SCode := .seq k63_9 .ret
def k63_11 : SCode := .cond (.tmp 32) k63_10 .skip
def k63_12 : SCode := .seq k63_8 k63_11
def k63_13 : SCode := .reg [⟨some 38, none, .mov (.tmp 10), [], false⟩, ⟨some 39, none, .un .not (.tmp 38), [], false⟩] [0, 1, 2, 3, 4, 10, 11, 12, 39]
def k63_14 : SCode := .reg [⟨some 40, none, .mov (.tmp 0), [], false⟩, ⟨some 41, none, .mov (.tmp 1), [], false⟩, ⟨some 42, none, .mov (.tmp 2), [], false⟩, ⟨some 43, none, .mov (.tmp 4), [], false⟩, ⟨some 44, none, .call 127 [(.tmp 40), (.tmp 41), (.tmp 42), (.tmp 43)], [], false⟩] [0, 1, 2, 3, 4, 10, 11, 12]
def k63_15 : SCode := .reg [⟨some 45, none, .mov (.tmp 3), [], false⟩, ⟨some 46, none, .bin .sub (.tmp 45) (.const (.int .i64 1)), [], false⟩, ⟨some 3, none, .mov (.tmp 46), [], false⟩] [0, 1, 2, 3, 4, 10, 11, 12]
def k63_16 : SCode := .seq k63_14 k63_15
def k63_17 : SCode := .cond (.tmp 39) k63_16 .skip
def k63_18 : SCode := .seq k63_13 k63_17
def k63_19 : SCode := .reg [⟨some 48, none, .mov (.tmp 0), [], false⟩, ⟨some 49, none, .mov (.tmp 1), [], false⟩, ⟨some 50, none, .mov (.tmp 2), [], false⟩, ⟨some 51, none, .mov (.tmp 4), [], false⟩, ⟨some 52, none, .call 128 [(.tmp 48), (.tmp 49), (.tmp 50), (.tmp 51)], [], false⟩, ⟨some 47, none, .mov (.tmp 52), [], false⟩, ⟨some 53, none, .ext (.tmp 47) 0, [], false⟩, ⟨some 54, none, .ext (.tmp 47) 1, [], false⟩, ⟨some 13, none, .mov (.tmp 53), [], false⟩, ⟨some 14, none, .mov (.tmp 54), [], false⟩] [0, 1, 2, 3, 4, 10, 11, 12, 13, 14]
def k63_20 : SCode := .reg [⟨some 55, none, .mov (.tmp 14), [], false⟩, ⟨some 56, none, .bin .eql (.tmp 55) (.const (.int .i64 2)), [], false⟩] [0, 1, 2, 3, 4, 10, 11, 12, 13, 14, 56]
def k63_21 : SCode := .reg [⟨some 57, none, .mov (.tmp 0), [], false⟩, ⟨some 58, none, .mov (.tmp 1), [], false⟩, ⟨some 59, none, .mov (.tmp 2), [], false⟩, ⟨some 60, none, .mov (.tmp 4), [], false⟩, ⟨some 61, none, .call 129 [(.tmp 57), (.tmp 58), (.tmp 59), (.tmp 60)], [], false⟩] [0, 1, 2, 3, 4, 10, 11, 12, 13]
def k63_22 : SCode := .reg [⟨some 62, none, .mov (.tmp 2), [], false⟩, ⟨some 63, none, .bin .sub (.tmp 62) (.const (.int .i64 1)), [], false⟩, ⟨some 64, none, .mov (.tmp 13), [], false⟩, ⟨some 65, none, .mov (.tmp 1), [], false⟩, ⟨some 66, none, .bin .sub (.tmp 64) (.tmp 65), [], false⟩, ⟨some 67, none, .bin .sub (.tmp 63) (.tmp 66), [], false⟩, ⟨some 13, none, .mov (.tmp 67), [], false⟩] [0, 1, 2, 3, 4, 10, 11, 12, 13]
def k63_23 : SCode := .reg [⟨some 14, none, .mov (.const (.int .i64 1)), [], false⟩] [0, 1, 2, 3, 4, 10, 11, 12, 13, 14]
def k63_24 : SCode := .seq k63_22 k63_23
def k63_25 : SCode := .seq k63_21 k63_24
def k63_26 : SCode := .cond (.tmp 56) k63_25 .skip
def k63_27 : SCode := .seq k63_20 k63_26
def k63_28 : SCode := .reg [⟨some 68, none, .mov (.tmp 10), [], false⟩, ⟨some 69, none, .mov (.tmp 68), [], false⟩, ⟨some 70, (some (69, true)), .mov (.tmp 11), [], false⟩, ⟨some 71, none, .pick (.tmp 69) (.tmp 70) (.const (.bool false)), [], false⟩, ⟨some 72, none, .mov (.tmp 71), [], false⟩, ⟨some 73, (some (72, true)), .mov (.tmp 14), [], false⟩, ⟨some 74, (some (72, true)), .bin .eql (.tmp 73) (.const (.int .i64 1)), [], false⟩, ⟨some 75, none, .pick (.tmp 72) (.tmp 74) (.const (.bool false)), [], false⟩] [0, 1, 2, 3, 4, 10, 11, 12, 13, 75]
def k63_29 : SCode := .reg [⟨some 76, none, .mov (.tmp 0), [], false⟩, ⟨some 77, none, .mov (.tmp 1), [], false⟩, ⟨some 78, none, .mov (.tmp 2), [], false⟩, ⟨some 79, none, .mov (.tmp 4), [], false⟩, ⟨some 80, none, .call 130 [(.tmp 76), (.tmp 77), (.tmp 78), (.tmp 79)], [], false⟩] [0, 1, 2, 3, 4, 10, 11, 12, 13, 80]
def k63_30 : SCode := .cond (.tmp 80) .ret .skip
def k63_31 : SCode := .seq k63_29 k63_30
def k63_32 : SCode := .cond (.tmp 75) k63_31 .skip
def k63_33 : SCode := .seq k63_28 k63_32
def k63_34 : SCode := .reg [⟨some 81, none, .mov (.tmp 1), [], false⟩, ⟨some 82, none, .bin .gtr (.tmp 81) (.const (.int .i64 0)), [], false⟩, ⟨some 83, none, .mov (.tmp 82), [], false⟩, ⟨some 84, (some (83, true)), .mov (.tmp 4), [], false⟩, ⟨some 85, (some (83, true)), .mov (.tmp 0), [], false⟩, ⟨some 86, (some (83, true)), .mov (.tmp 1), [], false⟩, ⟨some 87, (some (83, true)), .bin .sub (.tmp 86) (.const (.int .i64 1)), [], false⟩, ⟨some 88, (some (83, true)), .idxS 2 (.tmp 85) (.tmp 87), [], false⟩, ⟨some 89, (some (83, true)), .load true 2 (.tmp 88), [], false⟩, ⟨some 90, (some (83, true)), .mov (.tmp 0), [], false⟩, ⟨some 91, (some (83, true)), .mov (.tmp 13), [], false⟩, ⟨some 92, (some (83, true)), .idxS 2 (.tmp 90) (.tmp 91), [], false⟩, ⟨some 93, (some (83, true)), .load true 2 (.tmp 92), [], false⟩, ⟨some 94, (some (83, true)), .callV (.tmp 84) [(.tmp 89), (.tmp 93)], [], false⟩, ⟨some 95, (some (83, true)), .bin .lss (.tmp 94) (.const (.int .i64 0)), [], false⟩, ⟨some 96, (some (83, true)), .un .not (.tmp 95), [], false⟩, ⟨some 97, none, .pick (.tmp 83) (.tmp 96) (.const (.bool false)), [], false⟩] [0, 1, 2, 3, 4, 10, 11, 12, 13, 97]
def k63_35 : SCode := .reg [⟨some 98, none, .mov (.tmp 0), [], false⟩, ⟨some 99, none, .mov (.tmp 1), [], false⟩, ⟨some 100, none, .mov (.tmp 2), [], false⟩, ⟨some 101, none, .mov (.tmp 13), [], false⟩, ⟨some 102, none, .mov (.tmp 4), [], false⟩, ⟨some 103, none, .call 131 [(.tmp 98), (.tmp 99), (.tmp 100), (.tmp 101), (.tmp 102)], [], false⟩, ⟨some 15, none, .mov (.tmp 103), [], false⟩] [0, 2, 3, 4, 10, 11, 15]
def k63_36 : SCode := .reg [⟨some 104, none, .mov (.tmp 15), [], false⟩, ⟨some 1, none, .mov (.tmp 104), [], false⟩] [0, 1, 2, 3, 4, 10, 11]
def k63_37 : SCode := .seq k63_36 (.exit 1)
def k63_38 : SCode := .seq k63_35 k63_37
def k63_39 : SCode := .cond (.tmp 97) k63_38 .skip
def k63_40 : SCode := .seq k63_34 k63_39
def k63_41 : SCode := .reg [⟨some 106, none, .mov (.tmp 0), [], false⟩, ⟨some 107, none, .mov (.tmp 1), [], false⟩, ⟨some 108, none, .mov (.tmp 2), [], false⟩, ⟨some 109, none, .mov (.tmp 13), [], false⟩, ⟨some 110, none, .mov (.tmp 4), [], false⟩, ⟨some 111, none, .call 132 [(.tmp 106), (.tmp 107), (.tmp 108), (.tmp 109), (.tmp 110)], [], false⟩, ⟨some 105, none, .mov (.tmp 111), [], false⟩, ⟨some 112, none, .ext (.tmp 105) 0, [], false⟩, ⟨some 113, none, .ext (.tmp 105) 1, [], false⟩, ⟨some 16, none, .mov (.tmp 112), [], false⟩, ⟨some 17, none, .mov (.tmp 113), [], false⟩] [0, 1, 2, 3, 4, 12, 16, 17]
def k63_42 : SCode := .reg [⟨some 114, none, .mov (.tmp 17), [], false⟩, ⟨some 11, none, .mov (.tmp 114), [], false⟩] [0, 1, 2, 3, 4, 11, 12, 16]
def k63_43 : SCode := .reg [⟨some 115, none, .mov (.tmp 16), [], false⟩, ⟨some 116, none, .mov (.tmp 1), [], false⟩, ⟨some 117, none, .bin .sub (.tmp 115) (.tmp 116), [], false⟩, ⟨some 118, none, .mov (.tmp 2), [], false⟩, ⟨some 119, none, .mov (.tmp 16), [], false⟩, ⟨some 120, none, .bin .sub (.tmp 118) (.tmp 119), [], false⟩, ⟨some 18, none, .mov (.tmp 117), [], false⟩, ⟨some 19, none, .mov (.tmp 120), [], false⟩] [0, 1, 2, 3, 4, 11, 12, 16, 18, 19]
def k63_44 : SCode := .reg [⟨some 121, none, .mov (.tmp 12), [], false⟩, ⟨some 122, none, .bin .quo (.tmp 121) (.const (.int .i64 8)), [], false⟩, ⟨some 20, none, .mov (.tmp 122), [], false⟩] [0, 1, 2, 3, 4, 11, 16, 18, 19, 20]
def k63_45 : SCode := .reg [⟨some 123, none, .mov (.tmp 18), [], false⟩, ⟨some 124, none, .mov (.tmp 19), [], false⟩, ⟨some 125, none, .bin .lss (.tmp 123) (.tmp 124), [], false⟩] [0, 1, 2, 3, 4, 11, 16, 18, 19, 20, 125]
def k63_46 : SCode := .reg [⟨some 126, none, .mov (.tmp 18), [], false⟩, ⟨some 127, none, .mov (.tmp 20), [], false⟩, ⟨some 128, none, .bin .geq (.tmp 126) (.tmp 127), [], false⟩, ⟨some 10, none, .mov (.tmp 128), [], false⟩] [0, 1, 2, 3, 4, 10, 11, 16]
def k63_47 : SCode := .reg [⟨some 129, none, .mov (.tmp 0), [], false⟩, ⟨some 130, none, .mov (.tmp 1), [], false⟩, ⟨some 131, none, .mov (.tmp 16), [], false⟩, ⟨some 132, none, .mov (.tmp 3), [], false⟩, ⟨some 133, none, .mov (.tmp 4), [], false⟩, ⟨some 134, none, .call 115 [(.tmp 129), (.tmp 130), (.tmp 131), (.tmp 132), (.tmp 133)], [], false⟩] [0, 2, 3, 4, 10, 11, 16]
def k63_48 : SCode := .reg [⟨some 135, none, .mov (.tmp 16), [], false⟩, ⟨some 136, none, .bin .add (.tmp 135) (.const (.int .i64 1)), [], false⟩, ⟨some 1, none, .mov (.tmp 136), [], false⟩] [0, 1, 2, 3, 4, 10, 11]
def k63_49 : SCode := .seq k63_47 k63_48
def k63_50 : SCode := .seq k63_46 k63_49
def k63_51 : SCode := .reg [⟨some 137, none, .mov (.tmp 19), [], false⟩, ⟨some 138, none, .mov (.tmp 20), [], false⟩, ⟨some 139, none, .bin .geq (.tmp 137) (.tmp 138), [], false⟩, ⟨some 10, none, .mov (.tmp 139), [], false⟩] [0, 1, 2, 3, 4, 10, 11, 16]
def k63_52 : SCode := .reg [⟨some 140, none, .mov (.tmp 0), [], false⟩, ⟨some 141, none, .mov (.tmp 16), [], false⟩, ⟨some 142, none, .bin .add (.tmp 141) (.const (.int .i64 1)), [], false⟩, ⟨some 143, none, .mov (.tmp 2), [], false⟩, ⟨some 144, none, .mov (.tmp 3), [], false⟩, ⟨some 145, none, .mov (.tmp 4), [], false⟩, ⟨some 146, none, .call 115 [(.tmp 140), (.tmp 142), (.tmp 143), (.tmp 144), (.tmp 145)], [], false⟩] [0, 1, 3, 4, 10, 11, 16]
def k63_53 : SCode := .reg [⟨some 147, none, .mov (.tmp 16), [], false⟩, ⟨some 2, none, .mov (.tmp 147), [], false⟩] [0, 1, 2, 3, 4, 10, 11]
def k63_54 : SCode := .seq k63_52 k63_53
def k63_55 : SCode := .seq k63_51 k63_54
def k63_56 : SCode := .cond (.tmp 125) k63_50 k63_55
def k63_57 : SCode := .seq k63_45 k63_56
def k63_58 : SCode := .seq k63_44 k63_57
def k63_59 : SCode := .seq k63_43 k63_58
def k63_60 : SCode := .seq k63_42 k63_59
def k63_61 : SCode := .seq k63_41 k63_60
def k63_62 : SCode := .seq k63_40 k63_61
def k63_63 : SCode := .seq k63_33 k63_62
def k63_64 : SCode := .seq k63_27 k63_63
def k63_65 : SCode := .seq k63_19 k63_64
def k63_66 : SCode := .seq k63_18 k63_65
def k63_67 : SCode := .seq k63_12 k63_66
def k63_68 : SCode := .seq k63_7 k63_67
def k63_69 : SCode := .seq k63_2 k63_68
def k63_70 : SCode := .block 1 k63_69
def k63_71 : SCode := .loop k63_70
def k63_72 : SCode := .block 0 k63_71
def k63_73 : SCode := .seq k63_1 k63_72
def k63_74 : SCode := .seq k63_0 k63_73
@[simp] def rs_slices_pdqsortCmpFunc_api_Span : List SRes := []
theorem law_slices_pdqsortCmpFunc_api_Span (cs : List CV) (r : CV) (hl : cs.length ≤ 148) (h : STri (cfF Tryz.prog [] 148) k63_74 (initT 0 cs) [] (retQ rs_slices_pdqsortCmpFunc_api_Span r)) : SC Tryz.prog 115 cs r :=
  sc_of [] follows Tryz.func115 rfl Tryz.ntmps115 (by decide) (by kernel_rfl) (by kernel_rfl) hl h
def k64_0 : SCode := .reg [⟨some 10, none, .mov (.tmp 1), [], false⟩, ⟨some 11, none, .bin .add (.tmp 10) (.const (.int .i64 1)), [], false⟩, ⟨some 8, none, .mov (.tmp 11), [], false⟩] [0, 1, 2, 3, 8]
def k64_1 : SCode := .reg [⟨some 12, none, .mov (.tmp 8), [], false⟩, ⟨some 13, none, .mov (.tmp 2), [], false⟩, ⟨some 14, none, .bin .lss (.tmp 12) (.tmp 13), [], false⟩] [0, 1, 2, 3, 8, 14]
def k64_2 : SCode := .cond (.tmp 14) .skip (.exit 0)
def k64_3 : SCode := .seq k64_1 k64_2
def k64_4 : SCode := .reg [⟨some 17, none, .mov (.tmp 8), [], false⟩, ⟨some 9, none, .mov (.tmp 17), [], false⟩] [0, 1, 2, 3, 8, 9]
def k64_5 : SCode := .reg [⟨some 18, none, .mov (.tmp 9), [], false⟩, ⟨some 19, none, .mov (.tmp 1), [], false⟩, ⟨some 20, none, .bin .gtr (.tmp 18) (.tmp 19), [], false⟩, ⟨some 21, none, .mov (.tmp 20), [], false⟩, ⟨some 22, (some (21, true)), .mov (.tmp 3), [], false⟩, ⟨some 23, (some (21, true)), .mov (.tmp 0), [], false⟩, ⟨some 24, (some (21, true)), .mov (.tmp 9), [], false⟩, ⟨some 25, (some (21, true)), .idxS 2 (.tmp 23) (.tmp 24), [], false⟩, ⟨some 26, (some (21, true)), .load true 2 (.tmp 25), [], false⟩, ⟨some 27, (some (21, true)), .mov (.tmp 0), [], false⟩, ⟨some 28, (some (21, true)), .mov (.tmp 9), [], false⟩, ⟨some 29, (some (21, true)), .bin .sub (.tmp 28) (.const (.int .i64 1)), [], false⟩, ⟨some 30, (some (21, true)), .idxS 2 (.tmp 27) (.tmp 29), [], false⟩, ⟨some 31, (some (21, true)), .load true 2 (.tmp 30), [], false⟩, ⟨some 32, (some (21, true)), .callV (.tmp 22) [(.tmp 26), (.tmp 31)], [], false⟩, ⟨some 33, (some (21, true)), .bin .lss (.tmp 32) (.const (.int .i64 0)), [], false⟩, ⟨some 34, none, .pick (.tmp 21) (.tmp 33) (.const (.bool false)), [], false⟩] [0, 1, 2, 3, 8, 9, 34]
def k64_6 : SCode := .cond (.tmp 34) .skip (.exit 2)
def k64_7 : SCode := .seq k64_5 k64_6
def k64_8 : SCode := .reg [⟨some 37, none, .mov (.tmp 0), [], false⟩, ⟨some 38, none, .mov (.tmp 9), [], false⟩, ⟨some 39, none, .mov (.tmp 0), [], false⟩, ⟨some 40, none, .mov (.tmp 9), [], false⟩, ⟨some 41, none, .bin .sub (.tmp 40) (.const (.int .i64 1)), [], false⟩, ⟨some 42, none, .mov (.tmp 0), [], false⟩, ⟨some 43, none, .mov (.tmp 9), [], false⟩, ⟨some 44, none, .bin .sub (.tmp 43) (.const (.int .i64 1)), [], false⟩, ⟨some 45, none, .idxS 2 (.tmp 42) (.tmp 44), [], false⟩, ⟨some 46, none, .load true 2 (.tmp 45), [], false⟩, ⟨some 47, none, .mov (.tmp 0), [], false⟩, ⟨some 48, none, .mov (.tmp 9), [], false⟩, ⟨some 49, none, .idxS 2 (.tmp 47) (.tmp 48), [], false⟩, ⟨some 50, none, .load true 2 (.tmp 49), [], false⟩, ⟨some 51, none, .idxS 2 (.tmp 37) (.tmp 38), [], false⟩, ⟨none, none, .store 2 (.tmp 51) (.tmp 46), [], false⟩, ⟨some 52, none, .idxS 2 (.tmp 39) (.tmp 41), [], false⟩, ⟨none, none, .store 2 (.tmp 52) (.tmp 50), [], false⟩] [0, 1, 2, 3, 8, 9]
def k64_9 : SCode := .block 3 k64_8
def k64_10 : SCode := .reg [⟨some 35, none, .mov (.tmp 9), [], false⟩, ⟨some 36, none, .bin .sub (.tmp 35) (.const (.int .i64 1)), [], false⟩, ⟨some 9, none, .mov (.tmp 36), [], false⟩] [0, 1, 2, 3, 8, 9]
def k64_11 : SCode := .seq k64_9 k64_10
def k64_12 : SCode := .seq k64_7 k64_11
def k64_13 : SCode := .loop k64_12
def k64_14 : SCode := .block 2 k64_13
def k64_15 : SCode := .seq k64_4 k64_14
def k64_16 : SCode := .block 1 k64_15
def k64_17 : SCode := .reg [⟨some 15, none, .mov (.tmp 8), [], false⟩, ⟨some 16, none, .bin .add (.tmp 15) (.const (.int .i64 1)), [], false⟩, ⟨some 8, none, .mov (.tmp 16), [], false⟩] [0, 1, 2, 3, 8]
def k64_18 : SCode := .seq k64_16 k64_17
def k64_19 : SCode := .seq k64_3 k64_18
def k64_20 : SCode := .loop k64_19
def k64_21 : SCode := .block 0 k64_20
def k64_22 : SCode := .seq k64_0 k64_21
@[simp] def rs_slices_insertionSortCmpFunc_api_Span : List SRes := []
theorem law_slices_insertionSortCmpFunc_api_Span (cs : List CV) (r : CV) (hl : cs.length ≤ 53) (h : STri (cfF Tryz.prog [] 53) k64_22 (initT 0 cs) [] (retQ rs_slices_insertionSortCmpFunc_api_Span r)) : SC Tryz.prog 125 cs r :=
  sc_of [] follows Tryz.func125 rfl Tryz.ntmps125 (by decide) (by kernel_rfl) (by kernel_rfl) hl h
end Go.Proofs.YtboifcengmgcaaaGreat
/- The shadow code of functions, as the kit's translation has them. -/
namespace Go.Proofs.YtboifcengmgcaaaGreat
open Go.RowKit
def len8s : ByteArray := ⟨#[0, 1, 2, 2, 3, 3, 3, 3, 4, 4, 4, 4, 4, 4, 4, 4, 5, 5, 5, 5, 5, 5, 5, 5, 5, 5, 5, 5, 5, 5, 5, 5, 6, 6, 6, 6, 6, 6, 6, 6, 6, 6, 6, 6, 6, 6, 6, 6, 6, 6, 6, 6, 6, 6, 6, 6, 6, 6, 6, 6, 6, 6, 6, 6, 7, 7, 7, 7, 7, 7, 7, 7, 7, 7, 7, 7, 7, 7, 7, 7, 7, 7, 7, 7, 7, 7, 7, 7, 7, 7, 7, 7, 7, 7, 7, 7, 7, 7, 7, 7, 7, 7, 7, 7, 7, 7, 7, 7, 7, 7, 7, 7, 7, 7, 7, 7, 7, 7, 7, 7, 7, 7, 7, 7, 7, 7, 7, 7, 8, 8, 8, 8, 8, 8, 8, 8, 8, 8, 8, 8, 8, 8, 8, 8, 8, 8, 8, 8, 8, 8, 8, 8, 8, 8, 8, 8, 8, 8, 8, 8, 8, 8, 8, 8, 8, 8, 8, 8, 8, 8, 8, 8, 8, 8, 8, 8, 8, 8, 8, 8, 8, 8, 8, 8, 8, 8, 8, 8, 8, 8, 8, 8, 8, 8, 8, 8, 8, 8, 8, 8, 8, 8, 8, 8, 8, 8, 8, 8, 8, 8, 8, 8, 8, 8, 8, 8, 8, 8, 8, 8, 8, 8, 8, 8, 8, 8, 8, 8, 8, 8, 8, 8, 8, 8, 8, 8, 8, 8, 8, 8, 8, 8, 8, 8, 8, 8, 8, 8, 8, 8, 8, 8, 8, 8, 8, 8]⟩
def k65_0 : SCode := .reg [⟨some 2, none, .mov (.const (.int .i64 0)), [], false⟩] [0]
def k65_1 : SCode := .reg [⟨some 3, none, .mov (.tmp 0), [], false⟩, ⟨some 4, none, .conv .u32 (.tmp 3), [], false⟩, ⟨some 5, none, .call 76 [(.tmp 4)], [], false⟩, ⟨some 2, none, .mov (.tmp 5), [], false⟩] [2]
def k65_2 : SCode := .seq k65_1 .ret
def k65_3 : SCode := .cond (.const (.bool false)) k65_2 .skip
def k65_4 : SCode := .reg [⟨some 6, none, .mov (.tmp 0), [], false⟩, ⟨some 7, none, .call 77 [(.tmp 6)], [], false⟩, ⟨some 2, none, .mov (.tmp 7), [], false⟩] [2]
def k65_5 : SCode := .seq k65_4 .ret
def k65_6 : SCode := .seq k65_3 k65_5
def k65_7 : SCode := .seq k65_0 k65_6
@[simp] def rs_math_bits_OnesCount : List SRes := [.tmp 2]
theorem law_math_bits_OnesCount (cs : List CV) (r : CV) (hl : cs.length ≤ 8) (h : STri (cfF Tryz.prog [] 8) k65_7 (initT 0 cs) [] (retQ rs_math_bits_OnesCount r)) : SC Tryz.prog 56 cs r :=
  sc_of [] follows Tryz.func56 rfl Tryz.ntmps56 (by decide) (by kernel_rfl) (by kernel_rfl) hl h
def k66_0 : SCode := .reg [⟨some 2, none, .mov (.const (.int .i64 0)), [], false⟩] [0]
def k66_1 : SCode := .reg [⟨some 3, none, .mov (.tmp 0), [], false⟩, ⟨some 4, none, .shift false (.tmp 3) (.const (.int .u64 1)), [], false⟩, ⟨some 5, none, .bin .and (.tmp 4) (.const (.int .u64 6148914691236517205)), [], false⟩, ⟨some 6, none, .mov (.tmp 0), [], false⟩, ⟨some 7, none, .bin .and (.tmp 6) (.const (.int .u64 6148914691236517205)), [], false⟩, ⟨some 8, none, .bin .add (.tmp 5) (.tmp 7), [], false⟩, ⟨some 0, none, .mov (.tmp 8), [], false⟩] [0]
def k66_2 : SCode := .reg [⟨some 9, none, .mov (.tmp 0), [], false⟩, ⟨some 10, none, .shift false (.tmp 9) (.const (.int .u64 2)), [], false⟩, ⟨some 11, none, .bin .and (.tmp 10) (.const (.int .u64 3689348814741910323)), [], false⟩, ⟨some 12, none, .mov (.tmp 0), [], false⟩, ⟨some 13, none, .bin .and (.tmp 12) (.const (.int .u64 3689348814741910323)), [], false⟩, ⟨some 14, none, .bin .add (.tmp 11) (.tmp 13), [], false⟩, ⟨some 0, none, .mov (.tmp 14), [], false⟩] [0]
def k66_3 : SCode := .reg [⟨some 15, none, .mov (.tmp 0), [], false⟩, ⟨some 16, none, .shift false (.tmp 15) (.const (.int .u64 4)), [], false⟩, ⟨some 17, none, .mov (.tmp 0), [], false⟩, ⟨some 18, none, .bin .add (.tmp 16) (.tmp 17), [], false⟩, ⟨some 19, none, .bin .and (.tmp 18) (.const (.int .u64 1085102592571150095)), [], false⟩, ⟨some 0, none, .mov (.tmp 19), [], false⟩] [0]
def k66_4 : SCode := .reg [⟨some 20, none, .mov (.tmp 0), [], false⟩, ⟨some 21, none, .mov (.tmp 0), [], false⟩, ⟨some 22, none, .shift false (.tmp 21) (.const (.int .u64 8)), [], false⟩, ⟨some 23, none, .bin .add (.tmp 20) (.tmp 22), [], false⟩, ⟨some 0, none, .mov (.tmp 23), [], false⟩] [0]
def k66_5 : SCode := .reg [⟨some 24, none, .mov (.tmp 0), [], false⟩, ⟨some 25, none, .mov (.tmp 0), [], false⟩, ⟨some 26, none, .shift false (.tmp 25) (.const (.int .u64 16)), [], false⟩, ⟨some 27, none, .bin .add (.tmp 24) (.tmp 26), [], false⟩, ⟨some 0, none, .mov (.tmp 27), [], false⟩] [0]
def k66_6 : SCode := .reg [⟨some 28, none, .mov (.tmp 0), [], false⟩, ⟨some 29, none, .mov (.tmp 0), [], false⟩, ⟨some 30, none, .shift false (.tmp 29) (.const (.int .u64 32)), [], false⟩, ⟨some 31, none, .bin .add (.tmp 28) (.tmp 30), [], false⟩, ⟨some 0, none, .mov (.tmp 31), [], false⟩] [0]
def k66_7 : SCode := .reg [⟨some 32, none, .mov (.tmp 0), [], false⟩, ⟨some 33, none, .conv .i64 (.tmp 32), [], false⟩, ⟨some 34, none, .bin .and (.tmp 33) (.const (.int .i64 127)), [], false⟩, ⟨some 2, none, .mov (.tmp 34), [], false⟩] [2]
def k66_8 : SCode := .seq k66_7 .ret
def k66_9 : SCode := .seq k66_6 k66_8
def k66_10 : SCode := .seq k66_5 k66_9
def k66_11 : SCode := .seq k66_4 k66_10
def k66_12 : SCode := .seq k66_3 k66_11
def k66_13 : SCode := .seq k66_2 k66_12
def k66_14 : SCode := .seq k66_1 k66_13
def k66_15 : SCode := .seq k66_0 k66_14
@[simp] def rs_math_bits_OnesCount64 : List SRes := [.tmp 2]
theorem law_math_bits_OnesCount64 (cs : List CV) (r : CV) (hl : cs.length ≤ 35) (h : STri (cfF Tryz.prog [] 35) k66_15 (initT 0 cs) [] (retQ rs_math_bits_OnesCount64 r)) : SC Tryz.prog 77 cs r :=
  sc_of [] follows Tryz.func77 rfl Tryz.ntmps77 (by decide) (by kernel_rfl) (by kernel_rfl) hl h
def k67_0 : SCode := .reg [⟨some 2, none, .mov (.const (.int .i64 0)), [], false⟩] [0]
def k67_1 : SCode := .reg [⟨some 3, none, .mov (.tmp 0), [], false⟩, ⟨some 4, none, .conv .u32 (.tmp 3), [], false⟩, ⟨some 5, none, .call 95 [(.tmp 4)], [], false⟩, ⟨some 2, none, .mov (.tmp 5), [], false⟩] [2]
def k67_2 : SCode := .seq k67_1 .ret
def k67_3 : SCode := .cond (.const (.bool false)) k67_2 .skip
def k67_4 : SCode := .reg [⟨some 6, none, .mov (.tmp 0), [], false⟩, ⟨some 7, none, .call 96 [(.tmp 6)], [], false⟩, ⟨some 2, none, .mov (.tmp 7), [], false⟩] [2]
def k67_5 : SCode := .seq k67_4 .ret
def k67_6 : SCode := .seq k67_3 k67_5
def k67_7 : SCode := .seq k67_0 k67_6
@[simp] def rs_math_bits_Len : List SRes := [.tmp 2]
theorem law_math_bits_Len (cs : List CV) (r : CV) (hl : cs.length ≤ 8) (h : STri (cfF Tryz.prog [] 8) k67_7 (initT 0 cs) [] (retQ rs_math_bits_Len r)) : SC Tryz.prog 78 cs r :=
  sc_of [] follows Tryz.func78 rfl Tryz.ntmps78 (by decide) (by kernel_rfl) (by kernel_rfl) hl h
def k68_0 : SCode := .reg [⟨some 2, none, .mov (.const (.int .i64 0)), [], false⟩] [0, 2]
def k68_1 : SCode := .reg [⟨some 3, none, .mov (.tmp 0), [], false⟩, ⟨some 4, none, .bin .geq (.tmp 3) (.const (.int .u64 4294967296)), [], false⟩] [0, 2, 4]
def k68_2 : SCode := .reg [⟨some 5, none, .mov (.tmp 0), [], false⟩, ⟨some 6, none, .shift false (.tmp 5) (.const (.int .u64 32)), [], false⟩, ⟨some 0, none, .mov (.tmp 6), [], false⟩] [0]
def k68_3 : SCode := .reg [⟨some 2, none, .mov (.const (.int .i64 32)), [], false⟩] [0, 2]
def k68_4 : SCode := .seq k68_2 k68_3
def k68_5 : SCode := .cond (.tmp 4) k68_4 .skip
def k68_6 : SCode := .seq k68_1 k68_5
def k68_7 : SCode := .reg [⟨some 7, none, .mov (.tmp 0), [], false⟩, ⟨some 8, none, .bin .geq (.tmp 7) (.const (.int .u64 65536)), [], false⟩] [0, 2, 8]
def k68_8 : SCode := .reg [⟨some 9, none, .mov (.tmp 0), [], false⟩, ⟨some 10, none, .shift false (.tmp 9) (.const (.int .u64 16)), [], false⟩, ⟨some 0, none, .mov (.tmp 10), [], false⟩] [0, 2]
def k68_9 : SCode := .reg [⟨some 11, none, .mov (.tmp 2), [], false⟩, ⟨some 12, none, .bin .add (.tmp 11) (.const (.int .i64 16)), [], false⟩, ⟨some 2, none, .mov (.tmp 12), [], false⟩] [0, 2]
def k68_10 : SCode := .seq k68_8 k68_9
def k68_11 : SCode := .cond (.tmp 8) k68_10 .skip
def k68_12 : SCode := .seq k68_7 k68_11
def k68_13 : SCode := .reg [⟨some 13, none, .mov (.tmp 0), [], false⟩, ⟨some 14, none, .bin .geq (.tmp 13) (.const (.int .u64 256)), [], false⟩] [0, 2, 14]
def k68_14 : SCode := .reg [⟨some 15, none, .mov (.tmp 0), [], false⟩, ⟨some 16, none, .shift false (.tmp 15) (.const (.int .u64 8)), [], false⟩, ⟨some 0, none, .mov (.tmp 16), [], false⟩] [0, 2]
def k68_15 : SCode := .reg [⟨some 17, none, .mov (.tmp 2), [], false⟩, ⟨some 18, none, .bin .add (.tmp 17) (.const (.int .i64 8)), [], false⟩, ⟨some 2, none, .mov (.tmp 18), [], false⟩] [0, 2]
def k68_16 : SCode := .seq k68_14 k68_15
def k68_17 : SCode := .cond (.tmp 14) k68_16 .skip
def k68_18 : SCode := .seq k68_13 k68_17
def k68_19 : SCode := .reg [⟨some 19, none, .mov (.tmp 2), [], false⟩, ⟨some 20, none, .mov (.tmp 0), [], false⟩, ⟨some 21, none, .conv .u8 (.tmp 20), [], false⟩, ⟨some 22, none, .strAt (.const (.string len8s)) (.tmp 21), [], false⟩, ⟨some 23, none, .conv .i64 (.tmp 22), [], false⟩, ⟨some 24, none, .bin .add (.tmp 19) (.tmp 23), [], false⟩, ⟨some 2, none, .mov (.tmp 24), [], false⟩] [2]
def k68_20 : SCode := .seq k68_19 .ret
def k68_21 : SCode := .seq k68_18 k68_20
def k68_22 : SCode := .seq k68_12 k68_21
def k68_23 : SCode := .seq k68_6 k68_22
def k68_24 : SCode := .seq k68_0 k68_23
@[simp] def rs_math_bits_Len64 : List SRes := [.tmp 2]
theorem law_math_bits_Len64 (cs : List CV) (r : CV) (hl : cs.length ≤ 25) (h : STri (cfF Tryz.prog [] 25) k68_24 (initT 0 cs) [] (retQ rs_math_bits_Len64 r)) : SC Tryz.prog 96 cs r :=
  sc_of [] follows Tryz.func96 rfl Tryz.ntmps96 (by decide) (by kernel_rfl) (by kernel_rfl) hl h
end Go.Proofs.YtboifcengmgcaaaGreat
/- Sets of small numbers as bits of an unsigned integer. -/
namespace Go.Proofs.YtboifcengmgcaaaGreat
open Go.RowKit
theorem shr_nat (a i : Nat) (hi : i ≤ 64) : shiftI false .u64 (a : Int) (i : Int) = some (.int .u64 ((a >>> i : Nat) : Int)) := by
  unfold shiftI
  rw [if_neg (by omega)]
  simp only [Bool.false_eq_true, if_false, Int.toNat_natCast]
  rw [Nat.min_eq_left (by exact hi), Nat.shiftRight_eq_div_pow]
  have e : (2 : Int) ^ i = ((2 ^ i : Nat) : Int) := by simp
  rw [e, Int.fdiv_eq_ediv_of_nonneg _ (Int.natCast_nonneg _)]
  rfl
theorem wrapU {n : Int} (h0 : 0 ≤ n) (h1 : n < 18446744073709551616) : IntKind.u64.wrap n = n := by
  simp [IntKind.wrap, IntKind.bits, IntKind.signed]
  omega
theorem shl_one (i : Nat) (hi : i < 64) : shiftI true .u64 1 (i : Int) = some (.int .u64 ((2 ^ i : Nat) : Int)) := by
  unfold shiftI
  rw [if_neg (by omega)]
  simp only [if_true, Int.toNat_natCast, Int.one_mul]
  rw [Nat.min_eq_left (by show i ≤ 64; omega)]
  have e : (2 : Int) ^ i = ((2 ^ i : Nat) : Int) := by simp
  have hp : 2 ^ i < 2 ^ 64 := Nat.pow_lt_pow_right (by omega) hi
  rw [e, wrapU (Int.natCast_nonneg _) (by omega)]
theorem and_one (a i : Nat) : IntKind.u64.wrap ((((a : Int) >>> i % 2 ^ IntKind.u64.bits).toNat &&& 1 % 2 ^ IntKind.u64.bits : Nat) : Int) = ((a >>> i % 2 : Nat) : Int) := by
  have e1 : ((a : Int) >>> i % 2 ^ IntKind.u64.bits).toNat = a >>> i % 2 ^ 64 := by
    show ((a : Int) >>> i % 2 ^ 64).toNat = a >>> i % 2 ^ 64
    have e2 : (a : Int) >>> i = ((a >>> i : Nat) : Int) := rfl
    rw [e2]
    generalize a >>> i = z at *
    omega
  rw [e1]
  have e3 : 1 % 2 ^ IntKind.u64.bits = 1 := rfl
  rw [e3, Nat.and_one_is_mod, wrapU (by omega) (by omega)]
  generalize a >>> i = z at *
  omega
theorem or_two {a i : Nat} (ha : a < 2 ^ 64) (hi : i < 64) : IntKind.u64.wrap ((a % 2 ^ IntKind.u64.bits ||| ((2 : Int) ^ i % 2 ^ IntKind.u64.bits).toNat : Nat) : Int) = ((a ||| 2 ^ i : Nat) : Int) := by
  have hp : 2 ^ i < 2 ^ 64 := Nat.pow_lt_pow_right (by omega) hi
  have e1 : ((2 : Int) ^ i % 2 ^ IntKind.u64.bits).toNat = 2 ^ i := by
    show ((2 : Int) ^ i % 2 ^ 64).toNat = 2 ^ i
    have e2 : (2 : Int) ^ i = ((2 ^ i : Nat) : Int) := by simp
    rw [e2]
    generalize 2 ^ i = z at *
    omega
  have e2 : a % 2 ^ IntKind.u64.bits = a := Nat.mod_eq_of_lt ha
  have h3 : a ||| 2 ^ i < 2 ^ 64 := Nat.or_lt_two_pow ha hp
  rw [e1, e2, wrapU (Int.natCast_nonneg _) (by omega)]
theorem bit_odd (a i : Nat) : (a >>> i % 2 = 1) = (a.testBit i = true) := by
  rw [Nat.testBit, Nat.shiftRight_eq_div_pow, bne_iff_ne, Nat.one_and_eq_mod_two]
  simp
theorem bitI (a i : Nat) : ((a : Int) >>> i % 2 = 0) = (a.testBit i = false) := by
  have e : (a : Int) >>> i = ((a >>> i : Nat) : Int) := rfl
  have := bit_odd a i
  rw [e]
  cases h : a.testBit i with
  | true => rw [h] at this; simp at this ⊢; omega
  | false => rw [h] at this; simp at this ⊢; omega
theorem or_self {a i : Nat} (h : a.testBit i = true) : a ||| 2 ^ i = a := by
  apply Nat.eq_of_testBit_eq
  intro j
  rw [Nat.testBit_or, Nat.testBit_two_pow]
  by_cases e : i = j
  · subst e; simp [h]
  · simp [e]
end Go.Proofs.YtboifcengmgcaaaGreat
/- Counts of bits. -/
namespace Go.Proofs.YtboifcengmgcaaaGreat
open Go.RowKit
def U (n : Nat) : CV := .val (.int .u64 n)
attribute [simp] U
def popN (x : Nat) : Nat := ((List.range 10).filter fun i => x.testBit i).length
def lenN (x : Nat) : Nat := if x = 0 then 0 else x.log2 + 1
theorem sOnes64 (x : Nat) (hx : x < 1024) : SC Tryz.prog 77 [U x] (I (popN x)) := by
  refine law_math_bits_OnesCount64 _ _ (by simp) ?_
  (repeat' (first | ((first | with_reducible refine st_skip ?_ | with_reducible refine st_exit ?_); (try simp only [seqQ, blockQ, loopQ, forQ, whileQ, reduceIte, Nat.reduceEqDiff])) | (with_reducible refine st_ret ?_; ((try simp only [seqQ, blockQ, loopQ, forQ, whileQ]); first | (with_reducible refine retM_ret ?_) | refine retQ_ret ?_; simp [shiftI])) | refine st_seq ?_ | refine st_block ?_ | ((with_reducible show (STri _ _ _ _ _) ∧ (STri _ _ _ _ _)); refine And.intro ?_ ?_) | ((first | refine st_reg ?_ | refine buildP_own ?_ | refine appP_own ?_) <;> (simp -dsimp [shiftI]; (repeat (simp -dsimp (disch := (first | omega | assumption | (refine Bool.eq_false_iff.1 ?_; assumption))) only [wrap_in, if_pos, if_neg]; (try simp -dsimp [shiftI]))))) | ((first | refine guardP_of (fun hc => ?_) (fun hc => ?_) | refine st_cond rfl (fun hc => ?_) (fun hc => ?_)) <;> (try simp only [lqA, lqB, lqC, lqD, lqE, lqF, lqG, lqH, lqI, lqJ, lqK, lqL, lqM, lqN, lqO] at hc) <;> (try (exfalso; first | omega | exact bool_tf hc (by assumption) | exact bool_ft hc (by assumption) | exact absurd (by assumption) hc)) <;> (first | with_reducible show STri _ _ _ _ _ _ | (simp -dsimp [shiftI, hc]; (repeat (simp -dsimp (disch := (first | omega | assumption | (refine Bool.eq_false_iff.1 ?_; assumption))) only [wrap_in, if_pos, if_neg]; (try simp -dsimp [shiftI, hc]))))))))
  refine CLe.int ?_
  revert x
  decide +kernel
theorem sOnes (x : Nat) (hx : x < 1024) : SC Tryz.prog 56 [U x] (I (popN x)) := by
  refine law_math_bits_OnesCount _ _ (by simp) ?_
  (repeat' (first | ((first | with_reducible refine st_skip ?_ | with_reducible refine st_exit ?_); (try simp only [seqQ, blockQ, loopQ, forQ, whileQ, reduceIte, Nat.reduceEqDiff])) | (with_reducible refine st_ret ?_; ((try simp only [seqQ, blockQ, loopQ, forQ, whileQ]); first | (with_reducible refine retM_ret ?_) | refine retQ_ret ?_; simp)) | refine st_seq ?_ | refine st_block ?_ | ((with_reducible show (STri _ _ _ _ _) ∧ (STri _ _ _ _ _)); refine And.intro ?_ ?_) | ((first | refine st_reg ?_ | refine buildP_own ?_ | refine appP_own ?_ | refine callP_b (sOnes64 x hx) rfl ?_) <;> (simp -dsimp; (repeat (simp -dsimp (disch := (first | omega | assumption | (refine Bool.eq_false_iff.1 ?_; assumption))) only [wrap_in, if_pos, if_neg]; (try simp -dsimp))))) | ((first | refine guardP_of (fun hc => ?_) (fun hc => ?_) | refine st_cond rfl (fun hc => ?_) (fun hc => ?_)) <;> (try simp only [lqA, lqB, lqC, lqD, lqE, lqF, lqG, lqH, lqI, lqJ, lqK, lqL, lqM, lqN, lqO] at hc) <;> (try (exfalso; first | omega | exact bool_tf hc (by assumption) | exact bool_ft hc (by assumption) | exact absurd (by assumption) hc)) <;> (first | with_reducible show STri _ _ _ _ _ _ | (simp -dsimp [hc]; (repeat (simp -dsimp (disch := (first | omega | assumption | (refine Bool.eq_false_iff.1 ?_; assumption))) only [wrap_in, if_pos, if_neg]; (try simp -dsimp [hc]))))))))
  all_goals exact .refl _
theorem len8 : ∀ x : Nat, x < 256 → len8s[x]? = some (UInt8.ofNat (lenN x)) := by decide +kernel
theorem len_small : ∀ x : Nat, x < 256 → (lenN x : Int) = (UInt8.ofNat (lenN x)).toNat ∧ lenN x ≤ 8 := by decide +kernel
theorem len_shift : ∀ x : Nat, x < 1024 → 256 ≤ x → lenN x = 8 + lenN (x / 256) := by decide +kernel
theorem sLen64 (x : Nat) (hx : x < 1024) : SC Tryz.prog 96 [U x] (I (lenN x)) := by
  refine law_math_bits_Len64 _ _ (by simp) ?_
  by_cases h : 256 ≤ x
  · have hs := len_shift x hx h
    have hf : shiftI false .u64 (x : Int) 8 = some (.int .u64 ((x / 256 : Nat) : Int)) := by
      have := shr_nat x 8 (by omega)
      rwa [Nat.shiftRight_eq_div_pow] at this
    have hy : x / 256 < 256 := by omega
    generalize x / 256 = y at *
    have hg := len8 y hy
    obtain ⟨g1, g2⟩ := len_small y hy
    have hw : IntKind.u8.wrap (y : Int) = (y : Int) := by
      simp [IntKind.wrap, IntKind.bits, IntKind.signed]; omega
    have h2 : 256 ≤ (x : Int) := by omega
    clear g1
    rw [hs]
    (repeat' (first | ((first | with_reducible refine st_skip ?_ | with_reducible refine st_exit ?_); (try simp only [seqQ, blockQ, loopQ, forQ, whileQ, reduceIte, Nat.reduceEqDiff])) | (with_reducible refine st_ret ?_; ((try simp only [seqQ, blockQ, loopQ, forQ, whileQ]); first | (with_reducible refine retM_ret ?_) | refine retQ_ret ?_; simp [h2, hf, hw, hg])) | refine st_seq ?_ | refine st_block ?_ | ((with_reducible show (STri _ _ _ _ _) ∧ (STri _ _ _ _ _)); refine And.intro ?_ ?_) | ((first | refine st_reg ?_ | refine buildP_own ?_ | refine appP_own ?_) <;> (simp -dsimp [h2, hf, hw, hg]; (repeat (simp -dsimp (disch := (first | omega | assumption | (refine Bool.eq_false_iff.1 ?_; assumption))) only [wrap_in, if_pos, if_neg]; (try simp -dsimp [h2, hf, hw, hg]))))) | ((first | refine guardP_of (fun hc => ?_) (fun hc => ?_) | refine st_cond rfl (fun hc => ?_) (fun hc => ?_)) <;> (try simp only [lqA, lqB, lqC, lqD, lqE, lqF, lqG, lqH, lqI, lqJ, lqK, lqL, lqM, lqN, lqO] at hc) <;> (try (exfalso; first | omega | exact bool_tf hc (by assumption) | exact bool_ft hc (by assumption) | exact absurd (by assumption) hc)) <;> (first | with_reducible show STri _ _ _ _ _ _ | (simp -dsimp [h2, hf, hw, hg, hc]; (repeat (simp -dsimp (disch := (first | omega | assumption | (refine Bool.eq_false_iff.1 ?_; assumption))) only [wrap_in, if_pos, if_neg]; (try simp -dsimp [h2, hf, hw, hg, hc]))))))))
    all_goals (refine CLe.int ?_; omega)
  · have hg := len8 x (by omega)
    obtain ⟨g1, g2⟩ := len_small x (by omega)
    have hw : IntKind.u8.wrap (x : Int) = (x : Int) := by
      simp [IntKind.wrap, IntKind.bits, IntKind.signed]; omega
    (repeat' (first | ((first | with_reducible refine st_skip ?_ | with_reducible refine st_exit ?_); (try simp only [seqQ, blockQ, loopQ, forQ, whileQ, reduceIte, Nat.reduceEqDiff])) | (with_reducible refine st_ret ?_; ((try simp only [seqQ, blockQ, loopQ, forQ, whileQ]); first | (with_reducible refine retM_ret ?_) | refine retQ_ret ?_; simp [h, hw, hg])) | refine st_seq ?_ | refine st_block ?_ | ((with_reducible show (STri _ _ _ _ _) ∧ (STri _ _ _ _ _)); refine And.intro ?_ ?_) | ((first | refine st_reg ?_ | refine buildP_own ?_ | refine appP_own ?_) <;> (simp -dsimp [h, hw, hg]; (repeat (simp -dsimp (disch := (first | omega | assumption | (refine Bool.eq_false_iff.1 ?_; assumption))) only [wrap_in, if_pos, if_neg]; (try simp -dsimp [h, hw, hg]))))) | ((first | refine guardP_of (fun hc => ?_) (fun hc => ?_) | refine st_cond rfl (fun hc => ?_) (fun hc => ?_)) <;> (try simp only [lqA, lqB, lqC, lqD, lqE, lqF, lqG, lqH, lqI, lqJ, lqK, lqL, lqM, lqN, lqO] at hc) <;> (try (exfalso; first | omega | exact bool_tf hc (by assumption) | exact bool_ft hc (by assumption) | exact absurd (by assumption) hc)) <;> (first | with_reducible show STri _ _ _ _ _ _ | (simp -dsimp [h, hw, hg, hc]; (repeat (simp -dsimp (disch := (first | omega | assumption | (refine Bool.eq_false_iff.1 ?_; assumption))) only [wrap_in, if_pos, if_neg]; (try simp -dsimp [h, hw, hg, hc]))))))))
    all_goals (refine CLe.int ?_; omega)
theorem sLen (x : Nat) (hx : x < 1024) : SC Tryz.prog 78 [U x] (I (lenN x)) := by
  refine law_math_bits_Len _ _ (by simp) ?_
  (repeat' (first | ((first | with_reducible refine st_skip ?_ | with_reducible refine st_exit ?_); (try simp only [seqQ, blockQ, loopQ, forQ, whileQ, reduceIte, Nat.reduceEqDiff])) | (with_reducible refine st_ret ?_; ((try simp only [seqQ, blockQ, loopQ, forQ, whileQ]); first | (with_reducible refine retM_ret ?_) | refine retQ_ret ?_; simp)) | refine st_seq ?_ | refine st_block ?_ | ((with_reducible show (STri _ _ _ _ _) ∧ (STri _ _ _ _ _)); refine And.intro ?_ ?_) | ((first | refine st_reg ?_ | refine buildP_own ?_ | refine appP_own ?_ | refine callP_b (sLen64 x hx) rfl ?_) <;> (simp -dsimp; (repeat (simp -dsimp (disch := (first | omega | assumption | (refine Bool.eq_false_iff.1 ?_; assumption))) only [wrap_in, if_pos, if_neg]; (try simp -dsimp))))) | ((first | refine guardP_of (fun hc => ?_) (fun hc => ?_) | refine st_cond rfl (fun hc => ?_) (fun hc => ?_)) <;> (try simp only [lqA, lqB, lqC, lqD, lqE, lqF, lqG, lqH, lqI, lqJ, lqK, lqL, lqM, lqN, lqO] at hc) <;> (try (exfalso; first | omega | exact bool_tf hc (by assumption) | exact bool_ft hc (by assumption) | exact absurd (by assumption) hc)) <;> (first | with_reducible show STri _ _ _ _ _ _ | (simp -dsimp [hc]; (repeat (simp -dsimp (disch := (first | omega | assumption | (refine Bool.eq_false_iff.1 ?_; assumption))) only [wrap_in, if_pos, if_neg]; (try simp -dsimp [hc]))))))))
  all_goals exact .refl _
end Go.Proofs.YtboifcengmgcaaaGreat
/- Zone, IV: the instants of a minute, where it comes once at most. -/
namespace Go.Proofs.YtboifcengmgcaaaGreat
open Go.RowKit
theorem sEraMinute (x : Era) (hx : EraSm x) (t : Int) (h3 : -10000000000 ≤ t) (h4 : t ≤ 10000000000) : SC Tryz.prog 81 [cEra x, I t] (I ((t + x.off) / 60)) := by
  refine law_zone_era_minute _ _ (by simp) ?_
  have o0 := hx.o0
  have o1 := hx.o1
  have ss := sEraSays x t (by omega) (by omega) h3 h4
  have d1 := sDownZ (t + x.off) 60 (by omega) (by omega) (by omega) (by omega)
  (repeat' (first | ((first | with_reducible refine st_skip ?_ | with_reducible refine st_exit ?_); (try simp only [seqQ, blockQ, loopQ, forQ, whileQ, reduceIte, Nat.reduceEqDiff])) | (with_reducible refine st_ret ?_; ((try simp only [seqQ, blockQ, loopQ, forQ, whileQ]); first | (with_reducible refine retM_ret ?_) | refine retQ_ret ?_; simp)) | refine st_seq ?_ | refine st_block ?_ | ((with_reducible show (STri _ _ _ _ _) ∧ (STri _ _ _ _ _)); refine And.intro ?_ ?_) | ((first | refine st_reg ?_ | refine buildP_own ?_ | refine appP_own ?_ | refine callP_b (ss) rfl ?_ | refine callP_b (d1) rfl ?_) <;> (simp -dsimp; (repeat (simp -dsimp (disch := (first | omega | assumption | (refine Bool.eq_false_iff.1 ?_; assumption))) only [wrap_in, if_pos, if_neg]; (try simp -dsimp))))) | ((first | refine guardP_of (fun hc => ?_) (fun hc => ?_) | refine st_cond rfl (fun hc => ?_) (fun hc => ?_)) <;> (try simp only [lqA, lqB, lqC, lqD, lqE, lqF, lqG, lqH, lqI, lqJ, lqK, lqL, lqM, lqN, lqO] at hc) <;> (try (exfalso; first | omega | exact bool_tf hc (by assumption) | exact bool_ft hc (by assumption) | exact absurd (by assumption) hc)) <;> (first | with_reducible show STri _ _ _ _ _ _ | (simp -dsimp [hc]; (repeat (simp -dsimp (disch := (first | omega | assumption | (refine Bool.eq_false_iff.1 ?_; assumption))) only [wrap_in, if_pos, if_neg]; (try simp -dsimp [hc]))))))))
  all_goals exact .refl _
theorem sMinutes (x : Era) (hx : EraSm x) : SC Tryz.prog 60 [cEra x] (.agg [I ((x.lo + x.off) / 60), I ((x.hi + x.off) / 60)]) := by
  refine law_zone_era_minutes _ _ (by simp) ?_
  have s1 := sEraMinute x hx x.lo hx.l0 hx.l1
  have s2 := sEraMinute x hx x.hi hx.h0 hx.h1
  (repeat' (first | ((first | with_reducible refine st_skip ?_ | with_reducible refine st_exit ?_); (try simp only [seqQ, blockQ, loopQ, forQ, whileQ, reduceIte, Nat.reduceEqDiff])) | (with_reducible refine st_ret ?_; ((try simp only [seqQ, blockQ, loopQ, forQ, whileQ]); first | (with_reducible refine retM_ret ?_) | refine retQ_ret ?_; simp)) | refine st_seq ?_ | refine st_block ?_ | ((with_reducible show (STri _ _ _ _ _) ∧ (STri _ _ _ _ _)); refine And.intro ?_ ?_) | ((first | refine st_reg ?_ | refine buildP_own ?_ | refine appP_own ?_ | refine callP_b (s1) rfl ?_ | refine callP_b (s2) rfl ?_) <;> (simp -dsimp; (repeat (simp -dsimp (disch := (first | omega | assumption | (refine Bool.eq_false_iff.1 ?_; assumption))) only [wrap_in, if_pos, if_neg]; (try simp -dsimp))))) | ((first | refine guardP_of (fun hc => ?_) (fun hc => ?_) | refine st_cond rfl (fun hc => ?_) (fun hc => ?_)) <;> (try simp only [lqA, lqB, lqC, lqD, lqE, lqF, lqG, lqH, lqI, lqJ, lqK, lqL, lqM, lqN, lqO] at hc) <;> (try (exfalso; first | omega | exact bool_tf hc (by assumption) | exact bool_ft hc (by assumption) | exact absurd (by assumption) hc)) <;> (first | with_reducible show STri _ _ _ _ _ _ | (simp -dsimp [hc]; (repeat (simp -dsimp (disch := (first | omega | assumption | (refine Bool.eq_false_iff.1 ?_; assumption))) only [wrap_in, if_pos, if_neg]; (try simp -dsimp [hc]))))))))
  all_goals exact .refl _
def instZ (x : Era) (m : Int) : Int × Int := (if x.lo < m * 60 - x.off then m * 60 - x.off else x.lo, if m * 60 - x.off + 59 < x.hi then m * 60 - x.off + 59 else x.hi)
theorem sInstants (x : Era) (hx : EraSm x) (m : Int) (h3 : -1000000000 ≤ m) (h4 : m ≤ 1000000000) : SC Tryz.prog 83 [cEra x, I m] (.agg [I (instZ x m).1, I (instZ x m).2]) := by
  refine law_zone_era_instants _ _ (by simp) ?_
  have o0 := hx.o0
  have o1 := hx.o1
  unfold instZ
  by_cases c1 : x.lo < m * 60 - x.off <;> by_cases c2 : m * 60 - x.off + 59 < x.hi
  · (repeat' (first | ((first | with_reducible refine st_skip ?_ | with_reducible refine st_exit ?_); (try simp only [seqQ, blockQ, loopQ, forQ, whileQ, reduceIte, Nat.reduceEqDiff])) | (with_reducible refine st_ret ?_; ((try simp only [seqQ, blockQ, loopQ, forQ, whileQ]); first | (with_reducible refine retM_ret ?_) | refine retQ_ret ?_; simp [c1, c2, maxF, minF])) | refine st_seq ?_ | refine st_block ?_ | ((with_reducible show (STri _ _ _ _ _) ∧ (STri _ _ _ _ _)); refine And.intro ?_ ?_) | ((first | refine st_reg ?_ | refine buildP_own ?_ | refine appP_own ?_) <;> (simp -dsimp [c1, c2, maxF, minF]; (repeat (simp -dsimp (disch := (first | omega | assumption | (refine Bool.eq_false_iff.1 ?_; assumption))) only [wrap_in, if_pos, if_neg]; (try simp -dsimp [c1, c2, maxF, minF]))))) | ((first | refine guardP_of (fun hc => ?_) (fun hc => ?_) | refine st_cond rfl (fun hc => ?_) (fun hc => ?_)) <;> (try simp only [lqA, lqB, lqC, lqD, lqE, lqF, lqG, lqH, lqI, lqJ, lqK, lqL, lqM, lqN, lqO] at hc) <;> (try (exfalso; first | omega | exact bool_tf hc (by assumption) | exact bool_ft hc (by assumption) | exact absurd (by assumption) hc)) <;> (first | with_reducible show STri _ _ _ _ _ _ | (simp -dsimp [c1, c2, maxF, minF, hc]; (repeat (simp -dsimp (disch := (first | omega | assumption | (refine Bool.eq_false_iff.1 ?_; assumption))) only [wrap_in, if_pos, if_neg]; (try simp -dsimp [c1, c2, maxF, minF, hc]))))))))
    all_goals (refine CLe.of_eq ?_; simp; try omega)
  · (repeat' (first | ((first | with_reducible refine st_skip ?_ | with_reducible refine st_exit ?_); (try simp only [seqQ, blockQ, loopQ, forQ, whileQ, reduceIte, Nat.reduceEqDiff])) | (with_reducible refine st_ret ?_; ((try simp only [seqQ, blockQ, loopQ, forQ, whileQ]); first | (with_reducible refine retM_ret ?_) | refine retQ_ret ?_; simp [c1, c2, maxF, minF])) | refine st_seq ?_ | refine st_block ?_ | ((with_reducible show (STri _ _ _ _ _) ∧ (STri _ _ _ _ _)); refine And.intro ?_ ?_) | ((first | refine st_reg ?_ | refine buildP_own ?_ | refine appP_own ?_) <;> (simp -dsimp [c1, c2, maxF, minF]; (repeat (simp -dsimp (disch := (first | omega | assumption | (refine Bool.eq_false_iff.1 ?_; assumption))) only [wrap_in, if_pos, if_neg]; (try simp -dsimp [c1, c2, maxF, minF]))))) | ((first | refine guardP_of (fun hc => ?_) (fun hc => ?_) | refine st_cond rfl (fun hc => ?_) (fun hc => ?_)) <;> (try simp only [lqA, lqB, lqC, lqD, lqE, lqF, lqG, lqH, lqI, lqJ, lqK, lqL, lqM, lqN, lqO] at hc) <;> (try (exfalso; first | omega | exact bool_tf hc (by assumption) | exact bool_ft hc (by assumption) | exact absurd (by assumption) hc)) <;> (first | with_reducible show STri _ _ _ _ _ _ | (simp -dsimp [c1, c2, maxF, minF, hc]; (repeat (simp -dsimp (disch := (first | omega | assumption | (refine Bool.eq_false_iff.1 ?_; assumption))) only [wrap_in, if_pos, if_neg]; (try simp -dsimp [c1, c2, maxF, minF, hc]))))))))
    all_goals (refine CLe.of_eq ?_; simp; try omega)
  · (repeat' (first | ((first | with_reducible refine st_skip ?_ | with_reducible refine st_exit ?_); (try simp only [seqQ, blockQ, loopQ, forQ, whileQ, reduceIte, Nat.reduceEqDiff])) | (with_reducible refine st_ret ?_; ((try simp only [seqQ, blockQ, loopQ, forQ, whileQ]); first | (with_reducible refine retM_ret ?_) | refine retQ_ret ?_; simp [c1, c2, maxF, minF])) | refine st_seq ?_ | refine st_block ?_ | ((with_reducible show (STri _ _ _ _ _) ∧ (STri _ _ _ _ _)); refine And.intro ?_ ?_) | ((first | refine st_reg ?_ | refine buildP_own ?_ | refine appP_own ?_) <;> (simp -dsimp [c1, c2, maxF, minF]; (repeat (simp -dsimp (disch := (first | omega | assumption | (refine Bool.eq_false_iff.1 ?_; assumption))) only [wrap_in, if_pos, if_neg]; (try simp -dsimp [c1, c2, maxF, minF]))))) | ((first | refine guardP_of (fun hc => ?_) (fun hc => ?_) | refine st_cond rfl (fun hc => ?_) (fun hc => ?_)) <;> (try simp only [lqA, lqB, lqC, lqD, lqE, lqF, lqG, lqH, lqI, lqJ, lqK, lqL, lqM, lqN, lqO] at hc) <;> (try (exfalso; first | omega | exact bool_tf hc (by assumption) | exact bool_ft hc (by assumption) | exact absurd (by assumption) hc)) <;> (first | with_reducible show STri _ _ _ _ _ _ | (simp -dsimp [c1, c2, maxF, minF, hc]; (repeat (simp -dsimp (disch := (first | omega | assumption | (refine Bool.eq_false_iff.1 ?_; assumption))) only [wrap_in, if_pos, if_neg]; (try simp -dsimp [c1, c2, maxF, minF, hc]))))))))
    all_goals (refine CLe.of_eq ?_; simp; try omega)
  · (repeat' (first | ((first | with_reducible refine st_skip ?_ | with_reducible refine st_exit ?_); (try simp only [seqQ, blockQ, loopQ, forQ, whileQ, reduceIte, Nat.reduceEqDiff])) | (with_reducible refine st_ret ?_; ((try simp only [seqQ, blockQ, loopQ, forQ, whileQ]); first | (with_reducible refine retM_ret ?_) | refine retQ_ret ?_; simp [c1, c2, maxF, minF])) | refine st_seq ?_ | refine st_block ?_ | ((with_reducible show (STri _ _ _ _ _) ∧ (STri _ _ _ _ _)); refine And.intro ?_ ?_) | ((first | refine st_reg ?_ | refine buildP_own ?_ | refine appP_own ?_) <;> (simp -dsimp [c1, c2, maxF, minF]; (repeat (simp -dsimp (disch := (first | omega | assumption | (refine Bool.eq_false_iff.1 ?_; assumption))) only [wrap_in, if_pos, if_neg]; (try simp -dsimp [c1, c2, maxF, minF]))))) | ((first | refine guardP_of (fun hc => ?_) (fun hc => ?_) | refine st_cond rfl (fun hc => ?_) (fun hc => ?_)) <;> (try simp only [lqA, lqB, lqC, lqD, lqE, lqF, lqG, lqH, lqI, lqJ, lqK, lqL, lqM, lqN, lqO] at hc) <;> (try (exfalso; first | omega | exact bool_tf hc (by assumption) | exact bool_ft hc (by assumption) | exact absurd (by assumption) hc)) <;> (first | with_reducible show STri _ _ _ _ _ _ | (simp -dsimp [c1, c2, maxF, minF, hc]; (repeat (simp -dsimp (disch := (first | omega | assumption | (refine Bool.eq_false_iff.1 ?_; assumption))) only [wrap_in, if_pos, if_neg]; (try simp -dsimp [c1, c2, maxF, minF, hc]))))))))
    all_goals (refine CLe.of_eq ?_; simp; try omega)
def slC (l : List (Int × Int)) : CV := .sl 2 (l.map rowC)
attribute [simp] slC
theorem sInsE (l : List (Int × Int)) (hl : l.length ≤ 1) (f : CV) : SC Tryz.prog 125 [slC l, I 0, I l.length, f] (.tup []) := by
  refine law_slices_insertionSortCmpFunc_api_Span _ _ (by simp) ?_
  (repeat' (first | ((first | with_reducible refine st_skip ?_ | with_reducible refine st_exit ?_); (try simp only [seqQ, blockQ, loopQ, forQ, whileQ, reduceIte, Nat.reduceEqDiff])) | (with_reducible refine st_ret ?_; ((try simp only [seqQ, blockQ, loopQ, forQ, whileQ]); first | (with_reducible refine retM_ret ?_) | refine retQ_ret ?_; simp)) | refine st_seq ?_ | refine st_block ?_ | ((with_reducible show (STri _ _ _ _ _) ∧ (STri _ _ _ _ _)); refine And.intro ?_ ?_) | ((first | refine st_reg ?_ | refine buildP_own ?_ | refine appP_own ?_) <;> (simp -dsimp; (repeat (simp -dsimp (disch := (first | omega | assumption | (refine Bool.eq_false_iff.1 ?_; assumption))) only [wrap_in, if_pos, if_neg]; (try simp -dsimp))))) | ((first | refine guardP_of (fun hc => ?_) (fun hc => ?_) | refine st_cond rfl (fun hc => ?_) (fun hc => ?_)) <;> (try simp only [lqA, lqB, lqC, lqD, lqE, lqF, lqG, lqH, lqI, lqJ, lqK, lqL, lqM, lqN, lqO] at hc) <;> (try (exfalso; first | omega | exact bool_tf hc (by assumption) | exact bool_ft hc (by assumption) | exact absurd (by assumption) hc)) <;> (first | with_reducible show STri _ _ _ _ _ _ | (simp -dsimp [hc]; (repeat (simp -dsimp (disch := (first | omega | assumption | (refine Bool.eq_false_iff.1 ?_; assumption))) only [wrap_in, if_pos, if_neg]; (try simp -dsimp [hc]))))))))
  refine st_for [] 0 (fun k T H => T = [(0, .c (.sl 2 (l.map rowC))), (1, .c (I 0)), (2, .c (I l.length)), (3, .c f), (8, .c (I 1))] ∧ H = []) (by simp) ⟨by simp, by simp⟩ ?_
  rintro k T H hk ⟨rfl, rfl⟩
  have h1 : ¬ (1 : Int) < l.length := by omega
  (repeat' (first | ((first | with_reducible refine st_skip ?_ | with_reducible refine st_exit ?_); (try simp only [seqQ, blockQ, loopQ, forQ, whileQ, reduceIte, Nat.reduceEqDiff])) | (with_reducible refine st_ret ?_; ((try simp only [seqQ, blockQ, loopQ, forQ, whileQ]); first | (with_reducible refine retM_ret ?_) | refine retQ_ret ?_; simp [h1])) | refine st_seq ?_ | refine st_block ?_ | ((with_reducible show (STri _ _ _ _ _) ∧ (STri _ _ _ _ _)); refine And.intro ?_ ?_) | ((first | refine st_reg ?_ | refine buildP_own ?_ | refine appP_own ?_) <;> (simp -dsimp [h1]; (repeat (simp -dsimp (disch := (first | omega | assumption | (refine Bool.eq_false_iff.1 ?_; assumption))) only [wrap_in, if_pos, if_neg]; (try simp -dsimp [h1]))))) | ((first | refine guardP_of (fun hc => ?_) (fun hc => ?_) | refine st_cond rfl (fun hc => ?_) (fun hc => ?_)) <;> (try simp only [lqA, lqB, lqC, lqD, lqE, lqF, lqG, lqH, lqI, lqJ, lqK, lqL, lqM, lqN, lqO] at hc) <;> (try (exfalso; first | omega | exact bool_tf hc (by assumption) | exact bool_ft hc (by assumption) | exact absurd (by assumption) hc)) <;> (first | with_reducible show STri _ _ _ _ _ _ | (simp -dsimp [h1, hc]; (repeat (simp -dsimp (disch := (first | omega | assumption | (refine Bool.eq_false_iff.1 ?_; assumption))) only [wrap_in, if_pos, if_neg]; (try simp -dsimp [h1, hc]))))))))
  all_goals first
    | exact .refl _
    | exact ⟨.inl rfl, [], rfl, .refl _⟩
theorem sPdqE (l : List (Int × Int)) (hl : l.length ≤ 1) (lim : Int) (f : CV) : SC Tryz.prog 115 [slC l, I 0, I l.length, I lim, f] (.tup []) := by
  refine law_slices_pdqsortCmpFunc_api_Span _ _ (by simp) ?_
  have hl2 : (l.length : Int) ≤ 12 := by omega
  (repeat' (first | ((first | with_reducible refine st_skip ?_ | with_reducible refine st_exit ?_); (try simp only [seqQ, blockQ, loopQ, forQ, whileQ, reduceIte, Nat.reduceEqDiff])) | (with_reducible refine st_ret ?_; ((try simp only [seqQ, blockQ, loopQ, forQ, whileQ]); first | (with_reducible refine retM_ret ?_) | refine retQ_ret ?_; simp)) | refine st_seq ?_ | refine st_block ?_ | ((with_reducible show (STri _ _ _ _ _) ∧ (STri _ _ _ _ _)); refine And.intro ?_ ?_) | ((first | refine st_reg ?_ | refine buildP_own ?_ | refine appP_own ?_) <;> (simp -dsimp; (repeat (simp -dsimp (disch := (first | omega | assumption | (refine Bool.eq_false_iff.1 ?_; assumption))) only [wrap_in, if_pos, if_neg]; (try simp -dsimp))))) | ((first | refine guardP_of (fun hc => ?_) (fun hc => ?_) | refine st_cond rfl (fun hc => ?_) (fun hc => ?_)) <;> (try simp only [lqA, lqB, lqC, lqD, lqE, lqF, lqG, lqH, lqI, lqJ, lqK, lqL, lqM, lqN, lqO] at hc) <;> (try (exfalso; first | omega | exact bool_tf hc (by assumption) | exact bool_ft hc (by assumption) | exact absurd (by assumption) hc)) <;> (first | with_reducible show STri _ _ _ _ _ _ | (simp -dsimp [hc]; (repeat (simp -dsimp (disch := (first | omega | assumption | (refine Bool.eq_false_iff.1 ?_; assumption))) only [wrap_in, if_pos, if_neg]; (try simp -dsimp [hc]))))))))
  refine st_for [] 1 (fun k T H => k = 0 ∧ T = [(0, .c (.sl 2 (l.map rowC))), (1, .c (I 0)), (2, .c (I l.length)), (3, .c (I lim)), (4, .c f), (10, .c (B true)), (11, .c (B true))] ∧ H = []) (by simp) ⟨rfl, by simp, by simp⟩ ?_
  rintro k T H hk ⟨rfl, rfl, rfl⟩
  have s := sInsE l hl f
  (repeat' (first | ((first | with_reducible refine st_skip ?_ | with_reducible refine st_exit ?_); (try simp only [seqQ, blockQ, loopQ, forQ, whileQ, reduceIte, Nat.reduceEqDiff])) | (with_reducible refine st_ret ?_; ((try simp only [seqQ, blockQ, loopQ, forQ, whileQ]); first | (with_reducible refine retM_ret ?_) | refine retQ_ret ?_; simp [hl2])) | refine st_seq ?_ | refine st_block ?_ | ((with_reducible show (STri _ _ _ _ _) ∧ (STri _ _ _ _ _)); refine And.intro ?_ ?_) | ((first | refine st_reg ?_ | refine buildP_own ?_ | refine appP_own ?_ | refine callP_b (s) rfl ?_) <;> (simp -dsimp [hl2]; (repeat (simp -dsimp (disch := (first | omega | assumption | (refine Bool.eq_false_iff.1 ?_; assumption))) only [wrap_in, if_pos, if_neg]; (try simp -dsimp [hl2]))))) | ((first | refine guardP_of (fun hc => ?_) (fun hc => ?_) | refine st_cond rfl (fun hc => ?_) (fun hc => ?_)) <;> (try simp only [lqA, lqB, lqC, lqD, lqE, lqF, lqG, lqH, lqI, lqJ, lqK, lqL, lqM, lqN, lqO] at hc) <;> (try (exfalso; first | omega | exact bool_tf hc (by assumption) | exact bool_ft hc (by assumption) | exact absurd (by assumption) hc)) <;> (first | with_reducible show STri _ _ _ _ _ _ | (simp -dsimp [hl2, hc]; (repeat (simp -dsimp (disch := (first | omega | assumption | (refine Bool.eq_false_iff.1 ?_; assumption))) only [wrap_in, if_pos, if_neg]; (try simp -dsimp [hl2, hc]))))))))
  all_goals first
    | exact .refl _
    | exact ⟨.inl rfl, [], rfl, .refl _⟩
theorem sSortE (l : List (Int × Int)) (hl : l.length ≤ 1) (f : CV) : SC Tryz.prog 84 [slC l, f] (.tup []) := by
  refine law_slices_SortFunc_zone_spans_api_Span _ _ (by simp) ?_
  have hu : IntKind.u64.wrap (l.length : Int) = l.length := by simp [IntKind.wrap, IntKind.bits, IntKind.signed]; omega
  have hb := sLen l.length (by omega)
  have hp := sPdqE l hl (lenN l.length) f
  (repeat' (first | ((first | with_reducible refine st_skip ?_ | with_reducible refine st_exit ?_); (try simp only [seqQ, blockQ, loopQ, forQ, whileQ, reduceIte, Nat.reduceEqDiff])) | (with_reducible refine st_ret ?_; ((try simp only [seqQ, blockQ, loopQ, forQ, whileQ]); first | (with_reducible refine retM_ret ?_) | refine retQ_ret ?_; simp [hu])) | refine st_seq ?_ | refine st_block ?_ | ((with_reducible show (STri _ _ _ _ _) ∧ (STri _ _ _ _ _)); refine And.intro ?_ ?_) | ((first | refine st_reg ?_ | refine buildP_own ?_ | refine appP_own ?_ | refine callP_b (hb) rfl ?_ | refine callP_b (hp) rfl ?_) <;> (simp -dsimp [hu]; (repeat (simp -dsimp (disch := (first | omega | assumption | (refine Bool.eq_false_iff.1 ?_; assumption))) only [wrap_in, if_pos, if_neg]; (try simp -dsimp [hu]))))) | ((first | refine guardP_of (fun hc => ?_) (fun hc => ?_) | refine st_cond rfl (fun hc => ?_) (fun hc => ?_)) <;> (try simp only [lqA, lqB, lqC, lqD, lqE, lqF, lqG, lqH, lqI, lqJ, lqK, lqL, lqM, lqN, lqO] at hc) <;> (try (exfalso; first | omega | exact bool_tf hc (by assumption) | exact bool_ft hc (by assumption) | exact absurd (by assumption) hc)) <;> (first | with_reducible show STri _ _ _ _ _ _ | (simp -dsimp [hu, hc]; (repeat (simp -dsimp (disch := (first | omega | assumption | (refine Bool.eq_false_iff.1 ?_; assumption))) only [wrap_in, if_pos, if_neg]; (try simp -dsimp [hu, hc]))))))))
  all_goals first
    | exact .refl _
    | exact ⟨.inl rfl, [], rfl, .refl _⟩
theorem sJoined (l : List (Int × Int)) (hl : l.length ≤ 1) : SC Tryz.prog 64 [slC l] (slC l) := by
  refine law_zone_spans_joined _ _ (by simp) ?_
  have hs := sSortE l hl (.fn 85 [] [])
  (repeat' (first | ((first | with_reducible refine st_skip ?_ | with_reducible refine st_exit ?_); (try simp only [seqQ, blockQ, loopQ, forQ, whileQ, reduceIte, Nat.reduceEqDiff])) | (with_reducible refine st_ret ?_; ((try simp only [seqQ, blockQ, loopQ, forQ, whileQ]); first | (with_reducible refine retM_ret ?_) | refine retQ_ret ?_; simp)) | refine st_seq ?_ | refine st_block ?_ | ((with_reducible show (STri _ _ _ _ _) ∧ (STri _ _ _ _ _)); refine And.intro ?_ ?_) | ((first | refine st_reg ?_ | refine buildP_own ?_ | refine appP_own ?_ | refine callP_b (hs) rfl ?_) <;> (simp -dsimp; (repeat (simp -dsimp (disch := (first | omega | assumption | (refine Bool.eq_false_iff.1 ?_; assumption))) only [wrap_in, if_pos, if_neg]; (try simp -dsimp))))) | ((first | refine guardP_of (fun hc => ?_) (fun hc => ?_) | refine st_cond rfl (fun hc => ?_) (fun hc => ?_)) <;> (try simp only [lqA, lqB, lqC, lqD, lqE, lqF, lqG, lqH, lqI, lqJ, lqK, lqL, lqM, lqN, lqO] at hc) <;> (try (exfalso; first | omega | exact bool_tf hc (by assumption) | exact bool_ft hc (by assumption) | exact absurd (by assumption) hc)) <;> (first | with_reducible show STri _ _ _ _ _ _ | (simp -dsimp [hc]; (repeat (simp -dsimp (disch := (first | omega | assumption | (refine Bool.eq_false_iff.1 ?_; assumption))) only [wrap_in, if_pos, if_neg]; (try simp -dsimp [hc]))))))))
  refine st_nil 2 200 24 2 rfl (by simp [newOK]) ?_
  refine st_less [(2, .own 200 0), (8, .c (.sl 2 (l.map rowC))), (9, .c (I l.length)), (10, .c (I 0))] [(200, .arr 24 2 [])] (by simp [Less, LessT, LessH, dropOK, dropK, SV.outD, Blk.outD]) ?_
  refine st_for [200] l.length (fun k T H => T = [(2, .own 200 k), (8, .c (.sl 2 (l.map rowC))), (9, .c (I l.length)), (10, .c (I k))] ∧ H = [(200, .arr 24 2 ((l.take k).map rowC))]) (by simp) ⟨by simp, by simp⟩ ?_
  rintro k T H hk ⟨rfl, rfl⟩
  by_cases hlt : k < l.length
  · have : k = 0 := by omega
    subst this
    have ht : l.take 1 = [l[0]] := by rw [List.take_succ_eq_append_getElem hlt]; rfl
    have ht2 : (l.map rowC).take 1 = [rowC l[0]] := by rw [← List.map_take, ht]; rfl
    (repeat' (first | ((first | with_reducible refine st_skip ?_ | with_reducible refine st_exit ?_); (try simp only [seqQ, blockQ, loopQ, forQ, whileQ, reduceIte, Nat.reduceEqDiff])) | (with_reducible refine st_ret ?_; ((try simp only [seqQ, blockQ, loopQ, forQ, whileQ]); first | (with_reducible refine retM_ret ?_) | refine retQ_ret ?_; simp [hlt])) | refine st_seq ?_ | refine st_block ?_ | ((with_reducible show (STri _ _ _ _ _) ∧ (STri _ _ _ _ _)); refine And.intro ?_ ?_) | ((first | refine st_reg ?_ | refine buildP_own ?_ | refine appP_own ?_) <;> (simp -dsimp [hlt]; (repeat (simp -dsimp (disch := (first | omega | assumption | (refine Bool.eq_false_iff.1 ?_; assumption))) only [wrap_in, if_pos, if_neg]; (try simp -dsimp [hlt]))))) | ((first | refine guardP_of (fun hc => ?_) (fun hc => ?_) | refine st_cond rfl (fun hc => ?_) (fun hc => ?_)) <;> (try simp only [lqA, lqB, lqC, lqD, lqE, lqF, lqG, lqH, lqI, lqJ, lqK, lqL, lqM, lqN, lqO] at hc) <;> (try (exfalso; first | omega | exact bool_tf hc (by assumption) | exact bool_ft hc (by assumption) | exact absurd (by assumption) hc)) <;> (first | with_reducible show STri _ _ _ _ _ _ | (simp -dsimp [hlt, hc]; (repeat (simp -dsimp (disch := (first | omega | assumption | (refine Bool.eq_false_iff.1 ?_; assumption))) only [wrap_in, if_pos, if_neg]; (try simp -dsimp [hlt, hc]))))))))
    exact ⟨hlt, by simp, by simp, by simp [ht2]⟩
  · have : k = l.length := by omega
    subst this
    (repeat' (first | ((first | with_reducible refine st_skip ?_ | with_reducible refine st_exit ?_); (try simp only [seqQ, blockQ, loopQ, forQ, whileQ, reduceIte, Nat.reduceEqDiff])) | (with_reducible refine st_ret ?_; ((try simp only [seqQ, blockQ, loopQ, forQ, whileQ]); first | (with_reducible refine retM_ret ?_) | refine retQ_ret ?_; simp [hlt])) | refine st_seq ?_ | refine st_block ?_ | ((with_reducible show (STri _ _ _ _ _) ∧ (STri _ _ _ _ _)); refine And.intro ?_ ?_) | ((first | refine st_reg ?_ | refine buildP_own ?_ | refine appP_own ?_) <;> (simp -dsimp [hlt]; (repeat (simp -dsimp (disch := (first | omega | assumption | (refine Bool.eq_false_iff.1 ?_; assumption))) only [wrap_in, if_pos, if_neg]; (try simp -dsimp [hlt]))))) | ((first | refine guardP_of (fun hc => ?_) (fun hc => ?_) | refine st_cond rfl (fun hc => ?_) (fun hc => ?_)) <;> (try simp only [lqA, lqB, lqC, lqD, lqE, lqF, lqG, lqH, lqI, lqJ, lqK, lqL, lqM, lqN, lqO] at hc) <;> (try (exfalso; first | omega | exact bool_tf hc (by assumption) | exact bool_ft hc (by assumption) | exact absurd (by assumption) hc)) <;> (first | with_reducible show STri _ _ _ _ _ _ | (simp -dsimp [hlt, hc]; (repeat (simp -dsimp (disch := (first | omega | assumption | (refine Bool.eq_false_iff.1 ?_; assumption))) only [wrap_in, if_pos, if_neg]; (try simp -dsimp [hlt, hc]))))))))
    all_goals first
      | exact .refl _
      | (simp; exact .refl _)
def minIn (x : Era) (m : Int) : Bool := inZ ((x.lo + x.off) / 60) ((x.hi + x.off) / 60) m
def meanS (m : Int) (acc : List (Int × Int)) (x : Era) : List (Int × Int) := if minIn x m = true then acc ++ [instZ x m] else acc
def meansK (z : Zt) (m : Int) (k : Nat) : List (Int × Int) := ((erasL z).take k).foldl (meanS m) []
def meansL (z : Zt) (m : Int) : List (Int × Int) := (erasL z).foldl (meanS m) []
theorem meansK_succ {z : Zt} {m : Int} {k : Nat} {x : Era} (h : (erasL z)[k]? = some x) : meansK z m (k + 1) = meanS m (meansK z m k) x := by
  obtain ⟨h1, h2⟩ := List.getElem?_eq_some_iff.1 h
  unfold meansK
  rw [List.take_succ_eq_append_getElem h1, List.foldl_append, h2]
  rfl
theorem meansK_all (z : Zt) (m : Int) : meansK z m (erasL z).length = meansL z m := by unfold meansK meansL; rw [List.take_length]
theorem meansK_len (z : Zt) (m : Int) : ∀ k, k ≤ (erasL z).length → (meansK z m k).length ≤ k
  | 0, _ => by simp [meansK]
  | k + 1, hk => by
    have hx := List.getElem?_eq_getElem (l := erasL z) (i := k) (by omega)
    have := meansK_len z m k (by omega)
    rw [meansK_succ hx]
    unfold meanS
    split
    · simp; omega
    · omega
theorem sMeans (z : Zt) (hz : ZtOk z) (m : Int) (h3 : -1000000000 ≤ m) (h4 : m ≤ 1000000000) (h : (meansL z m).length ≤ 1) : SC Tryz.prog 63 [cZt z, I m] (slC (meansL z m)) := by
  refine law_zone_town_means _ _ (by simp) ?_
  have hzl : (erasL z).length ≤ 13 := by have := hz.len; simp [erasL]; omega
  (repeat' (first | ((first | with_reducible refine st_skip ?_ | with_reducible refine st_exit ?_); (try simp only [seqQ, blockQ, loopQ, forQ, whileQ, reduceIte, Nat.reduceEqDiff])) | (with_reducible refine st_ret ?_; ((try simp only [seqQ, blockQ, loopQ, forQ, whileQ]); first | (with_reducible refine retM_ret ?_) | refine retQ_ret ?_; simp)) | refine st_seq ?_ | refine st_block ?_ | ((with_reducible show (STri _ _ _ _ _) ∧ (STri _ _ _ _ _)); refine And.intro ?_ ?_) | ((first | refine st_reg ?_ | refine buildP_own ?_ | refine appP_own ?_) <;> (simp -dsimp; (repeat (simp -dsimp (disch := (first | omega | assumption | (refine Bool.eq_false_iff.1 ?_; assumption))) only [wrap_in, if_pos, if_neg]; (try simp -dsimp))))) | ((first | refine guardP_of (fun hc => ?_) (fun hc => ?_) | refine st_cond rfl (fun hc => ?_) (fun hc => ?_)) <;> (try simp only [lqA, lqB, lqC, lqD, lqE, lqF, lqG, lqH, lqI, lqJ, lqK, lqL, lqM, lqN, lqO] at hc) <;> (try (exfalso; first | omega | exact bool_tf hc (by assumption) | exact bool_ft hc (by assumption) | exact absurd (by assumption) hc)) <;> (first | with_reducible show STri _ _ _ _ _ _ | (simp -dsimp [hc]; (repeat (simp -dsimp (disch := (first | omega | assumption | (refine Bool.eq_false_iff.1 ?_; assumption))) only [wrap_in, if_pos, if_neg]; (try simp -dsimp [hc]))))))))
  refine st_nilB 4 0 200 24 2 rfl (by simp) rfl (by simp [newOK]) ?_
  refine st_range (iEras z hz) [3, 4, 200] [] (fun k R => R = [(3, .box 3 [.c (I m)]), (4, .box 138 [.own 200 (meansK z m k).length]), (200, .arr 24 2 ((meansK z m k).map rowC))])
    rfl rfl rfl (by kernel_rfl) (by show (0 : Nat) + 1000 ≤ 1000; decide) (fun j hj => by cases hj) (fun row hrow => by obtain ⟨y, _, rfl⟩ := List.mem_map.1 hrow; rfl) (by simp) (by simp) (by simp [meansK]) ?_ ?_
  · rintro k row R rfl hrow Iv1 G1 hGG hin
    obtain ⟨x, hx, rfl⟩ : ∃ x, (erasL z)[k]? = some x ∧ row = rowEra x := by
      rw [List.getElem?_map, Option.map_eq_some_iff] at hrow
      obtain ⟨d, h1, h2⟩ := hrow
      exact ⟨d, h1, h2.symm⟩
    have hk := (List.getElem?_eq_some_iff.1 hx).1
    have hs := meansK_succ (m := m) hx
    have hln := meansK_len z m k (by omega)
    have hsm := era_sm hz (List.mem_of_getElem? hx)
    have sm := sMinutes x hsm
    have sw := sWithinZ ((x.lo + x.off) / 60) ((x.hi + x.off) / 60) [m] (by simp)
    rw [allIn_oneZ] at sw
    change SC _ _ _ (B (minIn x m)) at sw
    have si := sInstants x hsm m h3 h4
    unfold rowEra
    (repeat' (first | ((first | with_reducible refine st_skip ?_ | with_reducible refine st_exit ?_); (try simp only [seqQ, blockQ, loopQ, forQ, whileQ, reduceIte, Nat.reduceEqDiff])) | (with_reducible refine st_ret ?_; ((try simp only [seqQ, blockQ, loopQ, forQ, whileQ]); first | (with_reducible refine retM_ret ?_) | refine retQ_ret ?_; simp)) | refine st_seq ?_ | refine st_block ?_ | ((with_reducible show (STri _ _ _ _ _) ∧ (STri _ _ _ _ _)); refine And.intro ?_ ?_) | ((first | refine st_reg ?_ | refine buildP_own ?_ | refine appP_own ?_) <;> (simp -dsimp; (repeat (simp -dsimp (disch := (first | omega | assumption | (refine Bool.eq_false_iff.1 ?_; assumption))) only [wrap_in, if_pos, if_neg]; (try simp -dsimp))))) | ((first | refine guardP_of (fun hc => ?_) (fun hc => ?_) | refine st_cond rfl (fun hc => ?_) (fun hc => ?_)) <;> (try simp only [lqA, lqB, lqC, lqD, lqE, lqF, lqG, lqH, lqI, lqJ, lqK, lqL, lqM, lqN, lqO] at hc) <;> (try (exfalso; first | omega | exact bool_tf hc (by assumption) | exact bool_ft hc (by assumption) | exact absurd (by assumption) hc)) <;> (first | with_reducible show STri _ _ _ _ _ _ | (simp -dsimp [hc]; (repeat (simp -dsimp (disch := (first | omega | assumption | (refine Bool.eq_false_iff.1 ?_; assumption))) only [wrap_in, if_pos, if_neg]; (try simp -dsimp [hc]))))))))
    refine ⟨rfl, fun Iv2 hin2 => ?_⟩
    show STri _ _ _ _ (rangeQ _ _ _ _ _ _ _)
    unfold meanS at hs
    have hA : (meansK z m k).length + 1 ≤ 9223372036854775807 := by omega
    have hB : ((meansK z m k).length + 1) * 16 ≤ 140737488355328 := by omega
    by_cases hc : minIn x m = true
    · rw [if_pos hc] at hs
      rw [hc] at sw
      (repeat' (first | ((first | with_reducible refine st_skip ?_ | with_reducible refine st_exit ?_); (try simp only [seqQ, blockQ, loopQ, forQ, whileQ, reduceIte, Nat.reduceEqDiff])) | (with_reducible refine st_ret ?_; ((try simp only [seqQ, blockQ, loopQ, forQ, whileQ]); first | (with_reducible refine retM_ret ?_) | refine retQ_ret ?_; simp [hA, hB])) | refine st_seq ?_ | refine st_block ?_ | ((with_reducible show (STri _ _ _ _ _) ∧ (STri _ _ _ _ _)); refine And.intro ?_ ?_) | ((first | refine st_reg ?_ | refine buildP_own ?_ | refine appP_own ?_ | refine callP_b (sm) rfl ?_ | refine callP_b (sw) rfl ?_ | refine callP_b (si) rfl ?_) <;> (simp -dsimp [hA, hB]; (repeat (simp -dsimp (disch := (first | omega | assumption | (refine Bool.eq_false_iff.1 ?_; assumption))) only [wrap_in, if_pos, if_neg]; (try simp -dsimp [hA, hB]))))) | ((first | refine guardP_of (fun hc => ?_) (fun hc => ?_) | refine st_cond rfl (fun hc => ?_) (fun hc => ?_)) <;> (try simp only [lqA, lqB, lqC, lqD, lqE, lqF, lqG, lqH, lqI, lqJ, lqK, lqL, lqM, lqN, lqO] at hc) <;> (try (exfalso; first | omega | exact bool_tf hc (by assumption) | exact bool_ft hc (by assumption) | exact absurd (by assumption) hc)) <;> (first | with_reducible show STri _ _ _ _ _ _ | (simp -dsimp [hA, hB, hc]; (repeat (simp -dsimp (disch := (first | omega | assumption | (refine Bool.eq_false_iff.1 ?_; assumption))) only [wrap_in, if_pos, if_neg]; (try simp -dsimp [hA, hB, hc]))))))))
      exact ⟨by simp, by simp, by simp [hs]⟩
    · rw [if_neg hc] at hs
      rw [Bool.not_eq_true] at hc
      rw [hc] at sw
      (repeat' (first | ((first | with_reducible refine st_skip ?_ | with_reducible refine st_exit ?_); (try simp only [seqQ, blockQ, loopQ, forQ, whileQ, reduceIte, Nat.reduceEqDiff])) | (with_reducible refine st_ret ?_; ((try simp only [seqQ, blockQ, loopQ, forQ, whileQ]); first | (with_reducible refine retM_ret ?_) | refine retQ_ret ?_; simp)) | refine st_seq ?_ | refine st_block ?_ | ((with_reducible show (STri _ _ _ _ _) ∧ (STri _ _ _ _ _)); refine And.intro ?_ ?_) | ((first | refine st_reg ?_ | refine buildP_own ?_ | refine appP_own ?_ | refine callP_b (sm) rfl ?_ | refine callP_b (sw) rfl ?_) <;> (simp -dsimp; (repeat (simp -dsimp (disch := (first | omega | assumption | (refine Bool.eq_false_iff.1 ?_; assumption))) only [wrap_in, if_pos, if_neg]; (try simp -dsimp))))) | ((first | refine guardP_of (fun hc => ?_) (fun hc => ?_) | refine st_cond rfl (fun hc => ?_) (fun hc => ?_)) <;> (try simp only [lqA, lqB, lqC, lqD, lqE, lqF, lqG, lqH, lqI, lqJ, lqK, lqL, lqM, lqN, lqO] at hc) <;> (try (exfalso; first | omega | exact bool_tf hc (by assumption) | exact bool_ft hc (by assumption) | exact absurd (by assumption) hc)) <;> (first | with_reducible show STri _ _ _ _ _ _ | (simp -dsimp [hc]; (repeat (simp -dsimp (disch := (first | omega | assumption | (refine Bool.eq_false_iff.1 ?_; assumption))) only [wrap_in, if_pos, if_neg]; (try simp -dsimp [hc]))))))))
      exact ⟨by simp, by simp, by simp [hs]⟩
  · rintro R rfl
    simp only [blockQ, seqQ]
    have e : meansK z m ((erasL z).map rowEra).length = meansL z m := by rw [List.length_map]; exact meansK_all z m
    rw [e]
    have sj := sJoined (meansL z m) h
    refine st_shut1 200 rfl (by simp [dropOK, dropK]) (by simp [ClosO, ownS, dropK, SV.outD]) (by simp [ShutH, ShutB, ownL, ownS, dropK, SV.outD, outDL, Blk.outD]) ?_
    simp
    (repeat' (first | ((first | with_reducible refine st_skip ?_ | with_reducible refine st_exit ?_); (try simp only [seqQ, blockQ, loopQ, forQ, whileQ, reduceIte, Nat.reduceEqDiff])) | (with_reducible refine st_ret ?_; ((try simp only [seqQ, blockQ, loopQ, forQ, whileQ]); first | (with_reducible refine retM_ret ?_) | refine retQ_ret ?_; simp)) | refine st_seq ?_ | refine st_block ?_ | ((with_reducible show (STri _ _ _ _ _) ∧ (STri _ _ _ _ _)); refine And.intro ?_ ?_) | ((first | refine st_reg ?_ | refine buildP_own ?_ | refine appP_own ?_ | refine callP_b (sj) rfl ?_) <;> (simp -dsimp; (repeat (simp -dsimp (disch := (first | omega | assumption | (refine Bool.eq_false_iff.1 ?_; assumption))) only [wrap_in, if_pos, if_neg]; (try simp -dsimp))))) | ((first | refine guardP_of (fun hc => ?_) (fun hc => ?_) | refine st_cond rfl (fun hc => ?_) (fun hc => ?_)) <;> (try simp only [lqA, lqB, lqC, lqD, lqE, lqF, lqG, lqH, lqI, lqJ, lqK, lqL, lqM, lqN, lqO] at hc) <;> (try (exfalso; first | omega | exact bool_tf hc (by assumption) | exact bool_ft hc (by assumption) | exact absurd (by assumption) hc)) <;> (first | with_reducible show STri _ _ _ _ _ _ | (simp -dsimp [hc]; (repeat (simp -dsimp (disch := (first | omega | assumption | (refine Bool.eq_false_iff.1 ?_; assumption))) only [wrap_in, if_pos, if_neg]; (try simp -dsimp [hc]))))))))
    all_goals exact .refl _
end Go.Proofs.YtboifcengmgcaaaGreat
/- Zone, V: the example of minutes that come twice, or never. -/
namespace Go.Proofs.YtboifcengmgcaaaGreat
open Go.RowKit
def IncI (l : List Int) : Prop := ∀ k (h : k + 1 < l.length), l[k]'(by omega) < l[k + 1]
theorem sNaN (x : Int) : SC Tryz.prog 105 [I x] (B false) := by
  refine law_cmp_isNaN_int _ _ (by simp) ?_
  (repeat' (first | ((first | with_reducible refine st_skip ?_ | with_reducible refine st_exit ?_); (try simp only [seqQ, blockQ, loopQ, forQ, whileQ, reduceIte, Nat.reduceEqDiff])) | (with_reducible refine st_ret ?_; ((try simp only [seqQ, blockQ, loopQ, forQ, whileQ]); first | (with_reducible refine retM_ret ?_) | refine retQ_ret ?_; simp)) | refine st_seq ?_ | refine st_block ?_ | ((with_reducible show (STri _ _ _ _ _) ∧ (STri _ _ _ _ _)); refine And.intro ?_ ?_) | ((first | refine st_reg ?_ | refine buildP_own ?_ | refine appP_own ?_) <;> (simp -dsimp; (repeat (simp -dsimp (disch := (first | omega | assumption | (refine Bool.eq_false_iff.1 ?_; assumption))) only [wrap_in, if_pos, if_neg]; (try simp -dsimp))))) | ((first | refine guardP_of (fun hc => ?_) (fun hc => ?_) | refine st_cond rfl (fun hc => ?_) (fun hc => ?_)) <;> (try simp only [lqA, lqB, lqC, lqD, lqE, lqF, lqG, lqH, lqI, lqJ, lqK, lqL, lqM, lqN, lqO] at hc) <;> (try (exfalso; first | omega | exact bool_tf hc (by assumption) | exact bool_ft hc (by assumption) | exact absurd (by assumption) hc)) <;> (first | with_reducible show STri _ _ _ _ _ _ | (simp -dsimp [hc]; (repeat (simp -dsimp (disch := (first | omega | assumption | (refine Bool.eq_false_iff.1 ?_; assumption))) only [wrap_in, if_pos, if_neg]; (try simp -dsimp [hc]))))))))
  all_goals (refine CLe.bool ?_; simp)
theorem sLess (x y : Int) : SC Tryz.prog 112 [I x, I y] (B (decide (x < y))) := by
  refine law_cmp_Less_int _ _ (by simp) ?_
  have a := sNaN x
  have b := sNaN y
  (repeat' (first | ((first | with_reducible refine st_skip ?_ | with_reducible refine st_exit ?_); (try simp only [seqQ, blockQ, loopQ, forQ, whileQ, reduceIte, Nat.reduceEqDiff])) | (with_reducible refine st_ret ?_; ((try simp only [seqQ, blockQ, loopQ, forQ, whileQ]); first | (with_reducible refine retM_ret ?_) | refine retQ_ret ?_; simp)) | refine st_seq ?_ | refine st_block ?_ | ((with_reducible show (STri _ _ _ _ _) ∧ (STri _ _ _ _ _)); refine And.intro ?_ ?_) | ((first | refine st_reg ?_ | refine buildP_own ?_ | refine appP_own ?_ | refine callP_b (a) rfl ?_ | refine callP_b (b) rfl ?_) <;> (simp -dsimp; (repeat (simp -dsimp (disch := (first | omega | assumption | (refine Bool.eq_false_iff.1 ?_; assumption))) only [wrap_in, if_pos, if_neg]; (try simp -dsimp))))) | ((first | refine guardP_of (fun hc => ?_) (fun hc => ?_) | refine st_cond rfl (fun hc => ?_) (fun hc => ?_)) <;> (try simp only [lqA, lqB, lqC, lqD, lqE, lqF, lqG, lqH, lqI, lqJ, lqK, lqL, lqM, lqN, lqO] at hc) <;> (try (exfalso; first | omega | exact bool_tf hc (by assumption) | exact bool_ft hc (by assumption) | exact absurd (by assumption) hc)) <;> (first | with_reducible show STri _ _ _ _ _ _ | (simp -dsimp [hc]; (repeat (simp -dsimp (disch := (first | omega | assumption | (refine Bool.eq_false_iff.1 ?_; assumption))) only [wrap_in, if_pos, if_neg]; (try simp -dsimp [hc]))))))))
  all_goals exact .refl _
theorem sInsI (l : List Int) (hl : l.length ≤ 12) (h1 : 1 ≤ l.length) (hi : IncI l) : SC Tryz.prog 106 [slI l, I 0, I l.length] (.tup []) := by
  refine law_slices_insertionSortOrdered_int _ _ (by simp) ?_
  (repeat' (first | ((first | with_reducible refine st_skip ?_ | with_reducible refine st_exit ?_); (try simp only [seqQ, blockQ, loopQ, forQ, whileQ, reduceIte, Nat.reduceEqDiff])) | (with_reducible refine st_ret ?_; ((try simp only [seqQ, blockQ, loopQ, forQ, whileQ]); first | (with_reducible refine retM_ret ?_) | refine retQ_ret ?_; simp)) | refine st_seq ?_ | refine st_block ?_ | ((with_reducible show (STri _ _ _ _ _) ∧ (STri _ _ _ _ _)); refine And.intro ?_ ?_) | ((first | refine st_reg ?_ | refine buildP_own ?_ | refine appP_own ?_) <;> (simp -dsimp; (repeat (simp -dsimp (disch := (first | omega | assumption | (refine Bool.eq_false_iff.1 ?_; assumption))) only [wrap_in, if_pos, if_neg]; (try simp -dsimp))))) | ((first | refine guardP_of (fun hc => ?_) (fun hc => ?_) | refine st_cond rfl (fun hc => ?_) (fun hc => ?_)) <;> (try simp only [lqA, lqB, lqC, lqD, lqE, lqF, lqG, lqH, lqI, lqJ, lqK, lqL, lqM, lqN, lqO] at hc) <;> (try (exfalso; first | omega | exact bool_tf hc (by assumption) | exact bool_ft hc (by assumption) | exact absurd (by assumption) hc)) <;> (first | with_reducible show STri _ _ _ _ _ _ | (simp -dsimp [hc]; (repeat (simp -dsimp (disch := (first | omega | assumption | (refine Bool.eq_false_iff.1 ?_; assumption))) only [wrap_in, if_pos, if_neg]; (try simp -dsimp [hc]))))))))
  refine st_for [] (l.length - 1) (fun k T H => T = [(0, .c (.sl 1 (l.map rowI))), (1, .c (I 0)), (2, .c (I l.length)), (6, .c (I (k + 1)))] ∧ H = []) (by simp) ⟨by simp, by simp⟩ ?_
  rintro k T H hk ⟨rfl, rfl⟩
  by_cases hlt : k + 1 < l.length
  · have hlt2 : (k : Int) + 1 < l.length := by omega
    have hq := hi k hlt
    have hs := sLess l[k + 1] (l[k]'(by omega))
    rw [show decide (l[k + 1] < l[k]'(by omega)) = false from by simp; omega] at hs
    have hk0 : k < l.length := by omega
    have t1 : ((k : Int) + 1).toNat = k + 1 := by omega
    have t2 : ((k : Int) + 1 - 1).toNat = k := by omega
    have p1 : (k : Int) + 1 > 0 := by omega
    have p2 : 0 ≤ (k : Int) + 1 - 1 := by omega
    (repeat' (first | ((first | with_reducible refine st_skip ?_ | with_reducible refine st_exit ?_); (try simp only [seqQ, blockQ, loopQ, forQ, whileQ, reduceIte, Nat.reduceEqDiff])) | (with_reducible refine st_ret ?_; ((try simp only [seqQ, blockQ, loopQ, forQ, whileQ]); first | (with_reducible refine retM_ret ?_) | refine retQ_ret ?_; simp [hlt2])) | refine st_seq ?_ | refine st_block ?_ | ((with_reducible show (STri _ _ _ _ _) ∧ (STri _ _ _ _ _)); refine And.intro ?_ ?_) | ((first | refine st_reg ?_ | refine buildP_own ?_ | refine appP_own ?_) <;> (simp -dsimp [hlt2]; (repeat (simp -dsimp (disch := (first | omega | assumption | (refine Bool.eq_false_iff.1 ?_; assumption))) only [wrap_in, if_pos, if_neg]; (try simp -dsimp [hlt2]))))) | ((first | refine guardP_of (fun hc => ?_) (fun hc => ?_) | refine st_cond rfl (fun hc => ?_) (fun hc => ?_)) <;> (try simp only [lqA, lqB, lqC, lqD, lqE, lqF, lqG, lqH, lqI, lqJ, lqK, lqL, lqM, lqN, lqO] at hc) <;> (try (exfalso; first | omega | exact bool_tf hc (by assumption) | exact bool_ft hc (by assumption) | exact absurd (by assumption) hc)) <;> (first | with_reducible show STri _ _ _ _ _ _ | (simp -dsimp [hlt2, hc]; (repeat (simp -dsimp (disch := (first | omega | assumption | (refine Bool.eq_false_iff.1 ?_; assumption))) only [wrap_in, if_pos, if_neg]; (try simp -dsimp [hlt2, hc]))))))))
    refine st_for [] 0 (fun j T H => T = [(0, .c (.sl 1 (l.map rowI))), (1, .c (I 0)), (2, .c (I l.length)), (6, .c (I (k + 1))), (7, .c (I (k + 1)))] ∧ H = []) (by simp) ⟨by simp, by simp⟩ ?_
    rintro j T H hj ⟨rfl, rfl⟩
    (repeat' (first | ((first | with_reducible refine st_skip ?_ | with_reducible refine st_exit ?_); (try simp only [seqQ, blockQ, loopQ, forQ, whileQ, reduceIte, Nat.reduceEqDiff])) | (with_reducible refine st_ret ?_; ((try simp only [seqQ, blockQ, loopQ, forQ, whileQ]); first | (with_reducible refine retM_ret ?_) | refine retQ_ret ?_; simp [hlt, hk0, t1, t2, p1, p2])) | refine st_seq ?_ | refine st_block ?_ | ((with_reducible show (STri _ _ _ _ _) ∧ (STri _ _ _ _ _)); refine And.intro ?_ ?_) | ((first | refine st_reg ?_ | refine buildP_own ?_ | refine appP_own ?_ | refine callP_b (hs) rfl ?_) <;> (simp -dsimp [hlt, hk0, t1, t2, p1, p2]; (repeat (simp -dsimp (disch := (first | omega | assumption | (refine Bool.eq_false_iff.1 ?_; assumption))) only [wrap_in, if_pos, if_neg]; (try simp -dsimp [hlt, hk0, t1, t2, p1, p2]))))) | ((first | refine guardP_of (fun hc => ?_) (fun hc => ?_) | refine st_cond rfl (fun hc => ?_) (fun hc => ?_)) <;> (try simp only [lqA, lqB, lqC, lqD, lqE, lqF, lqG, lqH, lqI, lqJ, lqK, lqL, lqM, lqN, lqO] at hc) <;> (try (exfalso; first | omega | exact bool_tf hc (by assumption) | exact bool_ft hc (by assumption) | exact absurd (by assumption) hc)) <;> (first | with_reducible show STri _ _ _ _ _ _ | (simp -dsimp [hlt, hk0, t1, t2, p1, p2, hc]; (repeat (simp -dsimp (disch := (first | omega | assumption | (refine Bool.eq_false_iff.1 ?_; assumption))) only [wrap_in, if_pos, if_neg]; (try simp -dsimp [hlt, hk0, t1, t2, p1, p2, hc]))))))))
    exact ⟨by omega, by simp, by simp, by simp⟩
  · have hlt2 : ¬ (k : Int) + 1 < l.length := by omega
    (repeat' (first | ((first | with_reducible refine st_skip ?_ | with_reducible refine st_exit ?_); (try simp only [seqQ, blockQ, loopQ, forQ, whileQ, reduceIte, Nat.reduceEqDiff])) | (with_reducible refine st_ret ?_; ((try simp only [seqQ, blockQ, loopQ, forQ, whileQ]); first | (with_reducible refine retM_ret ?_) | refine retQ_ret ?_; simp [hlt2])) | refine st_seq ?_ | refine st_block ?_ | ((with_reducible show (STri _ _ _ _ _) ∧ (STri _ _ _ _ _)); refine And.intro ?_ ?_) | ((first | refine st_reg ?_ | refine buildP_own ?_ | refine appP_own ?_) <;> (simp -dsimp [hlt2]; (repeat (simp -dsimp (disch := (first | omega | assumption | (refine Bool.eq_false_iff.1 ?_; assumption))) only [wrap_in, if_pos, if_neg]; (try simp -dsimp [hlt2]))))) | ((first | refine guardP_of (fun hc => ?_) (fun hc => ?_) | refine st_cond rfl (fun hc => ?_) (fun hc => ?_)) <;> (try simp only [lqA, lqB, lqC, lqD, lqE, lqF, lqG, lqH, lqI, lqJ, lqK, lqL, lqM, lqN, lqO] at hc) <;> (try (exfalso; first | omega | exact bool_tf hc (by assumption) | exact bool_ft hc (by assumption) | exact absurd (by assumption) hc)) <;> (first | with_reducible show STri _ _ _ _ _ _ | (simp -dsimp [hlt2, hc]; (repeat (simp -dsimp (disch := (first | omega | assumption | (refine Bool.eq_false_iff.1 ?_; assumption))) only [wrap_in, if_pos, if_neg]; (try simp -dsimp [hlt2, hc]))))))))
    all_goals first
      | exact .refl _
      | exact ⟨.inl rfl, [], rfl, .refl _⟩
theorem sPdqI (l : List Int) (hl : l.length ≤ 12) (h1 : 1 ≤ l.length) (hi : IncI l) (lim : Int) : SC Tryz.prog 82 [slI l, I 0, I l.length, I lim] (.tup []) := by
  refine law_slices_pdqsortOrdered_int _ _ (by simp) ?_
  have hl2 : (l.length : Int) ≤ 12 := by omega
  (repeat' (first | ((first | with_reducible refine st_skip ?_ | with_reducible refine st_exit ?_); (try simp only [seqQ, blockQ, loopQ, forQ, whileQ, reduceIte, Nat.reduceEqDiff])) | (with_reducible refine st_ret ?_; ((try simp only [seqQ, blockQ, loopQ, forQ, whileQ]); first | (with_reducible refine retM_ret ?_) | refine retQ_ret ?_; simp)) | refine st_seq ?_ | refine st_block ?_ | ((with_reducible show (STri _ _ _ _ _) ∧ (STri _ _ _ _ _)); refine And.intro ?_ ?_) | ((first | refine st_reg ?_ | refine buildP_own ?_ | refine appP_own ?_) <;> (simp -dsimp; (repeat (simp -dsimp (disch := (first | omega | assumption | (refine Bool.eq_false_iff.1 ?_; assumption))) only [wrap_in, if_pos, if_neg]; (try simp -dsimp))))) | ((first | refine guardP_of (fun hc => ?_) (fun hc => ?_) | refine st_cond rfl (fun hc => ?_) (fun hc => ?_)) <;> (try simp only [lqA, lqB, lqC, lqD, lqE, lqF, lqG, lqH, lqI, lqJ, lqK, lqL, lqM, lqN, lqO] at hc) <;> (try (exfalso; first | omega | exact bool_tf hc (by assumption) | exact bool_ft hc (by assumption) | exact absurd (by assumption) hc)) <;> (first | with_reducible show STri _ _ _ _ _ _ | (simp -dsimp [hc]; (repeat (simp -dsimp (disch := (first | omega | assumption | (refine Bool.eq_false_iff.1 ?_; assumption))) only [wrap_in, if_pos, if_neg]; (try simp -dsimp [hc]))))))))
  refine st_for [] 1 (fun k T H => k = 0 ∧ T = [(0, .c (.sl 1 (l.map rowI))), (1, .c (I 0)), (2, .c (I l.length)), (3, .c (I lim)), (8, .c (B true)), (9, .c (B true))] ∧ H = []) (by simp) ⟨rfl, by simp, by simp⟩ ?_
  rintro k T H hk ⟨rfl, rfl, rfl⟩
  have s := sInsI l hl h1 hi
  (repeat' (first | ((first | with_reducible refine st_skip ?_ | with_reducible refine st_exit ?_); (try simp only [seqQ, blockQ, loopQ, forQ, whileQ, reduceIte, Nat.reduceEqDiff])) | (with_reducible refine st_ret ?_; ((try simp only [seqQ, blockQ, loopQ, forQ, whileQ]); first | (with_reducible refine retM_ret ?_) | refine retQ_ret ?_; simp [hl2])) | refine st_seq ?_ | refine st_block ?_ | ((with_reducible show (STri _ _ _ _ _) ∧ (STri _ _ _ _ _)); refine And.intro ?_ ?_) | ((first | refine st_reg ?_ | refine buildP_own ?_ | refine appP_own ?_ | refine callP_b (s) rfl ?_) <;> (simp -dsimp [hl2]; (repeat (simp -dsimp (disch := (first | omega | assumption | (refine Bool.eq_false_iff.1 ?_; assumption))) only [wrap_in, if_pos, if_neg]; (try simp -dsimp [hl2]))))) | ((first | refine guardP_of (fun hc => ?_) (fun hc => ?_) | refine st_cond rfl (fun hc => ?_) (fun hc => ?_)) <;> (try simp only [lqA, lqB, lqC, lqD, lqE, lqF, lqG, lqH, lqI, lqJ, lqK, lqL, lqM, lqN, lqO] at hc) <;> (try (exfalso; first | omega | exact bool_tf hc (by assumption) | exact bool_ft hc (by assumption) | exact absurd (by assumption) hc)) <;> (first | with_reducible show STri _ _ _ _ _ _ | (simp -dsimp [hl2, hc]; (repeat (simp -dsimp (disch := (first | omega | assumption | (refine Bool.eq_false_iff.1 ?_; assumption))) only [wrap_in, if_pos, if_neg]; (try simp -dsimp [hl2, hc]))))))))
  all_goals first
    | exact .refl _
    | exact ⟨.inl rfl, [], rfl, .refl _⟩
theorem sSortI (l : List Int) (hl : l.length ≤ 12) (h1 : 1 ≤ l.length) (hi : IncI l) : SC Tryz.prog 61 [slI l] (.tup []) := by
  refine law_slices_Sort_int_int _ _ (by simp) ?_
  have hu : IntKind.u64.wrap (l.length : Int) = l.length := by simp [IntKind.wrap, IntKind.bits, IntKind.signed]; omega
  have hb := sLen l.length (by omega)
  have hp := sPdqI l hl h1 hi (lenN l.length)
  (repeat' (first | ((first | with_reducible refine st_skip ?_ | with_reducible refine st_exit ?_); (try simp only [seqQ, blockQ, loopQ, forQ, whileQ, reduceIte, Nat.reduceEqDiff])) | (with_reducible refine st_ret ?_; ((try simp only [seqQ, blockQ, loopQ, forQ, whileQ]); first | (with_reducible refine retM_ret ?_) | refine retQ_ret ?_; simp [hu])) | refine st_seq ?_ | refine st_block ?_ | ((with_reducible show (STri _ _ _ _ _) ∧ (STri _ _ _ _ _)); refine And.intro ?_ ?_) | ((first | refine st_reg ?_ | refine buildP_own ?_ | refine appP_own ?_ | refine callP_b (hb) rfl ?_ | refine callP_b (hp) rfl ?_) <;> (simp -dsimp [hu]; (repeat (simp -dsimp (disch := (first | omega | assumption | (refine Bool.eq_false_iff.1 ?_; assumption))) only [wrap_in, if_pos, if_neg]; (try simp -dsimp [hu]))))) | ((first | refine guardP_of (fun hc => ?_) (fun hc => ?_) | refine st_cond rfl (fun hc => ?_) (fun hc => ?_)) <;> (try simp only [lqA, lqB, lqC, lqD, lqE, lqF, lqG, lqH, lqI, lqJ, lqK, lqL, lqM, lqN, lqO] at hc) <;> (try (exfalso; first | omega | exact bool_tf hc (by assumption) | exact bool_ft hc (by assumption) | exact absurd (by assumption) hc)) <;> (first | with_reducible show STri _ _ _ _ _ _ | (simp -dsimp [hu, hc]; (repeat (simp -dsimp (disch := (first | omega | assumption | (refine Bool.eq_false_iff.1 ?_; assumption))) only [wrap_in, if_pos, if_neg]; (try simp -dsimp [hu, hc]))))))))
  all_goals first
    | exact .refl _
    | exact ⟨.inl rfl, [], rfl, .refl _⟩
theorem sCompact (l : List Int) (h1 : 2 ≤ l.length) (hl : l.length ≤ 1000000) (hi : IncI l) : SC Tryz.prog 62 [slI l] (slI l) := by
  refine law_slices_Compact_int_int _ _ (by simp) ?_
  have h2 : ¬ (l.length : Int) < 2 := by omega
  (repeat' (first | ((first | with_reducible refine st_skip ?_ | with_reducible refine st_exit ?_); (try simp only [seqQ, blockQ, loopQ, forQ, whileQ, reduceIte, Nat.reduceEqDiff])) | (with_reducible refine st_ret ?_; ((try simp only [seqQ, blockQ, loopQ, forQ, whileQ]); first | (with_reducible refine retM_ret ?_) | refine retQ_ret ?_; simp [h2])) | refine st_seq ?_ | refine st_block ?_ | ((with_reducible show (STri _ _ _ _ _) ∧ (STri _ _ _ _ _)); refine And.intro ?_ ?_) | ((first | refine st_reg ?_ | refine buildP_own ?_ | refine appP_own ?_) <;> (simp -dsimp [h2]; (repeat (simp -dsimp (disch := (first | omega | assumption | (refine Bool.eq_false_iff.1 ?_; assumption))) only [wrap_in, if_pos, if_neg]; (try simp -dsimp [h2]))))) | ((first | refine guardP_of (fun hc => ?_) (fun hc => ?_) | refine st_cond rfl (fun hc => ?_) (fun hc => ?_)) <;> (try simp only [lqA, lqB, lqC, lqD, lqE, lqF, lqG, lqH, lqI, lqJ, lqK, lqL, lqM, lqN, lqO] at hc) <;> (try (exfalso; first | omega | exact bool_tf hc (by assumption) | exact bool_ft hc (by assumption) | exact absurd (by assumption) hc)) <;> (first | with_reducible show STri _ _ _ _ _ _ | (simp -dsimp [h2, hc]; (repeat (simp -dsimp (disch := (first | omega | assumption | (refine Bool.eq_false_iff.1 ?_; assumption))) only [wrap_in, if_pos, if_neg]; (try simp -dsimp [h2, hc]))))))))
  refine st_for [] (l.length - 1) (fun k T H => T = [(0, .c (.sl 1 (l.map rowI))), (3, .c (I (k + 1)))] ∧ H = []) (by simp) ⟨by simp, by simp⟩ ?_
  rintro k T H hk ⟨rfl, rfl⟩
  by_cases hlt : k + 1 < l.length
  · have hlt2 : (k : Int) + 1 < l.length := by omega
    have hq := hi k hlt
    have hne : ¬ l[k + 1] = l[k]'(by omega) := by omega
    have hk0 : k < l.length := by omega
    have t1 : ((k : Int) + 1).toNat = k + 1 := by omega
    have t2 : ((k : Int) + 1 - 1).toNat = k := by omega
    have p1 : 0 ≤ (k : Int) + 1 := by omega
    have p2 : 0 ≤ (k : Int) + 1 - 1 := by omega
    (repeat' (first | ((first | with_reducible refine st_skip ?_ | with_reducible refine st_exit ?_); (try simp only [seqQ, blockQ, loopQ, forQ, whileQ, reduceIte, Nat.reduceEqDiff])) | (with_reducible refine st_ret ?_; ((try simp only [seqQ, blockQ, loopQ, forQ, whileQ]); first | (with_reducible refine retM_ret ?_) | refine retQ_ret ?_; simp [hlt2, hlt, hk0, t1, t2, p1, p2, hne])) | refine st_seq ?_ | refine st_block ?_ | ((with_reducible show (STri _ _ _ _ _) ∧ (STri _ _ _ _ _)); refine And.intro ?_ ?_) | ((first | refine st_reg ?_ | refine buildP_own ?_ | refine appP_own ?_) <;> (simp -dsimp [hlt2, hlt, hk0, t1, t2, p1, p2, hne]; (repeat (simp -dsimp (disch := (first | omega | assumption | (refine Bool.eq_false_iff.1 ?_; assumption))) only [wrap_in, if_pos, if_neg]; (try simp -dsimp [hlt2, hlt, hk0, t1, t2, p1, p2, hne]))))) | ((first | refine guardP_of (fun hc => ?_) (fun hc => ?_) | refine st_cond rfl (fun hc => ?_) (fun hc => ?_)) <;> (try simp only [lqA, lqB, lqC, lqD, lqE, lqF, lqG, lqH, lqI, lqJ, lqK, lqL, lqM, lqN, lqO] at hc) <;> (try (exfalso; first | omega | exact bool_tf hc (by assumption) | exact bool_ft hc (by assumption) | exact absurd (by assumption) hc)) <;> (first | with_reducible show STri _ _ _ _ _ _ | (simp -dsimp [hlt2, hlt, hk0, t1, t2, p1, p2, hne, hc]; (repeat (simp -dsimp (disch := (first | omega | assumption | (refine Bool.eq_false_iff.1 ?_; assumption))) only [wrap_in, if_pos, if_neg]; (try simp -dsimp [hlt2, hlt, hk0, t1, t2, p1, p2, hne, hc]))))))))
    exact ⟨by omega, by simp, by simp, by simp⟩
  · have hlt2 : ¬ (k : Int) + 1 < l.length := by omega
    (repeat' (first | ((first | with_reducible refine st_skip ?_ | with_reducible refine st_exit ?_); (try simp only [seqQ, blockQ, loopQ, forQ, whileQ, reduceIte, Nat.reduceEqDiff])) | (with_reducible refine st_ret ?_; ((try simp only [seqQ, blockQ, loopQ, forQ, whileQ]); first | (with_reducible refine retM_ret ?_) | refine retQ_ret ?_; simp [hlt2])) | refine st_seq ?_ | refine st_block ?_ | ((with_reducible show (STri _ _ _ _ _) ∧ (STri _ _ _ _ _)); refine And.intro ?_ ?_) | ((first | refine st_reg ?_ | refine buildP_own ?_ | refine appP_own ?_) <;> (simp -dsimp [hlt2]; (repeat (simp -dsimp (disch := (first | omega | assumption | (refine Bool.eq_false_iff.1 ?_; assumption))) only [wrap_in, if_pos, if_neg]; (try simp -dsimp [hlt2]))))) | ((first | refine guardP_of (fun hc => ?_) (fun hc => ?_) | refine st_cond rfl (fun hc => ?_) (fun hc => ?_)) <;> (try simp only [lqA, lqB, lqC, lqD, lqE, lqF, lqG, lqH, lqI, lqJ, lqK, lqL, lqM, lqN, lqO] at hc) <;> (try (exfalso; first | omega | exact bool_tf hc (by assumption) | exact bool_ft hc (by assumption) | exact absurd (by assumption) hc)) <;> (first | with_reducible show STri _ _ _ _ _ _ | (simp -dsimp [hlt2, hc]; (repeat (simp -dsimp (disch := (first | omega | assumption | (refine Bool.eq_false_iff.1 ?_; assumption))) only [wrap_in, if_pos, if_neg]; (try simp -dsimp [hlt2, hc]))))))))
    all_goals exact .refl _
def exZ : Zt := ⟨-300, [(36000, 0)]⟩
theorem exZ_ok : ZtOk exZ := ⟨by decide, by decide, fun k h => by
  have h : k < 1 := h
  have : k = 0 := by omega
  subst this
  simp [exZ, befZ]⟩
def endS (x : Era) : List Int := [(x.lo + x.off) / 60, (x.lo + x.off) / 60 + 1, (x.hi + x.off) / 60, (x.hi + x.off) / 60 + 1]
def endsK (z : Zt) (k : Nat) : List Int := ((erasL z).take k).flatMap endS
theorem endsK_succ {z : Zt} {k : Nat} {x : Era} (h : (erasL z)[k]? = some x) : endsK z (k + 1) = endsK z k ++ endS x := by
  obtain ⟨h1, h2⟩ := List.getElem?_eq_some_iff.1 h
  unfold endsK
  rw [List.take_succ_eq_append_getElem h1, List.flatMap_append, h2]
  simp
theorem endsK_len (z : Zt) : ∀ k, k ≤ (erasL z).length → (endsK z k).length = 4 * k
  | 0, _ => by simp [endsK]
  | k + 1, hk => by
    have hx := List.getElem?_eq_getElem (l := erasL z) (i := k) (by omega)
    have := endsK_len z k (by omega)
    rw [endsK_succ hx]
    simp [endS]; omega
def exE : List Int := [-5, -4, 594, 595, 600, 601, 52596000, 52596001]
theorem exE_is : endsK exZ (erasL exZ).length = exE := by decide +kernel
theorem exE_inc : IncI exE := fun k h => by
  have h : k + 1 < 8 := h
  have : k = 0 ∨ k = 1 ∨ k = 2 ∨ k = 3 ∨ k = 4 ∨ k = 5 ∨ k = 6 := by omega
  rcases this with h | h | h | h | h | h | h <;> subst h <;> simp [exE]
def exM (k : Nat) : Nat := (meansL exZ (exE.getD k 0)).length
theorem exM_is : exM 0 = 1 ∧ exM 1 = 1 ∧ exM 2 = 1 ∧ exM 3 = 0 ∧ exM 4 = 1 ∧ exM 5 = 1 ∧ exM 6 = 1 := by decide +kernel
theorem exM_le {k : Nat} (h : k < 7) : exM k ≤ 1 := by
  obtain ⟨h0, h1, h2, h3, h4, h5, h6⟩ := exM_is
  have : k = 0 ∨ k = 1 ∨ k = 2 ∨ k = 3 ∨ k = 4 ∨ k = 5 ∨ k = 6 := by omega
  rcases this with h | h | h | h | h | h | h <;> subst h <;> omega
def noneK (k : Nat) : List (Int × Int) := ((List.range k).filter fun i => decide (exM i = 0)).map fun i => (exE.getD i 0, exE.getD (i + 1) 0 - 1)
theorem noneK_succ (k : Nat) : noneK (k + 1) = if exM k = 0 then noneK k ++ [(exE.getD k 0, exE.getD (k + 1) 0 - 1)] else noneK k := by
  unfold noneK
  rw [List.range_succ, List.filter_append, List.map_append]
  by_cases h : exM k = 0 <;> simp [h]
theorem noneK_len (k : Nat) : (noneK k).length ≤ k := by
  unfold noneK
  rw [List.length_map]
  exact Nat.le_trans (List.length_filter_le _ _) (by simp)
theorem noneK_all : noneK 7 = [(595, 599)] := by decide +kernel
theorem exE_bd {k : Nat} (h : k < 8) : -100 ≤ exE.getD k 0 ∧ exE.getD k 0 ≤ 60000000 := by
  have : k = 0 ∨ k = 1 ∨ k = 2 ∨ k = 3 ∨ k = 4 ∨ k = 5 ∨ k = 6 ∨ k = 7 := by omega
  rcases this with h | h | h | h | h | h | h | h <;> subst h <;> simp [exE]
set_option maxRecDepth 100000 in
set_option maxHeartbeats 1000000 in
theorem sOddEx : SC Tryz.prog 35 [cZt exZ] (.tup [slC [], slC [(595, 599)], I 0]) := by
  refine law_zone_Odd _ _ (by simp) ?_
  have hz := exZ_ok
  have sc := sCheckZ exZ hz
  have hzl : (erasL exZ).length = 2 := by decide
  have hsI := sSortI exE (by decide) (by decide) exE_inc
  have hsC := sCompact exE (by decide) (by decide) exE_inc
  (repeat' (first | ((first | with_reducible refine st_skip ?_ | with_reducible refine st_exit ?_); (try simp only [seqQ, blockQ, loopQ, forQ, whileQ, reduceIte, Nat.reduceEqDiff])) | (with_reducible refine st_ret ?_; ((try simp only [seqQ, blockQ, loopQ, forQ, whileQ]); first | (with_reducible refine retM_ret ?_) | refine retQ_ret ?_; simp)) | refine st_seq ?_ | refine st_block ?_ | ((with_reducible show (STri _ _ _ _ _) ∧ (STri _ _ _ _ _)); refine And.intro ?_ ?_) | ((first | refine st_reg ?_ | refine buildP_own ?_ | refine appP_own ?_ | refine callP_b (sc) rfl ?_) <;> (simp -dsimp; (repeat (simp -dsimp (disch := (first | omega | assumption | (refine Bool.eq_false_iff.1 ?_; assumption))) only [wrap_in, if_pos, if_neg]; (try simp -dsimp))))) | ((first | refine guardP_of (fun hc => ?_) (fun hc => ?_) | refine st_cond rfl (fun hc => ?_) (fun hc => ?_)) <;> (try simp only [lqA, lqB, lqC, lqD, lqE, lqF, lqG, lqH, lqI, lqJ, lqK, lqL, lqM, lqN, lqO] at hc) <;> (try (exfalso; first | omega | exact bool_tf hc (by assumption) | exact bool_ft hc (by assumption) | exact absurd (by assumption) hc)) <;> (first | with_reducible show STri _ _ _ _ _ _ | (simp -dsimp [hc]; (repeat (simp -dsimp (disch := (first | omega | assumption | (refine Bool.eq_false_iff.1 ?_; assumption))) only [wrap_in, if_pos, if_neg]; (try simp -dsimp [hc]))))))))
  refine st_nilB 7 0 200 3 1 rfl (by simp) rfl (by simp [newOK]) ?_
  refine st_range (iEras exZ hz) [6, 7, 200] [] (fun k R => R = [(6, .box 93 [.c (I exZ.off), .c (.sl 2 (exZ.ch.map rowC))]), (7, .box 38 [.own 200 (endsK exZ k).length]), (200, .arr 3 1 ((endsK exZ k).map rowI))])
    rfl rfl rfl (by kernel_rfl) (by show (0 : Nat) + 1000 ≤ 1000; decide) (fun j hj => by cases hj) (fun row hrow => by obtain ⟨y, _, rfl⟩ := List.mem_map.1 hrow; rfl) (by simp) (by simp) (by simp [endsK]) ?_ ?_
  · rintro k row R rfl hrow Iv1 G1 hGG hin
    obtain ⟨x, hx, rfl⟩ : ∃ x, (erasL exZ)[k]? = some x ∧ row = rowEra x := by
      rw [List.getElem?_map, Option.map_eq_some_iff] at hrow
      obtain ⟨d, h1, h2⟩ := hrow
      exact ⟨d, h1, h2.symm⟩
    have hk := (List.getElem?_eq_some_iff.1 hx).1
    have hs := endsK_succ hx
    have hln := endsK_len exZ k (by omega)
    have hsm := era_sm hz (List.mem_of_getElem? hx)
    have sm := sMinutes x hsm
    have o0 := hsm.o0
    have o1 := hsm.o1
    have l0 := hsm.l0
    have l1 := hsm.l1
    have h0 := hsm.h0
    have h1 := hsm.h1
    unfold rowEra
    (repeat' (first | ((first | with_reducible refine st_skip ?_ | with_reducible refine st_exit ?_); (try simp only [seqQ, blockQ, loopQ, forQ, whileQ, reduceIte, Nat.reduceEqDiff])) | (with_reducible refine st_ret ?_; ((try simp only [seqQ, blockQ, loopQ, forQ, whileQ]); first | (with_reducible refine retM_ret ?_) | refine retQ_ret ?_; simp)) | refine st_seq ?_ | refine st_block ?_ | ((with_reducible show (STri _ _ _ _ _) ∧ (STri _ _ _ _ _)); refine And.intro ?_ ?_) | ((first | refine st_reg ?_ | refine buildP_own ?_ | refine appP_own ?_) <;> (simp -dsimp; (repeat (simp -dsimp (disch := (first | omega | assumption | (refine Bool.eq_false_iff.1 ?_; assumption))) only [wrap_in, if_pos, if_neg]; (try simp -dsimp))))) | ((first | refine guardP_of (fun hc => ?_) (fun hc => ?_) | refine st_cond rfl (fun hc => ?_) (fun hc => ?_)) <;> (try simp only [lqA, lqB, lqC, lqD, lqE, lqF, lqG, lqH, lqI, lqJ, lqK, lqL, lqM, lqN, lqO] at hc) <;> (try (exfalso; first | omega | exact bool_tf hc (by assumption) | exact bool_ft hc (by assumption) | exact absurd (by assumption) hc)) <;> (first | with_reducible show STri _ _ _ _ _ _ | (simp -dsimp [hc]; (repeat (simp -dsimp (disch := (first | omega | assumption | (refine Bool.eq_false_iff.1 ?_; assumption))) only [wrap_in, if_pos, if_neg]; (try simp -dsimp [hc]))))))))
    refine ⟨rfl, fun Iv2 hin2 => ?_⟩
    show STri _ _ _ _ (rangeQ _ _ _ _ _ _ _)
    unfold endS at hs
    have hA : (endsK exZ k).length + 4 ≤ 9223372036854775807 := by omega
    have hA2 : (endsK exZ k).length + 1 + 1 + 1 + 1 ≤ 9223372036854775807 := by omega
    have hB : ((endsK exZ k).length + 4) * 8 ≤ 140737488355328 := by omega
    (repeat' (first | ((first | with_reducible refine st_skip ?_ | with_reducible refine st_exit ?_); (try simp only [seqQ, blockQ, loopQ, forQ, whileQ, reduceIte, Nat.reduceEqDiff])) | (with_reducible refine st_ret ?_; ((try simp only [seqQ, blockQ, loopQ, forQ, whileQ]); first | (with_reducible refine retM_ret ?_) | refine retQ_ret ?_; simp [hA, hB, hA2])) | refine st_seq ?_ | refine st_block ?_ | ((with_reducible show (STri _ _ _ _ _) ∧ (STri _ _ _ _ _)); refine And.intro ?_ ?_) | ((first | refine st_reg ?_ | refine buildP_own ?_ | refine appP_own ?_ | refine callP_b (sm) rfl ?_) <;> (simp -dsimp [hA, hB, hA2]; (repeat (simp -dsimp (disch := (first | omega | assumption | (refine Bool.eq_false_iff.1 ?_; assumption))) only [wrap_in, if_pos, if_neg]; (try simp -dsimp [hA, hB, hA2]))))) | ((first | refine guardP_of (fun hc => ?_) (fun hc => ?_) | refine st_cond rfl (fun hc => ?_) (fun hc => ?_)) <;> (try simp only [lqA, lqB, lqC, lqD, lqE, lqF, lqG, lqH, lqI, lqJ, lqK, lqL, lqM, lqN, lqO] at hc) <;> (try (exfalso; first | omega | exact bool_tf hc (by assumption) | exact bool_ft hc (by assumption) | exact absurd (by assumption) hc)) <;> (first | with_reducible show STri _ _ _ _ _ _ | (simp -dsimp [hA, hB, hA2, hc]; (repeat (simp -dsimp (disch := (first | omega | assumption | (refine Bool.eq_false_iff.1 ?_; assumption))) only [wrap_in, if_pos, if_neg]; (try simp -dsimp [hA, hB, hA2, hc]))))))))
    exact ⟨by simp, by simp, by simp [hs]⟩
  · rintro R rfl
    simp only [blockQ, seqQ]
    have e : endsK exZ ((erasL exZ).map rowEra).length = exE := by rw [List.length_map]; exact exE_is
    rw [e]
    refine st_shut1 200 rfl (by simp [dropOK, dropK]) (by simp [ClosO, ownS, dropK, SV.outD]) (by simp [ShutH, ShutB, ownL, ownS, dropK, SV.outD, outDL, Blk.outD]) ?_
    simp only [shT, shS, shH, shB, List.map_cons, List.map_nil, Nat.reduceEqDiff, reduceIte]
    have hlE : exE.length = 8 := rfl
    generalize hE : exE = E at *
    (repeat' (first | ((first | with_reducible refine st_skip ?_ | with_reducible refine st_exit ?_); (try simp only [seqQ, blockQ, loopQ, forQ, whileQ, reduceIte, Nat.reduceEqDiff])) | (with_reducible refine st_ret ?_; ((try simp only [seqQ, blockQ, loopQ, forQ, whileQ]); first | (with_reducible refine retM_ret ?_) | refine retQ_ret ?_; simp [hlE])) | refine st_seq ?_ | refine st_block ?_ | ((with_reducible show (STri _ _ _ _ _) ∧ (STri _ _ _ _ _)); refine And.intro ?_ ?_) | ((first | refine st_reg ?_ | refine buildP_own ?_ | refine appP_own ?_ | refine callP_b (hsI) rfl ?_ | refine callP_b (hsC) rfl ?_) <;> (simp -dsimp [hlE]; (repeat (simp -dsimp (disch := (first | omega | assumption | (refine Bool.eq_false_iff.1 ?_; assumption))) only [wrap_in, if_pos, if_neg]; (try simp -dsimp [hlE]))))) | ((first | refine guardP_of (fun hc => ?_) (fun hc => ?_) | refine st_cond rfl (fun hc => ?_) (fun hc => ?_)) <;> (try simp only [lqA, lqB, lqC, lqD, lqE, lqF, lqG, lqH, lqI, lqJ, lqK, lqL, lqM, lqN, lqO] at hc) <;> (try (exfalso; first | omega | exact bool_tf hc (by assumption) | exact bool_ft hc (by assumption) | exact absurd (by assumption) hc)) <;> (first | with_reducible show STri _ _ _ _ _ _ | (simp -dsimp [hlE, hc]; (repeat (simp -dsimp (disch := (first | omega | assumption | (refine Bool.eq_false_iff.1 ?_; assumption))) only [wrap_in, if_pos, if_neg]; (try simp -dsimp [hlE, hc]))))))))
    clear hsI hsC
    refine st_nil 11 201 24 2 rfl (by simp [newOK]) ?_
    refine st_less [(6, .ptr 6 0), (7, .ptr 7 0), (10, .c (.val (.slice none 0 0))), (11, .own 201 0), (49, .c (.sl 1 (List.take 7 (E.map rowI)))), (50, .c (I 7)), (51, .c (I 0))]
      [(6, .box 93 [.c (I exZ.off), .c (.sl 2 (exZ.ch.map rowC))]), (7, .box 38 [.c (.sl 1 (E.map rowI))]), (201, .arr 24 2 [])] (by simp [Less, LessT, LessH, dropOK, dropK, SV.outD, Blk.outD, outDL, lookH, lookT]) ?_
    refine st_for [6, 7, 201] 7 (fun k T H => T = [(6, .ptr 6 0), (7, .ptr 7 0), (10, .c (.val (.slice none 0 0))), (11, .own 201 (noneK k).length), (49, .c (.sl 1 (List.take 7 (E.map rowI)))), (50, .c (I 7)), (51, .c (I k))] ∧
      H = [(6, .box 93 [.c (I exZ.off), .c (.sl 2 (exZ.ch.map rowC))]), (7, .box 38 [.c (.sl 1 (E.map rowI))]), (201, .arr 24 2 ((noneK k).map rowC))]) (by simp) ⟨by simp [noneK], by simp [noneK]⟩ ?_
    rintro k T H hk ⟨rfl, rfl⟩
    by_cases hlt : k < 7
    · have g1 : k < E.length := by omega
      have g2 : k + 1 < E.length := by omega
      have e1 : E[k] = exE.getD k 0 := by subst hE; simp [List.getD, g1]
      have e2 : E[k + 1] = exE.getD (k + 1) 0 := by subst hE; simp [List.getD, g2]
      have b1 := exE_bd (k := k) (by omega)
      have b2 := exE_bd (k := k + 1) (by omega)
      have hns := noneK_succ k
      have hml : (meansL exZ (exE.getD k 0)).length = exM k := rfl
      have hle := exM_le hlt
      have sm := sMeans exZ hz (exE.getD k 0) (by omega) (by omega) (by omega)
      have hnl := noneK_len k
      generalize exE.getD k 0 = a at *
      generalize exE.getD (k + 1) 0 = b at *
      generalize meansL exZ a = ml at *
      have hlt2 : (k : Int) < 7 := by omega
      have tn : ((k : Int) + 1).toNat = k + 1 := by omega
      have hA : (noneK k).length + 1 ≤ 9223372036854775807 := by omega
      have hB : ((noneK k).length + 1) * 16 ≤ 140737488355328 := by omega
      have m1 : ¬ (1 : Int) < ml.length := by omega
      by_cases hm : exM k = 0
      · rw [if_pos hm] at hns
        have m0 : ml.length = 0 := by omega
        (repeat' (first | ((first | with_reducible refine st_skip ?_ | with_reducible refine st_exit ?_); (try simp only [seqQ, blockQ, loopQ, forQ, whileQ, reduceIte, Nat.reduceEqDiff])) | (with_reducible refine st_ret ?_; ((try simp only [seqQ, blockQ, loopQ, forQ, whileQ]); first | (with_reducible refine retM_ret ?_) | refine retQ_ret ?_; simp [hlt, hlt2, g1, g2, e1, e2, tn, hA, hB, m1, m0])) | refine st_seq ?_ | refine st_block ?_ | ((with_reducible show (STri _ _ _ _ _) ∧ (STri _ _ _ _ _)); refine And.intro ?_ ?_) | ((first | refine st_reg ?_ | refine buildP_own ?_ | refine appP_own ?_ | refine callP_b (sm) rfl ?_) <;> (simp -dsimp [hlt, hlt2, g1, g2, e1, e2, tn, hA, hB, m1, m0]; (repeat (simp -dsimp (disch := (first | omega | assumption | (refine Bool.eq_false_iff.1 ?_; assumption))) only [wrap_in, if_pos, if_neg]; (try simp -dsimp [hlt, hlt2, g1, g2, e1, e2, tn, hA, hB, m1, m0]))))) | ((first | refine guardP_of (fun hc => ?_) (fun hc => ?_) | refine st_cond rfl (fun hc => ?_) (fun hc => ?_)) <;> (try simp only [lqA, lqB, lqC, lqD, lqE, lqF, lqG, lqH, lqI, lqJ, lqK, lqL, lqM, lqN, lqO] at hc) <;> (try (exfalso; first | omega | exact bool_tf hc (by assumption) | exact bool_ft hc (by assumption) | exact absurd (by assumption) hc)) <;> (first | with_reducible show STri _ _ _ _ _ _ | (simp -dsimp [hlt, hlt2, g1, g2, e1, e2, tn, hA, hB, m1, m0, hc]; (repeat (simp -dsimp (disch := (first | omega | assumption | (refine Bool.eq_false_iff.1 ?_; assumption))) only [wrap_in, if_pos, if_neg]; (try simp -dsimp [hlt, hlt2, g1, g2, e1, e2, tn, hA, hB, m1, m0, hc]))))))))
        exact ⟨hlt, by simp, by simp [hns], by simp [hns]⟩
      · rw [if_neg hm] at hns
        have m0 : ¬ ml.length = 0 := by omega
        (repeat' (first | ((first | with_reducible refine st_skip ?_ | with_reducible refine st_exit ?_); (try simp only [seqQ, blockQ, loopQ, forQ, whileQ, reduceIte, Nat.reduceEqDiff])) | (with_reducible refine st_ret ?_; ((try simp only [seqQ, blockQ, loopQ, forQ, whileQ]); first | (with_reducible refine retM_ret ?_) | refine retQ_ret ?_; simp [hlt, hlt2, g1, g2, e1, e2, tn, m1, m0])) | refine st_seq ?_ | refine st_block ?_ | ((with_reducible show (STri _ _ _ _ _) ∧ (STri _ _ _ _ _)); refine And.intro ?_ ?_) | ((first | refine st_reg ?_ | refine buildP_own ?_ | refine appP_own ?_ | refine callP_b (sm) rfl ?_) <;> (simp -dsimp [hlt, hlt2, g1, g2, e1, e2, tn, m1, m0]; (repeat (simp -dsimp (disch := (first | omega | assumption | (refine Bool.eq_false_iff.1 ?_; assumption))) only [wrap_in, if_pos, if_neg]; (try simp -dsimp [hlt, hlt2, g1, g2, e1, e2, tn, m1, m0]))))) | ((first | refine guardP_of (fun hc => ?_) (fun hc => ?_) | refine st_cond rfl (fun hc => ?_) (fun hc => ?_)) <;> (try simp only [lqA, lqB, lqC, lqD, lqE, lqF, lqG, lqH, lqI, lqJ, lqK, lqL, lqM, lqN, lqO] at hc) <;> (try (exfalso; first | omega | exact bool_tf hc (by assumption) | exact bool_ft hc (by assumption) | exact absurd (by assumption) hc)) <;> (first | with_reducible show STri _ _ _ _ _ _ | (simp -dsimp [hlt, hlt2, g1, g2, e1, e2, tn, m1, m0, hc]; (repeat (simp -dsimp (disch := (first | omega | assumption | (refine Bool.eq_false_iff.1 ?_; assumption))) only [wrap_in, if_pos, if_neg]; (try simp -dsimp [hlt, hlt2, g1, g2, e1, e2, tn, m1, m0, hc]))))))))
        exact ⟨hlt, by simp, by simp [hns], by simp [hns]⟩
    · have : k = 7 := by omega
      subst this
      rw [noneK_all]
      have j1 : SC Tryz.prog 64 [.val (.slice none 0 0)] (slC []) := sc_cle (sJoined [] (by simp)) rfl (fun i x y hx hy => by
        match i with
        | 0 => cases hx; cases hy; exact .nil 2
        | i + 1 => simp at hx)
      have j2 := sJoined [(595, 599)] (by simp)
      (repeat' (first | ((with_reducible show STri _ k45_49 _ _ _); refine st_shut1 201 rfl (by simp [dropOK, dropK]) (by simp [ClosO, ownS, dropK, SV.outD]) (by simp [ShutH, ShutB, ownL, ownS, dropK, SV.outD, outDL, Blk.outD]) ?_; simp only [shT, shS, shH, shB, List.map_cons, List.map_nil, Nat.reduceEqDiff, reduceIte]) | ((first | with_reducible refine st_skip ?_ | with_reducible refine st_exit ?_); (try simp only [seqQ, blockQ, loopQ, forQ, whileQ, reduceIte, Nat.reduceEqDiff])) | (with_reducible refine st_ret ?_; ((try simp only [seqQ, blockQ, loopQ, forQ, whileQ]); first | (with_reducible refine retM_ret ?_) | refine retQ_ret ?_; simp)) | refine st_seq ?_ | refine st_block ?_ | ((with_reducible show (STri _ _ _ _ _) ∧ (STri _ _ _ _ _)); refine And.intro ?_ ?_) | ((first | refine st_reg ?_ | refine buildP_own ?_ | refine appP_own ?_ | refine callP_b (j1) rfl ?_ | refine callP_b (j2) rfl ?_) <;> (simp -dsimp; (repeat (simp -dsimp (disch := (first | omega | assumption | (refine Bool.eq_false_iff.1 ?_; assumption))) only [wrap_in, if_pos, if_neg]; (try simp -dsimp))))) | ((first | refine guardP_of (fun hc => ?_) (fun hc => ?_) | refine st_cond rfl (fun hc => ?_) (fun hc => ?_)) <;> (try simp only [lqA, lqB, lqC, lqD, lqE, lqF, lqG, lqH, lqI, lqJ, lqK, lqL, lqM, lqN, lqO] at hc) <;> (try (exfalso; first | omega | exact bool_tf hc (by assumption) | exact bool_ft hc (by assumption) | exact absurd (by assumption) hc)) <;> (first | with_reducible show STri _ _ _ _ _ _ | (simp -dsimp [hc]; (repeat (simp -dsimp (disch := (first | omega | assumption | (refine Bool.eq_false_iff.1 ?_; assumption))) only [wrap_in, if_pos, if_neg]; (try simp -dsimp [hc]))))))))
      all_goals first
        | exact .refl _
        | (simp; exact .refl _)
end Go.Proofs.YtboifcengmgcaaaGreat
