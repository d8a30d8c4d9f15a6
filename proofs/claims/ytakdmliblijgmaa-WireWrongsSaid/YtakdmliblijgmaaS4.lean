/- Part 4 of a proof: CodeW, Wa, Wb, Wc, Wd, We, Wf, Bit, Wg, CodeB, Bits. -/
import Derived.Test.YtakdmliblijgmaaS3
set_option linter.unusedSimpArgs false
set_option linter.unusedVariables false
/- The shadow code of functions, as the kit's translation has them. -/
namespace Go.Proofs.Ytakdmliblijgmaa
open Go.RowKit
def k2_0 : SCode := .reg [⟨some 3, none, .box 91 (.tmp 0), [], false⟩, ⟨some 4, none, .box 73 (.tmp 1), [], false⟩, ⟨some 6, none, .mov (.const (.bool false)), [], false⟩] [2, 3, 4]
def k2_1 : SCode := .reg [⟨some 8, none, .fld 1 (.tmp 4), [], false⟩, ⟨some 9, none, .load false 1 (.tmp 8), [], false⟩, ⟨some 10, none, .mov (.tmp 2), [], false⟩, ⟨some 11, none, .bin .add (.tmp 9) (.tmp 10), [], false⟩, ⟨some 7, none, .mov (.tmp 11), [], false⟩] [3, 4, 7]
def k2_2 : SCode := .reg [⟨some 12, none, .mov (.tmp 7), [], false⟩, ⟨some 13, none, .buildSl 3 1 [(.int .i64 0)] 1 [(0, (.tmp 12))], [], false⟩, ⟨some 14, none, .call 56 [(.const (.int .i64 0)), (.const (.int .i64 3155760000)), (.tmp 13)], [], false⟩, ⟨some 15, none, .mov (.tmp 14), [], false⟩, ⟨some 16, (some (15, true)), .fld 0 (.tmp 3), [], false⟩, ⟨some 17, (some (15, true)), .load false 1 (.tmp 16), [], false⟩, ⟨some 18, (some (15, true)), .fld 0 (.tmp 4), [], false⟩, ⟨some 19, (some (15, true)), .load false 1 (.tmp 18), [], false⟩, ⟨some 20, (some (15, true)), .idxS 1 (.tmp 17) (.tmp 19), [], false⟩, ⟨some 21, (some (15, true)), .load false 1 (.tmp 20), [], false⟩, ⟨some 22, (some (15, true)), .mov (.tmp 7), [], false⟩, ⟨some 23, (some (15, true)), .fld 2 (.tmp 4), [], false⟩, ⟨some 24, (some (15, true)), .load false 1 (.tmp 23), [], false⟩, ⟨some 25, (some (15, true)), .fld 1 (.tmp 3), [], false⟩, ⟨some 26, (some (15, true)), .load false 1 (.tmp 25), [], false⟩, ⟨some 27, (some (15, true)), .fld 0 (.tmp 4), [], false⟩, ⟨some 28, (some (15, true)), .load false 1 (.tmp 27), [], false⟩, ⟨some 29, (some (15, true)), .idxS 2 (.tmp 26) (.tmp 28), [], false⟩, ⟨some 30, (some (15, true)), .load true 2 (.tmp 29), [], false⟩, ⟨some 31, (some (15, true)), .nilC (.tmp 21), [], false⟩, ⟨some 32, (some (15, true)), .mov (.tmp 21), [], false⟩, ⟨some 33, (some (15, true)), .callI "turret/wire.isRight" (.tmp 32) [(.tmp 22), (.tmp 24), (.tmp 30)], [], false⟩, ⟨some 34, none, .pick (.tmp 15) (.tmp 33) (.const (.bool false)), [], false⟩, ⟨some 6, none, .mov (.tmp 34), [], false⟩] [6]
def k2_3 : SCode := .seq k2_2 .ret
def k2_4 : SCode := .seq k2_1 k2_3
def k2_5 : SCode := .seq k2_0 k2_4
@[simp] def rs_wire_book_isRight : List SRes := [.tmp 6]
theorem law_wire_book_isRight (cs : List CV) (r : CV) (hl : cs.length ≤ 35) (h : STri (cfF Try.prog [] 35) k2_5 (initT 0 cs) [] (retQ rs_wire_book_isRight r)) : SC Try.prog 85 cs r :=
  sc_of [] follows Try.func85 rfl Try.ntmps85 (by decide) (by kernel_rfl) (by kernel_rfl) hl h
def k3_0 : SCode := .reg [⟨some 5, none, .box 25 (.tmp 2), [], false⟩, ⟨some 6, none, .mov (.const (.slice none 0 0)), [], false⟩, ⟨some 7, none, .mov (.const (.int .i64 0)), [], false⟩] [0, 1, 5, 6]
def k3_1 : SCode := .reg [⟨some 15, none, .mov (.tmp 0), [], false⟩, ⟨some 16, none, .mov (.tmp 1), [], false⟩, ⟨some 17, none, .load true 2 (.tmp 5), [], false⟩, ⟨some 18, none, .call 44 [(.tmp 15), (.tmp 16), (.tmp 17)], [], false⟩, ⟨some 14, none, .mov (.tmp 18), [], false⟩, ⟨some 19, none, .ext (.tmp 14) 0, [], false⟩, ⟨some 20, none, .ext (.tmp 14) 1, [], false⟩, ⟨some 8, none, .alloc 91 [(.slice none 0 0), (.slice none 0 0), (.slice none 0 0), (.int .i64 0), (.int .i64 0)], [], false⟩, ⟨none, none, .store 5 (.tmp 8) (.tmp 19), [], false⟩, ⟨some 7, none, .mov (.tmp 20), [], false⟩] [0, 6, 7, 8]
def k3_2 : SCode := .reg [⟨some 21, none, .mov (.tmp 7), [], false⟩, ⟨some 22, none, .bin .neq (.tmp 21) (.const (.int .i64 0)), [], false⟩] [0, 6, 7, 8, 22]
def k3_3 : SCode := .reg [⟨some 23, none, .mov (.tmp 7), [], false⟩, ⟨some 6, none, .mov (.const (.slice none 0 0)), [], false⟩, ⟨some 7, none, .mov (.tmp 23), [], false⟩] [6, 7]
def k3_4 : SCode := .seq k3_3 .ret
def k3_5 : SCode := .cond (.tmp 22) k3_4 .skip
def k3_6 : SCode := .seq k3_2 k3_5
def k3_7 : SCode := .reg [⟨some 24, none, .load true 5 (.tmp 8), [], false⟩, ⟨some 25, none, .call 47 [(.tmp 24)], [], false⟩, ⟨some 9, none, .mov (.tmp 25), [], false⟩] [0, 6, 9]
def k3_8 : SCode := .reg [⟨some 26, none, .mov (.tmp 0), [], false⟩, ⟨some 27, none, .len (.tmp 26), [], false⟩, ⟨some 28, none, .mov (.const (.int .i64 0)), [], false⟩] [0, 6, 9, 27, 28]
def k3_9 : SCode := .reg [⟨some 29, none, .bin .lss (.tmp 28) (.tmp 27), [], false⟩] [0, 6, 9, 27, 28, 29]
def k3_10 : SCode := .cond (.tmp 29) .skip (.exit 0)
def k3_11 : SCode := .reg [⟨some 30, none, .mov (.tmp 28), [], false⟩, ⟨some 10, none, .mov (.tmp 30), [], false⟩] [0, 6, 9, 10, 27, 28]
def k3_12 : SCode := .reg [⟨some 31, none, .mov (.tmp 10), [], false⟩, ⟨some 32, none, .bin .add (.tmp 31) (.const (.int .i64 1)), [], false⟩, ⟨some 11, none, .mov (.tmp 32), [], false⟩] [0, 6, 9, 10, 11, 27, 28]
def k3_13 : SCode := .reg [⟨some 33, none, .mov (.tmp 11), [], false⟩, ⟨some 34, none, .mov (.tmp 0), [], false⟩, ⟨some 35, none, .len (.tmp 34), [], false⟩, ⟨some 36, none, .bin .lss (.tmp 33) (.tmp 35), [], false⟩] [0, 6, 9, 10, 11, 27, 28, 36]
def k3_14 : SCode := .cond (.tmp 36) .skip (.exit 2)
def k3_15 : SCode := .seq k3_13 k3_14
def k3_16 : SCode := .reg [⟨some 12, none, .mov (.const (.bool false)), [], false⟩] [0, 6, 9, 10, 11, 12, 27, 28]
def k3_17 : SCode := .reg [⟨some 39, none, .mov (.tmp 9), [], false⟩, ⟨some 40, none, .rng false .u64 (.tmp 39), [], false⟩] [0, 6, 9, 10, 11, 12, 27, 28, 40]
def k3_18 : SCode := .reg [⟨some 41, none, .nxt (.tmp 40), [], false⟩, ⟨some 42, none, .ext (.tmp 41) 0, [], false⟩] [0, 6, 9, 10, 11, 12, 27, 28, 40, 42]
def k3_19 : SCode := .cond (.tmp 42) .skip (.exit 4)
def k3_20 : SCode := .reg [⟨some 43, none, .ent (.tmp 40), [], false⟩, ⟨some 44, none, .ext (.tmp 43) 0, [], false⟩, ⟨some 13, none, .mov (.tmp 44), [], false⟩] [0, 6, 9, 10, 11, 12, 13, 27, 28, 40]
def k3_21 : SCode := .reg [⟨some 45, none, .mov (.tmp 12), [], false⟩, ⟨some 46, none, .mov (.tmp 45), [], false⟩, ⟨some 47, (some (46, false)), .mov (.tmp 13), [], false⟩, ⟨some 48, (some (46, false)), .mov (.tmp 10), [], false⟩, ⟨some 49, (some (46, false)), .shift false (.tmp 47) (.tmp 48), [], false⟩, ⟨some 50, (some (46, false)), .bin .and (.tmp 49) (.const (.int .u64 1)), [], false⟩, ⟨some 51, (some (46, false)), .bin .eql (.tmp 50) (.const (.int .u64 0)), [], false⟩, ⟨some 52, (some (46, false)), .mov (.tmp 51), [], false⟩, ⟨some 53, (some (52, true)), .mov (.tmp 13), [], false⟩, ⟨some 54, (some (52, true)), .mov (.tmp 11), [], false⟩, ⟨some 55, (some (52, true)), .shift false (.tmp 53) (.tmp 54), [], false⟩, ⟨some 56, (some (52, true)), .bin .and (.tmp 55) (.const (.int .u64 1)), [], false⟩, ⟨some 57, (some (52, true)), .bin .eql (.tmp 56) (.const (.int .u64 0)), [], false⟩, ⟨some 58, (some (46, false)), .pick (.tmp 52) (.tmp 57) (.const (.bool false)), [], false⟩, ⟨some 59, none, .pick (.tmp 46) (.const (.bool true)) (.tmp 58), [], false⟩, ⟨some 12, none, .mov (.tmp 59), [], false⟩] [0, 6, 9, 10, 11, 12, 27, 28, 40]
def k3_22 : SCode := .seq k3_20 k3_21
def k3_23 : SCode := .block 5 k3_22
def k3_24 : SCode := .seq k3_19 k3_23
def k3_25 : SCode := .seq k3_18 k3_24
def k3_26 : SCode := .loop k3_25
def k3_27 : SCode := .block 4 k3_26
def k3_28 : SCode := .seq k3_17 k3_27
def k3_29 : SCode := .reg [⟨some 60, none, .mov (.tmp 12), [], false⟩, ⟨some 61, none, .un .not (.tmp 60), [], false⟩] [0, 6, 9, 10, 11, 27, 28, 61]
def k3_30 : SCode := .reg [⟨some 62, none, .mov (.tmp 6), [], false⟩, ⟨some 63, none, .mov (.tmp 10), [], false⟩, ⟨some 64, none, .mov (.tmp 11), [], false⟩, ⟨some 65, none, .build [(.int .i64 0), (.int .i64 0)] [(0, 1, (.tmp 63)), (1, 1, (.tmp 64))], [], false⟩, ⟨some 66, none, .buildSl 47 2 [(.int .i64 0), (.int .i64 0)] 1 [(0, (.tmp 65))], [], false⟩, ⟨some 67, none, .append 47 2 16 (.tmp 62) (.tmp 66), [], false⟩, ⟨some 6, none, .mov (.tmp 67), [], false⟩] [0, 6, 9, 10, 11, 27, 28]
def k3_31 : SCode := .cond (.tmp 61) k3_30 .skip
def k3_32 : SCode := .seq k3_29 k3_31
def k3_33 : SCode := .seq k3_28 k3_32
def k3_34 : SCode := .seq k3_16 k3_33
def k3_35 : SCode := .block 3 k3_34
def k3_36 : SCode := .reg [⟨some 37, none, .mov (.tmp 11), [], false⟩, ⟨some 38, none, .bin .add (.tmp 37) (.const (.int .i64 1)), [], false⟩, ⟨some 11, none, .mov (.tmp 38), [], false⟩] [0, 6, 9, 10, 11, 27, 28]
def k3_37 : SCode := .seq k3_35 k3_36
def k3_38 : SCode := .seq k3_15 k3_37
def k3_39 : SCode := .loop k3_38
def k3_40 : SCode := .block 2 k3_39
def k3_41 : SCode := .seq k3_12 k3_40
def k3_42 : SCode := .seq k3_11 k3_41
def k3_43 : SCode := .block 1 k3_42
def k3_44 : SCode := .reg [⟨some 68, none, .bin .add (.tmp 28) (.const (.int .i64 1)), [], false⟩, ⟨some 28, none, .mov (.tmp 68), [], false⟩] [0, 6, 9, 27, 28]
def k3_45 : SCode := .seq k3_43 k3_44
def k3_46 : SCode := .seq k3_10 k3_45
def k3_47 : SCode := .seq k3_9 k3_46
def k3_48 : SCode := .loop k3_47
def k3_49 : SCode := .block 0 k3_48
def k3_50 : SCode := .seq k3_8 k3_49
def k3_51 : SCode := .reg [⟨some 69, none, .mov (.tmp 6), [], false⟩, ⟨some 6, none, .mov (.tmp 69), [], false⟩, ⟨some 7, none, .mov (.const (.int .i64 0)), [], false⟩] [6, 7]
def k3_52 : SCode := .seq k3_51 .ret
def k3_53 : SCode := .seq k3_50 k3_52
def k3_54 : SCode := .seq k3_7 k3_53
def k3_55 : SCode := .seq k3_6 k3_54
def k3_56 : SCode := .seq k3_1 k3_55
def k3_57 : SCode := .seq k3_0 k3_56
@[simp] def rs_wire_Pairs : List SRes := [.tmp 6, .tmp 7]
theorem law_wire_Pairs (cs : List CV) (r : CV) (hl : cs.length ≤ 70) (h : STri (cfF Try.prog [] 70) k3_57 (initT 0 cs) [] (retQ rs_wire_Pairs r)) : SC Try.prog 17 cs r :=
  sc_of [] follows Try.func17 rfl Try.ntmps17 (by decide) (by kernel_rfl) (by kernel_rfl) hl h
def k4_0 : SCode := .reg [⟨some 1, none, .box 91 (.tmp 0), [], false⟩, ⟨some 2, none, .mov (.const (.int .i64 0)), [], false⟩] [1]
def k4_1 : SCode := .reg [⟨some 5, none, .fld 0 (.tmp 1), [], false⟩, ⟨some 6, none, .load false 1 (.tmp 5), [], false⟩, ⟨some 7, none, .len (.tmp 6), [], false⟩, ⟨some 3, none, .mov (.tmp 7), [], false⟩] [1, 3]
def k4_2 : SCode := .reg [⟨some 8, none, .load true 5 (.tmp 1), [], false⟩, ⟨some 9, none, .call 47 [(.tmp 8)], [], false⟩, ⟨some 10, none, .rng false .u64 (.tmp 9), [], false⟩] [3, 10]
def k4_3 : SCode := .reg [⟨some 11, none, .nxt (.tmp 10), [], false⟩, ⟨some 12, none, .ext (.tmp 11) 0, [], false⟩] [3, 10, 12]
def k4_4 : SCode := .cond (.tmp 12) .skip (.exit 0)
def k4_5 : SCode := .reg [⟨some 13, none, .ent (.tmp 10), [], false⟩, ⟨some 14, none, .ext (.tmp 13) 0, [], false⟩, ⟨some 4, none, .mov (.tmp 14), [], false⟩] [3, 4, 10]
def k4_6 : SCode := .reg [⟨some 15, none, .mov (.tmp 3), [], false⟩, ⟨some 16, none, .mov (.tmp 4), [], false⟩, ⟨some 17, none, .call 50 [(.tmp 16)], [], false⟩, ⟨some 18, none, .min [(.tmp 15), (.tmp 17)], [], false⟩, ⟨some 3, none, .mov (.tmp 18), [], false⟩] [3, 10]
def k4_7 : SCode := .seq k4_5 k4_6
def k4_8 : SCode := .block 1 k4_7
def k4_9 : SCode := .seq k4_4 k4_8
def k4_10 : SCode := .seq k4_3 k4_9
def k4_11 : SCode := .loop k4_10
def k4_12 : SCode := .block 0 k4_11
def k4_13 : SCode := .seq k4_2 k4_12
def k4_14 : SCode := .reg [⟨some 19, none, .mov (.tmp 3), [], false⟩, ⟨some 2, none, .mov (.tmp 19), [], false⟩] [2]
def k4_15 : SCode := .seq k4_14 .ret
def k4_16 : SCode := .seq k4_13 k4_15
def k4_17 : SCode := .seq k4_1 k4_16
def k4_18 : SCode := .seq k4_0 k4_17
@[simp] def rs_wire_book_fewest : List SRes := [.tmp 2]
theorem law_wire_book_fewest (cs : List CV) (r : CV) (hl : cs.length ≤ 20) (h : STri (cfF Try.prog [] 20) k4_18 (initT 0 cs) [] (retQ rs_wire_book_fewest r)) : SC Try.prog 48 cs r :=
  sc_of [] follows Try.func48 rfl Try.ntmps48 (by decide) (by kernel_rfl) (by kernel_rfl) hl h
@[simp] def rs_wire_book_least : List SRes := [.tmp 2]
def k5_0 : SCode := .reg [⟨some 5, none, .box 25 (.tmp 2), [], false⟩, ⟨some 6, none, .mov (.const (.slice none 0 0)), [], false⟩, ⟨some 7, none, .mov (.const (.int .i64 0)), [], false⟩] [0, 1, 5]
def k5_1 : SCode := .reg [⟨some 11, none, .mov (.tmp 0), [], false⟩, ⟨some 12, none, .mov (.tmp 1), [], false⟩, ⟨some 13, none, .load true 2 (.tmp 5), [], false⟩, ⟨some 14, none, .call 44 [(.tmp 11), (.tmp 12), (.tmp 13)], [], false⟩, ⟨some 10, none, .mov (.tmp 14), [], false⟩, ⟨some 15, none, .ext (.tmp 10) 0, [], false⟩, ⟨some 16, none, .ext (.tmp 10) 1, [], false⟩, ⟨some 8, none, .alloc 91 [(.slice none 0 0), (.slice none 0 0), (.slice none 0 0), (.int .i64 0), (.int .i64 0)], [], false⟩, ⟨none, none, .store 5 (.tmp 8) (.tmp 15), [], false⟩, ⟨some 9, none, .mov (.tmp 16), [], false⟩] [8, 9]
def k5_2 : SCode := .reg [⟨some 17, none, .mov (.tmp 9), [], false⟩, ⟨some 18, none, .bin .neq (.tmp 17) (.const (.int .i64 0)), [], false⟩] [8, 9, 18]
def k5_3 : SCode := .reg [⟨some 19, none, .mov (.tmp 9), [], false⟩, ⟨some 6, none, .mov (.const (.slice none 0 0)), [], false⟩, ⟨some 7, none, .mov (.tmp 19), [], false⟩] [6, 7]
def k5_4 : SCode := .seq k5_3 .ret
def k5_5 : SCode := .cond (.tmp 18) k5_4 .skip
def k5_6 : SCode := .seq k5_2 k5_5
def k5_7 : SCode := .reg [⟨some 20, none, .load true 5 (.tmp 8), [], false⟩, ⟨some 21, none, .call 54 [(.tmp 20)], [], false⟩, ⟨some 6, none, .mov (.tmp 21), [], false⟩, ⟨some 7, none, .mov (.const (.int .i64 0)), [], false⟩] [6, 7]
def k5_8 : SCode := .seq k5_7 .ret
def k5_9 : SCode := .seq k5_6 k5_8
def k5_10 : SCode := .seq k5_1 k5_9
def k5_11 : SCode := .seq k5_0 k5_10
@[simp] def rs_wire_Wrong : List SRes := [.tmp 6, .tmp 7]
theorem law_wire_Wrong (cs : List CV) (r : CV) (hl : cs.length ≤ 22) (h : STri (cfF Try.prog [] 22) k5_11 (initT 0 cs) [] (retQ rs_wire_Wrong r)) : SC Try.prog 26 cs r :=
  sc_of [] follows Try.func26 rfl Try.ntmps26 (by decide) (by kernel_rfl) (by kernel_rfl) hl h
def k6_0 : SCode := .reg [⟨some 5, none, .box 25 (.tmp 2), [], false⟩, ⟨some 6, none, .mov (.const (.int .i64 0)), [], false⟩, ⟨some 7, none, .mov (.const (.int .i64 0)), [], false⟩] [0, 1, 5]
def k6_1 : SCode := .reg [⟨some 12, none, .mov (.tmp 0), [], false⟩, ⟨some 13, none, .mov (.tmp 1), [], false⟩, ⟨some 14, none, .load true 2 (.tmp 5), [], false⟩, ⟨some 15, none, .call 44 [(.tmp 12), (.tmp 13), (.tmp 14)], [], false⟩, ⟨some 11, none, .mov (.tmp 15), [], false⟩, ⟨some 16, none, .ext (.tmp 11) 0, [], false⟩, ⟨some 17, none, .ext (.tmp 11) 1, [], false⟩, ⟨some 8, none, .alloc 91 [(.slice none 0 0), (.slice none 0 0), (.slice none 0 0), (.int .i64 0), (.int .i64 0)], [], false⟩, ⟨none, none, .store 5 (.tmp 8) (.tmp 16), [], false⟩, ⟨some 9, none, .mov (.tmp 17), [], false⟩] [8, 9]
def k6_2 : SCode := .reg [⟨some 18, none, .mov (.tmp 9), [], false⟩, ⟨some 19, none, .bin .neq (.tmp 18) (.const (.int .i64 0)), [], false⟩] [8, 9, 19]
def k6_3 : SCode := .reg [⟨some 20, none, .mov (.tmp 9), [], false⟩, ⟨some 6, none, .mov (.const (.int .i64 0)), [], false⟩, ⟨some 7, none, .mov (.tmp 20), [], false⟩] [6, 7]
def k6_4 : SCode := .seq k6_3 .ret
def k6_5 : SCode := .cond (.tmp 19) k6_4 .skip
def k6_6 : SCode := .seq k6_2 k6_5
def k6_7 : SCode := .reg [⟨some 21, none, .load true 5 (.tmp 8), [], false⟩, ⟨some 22, none, .call 54 [(.tmp 21)], [], false⟩, ⟨some 10, none, .mov (.tmp 22), [], false⟩] [10]
def k6_8 : SCode := .reg [⟨some 24, none, .mov (.tmp 10), [], false⟩, ⟨some 25, none, .idxS 1 (.tmp 24) (.const (.int .i64 0)), [], false⟩, ⟨some 26, none, .load false 1 (.tmp 25), [], false⟩, ⟨some 27, none, .len (.tmp 26), [], false⟩, ⟨some 28, none, .bin .eql (.tmp 27) (.const (.int .i64 0)), [], false⟩, ⟨some 23, none, .mov (.tmp 28), [], false⟩] [10, 23]
def k6_9 : SCode := .reg [⟨some 6, none, .mov (.const (.int .i64 0)), [], false⟩, ⟨some 7, none, .mov (.const (.int .i64 7)), [], false⟩] [6, 7]
def k6_10 : SCode := .seq k6_9 .ret
def k6_11 : SCode := .reg [⟨some 30, none, .mov (.tmp 10), [], false⟩, ⟨some 31, none, .idxS 1 (.tmp 30) (.const (.int .i64 0)), [], false⟩, ⟨some 32, none, .load false 1 (.tmp 31), [], false⟩, ⟨some 33, none, .len (.tmp 32), [], false⟩, ⟨some 34, none, .bin .gtr (.tmp 33) (.const (.int .i64 1)), [], false⟩, ⟨some 29, none, .mov (.tmp 34), [], false⟩] [10, 29]
def k6_12 : SCode := .reg [⟨some 6, none, .mov (.const (.int .i64 0)), [], false⟩, ⟨some 7, none, .mov (.const (.int .i64 9)), [], false⟩] [6, 7]
def k6_13 : SCode := .seq k6_12 .ret
def k6_14 : SCode := .reg [⟨some 36, none, .mov (.tmp 10), [], false⟩, ⟨some 37, none, .len (.tmp 36), [], false⟩, ⟨some 38, none, .bin .gtr (.tmp 37) (.const (.int .i64 1)), [], false⟩, ⟨some 35, none, .mov (.tmp 38), [], false⟩] [10, 35]
def k6_15 : SCode := .reg [⟨some 6, none, .mov (.const (.int .i64 0)), [], false⟩, ⟨some 7, none, .mov (.const (.int .i64 6)), [], false⟩] [6, 7]
def k6_16 : SCode := .seq k6_15 .ret
def k6_17 : SCode := .cond (.tmp 35) k6_16 .skip
def k6_18 : SCode := .seq k6_14 k6_17
def k6_19 : SCode := .cond (.tmp 29) k6_13 k6_18
def k6_20 : SCode := .seq k6_11 k6_19
def k6_21 : SCode := .cond (.tmp 23) k6_10 k6_20
def k6_22 : SCode := .seq k6_8 k6_21
def k6_23 : SCode := .block 0 k6_22
def k6_24 : SCode := .reg [⟨some 39, none, .mov (.tmp 10), [], false⟩, ⟨some 40, none, .idxS 1 (.tmp 39) (.const (.int .i64 0)), [], false⟩, ⟨some 41, none, .load false 1 (.tmp 40), [], false⟩, ⟨some 42, none, .idxS 1 (.tmp 41) (.const (.int .i64 0)), [], false⟩, ⟨some 43, none, .load false 1 (.tmp 42), [], false⟩, ⟨some 6, none, .mov (.tmp 43), [], false⟩, ⟨some 7, none, .mov (.const (.int .i64 0)), [], false⟩] [6, 7]
def k6_25 : SCode := .seq k6_24 .ret
def k6_26 : SCode := .seq k6_23 k6_25
def k6_27 : SCode := .seq k6_7 k6_26
def k6_28 : SCode := .seq k6_6 k6_27
def k6_29 : SCode := .seq k6_1 k6_28
def k6_30 : SCode := .seq k6_0 k6_29
@[simp] def rs_wire_Convict : List SRes := [.tmp 6, .tmp 7]
theorem law_wire_Convict (cs : List CV) (r : CV) (hl : cs.length ≤ 44) (h : STri (cfF Try.prog [] 44) k6_30 (initT 0 cs) [] (retQ rs_wire_Convict r)) : SC Try.prog 27 cs r :=
  sc_of [] follows Try.func27 rfl Try.ntmps27 (by decide) (by kernel_rfl) (by kernel_rfl) hl h
def k7_0 : SCode := .reg [⟨some 6, none, .box 25 (.tmp 2), [], false⟩, ⟨some 8, none, .mov (.const (.int .i64 0)), [], false⟩, ⟨some 9, none, .mov (.const (.int .i64 0)), [], false⟩] [0, 1, 3, 6]
def k7_1 : SCode := .reg [⟨some 16, none, .mov (.tmp 0), [], false⟩, ⟨some 17, none, .mov (.tmp 1), [], false⟩, ⟨some 18, none, .load true 2 (.tmp 6), [], false⟩, ⟨some 19, none, .call 44 [(.tmp 16), (.tmp 17), (.tmp 18)], [], false⟩, ⟨some 15, none, .mov (.tmp 19), [], false⟩, ⟨some 20, none, .ext (.tmp 15) 0, [], false⟩, ⟨some 21, none, .ext (.tmp 15) 1, [], false⟩, ⟨some 10, none, .alloc 91 [(.slice none 0 0), (.slice none 0 0), (.slice none 0 0), (.int .i64 0), (.int .i64 0)], [], false⟩, ⟨none, none, .store 5 (.tmp 10) (.tmp 20), [], false⟩, ⟨some 11, none, .mov (.tmp 21), [], false⟩] [0, 3, 10, 11]
def k7_2 : SCode := .reg [⟨some 23, none, .mov (.tmp 11), [], false⟩, ⟨some 24, none, .bin .neq (.tmp 23) (.const (.int .i64 0)), [], false⟩, ⟨some 22, none, .mov (.tmp 24), [], false⟩] [0, 3, 10, 11, 22]
def k7_3 : SCode := .reg [⟨some 25, none, .mov (.tmp 11), [], false⟩, ⟨some 8, none, .mov (.const (.int .i64 0)), [], false⟩, ⟨some 9, none, .mov (.tmp 25), [], false⟩] [8, 9]
def k7_4 : SCode := .seq k7_3 .ret
def k7_5 : SCode := .reg [⟨some 27, none, .mov (.tmp 0), [], false⟩, ⟨some 28, none, .len (.tmp 27), [], false⟩, ⟨some 29, none, .bin .sub (.tmp 28) (.const (.int .i64 1)), [], false⟩, ⟨some 30, none, .mov (.tmp 3), [], false⟩, ⟨some 31, none, .buildSl 3 1 [(.int .i64 0)] 1 [(0, (.tmp 30))], [], false⟩, ⟨some 32, none, .call 56 [(.const (.int .i64 0)), (.tmp 29), (.tmp 31)], [], false⟩, ⟨some 33, none, .un .not (.tmp 32), [], false⟩, ⟨some 26, none, .mov (.tmp 33), [], false⟩] [3, 10, 26]
def k7_6 : SCode := .reg [⟨some 8, none, .mov (.const (.int .i64 0)), [], false⟩, ⟨some 9, none, .mov (.const (.int .i64 7)), [], false⟩] [8, 9]
def k7_7 : SCode := .seq k7_6 .ret
def k7_8 : SCode := .cond (.tmp 26) k7_7 .skip
def k7_9 : SCode := .seq k7_5 k7_8
def k7_10 : SCode := .cond (.tmp 22) k7_4 k7_9
def k7_11 : SCode := .seq k7_2 k7_10
def k7_12 : SCode := .block 0 k7_11
def k7_13 : SCode := .reg [⟨some 12, none, .mov (.const (.int .i64 0)), [], false⟩, ⟨some 13, none, .mov (.const (.int .i64 10001)), [], false⟩] [3, 10, 12, 13]
def k7_14 : SCode := .reg [⟨some 34, none, .mov (.tmp 12), [], false⟩, ⟨some 35, none, .mov (.tmp 13), [], false⟩, ⟨some 36, none, .bin .lss (.tmp 34) (.tmp 35), [], false⟩] [3, 10, 12, 13, 36]
def k7_15 : SCode := .cond (.tmp 36) .skip (.exit 1)
def k7_16 : SCode := .seq k7_14 k7_15
def k7_17 : SCode := .reg [⟨some 37, none, .mov (.tmp 12), [], false⟩, ⟨some 38, none, .mov (.tmp 13), [], false⟩, ⟨some 39, none, .bin .add (.tmp 37) (.tmp 38), [], false⟩, ⟨some 40, none, .bin .quo (.tmp 39) (.const (.int .i64 2)), [], false⟩, ⟨some 14, none, .mov (.tmp 40), [], false⟩] [3, 10, 12, 13, 14]
def k7_18 : SCode := .reg [⟨some 41, none, .load true 5 (.tmp 10), [], false⟩, ⟨some 42, none, .mov (.tmp 3), [], false⟩, ⟨some 43, none, .mov (.tmp 14), [], false⟩, ⟨some 44, none, .call 57 [(.tmp 41), (.tmp 42), (.tmp 43)], [], false⟩, ⟨some 45, none, .call 45 [(.tmp 44), (.func 46)], [], false⟩, ⟨some 46, none, .len (.tmp 45), [], false⟩, ⟨some 47, none, .bin .gtr (.tmp 46) (.const (.int .i64 0)), [], false⟩] [3, 10, 12, 13, 14, 47]
def k7_19 : SCode := .reg [⟨some 48, none, .mov (.tmp 14), [], false⟩, ⟨some 13, none, .mov (.tmp 48), [], false⟩] [3, 10, 12, 13]
def k7_20 : SCode := .reg [⟨some 49, none, .mov (.tmp 14), [], false⟩, ⟨some 50, none, .bin .add (.tmp 49) (.const (.int .i64 1)), [], false⟩, ⟨some 12, none, .mov (.tmp 50), [], false⟩] [3, 10, 12, 13]
def k7_21 : SCode := .cond (.tmp 47) k7_19 k7_20
def k7_22 : SCode := .seq k7_18 k7_21
def k7_23 : SCode := .seq k7_17 k7_22
def k7_24 : SCode := .block 2 k7_23
def k7_25 : SCode := .seq k7_16 k7_24
def k7_26 : SCode := .loop k7_25
def k7_27 : SCode := .block 1 k7_26
def k7_28 : SCode := .reg [⟨some 51, none, .mov (.tmp 12), [], false⟩, ⟨some 52, none, .bin .gtr (.tmp 51) (.const (.int .i64 10000)), [], false⟩] [12, 52]
def k7_29 : SCode := .reg [⟨some 8, none, .mov (.const (.int .i64 0)), [], false⟩, ⟨some 9, none, .mov (.const (.int .i64 9)), [], false⟩] [8, 9]
def k7_30 : SCode := .seq k7_29 .ret
def k7_31 : SCode := .cond (.tmp 52) k7_30 .skip
def k7_32 : SCode := .seq k7_28 k7_31
def k7_33 : SCode := .reg [⟨some 53, none, .mov (.tmp 12), [], false⟩, ⟨some 8, none, .mov (.tmp 53), [], false⟩, ⟨some 9, none, .mov (.const (.int .i64 0)), [], false⟩] [8, 9]
def k7_34 : SCode := .seq k7_33 .ret
def k7_35 : SCode := .seq k7_32 k7_34
def k7_36 : SCode := .seq k7_27 k7_35
def k7_37 : SCode := .seq k7_13 k7_36
def k7_38 : SCode := .seq k7_12 k7_37
def k7_39 : SCode := .seq k7_1 k7_38
def k7_40 : SCode := .seq k7_0 k7_39
@[simp] def rs_wire_Stretch : List SRes := [.tmp 8, .tmp 9]
theorem law_wire_Stretch (cs : List CV) (r : CV) (hl : cs.length ≤ 54) (h : STri (cfF Try.prog [] 54) k7_40 (initT 0 cs) [] (retQ rs_wire_Stretch r)) : SC Try.prog 30 cs r :=
  sc_of [] follows Try.func30 rfl Try.ntmps30 (by decide) (by kernel_rfl) (by kernel_rfl) hl h
def k8_0 : SCode := .reg [⟨some 4, none, .box 73 (.tmp 1), [], false⟩, ⟨some 5, none, .box 25 (.tmp 2), [], false⟩, ⟨some 6, none, .mov (.const (.slice none 0 0)), [], false⟩, ⟨some 7, none, .mov (.const (.int .i64 0)), [], false⟩] [0, 4, 5]
def k8_1 : SCode := .reg [⟨some 11, none, .mov (.tmp 0), [], false⟩, ⟨some 12, none, .load true 3 (.tmp 4), [], false⟩, ⟨some 13, none, .buildSl 73 3 [(.int .i64 0), (.int .i64 0), (.int .i64 0)] 1 [(0, (.tmp 12))], [], false⟩, ⟨some 14, none, .load true 2 (.tmp 5), [], false⟩, ⟨some 15, none, .call 44 [(.tmp 11), (.tmp 13), (.tmp 14)], [], false⟩, ⟨some 10, none, .mov (.tmp 15), [], false⟩, ⟨some 16, none, .ext (.tmp 10) 0, [], false⟩, ⟨some 17, none, .ext (.tmp 10) 1, [], false⟩, ⟨some 8, none, .alloc 91 [(.slice none 0 0), (.slice none 0 0), (.slice none 0 0), (.int .i64 0), (.int .i64 0)], [], false⟩, ⟨none, none, .store 5 (.tmp 8) (.tmp 16), [], false⟩, ⟨some 9, none, .mov (.tmp 17), [], false⟩] [8, 9]
def k8_2 : SCode := .reg [⟨some 18, none, .mov (.tmp 9), [], false⟩, ⟨some 19, none, .bin .neq (.tmp 18) (.const (.int .i64 0)), [], false⟩] [8, 9, 19]
def k8_3 : SCode := .reg [⟨some 20, none, .mov (.tmp 9), [], false⟩, ⟨some 6, none, .mov (.const (.slice none 0 0)), [], false⟩, ⟨some 7, none, .mov (.tmp 20), [], false⟩] [6, 7]
def k8_4 : SCode := .seq k8_3 .ret
def k8_5 : SCode := .cond (.tmp 19) k8_4 .skip
def k8_6 : SCode := .seq k8_2 k8_5
def k8_7 : SCode := .reg [⟨some 21, none, .load true 5 (.tmp 8), [], false⟩, ⟨some 22, none, .call 45 [(.tmp 21), (.func 46)], [], false⟩, ⟨some 6, none, .mov (.tmp 22), [], false⟩, ⟨some 7, none, .mov (.const (.int .i64 0)), [], false⟩] [6, 7]
def k8_8 : SCode := .seq k8_7 .ret
def k8_9 : SCode := .seq k8_6 k8_8
def k8_10 : SCode := .seq k8_1 k8_9
def k8_11 : SCode := .seq k8_0 k8_10
@[simp] def rs_wire_Spans : List SRes := [.tmp 6, .tmp 7]
theorem law_wire_Spans (cs : List CV) (r : CV) (hl : cs.length ≤ 23) (h : STri (cfF Try.prog [] 23) k8_11 (initT 0 cs) [] (retQ rs_wire_Spans r)) : SC Try.prog 37 cs r :=
  sc_of [] follows Try.func37 rfl Try.ntmps37 (by decide) (by kernel_rfl) (by kernel_rfl) hl h
def k9_0 : SCode := .reg [⟨some 5, none, .box 25 (.tmp 2), [], false⟩, ⟨some 6, none, .alloc 91 [(.slice none 0 0), (.slice none 0 0), (.slice none 0 0), (.int .i64 0), (.int .i64 0)], [], false⟩, ⟨some 7, none, .mov (.const (.int .i64 0)), [], false⟩] [0, 1, 5, 6]
def k9_1 : SCode := .reg [⟨some 14, none, .mov (.tmp 0), [], false⟩, ⟨some 15, none, .len (.tmp 14), [], false⟩, ⟨some 16, none, .buildSl 3 1 [(.int .i64 0)] 1 [(0, (.tmp 15))], [], false⟩, ⟨some 17, none, .call 56 [(.const (.int .i64 1)), (.const (.int .i64 10)), (.tmp 16)], [], false⟩, ⟨some 18, none, .un .not (.tmp 17), [], false⟩] [0, 1, 5, 6, 18]
def k9_2 : SCode := .reg [⟨some 19, none, .load true 5 (.tmp 6), [], false⟩, ⟨none, none, .store 5 (.tmp 6) (.tmp 19), [], false⟩, ⟨some 7, none, .mov (.const (.int .i64 2)), [], false⟩] [6, 7]
def k9_3 : SCode := .seq k9_2 .ret
def k9_4 : SCode := .cond (.tmp 18) k9_3 .skip
def k9_5 : SCode := .seq k9_1 k9_4
def k9_6 : SCode := .reg [⟨some 20, none, .mov (.tmp 0), [], false⟩, ⟨some 21, none, .len (.tmp 20), [], false⟩, ⟨some 22, none, .mov (.const (.int .i64 0)), [], false⟩] [0, 1, 5, 6, 20, 21, 22]
def k9_7 : SCode := .reg [⟨some 23, none, .bin .lss (.tmp 22) (.tmp 21), [], false⟩] [0, 1, 5, 6, 20, 21, 22, 23]
def k9_8 : SCode := .cond (.tmp 23) .skip (.exit 0)
def k9_9 : SCode := .reg [⟨some 24, none, .idxS 8 (.tmp 20) (.tmp 22), [], false⟩, ⟨some 25, none, .load true 8 (.tmp 24), [], false⟩, ⟨some 9, none, .alloc 79 [(.int .i64 0), (.int .i64 0), (.int .i64 0), (.int .i64 0), (.int .i64 0), (.int .i64 0), (.int .i64 0), (.slice none 0 0)], [], false⟩, ⟨none, none, .store 8 (.tmp 9) (.tmp 25), [], false⟩] [0, 1, 5, 6, 9, 20, 21, 22]
def k9_10 : SCode := .reg [⟨some 27, none, .load true 8 (.tmp 9), [], false⟩, ⟨some 28, none, .call 60 [(.tmp 27)], [], false⟩, ⟨some 26, none, .mov (.tmp 28), [], false⟩, ⟨some 29, none, .ext (.tmp 26) 0, [], false⟩, ⟨some 30, none, .ext (.tmp 26) 1, [], false⟩, ⟨some 10, none, .mov (.tmp 29), [], false⟩, ⟨some 11, none, .mov (.tmp 30), [], false⟩] [0, 1, 5, 6, 9, 10, 11, 20, 21, 22]
def k9_11 : SCode := .reg [⟨some 31, none, .mov (.tmp 11), [], false⟩, ⟨some 32, none, .un .not (.tmp 31), [], false⟩] [0, 1, 5, 6, 9, 10, 20, 21, 22, 32]
def k9_12 : SCode := .reg [⟨some 33, none, .load true 5 (.tmp 6), [], false⟩, ⟨none, none, .store 5 (.tmp 6) (.tmp 33), [], false⟩, ⟨some 7, none, .mov (.const (.int .i64 2)), [], false⟩] [6, 7]
def k9_13 : SCode := .seq k9_12 .ret
def k9_14 : SCode := .cond (.tmp 32) k9_13 .skip
def k9_15 : SCode := .seq k9_11 k9_14
def k9_16 : SCode := .reg [⟨some 34, none, .fld 0 (.tmp 6), [], true⟩, ⟨some 35, none, .load false 1 (.tmp 34), [], true⟩, ⟨some 36, none, .mov (.tmp 10), [], false⟩, ⟨some 37, none, .buildSl 112 1 [.nilIface] 1 [(0, (.tmp 36))], [0, 1], true⟩, ⟨some 38, none, .append 112 1 16 (.tmp 35) (.tmp 37), [], true⟩, ⟨some 39, none, .fld 1 (.tmp 6), [3, 4], true⟩, ⟨some 40, none, .load false 1 (.tmp 39), [3, 4], true⟩, ⟨some 41, none, .fld 1 (.tmp 9), [3, 4], false⟩, ⟨some 42, none, .load true 2 (.tmp 41), [3, 4], false⟩, ⟨some 43, none, .buildSl 25 2 [(.int .i64 0), (.int .i64 0)] 1 [(0, (.tmp 42))], [0, 1, 4, 5, 6], true⟩, ⟨some 44, none, .append 25 2 16 (.tmp 40) (.tmp 43), [], true⟩, ⟨some 45, none, .fld 0 (.tmp 6), [9, 10], false⟩, ⟨none, none, .store 1 (.tmp 45) (.tmp 38), [], false⟩, ⟨some 46, none, .fld 1 (.tmp 6), [], false⟩, ⟨none, none, .store 1 (.tmp 46) (.tmp 44), [], false⟩] [0, 1, 5, 6, 20, 21, 22]
def k9_17 : SCode := .seq k9_15 k9_16
def k9_18 : SCode := .seq k9_10 k9_17
def k9_19 : SCode := .seq k9_9 k9_18
def k9_20 : SCode := .block 1 k9_19
def k9_21 : SCode := .reg [⟨some 47, none, .bin .add (.tmp 22) (.const (.int .i64 1)), [], false⟩, ⟨some 22, none, .mov (.tmp 47), [], false⟩] [0, 1, 5, 6, 20, 21, 22]
def k9_22 : SCode := .seq k9_20 k9_21
def k9_23 : SCode := .seq k9_8 k9_22
def k9_24 : SCode := .seq k9_7 k9_23
def k9_25 : SCode := .loop k9_24
def k9_26 : SCode := .block 0 k9_25
def k9_27 : SCode := .seq k9_6 k9_26
def k9_28 : SCode := .reg [⟨some 48, none, .mov (.tmp 1), [], false⟩, ⟨some 49, none, .len (.tmp 48), [], false⟩, ⟨some 50, none, .bin .gtr (.tmp 49) (.const (.int .i64 60)), [], false⟩] [0, 1, 5, 6, 50]
def k9_29 : SCode := .reg [⟨some 51, none, .load true 5 (.tmp 6), [], false⟩, ⟨none, none, .store 5 (.tmp 6) (.tmp 51), [], false⟩, ⟨some 7, none, .mov (.const (.int .i64 5)), [], false⟩] [6, 7]
def k9_30 : SCode := .seq k9_29 .ret
def k9_31 : SCode := .cond (.tmp 50) k9_30 .skip
def k9_32 : SCode := .seq k9_28 k9_31
def k9_33 : SCode := .reg [⟨some 52, none, .mov (.tmp 1), [], false⟩, ⟨some 53, none, .len (.tmp 52), [], false⟩, ⟨some 54, none, .mov (.const (.int .i64 0)), [], false⟩] [0, 1, 5, 6, 52, 53, 54]
def k9_34 : SCode := .reg [⟨some 55, none, .bin .lss (.tmp 54) (.tmp 53), [], false⟩] [0, 1, 5, 6, 52, 53, 54, 55]
def k9_35 : SCode := .cond (.tmp 55) .skip (.exit 2)
def k9_36 : SCode := .reg [⟨some 56, none, .idxS 3 (.tmp 52) (.tmp 54), [], false⟩, ⟨some 57, none, .load true 3 (.tmp 56), [], false⟩, ⟨some 13, none, .alloc 73 [(.int .i64 0), (.int .i64 0), (.int .i64 0)], [], false⟩, ⟨none, none, .store 3 (.tmp 13) (.tmp 57), [], false⟩] [0, 1, 5, 6, 13, 52, 53, 54]
def k9_37 : SCode := .reg [⟨some 59, none, .mov (.tmp 0), [], false⟩, ⟨some 60, none, .len (.tmp 59), [], false⟩, ⟨some 61, none, .bin .sub (.tmp 60) (.const (.int .i64 1)), [], false⟩, ⟨some 62, none, .fld 0 (.tmp 13), [], false⟩, ⟨some 63, none, .load false 1 (.tmp 62), [], false⟩, ⟨some 64, none, .buildSl 3 1 [(.int .i64 0)] 1 [(0, (.tmp 63))], [], false⟩, ⟨some 65, none, .call 56 [(.const (.int .i64 0)), (.tmp 61), (.tmp 64)], [], false⟩, ⟨some 66, none, .un .not (.tmp 65), [], false⟩, ⟨some 58, none, .mov (.tmp 66), [], false⟩] [0, 1, 5, 6, 13, 52, 53, 54, 58]
def k9_38 : SCode := .reg [⟨some 67, none, .load true 5 (.tmp 6), [], false⟩, ⟨none, none, .store 5 (.tmp 6) (.tmp 67), [], false⟩, ⟨some 7, none, .mov (.const (.int .i64 7)), [], false⟩] [6, 7]
def k9_39 : SCode := .seq k9_38 .ret
def k9_40 : SCode := .reg [⟨some 69, none, .fld 1 (.tmp 13), [], false⟩, ⟨some 70, none, .load false 1 (.tmp 69), [], false⟩, ⟨some 71, none, .buildSl 3 1 [(.int .i64 0)] 1 [(0, (.tmp 70))], [], false⟩, ⟨some 72, none, .call 56 [(.const (.int .i64 0)), (.const (.int .i64 3155760000)), (.tmp 71)], [], false⟩, ⟨some 73, none, .un .not (.tmp 72), [], false⟩, ⟨some 68, none, .mov (.tmp 73), [], false⟩] [0, 1, 5, 6, 13, 52, 53, 54, 68]
def k9_41 : SCode := .reg [⟨some 74, none, .fld 0 (.tmp 6), [], false⟩, ⟨some 75, none, .load false 1 (.tmp 74), [], false⟩, ⟨some 76, none, .fld 0 (.tmp 13), [], false⟩, ⟨some 77, none, .load false 1 (.tmp 76), [], false⟩, ⟨some 78, none, .idxS 1 (.tmp 75) (.tmp 77), [], false⟩, ⟨some 79, none, .load false 1 (.tmp 78), [], false⟩, ⟨some 80, none, .fld 2 (.tmp 13), [], false⟩, ⟨some 81, none, .load false 1 (.tmp 80), [], false⟩, ⟨some 82, none, .callI "turret/wire.isSaid" (.tmp 79) [(.tmp 81)], [], false⟩, ⟨some 83, none, .un .not (.tmp 82), [], false⟩, ⟨some 68, none, .mov (.tmp 83), [], false⟩] [0, 1, 5, 6, 52, 53, 54, 68]
def k9_42 : SCode := .cond (.tmp 68) .skip k9_41
def k9_43 : SCode := .seq k9_40 k9_42
def k9_44 : SCode := .reg [⟨some 84, none, .load true 5 (.tmp 6), [], false⟩, ⟨none, none, .store 5 (.tmp 6) (.tmp 84), [], false⟩, ⟨some 7, none, .mov (.const (.int .i64 2)), [], false⟩] [6, 7]
def k9_45 : SCode := .seq k9_44 .ret
def k9_46 : SCode := .cond (.tmp 68) k9_45 .skip
def k9_47 : SCode := .seq k9_43 k9_46
def k9_48 : SCode := .cond (.tmp 58) k9_39 k9_47
def k9_49 : SCode := .seq k9_37 k9_48
def k9_50 : SCode := .block 4 k9_49
def k9_51 : SCode := .seq k9_36 k9_50
def k9_52 : SCode := .block 3 k9_51
def k9_53 : SCode := .reg [⟨some 85, none, .bin .add (.tmp 54) (.const (.int .i64 1)), [], false⟩, ⟨some 54, none, .mov (.tmp 85), [], false⟩] [0, 1, 5, 6, 52, 53, 54]
def k9_54 : SCode := .seq k9_52 k9_53
def k9_55 : SCode := .seq k9_35 k9_54
def k9_56 : SCode := .seq k9_34 k9_55
def k9_57 : SCode := .loop k9_56
def k9_58 : SCode := .block 2 k9_57
def k9_59 : SCode := .seq k9_33 k9_58
def k9_60 : SCode := .reg [⟨some 86, none, .load true 2 (.tmp 5), [], false⟩, ⟨some 87, none, .call 61 [(.tmp 86), (.const (.int .i64 7200))], [], false⟩, ⟨some 88, none, .un .not (.tmp 87), [], false⟩] [1, 5, 6, 88]
def k9_61 : SCode := .reg [⟨some 89, none, .load true 5 (.tmp 6), [], false⟩, ⟨none, none, .store 5 (.tmp 6) (.tmp 89), [], false⟩, ⟨some 7, none, .mov (.const (.int .i64 3)), [], false⟩] [6, 7]
def k9_62 : SCode := .seq k9_61 .ret
def k9_63 : SCode := .cond (.tmp 88) k9_62 .skip
def k9_64 : SCode := .seq k9_60 k9_63
def k9_65 : SCode := .reg [⟨some 90, none, .mov (.tmp 1), [], false⟩, ⟨some 91, none, .load true 2 (.tmp 5), [], true⟩, ⟨some 92, none, .fld 2 (.tmp 6), [], false⟩, ⟨none, none, .store 1 (.tmp 92) (.tmp 90), [1], false⟩, ⟨some 93, none, .fld 3 (.tmp 6), [], false⟩, ⟨none, none, .store 2 (.tmp 93) (.tmp 91), [], false⟩] [6]
def k9_66 : SCode := .reg [⟨some 94, none, .load true 5 (.tmp 6), [], false⟩, ⟨none, none, .store 5 (.tmp 6) (.tmp 94), [], false⟩, ⟨some 7, none, .mov (.const (.int .i64 0)), [], false⟩] [6, 7]
def k9_67 : SCode := .seq k9_66 .ret
def k9_68 : SCode := .seq k9_65 k9_67
def k9_69 : SCode := .seq k9_64 k9_68
def k9_70 : SCode := .seq k9_59 k9_69
def k9_71 : SCode := .seq k9_32 k9_70
def k9_72 : SCode := .seq k9_27 k9_71
def k9_73 : SCode := .seq k9_5 k9_72
def k9_74 : SCode := .seq k9_0 k9_73
@[simp] def rs_wire_newBook : List SRes := [.cell 6 true 5, .tmp 7]
theorem law_wire_newBook (cs : List CV) (r : CV) (hl : cs.length ≤ 95) (h : STri (cfF Try.prog [] 95) k9_74 (initT 0 cs) [] (retQ rs_wire_newBook r)) : SC Try.prog 44 cs r :=
  sc_of [] follows Try.func44 rfl Try.ntmps44 (by decide) (by kernel_rfl) (by kernel_rfl) hl h
def k10_0 : SCode := .reg [⟨some 2, none, .box 91 (.tmp 0), [], false⟩, ⟨some 3, none, .box 95 (.tmp 1), [], false⟩, ⟨some 4, none, .alloc 30 [(.slice none 0 0)], [], false⟩] [2, 3, 4]
def k10_1 : SCode := .reg [⟨some 8, none, .load true 5 (.tmp 2), [], false⟩, ⟨some 9, none, .mkFn 62 [(.tmp 8)] [], [], false⟩] [3, 4, 9]
def k10_2 : SCode := .reg [⟨some 5, none, .mov (.tmp 10), [], false⟩] [3, 4, 5, 11]
def k10_3 : SCode := .reg [⟨some 6, none, .mov (.tmp 11), [], false⟩] [3, 4, 5, 6]
def k10_4 : SCode := .seq k10_2 k10_3
def k10_5 : SCode := .reg [⟨some 12, none, .load false 1 (.tmp 3), [], false⟩, ⟨some 13, none, .mov (.tmp 6), [], false⟩, ⟨some 14, none, .callV (.tmp 12) [(.tmp 13)], [], false⟩, ⟨some 15, none, .un .not (.tmp 14), [], false⟩] [4, 5, 15]
def k10_6 : SCode := .cond (.tmp 15) (.exit 1) .skip
def k10_7 : SCode := .seq k10_5 k10_6
def k10_8 : SCode := .reg [⟨some 16, none, .load false 1 (.tmp 4), [], false⟩, ⟨some 17, none, .len (.tmp 16), [], false⟩, ⟨some 18, none, .bin .sub (.tmp 17) (.const (.int .i64 1)), [], false⟩, ⟨some 7, none, .mov (.tmp 18), [], false⟩] [4, 5, 7]
def k10_9 : SCode := .reg [⟨some 19, none, .mov (.tmp 7), [], false⟩, ⟨some 20, none, .bin .geq (.tmp 19) (.const (.int .i64 0)), [], false⟩, ⟨some 21, none, .mov (.tmp 20), [], false⟩, ⟨some 22, (some (21, true)), .load false 1 (.tmp 4), [], false⟩, ⟨some 23, (some (21, true)), .mov (.tmp 7), [], false⟩, ⟨some 24, (some (21, true)), .idxS 2 (.tmp 22) (.tmp 23), [], false⟩, ⟨some 25, (some (21, true)), .fld 1 (.tmp 24), [], false⟩, ⟨some 26, (some (21, true)), .load false 1 (.tmp 25), [], false⟩, ⟨some 27, (some (21, true)), .mov (.tmp 5), [], false⟩, ⟨some 28, (some (21, true)), .bin .sub (.tmp 27) (.const (.int .i64 1)), [], false⟩, ⟨some 29, (some (21, true)), .bin .eql (.tmp 26) (.tmp 28), [], false⟩, ⟨some 30, none, .pick (.tmp 21) (.tmp 29) (.const (.bool false)), [], false⟩] [4, 5, 7, 30]
def k10_10 : SCode := .reg [⟨some 31, none, .load false 1 (.tmp 4), [], false⟩, ⟨some 32, none, .mov (.tmp 7), [], false⟩, ⟨some 33, none, .mov (.tmp 5), [], false⟩, ⟨some 34, none, .idxS 2 (.tmp 31) (.tmp 32), [], false⟩, ⟨some 35, none, .fld 1 (.tmp 34), [], false⟩, ⟨none, none, .store 1 (.tmp 35) (.tmp 33), [], false⟩] []
def k10_11 : SCode := .reg [⟨some 36, none, .load false 1 (.tmp 4), [], false⟩, ⟨some 37, none, .mov (.tmp 5), [], false⟩, ⟨some 38, none, .mov (.tmp 5), [], false⟩, ⟨some 39, none, .build [(.int .i64 0), (.int .i64 0)] [(0, 1, (.tmp 37)), (1, 1, (.tmp 38))], [], false⟩, ⟨some 40, none, .buildSl 25 2 [(.int .i64 0), (.int .i64 0)] 1 [(0, (.tmp 39))], [], false⟩, ⟨some 41, none, .append 25 2 16 (.tmp 36) (.tmp 40), [], false⟩, ⟨none, none, .store 1 (.tmp 4) (.tmp 41), [], false⟩] []
def k10_12 : SCode := .cond (.tmp 30) k10_10 k10_11
def k10_13 : SCode := .seq k10_9 k10_12
def k10_14 : SCode := .seq k10_8 k10_13
def k10_15 : SCode := .seq k10_7 k10_14
def k10_16 : SCode := .block 1 k10_15
def k10_17 : SCode := .range (.tmp 9) [10, 11] k10_4 k10_16
def k10_18 : SCode := .block 0 k10_17
def k10_19 : SCode := .seq k10_1 k10_18
def k10_20 : SCode := .reg [⟨some 42, none, .load false 1 (.tmp 4), [], false⟩, ⟨none, none, .store 1 (.tmp 4) (.tmp 42), [], false⟩] [4]
def k10_21 : SCode := .seq k10_20 .ret
def k10_22 : SCode := .seq k10_19 k10_21
def k10_23 : SCode := .seq k10_0 k10_22
@[simp] def rs_wire_book_spans : List SRes := [.cell 4 false 1]
theorem law_wire_book_spans (cs : List CV) (r : CV) (hl : cs.length ≤ 43) (h : STri (cfF Try.prog [] 43) k10_23 (initT 0 cs) [] (retQ rs_wire_book_spans r)) : SC Try.prog 45 cs r :=
  sc_of [] follows Try.func45 rfl Try.ntmps45 (by decide) (by kernel_rfl) (by kernel_rfl) hl h
def k11_0 : SCode := .reg [⟨some 2, none, .mov (.const (.bool false)), [], false⟩] [0]
def k11_1 : SCode := .reg [⟨some 3, none, .mov (.tmp 0), [], false⟩, ⟨some 4, none, .bin .eql (.tmp 3) (.const (.int .u64 0)), [], false⟩, ⟨some 2, none, .mov (.tmp 4), [], false⟩] [2]
def k11_2 : SCode := .seq k11_1 .ret
def k11_3 : SCode := .seq k11_0 k11_2
@[simp] def rs_wire_nobody : List SRes := [.tmp 2]
theorem law_wire_nobody (cs : List CV) (r : CV) (hl : cs.length ≤ 5) (h : STri (cfF Try.prog [] 5) k11_3 (initT 0 cs) [] (retQ rs_wire_nobody r)) : SC Try.prog 46 cs r :=
  sc_of [] follows Try.func46 rfl Try.ntmps46 (by decide) (by kernel_rfl) (by kernel_rfl) hl h
def k12_0 : SCode := .reg [⟨some 1, none, .box 91 (.tmp 0), [], false⟩, ⟨some 2, none, .mov (.const (.map none)), [], false⟩] [1, 2]
def k12_1 : SCode := .reg [⟨some 6, none, .mkMap false .u64, [], false⟩, ⟨some 3, none, .alloc 96 [(.map none)], [], false⟩, ⟨none, none, .store 1 (.tmp 3) (.tmp 6), [], false⟩] [1, 2, 3]
def k12_2 : SCode := .reg [⟨some 7, none, .load true 5 (.tmp 1), [], false⟩, ⟨some 8, none, .mkFn 62 [(.tmp 7)] [], [], false⟩] [2, 3, 8]
def k12_3 : SCode := .reg [⟨some 5, none, .mov (.tmp 10), [], false⟩] [3, 5]
def k12_4 : SCode := .reg [⟨some 11, none, .load false 1 (.tmp 3), [], false⟩, ⟨some 12, none, .mov (.tmp 5), [], false⟩, ⟨none, none, .mapUpd false .u64 (.tmp 11) (.tmp 12) (.const (.bool true)), [], false⟩] []
def k12_5 : SCode := .block 1 k12_4
def k12_6 : SCode := .range (.tmp 8) [9, 10] k12_3 k12_5
def k12_7 : SCode := .block 0 k12_6
def k12_8 : SCode := .seq k12_2 k12_7
def k12_9 : SCode := .reg [⟨some 13, none, .load false 1 (.tmp 3), [], false⟩, ⟨some 2, none, .mov (.tmp 13), [], false⟩] [2]
def k12_10 : SCode := .seq k12_9 .ret
def k12_11 : SCode := .seq k12_8 k12_10
def k12_12 : SCode := .seq k12_1 k12_11
def k12_13 : SCode := .seq k12_0 k12_12
@[simp] def rs_wire_book_sets : List SRes := [.tmp 2]
theorem law_wire_book_sets (cs : List CV) (r : CV) (hl : cs.length ≤ 14) (h : STri (cfF Try.prog [] 14) k12_13 (initT 0 cs) [] (retQ rs_wire_book_sets r)) : SC Try.prog 47 cs r :=
  sc_of [] follows Try.func47 rfl Try.ntmps47 (by decide) (by kernel_rfl) (by kernel_rfl) hl h
def k13_0 : SCode := .reg [⟨some 3, none, .mov (.const (.bool false)), [], false⟩] [0, 1]
def k13_1 : SCode := .reg [⟨some 4, none, .mov (.tmp 0), [], false⟩, ⟨some 5, none, .call 50 [(.tmp 4)], [], false⟩, ⟨some 6, none, .load false 1 (.tmp 1), [], false⟩, ⟨some 7, none, .bin .eql (.tmp 5) (.tmp 6), [], false⟩, ⟨some 3, none, .mov (.tmp 7), [], false⟩] [3]
def k13_2 : SCode := .seq k13_1 .ret
def k13_3 : SCode := .seq k13_0 k13_2
@[simp] def rs_wire_Most_1 : List SRes := [.tmp 3]
theorem law_wire_Most_1 (cs : List CV) (r : CV) (hl : cs.length ≤ 8) (h : STri (cfF Try.prog [] 8) k13_3 (initT 0 cs) [] (retQ rs_wire_Most_1 r)) : SC Try.prog 49 cs r :=
  sc_of [] follows Try.func49 rfl Try.ntmps49 (by decide) (by kernel_rfl) (by kernel_rfl) hl h
def k14_0 : SCode := .reg [⟨some 3, none, .boxZ 3 (.tmp 0), [], false⟩, ⟨some 4, none, .boxZ 3 (.tmp 1), [], false⟩, ⟨some 6, none, .mov (.const (.bool false)), [], false⟩] [2, 3, 4]
def k14_1 : SCode := .reg [⟨some 7, none, .mov (.tmp 2), [], false⟩, ⟨some 8, none, .mkFn 70 [] [(.tmp 3), (.tmp 4)], [], false⟩, ⟨some 9, none, .call 69 [(.tmp 7), (.tmp 8)], [], false⟩, ⟨some 10, none, .un .not (.tmp 9), [], false⟩, ⟨some 6, none, .mov (.tmp 10), [], false⟩] [6]
def k14_2 : SCode := .seq k14_1 .ret
def k14_3 : SCode := .seq k14_0 k14_2
@[simp] def rs_wire_within : List SRes := [.tmp 6]
theorem law_wire_within (cs : List CV) (r : CV) (hl : cs.length ≤ 11) (h : STri (cfF Try.prog [] 11) k14_3 (initT 0 cs) [] (retQ rs_wire_within r)) : SC Try.prog 56 cs r :=
  sc_of [] follows Try.func56 rfl Try.ntmps56 (by decide) (by kernel_rfl) (by kernel_rfl) hl h
@[simp] def rs_wire_book_wider : List SRes := [.cell 6 true 5]
def k15_0 : SCode := .reg [⟨some 1, none, .box 79 (.tmp 0), [], false⟩, ⟨some 2, none, .mov (.const .nilIface), [], false⟩, ⟨some 3, none, .mov (.const (.bool false)), [], false⟩] [1]
def k15_1 : SCode := .reg [⟨some 8, none, .call 72 [], [], false⟩, ⟨some 9, none, .fld 0 (.tmp 1), [], false⟩, ⟨some 10, none, .load false 1 (.tmp 9), [], false⟩, ⟨some 11, none, .lookup false .i64 .nilFunc true (.tmp 8) (.tmp 10), [], false⟩, ⟨some 7, none, .mov (.tmp 11), [], false⟩, ⟨some 12, none, .ext (.tmp 7) 0, [], false⟩, ⟨some 13, none, .ext (.tmp 7) 1, [], false⟩, ⟨some 4, none, .mov (.tmp 12), [], false⟩, ⟨some 5, none, .mov (.tmp 13), [], false⟩] [1, 4, 5]
def k15_2 : SCode := .reg [⟨some 14, none, .mov (.tmp 5), [], false⟩, ⟨some 15, none, .un .not (.tmp 14), [], false⟩, ⟨some 16, none, .mov (.tmp 15), [], false⟩, ⟨some 17, (some (16, false)), .fld 1 (.tmp 1), [], false⟩, ⟨some 18, (some (16, false)), .load true 2 (.tmp 17), [], false⟩, ⟨some 19, (some (16, false)), .call 61 [(.tmp 18), (.const (.int .i64 3600))], [], false⟩, ⟨some 20, (some (16, false)), .un .not (.tmp 19), [], false⟩, ⟨some 21, none, .pick (.tmp 16) (.const (.bool true)) (.tmp 20), [], false⟩] [1, 4, 21]
def k15_3 : SCode := .reg [⟨some 2, none, .mov (.const .nilIface), [], false⟩, ⟨some 3, none, .mov (.const (.bool false)), [], false⟩] [2, 3]
def k15_4 : SCode := .seq k15_3 .ret
def k15_5 : SCode := .cond (.tmp 21) k15_4 .skip
def k15_6 : SCode := .seq k15_2 k15_5
def k15_7 : SCode := .reg [⟨some 22, none, .mov (.tmp 4), [], false⟩, ⟨some 23, none, .load true 8 (.tmp 1), [], false⟩, ⟨some 24, none, .callV (.tmp 22) [(.tmp 23)], [], false⟩, ⟨some 6, none, .mov (.tmp 24), [], false⟩] [6]
def k15_8 : SCode := .reg [⟨some 25, none, .mov (.tmp 6), [], false⟩, ⟨some 26, none, .mov (.tmp 6), [], false⟩, ⟨some 27, none, .callI "turret/wire.isValid" (.tmp 26) [], [], false⟩, ⟨some 2, none, .mov (.tmp 25), [], false⟩, ⟨some 3, none, .mov (.tmp 27), [], false⟩] [2, 3]
def k15_9 : SCode := .seq k15_8 .ret
def k15_10 : SCode := .seq k15_7 k15_9
def k15_11 : SCode := .seq k15_6 k15_10
def k15_12 : SCode := .seq k15_1 k15_11
def k15_13 : SCode := .seq k15_0 k15_12
@[simp] def rs_wire_newSource : List SRes := [.tmp 2, .tmp 3]
theorem law_wire_newSource (cs : List CV) (r : CV) (hl : cs.length ≤ 28) (h : STri (cfF Try.prog [] 28) k15_13 (initT 0 cs) [] (retQ rs_wire_newSource r)) : SC Try.prog 60 cs r :=
  sc_of [] follows Try.func60 rfl Try.ntmps60 (by decide) (by kernel_rfl) (by kernel_rfl) hl h
def k16_0 : SCode := .reg [⟨some 2, none, .box 25 (.tmp 0), [], false⟩, ⟨some 4, none, .mov (.const (.bool false)), [], false⟩] [1, 2]
def k16_1 : SCode := .reg [⟨some 5, none, .mov (.tmp 1), [], false⟩, ⟨some 6, none, .un .neg (.tmp 5), [], false⟩, ⟨some 7, none, .mov (.tmp 1), [], false⟩, ⟨some 8, none, .fld 0 (.tmp 2), [], false⟩, ⟨some 9, none, .load false 1 (.tmp 8), [], false⟩, ⟨some 10, none, .fld 1 (.tmp 2), [], false⟩, ⟨some 11, none, .load false 1 (.tmp 10), [], false⟩, ⟨some 12, none, .buildSl 3 1 [(.int .i64 0)] 2 [(0, (.tmp 9)), (1, (.tmp 11))], [], false⟩, ⟨some 13, none, .call 56 [(.tmp 6), (.tmp 7), (.tmp 12)], [], false⟩, ⟨some 14, none, .mov (.tmp 13), [], false⟩, ⟨some 15, (some (14, true)), .fld 0 (.tmp 2), [], false⟩, ⟨some 16, (some (14, true)), .load false 1 (.tmp 15), [], false⟩, ⟨some 17, (some (14, true)), .fld 1 (.tmp 2), [], false⟩, ⟨some 18, (some (14, true)), .load false 1 (.tmp 17), [], false⟩, ⟨some 19, (some (14, true)), .bin .leq (.tmp 16) (.tmp 18), [], false⟩, ⟨some 20, none, .pick (.tmp 14) (.tmp 19) (.const (.bool false)), [], false⟩, ⟨some 4, none, .mov (.tmp 20), [], false⟩] [4]
def k16_2 : SCode := .seq k16_1 .ret
def k16_3 : SCode := .seq k16_0 k16_2
@[simp] def rs_wire_isSpan : List SRes := [.tmp 4]
theorem law_wire_isSpan (cs : List CV) (r : CV) (hl : cs.length ≤ 21) (h : STri (cfF Try.prog [] 21) k16_3 (initT 0 cs) [] (retQ rs_wire_isSpan r)) : SC Try.prog 61 cs r :=
  sc_of [] follows Try.func61 rfl Try.ntmps61 (by decide) (by kernel_rfl) (by kernel_rfl) hl h
def k17_0 : SCode := .reg [⟨some 2, none, .box 91 (.tmp 0), [], false⟩] [1, 2]
def k17_1 : SCode := .reg [⟨some 5, none, .fld 3 (.tmp 2), [], false⟩, ⟨some 6, none, .fld 0 (.tmp 5), [], false⟩, ⟨some 7, none, .load false 1 (.tmp 6), [], false⟩, ⟨some 4, none, .mov (.tmp 7), [], false⟩] [1, 2, 4]
def k17_2 : SCode := .reg [⟨some 8, none, .mov (.tmp 4), [], false⟩, ⟨some 9, none, .fld 3 (.tmp 2), [], false⟩, ⟨some 10, none, .fld 1 (.tmp 9), [], false⟩, ⟨some 11, none, .load false 1 (.tmp 10), [], false⟩, ⟨some 12, none, .bin .leq (.tmp 8) (.tmp 11), [], false⟩] [1, 2, 4, 12]
def k17_3 : SCode := .cond (.tmp 12) .skip (.exit 0)
def k17_4 : SCode := .seq k17_2 k17_3
def k17_5 : SCode := .reg [⟨some 15, none, .mov (.tmp 1), [], false⟩, ⟨some 16, none, .mov (.tmp 4), [], false⟩, ⟨some 17, none, .load true 5 (.tmp 2), [], false⟩, ⟨some 18, none, .mov (.tmp 4), [], false⟩, ⟨some 19, none, .call 73 [(.tmp 17), (.tmp 18)], [], false⟩, ⟨some 20, none, .callV (.tmp 15) [(.tmp 16), (.tmp 19)], [], false⟩, ⟨some 21, none, .un .not (.tmp 20), [], false⟩] [1, 2, 4, 21]
def k17_6 : SCode := .cond (.tmp 21) .ret .skip
def k17_7 : SCode := .seq k17_5 k17_6
def k17_8 : SCode := .block 1 k17_7
def k17_9 : SCode := .reg [⟨some 13, none, .mov (.tmp 4), [], false⟩, ⟨some 14, none, .bin .add (.tmp 13) (.const (.int .i64 1)), [], false⟩, ⟨some 4, none, .mov (.tmp 14), [], false⟩] [1, 2, 4]
def k17_10 : SCode := .seq k17_8 k17_9
def k17_11 : SCode := .seq k17_4 k17_10
def k17_12 : SCode := .loop k17_11
def k17_13 : SCode := .block 0 k17_12
def k17_14 : SCode := .seq k17_1 k17_13
def k17_15 : SCode := .seq k17_0 k17_14
theorem ilaw_wire_book_all (b : Nat) (fs cs : List CV) (xs : List (List CV)) (hb2 : b + 1000 ≤ 1000000000) (hl : fs.length + 1 + cs.length ≤ 22) (h : ∀ Iv A G id, (∃ v, G (.yl id) v) → (∀ k row, xs[k]? = some row → YT Try.prog Iv A G id k row) → STri (cfI Try.prog [] 22 b Iv A G) k17_15 (initS 0 (fs.map .c ++ .yl id :: cs.map .c)) [(1000000000 + b, .gh 0 false)] (itQ b xs.length)) : IterL Try.prog 62 b fs cs xs :=
  iter_of [] follows Try.func62 rfl Try.ntmps62 (by decide) hb2 (by kernel_rfl) rfl hl h
def k18_0 : SCode := .reg [⟨some 2, none, .mov (.const (.slice none 0 0)), [], false⟩] [0, 2]
def k18_1 : SCode := .reg [⟨some 4, none, .mov (.tmp 0), [], false⟩, ⟨some 5, none, .call 77 [(.tmp 4)], [], false⟩, ⟨some 6, none, .mov (.const (.int .i64 0)), [], false⟩] [0, 2, 5, 6]
def k18_2 : SCode := .reg [⟨some 7, none, .bin .lss (.tmp 6) (.tmp 5), [], false⟩] [0, 2, 5, 6, 7]
def k18_3 : SCode := .cond (.tmp 7) .skip (.exit 0)
def k18_4 : SCode := .reg [⟨some 8, none, .mov (.tmp 6), [], false⟩, ⟨some 3, none, .mov (.tmp 8), [], false⟩] [0, 2, 3, 5, 6]
def k18_5 : SCode := .reg [⟨some 9, none, .mov (.tmp 0), [], false⟩, ⟨some 10, none, .mov (.tmp 3), [], false⟩, ⟨some 11, none, .shift false (.tmp 9) (.tmp 10), [], false⟩, ⟨some 12, none, .bin .and (.tmp 11) (.const (.int .u64 1)), [], false⟩, ⟨some 13, none, .bin .eql (.tmp 12) (.const (.int .u64 1)), [], false⟩] [0, 2, 3, 5, 6, 13]
def k18_6 : SCode := .reg [⟨some 14, none, .mov (.tmp 2), [], false⟩, ⟨some 15, none, .mov (.tmp 3), [], false⟩, ⟨some 16, none, .buildSl 3 1 [(.int .i64 0)] 1 [(0, (.tmp 15))], [], false⟩, ⟨some 17, none, .append 3 1 8 (.tmp 14) (.tmp 16), [], false⟩, ⟨some 2, none, .mov (.tmp 17), [], false⟩] [0, 2, 5, 6]
def k18_7 : SCode := .cond (.tmp 13) k18_6 .skip
def k18_8 : SCode := .seq k18_5 k18_7
def k18_9 : SCode := .seq k18_4 k18_8
def k18_10 : SCode := .block 1 k18_9
def k18_11 : SCode := .reg [⟨some 18, none, .bin .add (.tmp 6) (.const (.int .i64 1)), [], false⟩, ⟨some 6, none, .mov (.tmp 18), [], false⟩] [0, 2, 5, 6]
def k18_12 : SCode := .seq k18_10 k18_11
def k18_13 : SCode := .seq k18_3 k18_12
def k18_14 : SCode := .seq k18_2 k18_13
def k18_15 : SCode := .loop k18_14
def k18_16 : SCode := .block 0 k18_15
def k18_17 : SCode := .seq k18_1 k18_16
def k18_18 : SCode := .reg [⟨some 19, none, .mov (.tmp 2), [], false⟩, ⟨some 2, none, .mov (.tmp 19), [], false⟩] [2]
def k18_19 : SCode := .seq k18_18 .ret
def k18_20 : SCode := .seq k18_17 k18_19
def k18_21 : SCode := .seq k18_0 k18_20
@[simp] def rs_wire_numbers : List SRes := [.tmp 2]
theorem law_wire_numbers (cs : List CV) (r : CV) (hl : cs.length ≤ 20) (h : STri (cfF Try.prog [] 20) k18_21 (initT 0 cs) [] (retQ rs_wire_numbers r)) : SC Try.prog 66 cs r :=
  sc_of [] follows Try.func66 rfl Try.ntmps66 (by decide) (by kernel_rfl) (by kernel_rfl) hl h
def k19_0 : SCode := .reg [⟨some 4, none, .mov (.const (.bool false)), [], false⟩] [0, 1, 2]
def k19_1 : SCode := .reg [⟨some 5, none, .mov (.tmp 0), [], false⟩, ⟨some 6, none, .load false 1 (.tmp 1), [], false⟩, ⟨some 7, none, .bin .lss (.tmp 5) (.tmp 6), [], false⟩, ⟨some 8, none, .mov (.tmp 7), [], false⟩, ⟨some 9, (some (8, false)), .mov (.tmp 0), [], false⟩, ⟨some 10, (some (8, false)), .load false 1 (.tmp 2), [], false⟩, ⟨some 11, (some (8, false)), .bin .gtr (.tmp 9) (.tmp 10), [], false⟩, ⟨some 12, none, .pick (.tmp 8) (.const (.bool true)) (.tmp 11), [], false⟩, ⟨some 4, none, .mov (.tmp 12), [], false⟩] [4]
def k19_2 : SCode := .seq k19_1 .ret
def k19_3 : SCode := .seq k19_0 k19_2
@[simp] def rs_wire_within_1 : List SRes := [.tmp 4]
theorem law_wire_within_1 (cs : List CV) (r : CV) (hl : cs.length ≤ 13) (h : STri (cfF Try.prog [] 13) k19_3 (initT 0 cs) [] (retQ rs_wire_within_1 r)) : SC Try.prog 70 cs r :=
  sc_of [] follows Try.func70 rfl Try.ntmps70 (by decide) (by kernel_rfl) (by kernel_rfl) hl h
def k20_0 : SCode := .reg [⟨some 0, none, .mov (.const (.map none)), [], false⟩] []
def k20_1 : SCode := .reg [⟨some 1, none, .mkMap false .i64, [], false⟩, ⟨none, none, .mapUpd false .i64 (.tmp 1) (.const (.int .i64 1)) (.func 81), [], false⟩, ⟨none, none, .mapUpd false .i64 (.tmp 1) (.const (.int .i64 2)) (.func 82), [], false⟩, ⟨none, none, .mapUpd false .i64 (.tmp 1) (.const (.int .i64 3)) (.func 83), [], false⟩, ⟨none, none, .mapUpd false .i64 (.tmp 1) (.const (.int .i64 4)) (.func 84), [], false⟩, ⟨some 2, none, .mov (.tmp 1), [], false⟩, ⟨some 0, none, .mov (.tmp 2), [], false⟩] [0]
def k20_2 : SCode := .seq k20_1 .ret
def k20_3 : SCode := .seq k20_0 k20_2
@[simp] def rs_wire_kinds : List SRes := [.tmp 0]
theorem law_wire_kinds (cs : List CV) (r : CV) (hl : cs.length ≤ 3) (h : STri (cfF Try.prog [] 3) k20_3 (initT 0 cs) [] (retQ rs_wire_kinds r)) : SC Try.prog 72 cs r :=
  sc_of [] follows Try.func72 rfl Try.ntmps72 (by decide) (by kernel_rfl) (by kernel_rfl) hl h
def k21_0 : SCode := .reg [⟨some 2, none, .box 91 (.tmp 0), [], false⟩, ⟨some 4, none, .mov (.const (.int .u64 0)), [], false⟩] [1, 2, 4]
def k21_1 : SCode := .reg [⟨some 7, none, .fld 2 (.tmp 2), [], false⟩, ⟨some 8, none, .load false 1 (.tmp 7), [], false⟩, ⟨some 9, none, .len (.tmp 8), [], false⟩, ⟨some 10, none, .mov (.const (.int .i64 0)), [], false⟩] [1, 2, 4, 8, 9, 10]
def k21_2 : SCode := .reg [⟨some 11, none, .bin .lss (.tmp 10) (.tmp 9), [], false⟩] [1, 2, 4, 8, 9, 10, 11]
def k21_3 : SCode := .cond (.tmp 11) .skip (.exit 0)
def k21_4 : SCode := .reg [⟨some 12, none, .idxS 3 (.tmp 8) (.tmp 10), [], false⟩, ⟨some 13, none, .load true 3 (.tmp 12), [], false⟩, ⟨some 6, none, .alloc 73 [(.int .i64 0), (.int .i64 0), (.int .i64 0)], [], false⟩, ⟨none, none, .store 3 (.tmp 6) (.tmp 13), [], false⟩] [1, 2, 4, 6, 8, 9, 10]
def k21_5 : SCode := .reg [⟨some 14, none, .mov (.tmp 4), [], false⟩, ⟨some 15, none, .fld 0 (.tmp 6), [], false⟩, ⟨some 16, none, .load false 1 (.tmp 15), [], false⟩, ⟨some 17, none, .shift false (.tmp 14) (.tmp 16), [], false⟩, ⟨some 18, none, .bin .and (.tmp 17) (.const (.int .u64 1)), [], false⟩, ⟨some 19, none, .bin .eql (.tmp 18) (.const (.int .u64 0)), [], false⟩, ⟨some 20, none, .mov (.tmp 19), [], false⟩, ⟨some 21, (some (20, true)), .load true 5 (.tmp 2), [], false⟩, ⟨some 22, (some (20, true)), .load true 3 (.tmp 6), [], false⟩, ⟨some 23, (some (20, true)), .mov (.tmp 1), [], false⟩, ⟨some 24, (some (20, true)), .call 85 [(.tmp 21), (.tmp 22), (.tmp 23)], [], false⟩, ⟨some 25, (some (20, true)), .un .not (.tmp 24), [], false⟩, ⟨some 26, none, .pick (.tmp 20) (.tmp 25) (.const (.bool false)), [], false⟩] [1, 2, 4, 6, 8, 9, 10, 26]
def k21_6 : SCode := .reg [⟨some 27, none, .mov (.tmp 4), [], false⟩, ⟨some 28, none, .fld 0 (.tmp 6), [], false⟩, ⟨some 29, none, .load false 1 (.tmp 28), [], false⟩, ⟨some 30, none, .shift true (.const (.int .u64 1)) (.tmp 29), [], false⟩, ⟨some 31, none, .bin .or (.tmp 27) (.tmp 30), [], false⟩, ⟨some 4, none, .mov (.tmp 31), [], false⟩] [1, 2, 4, 8, 9, 10]
def k21_7 : SCode := .cond (.tmp 26) k21_6 .skip
def k21_8 : SCode := .seq k21_5 k21_7
def k21_9 : SCode := .seq k21_4 k21_8
def k21_10 : SCode := .block 1 k21_9
def k21_11 : SCode := .reg [⟨some 32, none, .bin .add (.tmp 10) (.const (.int .i64 1)), [], false⟩, ⟨some 10, none, .mov (.tmp 32), [], false⟩] [1, 2, 4, 8, 9, 10]
def k21_12 : SCode := .seq k21_10 k21_11
def k21_13 : SCode := .seq k21_3 k21_12
def k21_14 : SCode := .seq k21_2 k21_13
def k21_15 : SCode := .loop k21_14
def k21_16 : SCode := .block 0 k21_15
def k21_17 : SCode := .seq k21_1 k21_16
def k21_18 : SCode := .reg [⟨some 33, none, .mov (.tmp 4), [], false⟩, ⟨some 4, none, .mov (.tmp 33), [], false⟩] [4]
def k21_19 : SCode := .seq k21_18 .ret
def k21_20 : SCode := .seq k21_17 k21_19
def k21_21 : SCode := .seq k21_0 k21_20
@[simp] def rs_wire_book_wrong : List SRes := [.tmp 4]
theorem law_wire_book_wrong (cs : List CV) (r : CV) (hl : cs.length ≤ 34) (h : STri (cfF Try.prog [] 34) k21_21 (initT 0 cs) [] (retQ rs_wire_book_wrong r)) : SC Try.prog 73 cs r :=
  sc_of [] follows Try.func73 rfl Try.ntmps73 (by decide) (by kernel_rfl) (by kernel_rfl) hl h
def k22_0 : SCode := .reg [⟨some 1, none, .box 79 (.tmp 0), [], false⟩, ⟨some 2, none, .mov (.const .nilIface), [], false⟩] [1]
def k22_1 : SCode := .reg [⟨some 3, none, .load true 8 (.tmp 1), [], false⟩, ⟨some 4, none, .build [(.int .i64 0), (.int .i64 0), (.int .i64 0), (.int .i64 0), (.int .i64 0), (.int .i64 0), (.int .i64 0), (.slice none 0 0)] [(0, 8, (.tmp 3))], [], false⟩, ⟨some 5, none, .mkIfc 136 (.tmp 4), [], false⟩, ⟨some 2, none, .mov (.tmp 5), [], false⟩] [2]
def k22_2 : SCode := .seq k22_1 .ret
def k22_3 : SCode := .seq k22_0 k22_2
@[simp] def rs_wire_kinds_1 : List SRes := [.tmp 2]
theorem law_wire_kinds_1 (cs : List CV) (r : CV) (hl : cs.length ≤ 6) (h : STri (cfF Try.prog [] 6) k22_3 (initT 0 cs) [] (retQ rs_wire_kinds_1 r)) : SC Try.prog 81 cs r :=
  sc_of [] follows Try.func81 rfl Try.ntmps81 (by decide) (by kernel_rfl) (by kernel_rfl) hl h
def k23_0 : SCode := .reg [⟨some 1, none, .box 79 (.tmp 0), [], false⟩, ⟨some 2, none, .mov (.const .nilIface), [], false⟩] [1]
def k23_1 : SCode := .reg [⟨some 3, none, .load true 8 (.tmp 1), [], false⟩, ⟨some 4, none, .build [(.int .i64 0), (.int .i64 0), (.int .i64 0), (.int .i64 0), (.int .i64 0), (.int .i64 0), (.int .i64 0), (.slice none 0 0)] [(0, 8, (.tmp 3))], [], false⟩, ⟨some 5, none, .mkIfc 137 (.tmp 4), [], false⟩, ⟨some 2, none, .mov (.tmp 5), [], false⟩] [2]
def k23_2 : SCode := .seq k23_1 .ret
def k23_3 : SCode := .seq k23_0 k23_2
@[simp] def rs_wire_kinds_2 : List SRes := [.tmp 2]
theorem law_wire_kinds_2 (cs : List CV) (r : CV) (hl : cs.length ≤ 6) (h : STri (cfF Try.prog [] 6) k23_3 (initT 0 cs) [] (retQ rs_wire_kinds_2 r)) : SC Try.prog 82 cs r :=
  sc_of [] follows Try.func82 rfl Try.ntmps82 (by decide) (by kernel_rfl) (by kernel_rfl) hl h
def k24_0 : SCode := .reg [⟨some 1, none, .box 79 (.tmp 0), [], false⟩, ⟨some 2, none, .mov (.const .nilIface), [], false⟩] [1]
def k24_1 : SCode := .reg [⟨some 3, none, .load true 8 (.tmp 1), [], false⟩, ⟨some 4, none, .build [(.int .i64 0), (.int .i64 0), (.int .i64 0), (.int .i64 0), (.int .i64 0), (.int .i64 0), (.int .i64 0), (.slice none 0 0)] [(0, 8, (.tmp 3))], [], false⟩, ⟨some 5, none, .mkIfc 138 (.tmp 4), [], false⟩, ⟨some 2, none, .mov (.tmp 5), [], false⟩] [2]
def k24_2 : SCode := .seq k24_1 .ret
def k24_3 : SCode := .seq k24_0 k24_2
@[simp] def rs_wire_kinds_3 : List SRes := [.tmp 2]
theorem law_wire_kinds_3 (cs : List CV) (r : CV) (hl : cs.length ≤ 6) (h : STri (cfF Try.prog [] 6) k24_3 (initT 0 cs) [] (retQ rs_wire_kinds_3 r)) : SC Try.prog 83 cs r :=
  sc_of [] follows Try.func83 rfl Try.ntmps83 (by decide) (by kernel_rfl) (by kernel_rfl) hl h
def k25_0 : SCode := .reg [⟨some 1, none, .box 79 (.tmp 0), [], false⟩, ⟨some 2, none, .mov (.const .nilIface), [], false⟩] [1]
def k25_1 : SCode := .reg [⟨some 3, none, .load true 8 (.tmp 1), [], false⟩, ⟨some 4, none, .build [(.int .i64 0), (.int .i64 0), (.int .i64 0), (.int .i64 0), (.int .i64 0), (.int .i64 0), (.int .i64 0), (.slice none 0 0)] [(0, 8, (.tmp 3))], [], false⟩, ⟨some 5, none, .mkIfc 139 (.tmp 4), [], false⟩, ⟨some 2, none, .mov (.tmp 5), [], false⟩] [2]
def k25_2 : SCode := .seq k25_1 .ret
def k25_3 : SCode := .seq k25_0 k25_2
@[simp] def rs_wire_kinds_4 : List SRes := [.tmp 2]
theorem law_wire_kinds_4 (cs : List CV) (r : CV) (hl : cs.length ≤ 6) (h : STri (cfF Try.prog [] 6) k25_3 (initT 0 cs) [] (retQ rs_wire_kinds_4 r)) : SC Try.prog 84 cs r :=
  sc_of [] follows Try.func84 rfl Try.ntmps84 (by decide) (by kernel_rfl) (by kernel_rfl) hl h
def k26_0 : SCode := .reg [⟨some 4, none, .box 136 (.tmp 0), [], false⟩, ⟨some 7, none, .box 25 (.tmp 3), [], false⟩, ⟨some 8, none, .mov (.const (.bool false)), [], false⟩] [1, 2, 4, 7]
def k26_1 : SCode := .reg [⟨some 12, none, .mov (.tmp 1), [], false⟩, ⟨some 13, none, .fld 0 (.tmp 4), [], false⟩, ⟨some 14, none, .fld 3 (.tmp 13), [], false⟩, ⟨some 15, none, .load false 1 (.tmp 14), [], false⟩, ⟨some 16, none, .bin .sub (.tmp 12) (.tmp 15), [], false⟩, ⟨some 9, none, .mov (.tmp 16), [], false⟩] [1, 2, 4, 7, 9]
def k26_2 : SCode := .reg [⟨some 17, none, .fld 0 (.tmp 7), [], false⟩, ⟨some 18, none, .load false 1 (.tmp 17), [], false⟩, ⟨some 19, none, .fld 0 (.tmp 4), [], false⟩, ⟨some 20, none, .fld 4 (.tmp 19), [], false⟩, ⟨some 21, none, .fld 0 (.tmp 20), [], false⟩, ⟨some 22, none, .load false 1 (.tmp 21), [], false⟩, ⟨some 23, none, .mov (.tmp 9), [], false⟩, ⟨some 24, none, .bin .mul (.tmp 22) (.tmp 23), [], false⟩, ⟨some 25, none, .call 121 [(.tmp 24), (.const (.int .i64 86400000))], [], false⟩, ⟨some 26, none, .bin .add (.tmp 18) (.tmp 25), [], false⟩, ⟨some 10, none, .mov (.tmp 26), [], false⟩] [1, 2, 4, 7, 9, 10]
def k26_3 : SCode := .reg [⟨some 27, none, .fld 1 (.tmp 7), [], false⟩, ⟨some 28, none, .load false 1 (.tmp 27), [], false⟩, ⟨some 29, none, .fld 0 (.tmp 4), [], false⟩, ⟨some 30, none, .fld 4 (.tmp 29), [], false⟩, ⟨some 31, none, .fld 1 (.tmp 30), [], false⟩, ⟨some 32, none, .load false 1 (.tmp 31), [], false⟩, ⟨some 33, none, .mov (.tmp 9), [], false⟩, ⟨some 34, none, .bin .mul (.tmp 32) (.tmp 33), [], false⟩, ⟨some 35, none, .call 122 [(.tmp 34), (.const (.int .i64 86400000))], [], false⟩, ⟨some 36, none, .bin .add (.tmp 28) (.tmp 35), [], false⟩, ⟨some 11, none, .mov (.tmp 36), [], false⟩] [1, 2, 9, 10, 11]
def k26_4 : SCode := .reg [⟨some 37, none, .mov (.tmp 9), [], false⟩, ⟨some 38, none, .bin .geq (.tmp 37) (.const (.int .i64 0)), [], false⟩, ⟨some 39, none, .mov (.tmp 38), [], false⟩, ⟨some 40, (some (39, true)), .mov (.tmp 2), [], false⟩, ⟨some 41, (some (39, true)), .mov (.tmp 1), [], false⟩, ⟨some 42, (some (39, true)), .bin .sub (.tmp 40) (.tmp 41), [], false⟩, ⟨some 43, (some (39, true)), .mov (.tmp 10), [], false⟩, ⟨some 44, (some (39, true)), .bin .sub (.tmp 42) (.tmp 43), [], false⟩, ⟨some 45, (some (39, true)), .call 123 [(.tmp 44), (.const (.int .i64 43200))], [], false⟩, ⟨some 46, (some (39, true)), .mov (.tmp 11), [], false⟩, ⟨some 47, (some (39, true)), .mov (.tmp 10), [], false⟩, ⟨some 48, (some (39, true)), .bin .sub (.tmp 46) (.tmp 47), [], false⟩, ⟨some 49, (some (39, true)), .bin .leq (.tmp 45) (.tmp 48), [], false⟩, ⟨some 50, none, .pick (.tmp 39) (.tmp 49) (.const (.bool false)), [], false⟩, ⟨some 8, none, .mov (.tmp 50), [], false⟩] [8]
def k26_5 : SCode := .seq k26_4 .ret
def k26_6 : SCode := .seq k26_3 k26_5
def k26_7 : SCode := .seq k26_2 k26_6
def k26_8 : SCode := .seq k26_1 k26_7
def k26_9 : SCode := .seq k26_0 k26_8
@[simp] def rs_wire_clock_isRight : List SRes := [.tmp 8]
theorem law_wire_clock_isRight (cs : List CV) (r : CV) (hl : cs.length ≤ 51) (h : STri (cfF Try.prog [] 51) k26_9 (initT 0 cs) [] (retQ rs_wire_clock_isRight r)) : SC Try.prog 118 cs r :=
  sc_of [] follows Try.func118 rfl Try.ntmps118 (by decide) (by kernel_rfl) (by kernel_rfl) hl h
def k27_0 : SCode := .reg [⟨some 2, none, .box 136 (.tmp 0), [], false⟩, ⟨some 4, none, .mov (.const (.bool false)), [], false⟩] [1]
def k27_1 : SCode := .reg [⟨some 5, none, .mov (.tmp 1), [], false⟩, ⟨some 6, none, .buildSl 3 1 [(.int .i64 0)] 1 [(0, (.tmp 5))], [], false⟩, ⟨some 7, none, .call 56 [(.const (.int .i64 0)), (.const (.int .i64 43199)), (.tmp 6)], [], false⟩, ⟨some 4, none, .mov (.tmp 7), [], false⟩] [4]
def k27_2 : SCode := .seq k27_1 .ret
def k27_3 : SCode := .seq k27_0 k27_2
@[simp] def rs_wire_clock_isSaid : List SRes := [.tmp 4]
theorem law_wire_clock_isSaid (cs : List CV) (r : CV) (hl : cs.length ≤ 8) (h : STri (cfF Try.prog [] 8) k27_3 (initT 0 cs) [] (retQ rs_wire_clock_isSaid r)) : SC Try.prog 119 cs r :=
  sc_of [] follows Try.func119 rfl Try.ntmps119 (by decide) (by kernel_rfl) (by kernel_rfl) hl h
def k28_0 : SCode := .reg [⟨some 1, none, .box 136 (.tmp 0), [], false⟩, ⟨some 2, none, .mov (.const (.bool false)), [], false⟩] [1]
def k28_1 : SCode := .reg [⟨some 3, none, .fld 0 (.tmp 1), [], false⟩, ⟨some 4, none, .fld 3 (.tmp 3), [], false⟩, ⟨some 5, none, .load false 1 (.tmp 4), [], false⟩, ⟨some 6, none, .buildSl 3 1 [(.int .i64 0)] 1 [(0, (.tmp 5))], [], false⟩, ⟨some 7, none, .call 56 [(.const (.int .i64 0)), (.const (.int .i64 3155760000)), (.tmp 6)], [], false⟩, ⟨some 8, none, .mov (.tmp 7), [], false⟩, ⟨some 9, (some (8, true)), .fld 0 (.tmp 1), [], false⟩, ⟨some 10, (some (8, true)), .fld 4 (.tmp 9), [], false⟩, ⟨some 11, (some (8, true)), .load true 2 (.tmp 10), [], false⟩, ⟨some 12, (some (8, true)), .call 61 [(.tmp 11), (.const (.int .i64 100000))], [], false⟩, ⟨some 13, none, .pick (.tmp 8) (.tmp 12) (.const (.bool false)), [], false⟩, ⟨some 2, none, .mov (.tmp 13), [], false⟩] [2]
def k28_2 : SCode := .seq k28_1 .ret
def k28_3 : SCode := .seq k28_0 k28_2
@[simp] def rs_wire_clock_isValid : List SRes := [.tmp 2]
theorem law_wire_clock_isValid (cs : List CV) (r : CV) (hl : cs.length ≤ 14) (h : STri (cfF Try.prog [] 14) k28_3 (initT 0 cs) [] (retQ rs_wire_clock_isValid r)) : SC Try.prog 120 cs r :=
  sc_of [] follows Try.func120 rfl Try.ntmps120 (by decide) (by kernel_rfl) (by kernel_rfl) hl h
def k29_0 : SCode := .reg [⟨some 4, none, .mov (.const (.int .i64 0)), [], false⟩] [0, 1]
def k29_1 : SCode := .reg [⟨some 5, none, .mov (.tmp 0), [], false⟩, ⟨some 6, none, .mov (.tmp 0), [], false⟩, ⟨some 7, none, .mov (.tmp 1), [], false⟩, ⟨some 8, none, .call 123 [(.tmp 6), (.tmp 7)], [], false⟩, ⟨some 9, none, .bin .sub (.tmp 5) (.tmp 8), [], false⟩, ⟨some 10, none, .mov (.tmp 1), [], false⟩, ⟨some 11, none, .bin .quo (.tmp 9) (.tmp 10), [], false⟩, ⟨some 4, none, .mov (.tmp 11), [], false⟩] [4]
def k29_2 : SCode := .seq k29_1 .ret
def k29_3 : SCode := .seq k29_0 k29_2
@[simp] def rs_wire_down : List SRes := [.tmp 4]
theorem law_wire_down (cs : List CV) (r : CV) (hl : cs.length ≤ 12) (h : STri (cfF Try.prog [] 12) k29_3 (initT 0 cs) [] (retQ rs_wire_down r)) : SC Try.prog 121 cs r :=
  sc_of [] follows Try.func121 rfl Try.ntmps121 (by decide) (by kernel_rfl) (by kernel_rfl) hl h
def k30_0 : SCode := .reg [⟨some 4, none, .mov (.const (.int .i64 0)), [], false⟩] [0, 1]
def k30_1 : SCode := .reg [⟨some 5, none, .mov (.tmp 0), [], false⟩, ⟨some 6, none, .un .neg (.tmp 5), [], false⟩, ⟨some 7, none, .mov (.tmp 1), [], false⟩, ⟨some 8, none, .call 121 [(.tmp 6), (.tmp 7)], [], false⟩, ⟨some 9, none, .un .neg (.tmp 8), [], false⟩, ⟨some 4, none, .mov (.tmp 9), [], false⟩] [4]
def k30_2 : SCode := .seq k30_1 .ret
def k30_3 : SCode := .seq k30_0 k30_2
@[simp] def rs_wire_up : List SRes := [.tmp 4]
theorem law_wire_up (cs : List CV) (r : CV) (hl : cs.length ≤ 10) (h : STri (cfF Try.prog [] 10) k30_3 (initT 0 cs) [] (retQ rs_wire_up r)) : SC Try.prog 122 cs r :=
  sc_of [] follows Try.func122 rfl Try.ntmps122 (by decide) (by kernel_rfl) (by kernel_rfl) hl h
def k31_0 : SCode := .reg [⟨some 4, none, .mov (.const (.int .i64 0)), [], false⟩] [0, 1]
def k31_1 : SCode := .reg [⟨some 5, none, .mov (.tmp 0), [], false⟩, ⟨some 6, none, .mov (.tmp 1), [], false⟩, ⟨some 7, none, .bin .rem (.tmp 5) (.tmp 6), [], false⟩, ⟨some 8, none, .mov (.tmp 1), [], false⟩, ⟨some 9, none, .bin .add (.tmp 7) (.tmp 8), [], false⟩, ⟨some 10, none, .mov (.tmp 1), [], false⟩, ⟨some 11, none, .bin .rem (.tmp 9) (.tmp 10), [], false⟩, ⟨some 4, none, .mov (.tmp 11), [], false⟩] [4]
def k31_2 : SCode := .seq k31_1 .ret
def k31_3 : SCode := .seq k31_0 k31_2
@[simp] def rs_wire_modulo : List SRes := [.tmp 4]
theorem law_wire_modulo (cs : List CV) (r : CV) (hl : cs.length ≤ 12) (h : STri (cfF Try.prog [] 12) k31_3 (initT 0 cs) [] (retQ rs_wire_modulo r)) : SC Try.prog 123 cs r :=
  sc_of [] follows Try.func123 rfl Try.ntmps123 (by decide) (by kernel_rfl) (by kernel_rfl) hl h
def k32_0 : SCode := .reg [⟨some 4, none, .box 137 (.tmp 0), [], false⟩, ⟨some 7, none, .box 25 (.tmp 3), [], false⟩, ⟨some 8, none, .mov (.const (.bool false)), [], false⟩] [1, 4, 7]
def k32_1 : SCode := .reg [⟨some 11, none, .mov (.tmp 1), [], false⟩, ⟨some 12, none, .fld 0 (.tmp 4), [], false⟩, ⟨some 13, none, .fld 3 (.tmp 12), [], false⟩, ⟨some 14, none, .load false 1 (.tmp 13), [], false⟩, ⟨some 15, none, .bin .sub (.tmp 11) (.tmp 14), [], false⟩, ⟨some 16, none, .fld 1 (.tmp 7), [], false⟩, ⟨some 17, none, .load false 1 (.tmp 16), [], false⟩, ⟨some 18, none, .bin .sub (.tmp 15) (.tmp 17), [], false⟩, ⟨some 19, none, .fld 0 (.tmp 4), [], false⟩, ⟨some 20, none, .fld 6 (.tmp 19), [], false⟩, ⟨some 21, none, .load false 1 (.tmp 20), [], false⟩, ⟨some 22, none, .call 122 [(.tmp 18), (.tmp 21)], [], false⟩, ⟨some 23, none, .mov (.tmp 1), [], false⟩, ⟨some 24, none, .fld 0 (.tmp 4), [], false⟩, ⟨some 25, none, .fld 3 (.tmp 24), [], false⟩, ⟨some 26, none, .load false 1 (.tmp 25), [], false⟩, ⟨some 27, none, .bin .sub (.tmp 23) (.tmp 26), [], false⟩, ⟨some 28, none, .fld 0 (.tmp 7), [], false⟩, ⟨some 29, none, .load false 1 (.tmp 28), [], false⟩, ⟨some 30, none, .bin .sub (.tmp 27) (.tmp 29), [], false⟩, ⟨some 31, none, .fld 0 (.tmp 4), [], false⟩, ⟨some 32, none, .fld 6 (.tmp 31), [], false⟩, ⟨some 33, none, .load false 1 (.tmp 32), [], false⟩, ⟨some 34, none, .call 121 [(.tmp 30), (.tmp 33)], [], false⟩, ⟨some 9, none, .mov (.tmp 22), [], false⟩, ⟨some 10, none, .mov (.tmp 34), [], false⟩] [9, 10]
def k32_2 : SCode := .reg [⟨some 35, none, .mov (.tmp 9), [], false⟩, ⟨some 36, none, .max [(.const (.int .i64 0)), (.tmp 35)], [], false⟩, ⟨some 37, none, .mov (.tmp 10), [], false⟩, ⟨some 38, none, .bin .leq (.tmp 36) (.tmp 37), [], false⟩, ⟨some 8, none, .mov (.tmp 38), [], false⟩] [8]
def k32_3 : SCode := .seq k32_2 .ret
def k32_4 : SCode := .seq k32_1 k32_3
def k32_5 : SCode := .seq k32_0 k32_4
@[simp] def rs_wire_event_isRight : List SRes := [.tmp 8]
theorem law_wire_event_isRight (cs : List CV) (r : CV) (hl : cs.length ≤ 39) (h : STri (cfF Try.prog [] 39) k32_5 (initT 0 cs) [] (retQ rs_wire_event_isRight r)) : SC Try.prog 124 cs r :=
  sc_of [] follows Try.func124 rfl Try.ntmps124 (by decide) (by kernel_rfl) (by kernel_rfl) hl h
def k33_0 : SCode := .reg [⟨some 2, none, .box 137 (.tmp 0), [], false⟩, ⟨some 4, none, .mov (.const (.bool false)), [], false⟩] [1]
def k33_1 : SCode := .reg [⟨some 5, none, .build [] [], [], false⟩, ⟨some 6, none, .mov (.tmp 1), [], false⟩, ⟨some 7, none, .call 127 [(.tmp 5), (.tmp 6)], [], false⟩, ⟨some 4, none, .mov (.tmp 7), [], false⟩] [4]
def k33_2 : SCode := .seq k33_1 .ret
def k33_3 : SCode := .seq k33_0 k33_2
@[simp] def rs_wire_event_isSaid : List SRes := [.tmp 4]
theorem law_wire_event_isSaid (cs : List CV) (r : CV) (hl : cs.length ≤ 8) (h : STri (cfF Try.prog [] 8) k33_3 (initT 0 cs) [] (retQ rs_wire_event_isSaid r)) : SC Try.prog 125 cs r :=
  sc_of [] follows Try.func125 rfl Try.ntmps125 (by decide) (by kernel_rfl) (by kernel_rfl) hl h
def k34_0 : SCode := .reg [⟨some 1, none, .box 137 (.tmp 0), [], false⟩, ⟨some 2, none, .mov (.const (.bool false)), [], false⟩] [1]
def k34_1 : SCode := .reg [⟨some 3, none, .fld 0 (.tmp 1), [], false⟩, ⟨some 4, none, .fld 3 (.tmp 3), [], false⟩, ⟨some 5, none, .load false 1 (.tmp 4), [], false⟩, ⟨some 6, none, .buildSl 3 1 [(.int .i64 0)] 1 [(0, (.tmp 5))], [], false⟩, ⟨some 7, none, .call 56 [(.const (.int .i64 0)), (.const (.int .i64 3155760000)), (.tmp 6)], [], false⟩, ⟨some 8, none, .mov (.tmp 7), [], false⟩, ⟨some 9, (some (8, true)), .fld 0 (.tmp 1), [], false⟩, ⟨some 10, (some (8, true)), .fld 6 (.tmp 9), [], false⟩, ⟨some 11, (some (8, true)), .load false 1 (.tmp 10), [], false⟩, ⟨some 12, (some (8, true)), .buildSl 3 1 [(.int .i64 0)] 1 [(0, (.tmp 11))], [], false⟩, ⟨some 13, (some (8, true)), .call 56 [(.const (.int .i64 1)), (.const (.int .i64 3155760000)), (.tmp 12)], [], false⟩, ⟨some 14, none, .pick (.tmp 8) (.tmp 13) (.const (.bool false)), [], false⟩, ⟨some 2, none, .mov (.tmp 14), [], false⟩] [2]
def k34_2 : SCode := .seq k34_1 .ret
def k34_3 : SCode := .seq k34_0 k34_2
@[simp] def rs_wire_event_isValid : List SRes := [.tmp 2]
theorem law_wire_event_isValid (cs : List CV) (r : CV) (hl : cs.length ≤ 15) (h : STri (cfF Try.prog [] 15) k34_3 (initT 0 cs) [] (retQ rs_wire_event_isValid r)) : SC Try.prog 126 cs r :=
  sc_of [] follows Try.func126 rfl Try.ntmps126 (by decide) (by kernel_rfl) (by kernel_rfl) hl h
def k35_0 : SCode := .reg [⟨some 2, none, .box 173 (.tmp 0), [], false⟩, ⟨some 4, none, .mov (.const (.bool false)), [], false⟩] [1]
def k35_1 : SCode := .reg [⟨some 5, none, .mov (.tmp 1), [], false⟩, ⟨some 6, none, .bin .eql (.tmp 5) (.const (.int .i64 0)), [], false⟩, ⟨some 4, none, .mov (.tmp 6), [], false⟩] [4]
def k35_2 : SCode := .seq k35_1 .ret
def k35_3 : SCode := .seq k35_0 k35_2
@[simp] def rs_wire_nothing_isSaid : List SRes := [.tmp 4]
theorem law_wire_nothing_isSaid (cs : List CV) (r : CV) (hl : cs.length ≤ 7) (h : STri (cfF Try.prog [] 7) k35_3 (initT 0 cs) [] (retQ rs_wire_nothing_isSaid r)) : SC Try.prog 127 cs r :=
  sc_of [] follows Try.func127 rfl Try.ntmps127 (by decide) (by kernel_rfl) (by kernel_rfl) hl h
def k36_0 : SCode := .reg [⟨some 4, none, .box 138 (.tmp 0), [], false⟩, ⟨some 5, none, .box 3 (.tmp 1), [], false⟩, ⟨some 7, none, .box 25 (.tmp 3), [], false⟩, ⟨some 8, none, .alloc 4 [(.bool false)], [], false⟩] [4, 5, 7, 8]
def k36_1 : SCode := .reg [⟨some 11, none, .load true 8 (.tmp 4), [], false⟩, ⟨some 12, none, .load false 1 (.tmp 5), [], false⟩, ⟨some 13, none, .call 131 [(.tmp 11), (.tmp 12)], [], false⟩] [5, 7, 8, 13]
def k36_2 : SCode := .reg [⟨some 10, none, .mov (.tmp 15), [], false⟩] [5, 7, 8, 10]
def k36_3 : SCode := .reg [⟨some 16, none, .fld 0 (.tmp 7), [], false⟩, ⟨some 17, none, .load false 1 (.tmp 16), [], false⟩, ⟨some 18, none, .fld 1 (.tmp 7), [], false⟩, ⟨some 19, none, .load false 1 (.tmp 18), [], false⟩, ⟨some 20, none, .load false 1 (.tmp 5), [], false⟩, ⟨some 21, none, .mov (.tmp 10), [], false⟩, ⟨some 22, none, .bin .sub (.tmp 20) (.tmp 21), [], false⟩, ⟨some 23, none, .buildSl 3 1 [(.int .i64 0)] 1 [(0, (.tmp 22))], [], false⟩, ⟨some 24, none, .call 56 [(.tmp 17), (.tmp 19), (.tmp 23)], [], false⟩] [8, 24]
def k36_4 : SCode := .reg [⟨none, none, .store 1 (.tmp 8) (.const (.bool true)), [], false⟩] []
def k36_5 : SCode := .seq k36_4 .ret
def k36_6 : SCode := .cond (.tmp 24) k36_5 .skip
def k36_7 : SCode := .seq k36_3 k36_6
def k36_8 : SCode := .block 1 k36_7
def k36_9 : SCode := .range (.tmp 13) [14, 15] k36_2 k36_8
def k36_10 : SCode := .block 0 k36_9
def k36_11 : SCode := .seq k36_1 k36_10
def k36_12 : SCode := .reg [⟨none, none, .store 1 (.tmp 8) (.const (.bool false)), [], false⟩] [8]
def k36_13 : SCode := .seq k36_12 .ret
def k36_14 : SCode := .seq k36_11 k36_13
def k36_15 : SCode := .seq k36_0 k36_14
@[simp] def rs_wire_sun_isRight : List SRes := [.cell 8 false 1]
theorem law_wire_sun_isRight (cs : List CV) (r : CV) (hl : cs.length ≤ 25) (h : STri (cfF Try.prog [] 25) k36_15 (initT 0 cs) [] (retQ rs_wire_sun_isRight r)) : SC Try.prog 128 cs r :=
  sc_of [] follows Try.func128 rfl Try.ntmps128 (by decide) (by kernel_rfl) (by kernel_rfl) hl h
def k37_0 : SCode := .reg [⟨some 2, none, .box 138 (.tmp 0), [], false⟩, ⟨some 4, none, .mov (.const (.bool false)), [], false⟩] [1]
def k37_1 : SCode := .reg [⟨some 5, none, .build [] [], [], false⟩, ⟨some 6, none, .mov (.tmp 1), [], false⟩, ⟨some 7, none, .call 127 [(.tmp 5), (.tmp 6)], [], false⟩, ⟨some 4, none, .mov (.tmp 7), [], false⟩] [4]
def k37_2 : SCode := .seq k37_1 .ret
def k37_3 : SCode := .seq k37_0 k37_2
@[simp] def rs_wire_sun_isSaid : List SRes := [.tmp 4]
theorem law_wire_sun_isSaid (cs : List CV) (r : CV) (hl : cs.length ≤ 8) (h : STri (cfF Try.prog [] 8) k37_3 (initT 0 cs) [] (retQ rs_wire_sun_isSaid r)) : SC Try.prog 129 cs r :=
  sc_of [] follows Try.func129 rfl Try.ntmps129 (by decide) (by kernel_rfl) (by kernel_rfl) hl h
def k38_0 : SCode := .reg [⟨some 1, none, .box 138 (.tmp 0), [], false⟩, ⟨some 2, none, .mov (.const (.bool false)), [], false⟩] [1]
def k38_1 : SCode := .reg [⟨some 3, none, .fld 0 (.tmp 1), [], false⟩, ⟨some 4, none, .fld 7 (.tmp 3), [], false⟩, ⟨some 5, none, .load false 1 (.tmp 4), [], false⟩, ⟨some 6, none, .len (.tmp 5), [], false⟩, ⟨some 7, none, .buildSl 3 1 [(.int .i64 0)] 1 [(0, (.tmp 6))], [], false⟩, ⟨some 8, none, .call 56 [(.const (.int .i64 1)), (.const (.int .i64 366)), (.tmp 7)], [], false⟩, ⟨some 9, none, .mov (.tmp 8), [], false⟩, ⟨some 10, (some (9, true)), .fld 0 (.tmp 1), [], false⟩, ⟨some 11, (some (9, true)), .fld 7 (.tmp 10), [], false⟩, ⟨some 12, (some (9, true)), .load false 1 (.tmp 11), [], false⟩, ⟨some 13, (some (9, true)), .call 56 [(.const (.int .i64 (-3600))), (.const (.int .i64 3600)), (.tmp 12)], [], false⟩, ⟨some 14, none, .pick (.tmp 9) (.tmp 13) (.const (.bool false)), [], false⟩, ⟨some 2, none, .mov (.tmp 14), [], false⟩] [2]
def k38_2 : SCode := .seq k38_1 .ret
def k38_3 : SCode := .seq k38_0 k38_2
@[simp] def rs_wire_sun_isValid : List SRes := [.tmp 2]
theorem law_wire_sun_isValid (cs : List CV) (r : CV) (hl : cs.length ≤ 15) (h : STri (cfF Try.prog [] 15) k38_3 (initT 0 cs) [] (retQ rs_wire_sun_isValid r)) : SC Try.prog 130 cs r :=
  sc_of [] follows Try.func130 rfl Try.ntmps130 (by decide) (by kernel_rfl) (by kernel_rfl) hl h
def k39_0 : SCode := .reg [⟨some 2, none, .boxZ 138 (.tmp 0), [], false⟩, ⟨some 3, none, .boxZ 3 (.tmp 1), [], false⟩, ⟨some 4, none, .mov (.const .nilFunc), [], false⟩] [2, 3]
def k39_1 : SCode := .reg [⟨some 5, none, .mkFn 132 [] [(.tmp 3), (.tmp 2)], [], false⟩, ⟨some 4, none, .mov (.tmp 5), [], false⟩] [4]
def k39_2 : SCode := .seq k39_1 .ret
def k39_3 : SCode := .seq k39_0 k39_2
@[simp] def rs_wire_sun_days : List SRes := [.tmp 4]
theorem law_wire_sun_days (cs : List CV) (r : CV) (hl : cs.length ≤ 6) (h : STri (cfF Try.prog [] 6) k39_3 (initT 0 cs) [] (retQ rs_wire_sun_days r)) : SC Try.prog 131 cs r :=
  sc_of [] follows Try.func131 rfl Try.ntmps131 (by decide) (by kernel_rfl) (by kernel_rfl) hl h
def k40_0 : SCode := .reg [⟨some 5, none, .load false 1 (.tmp 1), [], false⟩, ⟨some 6, none, .bin .quo (.tmp 5) (.const (.int .i64 86400)), [], false⟩, ⟨some 7, none, .bin .sub (.tmp 6) (.const (.int .i64 1)), [], false⟩, ⟨some 8, none, .max [(.const (.int .i64 0)), (.tmp 7)], [], false⟩, ⟨some 4, none, .mov (.tmp 8), [], false⟩] [0, 1, 2, 4]
def k40_1 : SCode := .reg [⟨some 9, none, .mov (.tmp 4), [], false⟩, ⟨some 10, none, .load false 1 (.tmp 1), [], false⟩, ⟨some 11, none, .bin .quo (.tmp 10) (.const (.int .i64 86400)), [], false⟩, ⟨some 12, none, .bin .add (.tmp 11) (.const (.int .i64 1)), [], false⟩, ⟨some 13, none, .bin .leq (.tmp 9) (.tmp 12), [], false⟩] [0, 1, 2, 4, 13]
def k40_2 : SCode := .cond (.tmp 13) .skip (.exit 0)
def k40_3 : SCode := .seq k40_1 k40_2
def k40_4 : SCode := .reg [⟨some 16, none, .mov (.tmp 0), [], false⟩, ⟨some 17, none, .mov (.tmp 4), [], false⟩, ⟨some 18, none, .mov (.tmp 4), [], false⟩, ⟨some 19, none, .bin .mul (.tmp 18) (.const (.int .i64 86400)), [], false⟩, ⟨some 20, none, .fld 0 (.tmp 2), [], false⟩, ⟨some 21, none, .fld 7 (.tmp 20), [], false⟩, ⟨some 22, none, .load false 1 (.tmp 21), [], false⟩, ⟨some 23, none, .mov (.tmp 4), [], false⟩, ⟨some 24, none, .fld 0 (.tmp 2), [], false⟩, ⟨some 25, none, .fld 7 (.tmp 24), [], false⟩, ⟨some 26, none, .load false 1 (.tmp 25), [], false⟩, ⟨some 27, none, .len (.tmp 26), [], false⟩, ⟨some 28, none, .bin .rem (.tmp 23) (.tmp 27), [], false⟩, ⟨some 29, none, .idxS 1 (.tmp 22) (.tmp 28), [], false⟩, ⟨some 30, none, .load false 1 (.tmp 29), [], false⟩, ⟨some 31, none, .bin .add (.tmp 19) (.tmp 30), [], false⟩, ⟨some 32, none, .callV (.tmp 16) [(.tmp 17), (.tmp 31)], [], false⟩, ⟨some 33, none, .un .not (.tmp 32), [], false⟩] [0, 1, 2, 4, 33]
def k40_5 : SCode := .cond (.tmp 33) .ret .skip
def k40_6 : SCode := .seq k40_4 k40_5
def k40_7 : SCode := .block 1 k40_6
def k40_8 : SCode := .reg [⟨some 14, none, .mov (.tmp 4), [], false⟩, ⟨some 15, none, .bin .add (.tmp 14) (.const (.int .i64 1)), [], false⟩, ⟨some 4, none, .mov (.tmp 15), [], false⟩] [0, 1, 2, 4]
def k40_9 : SCode := .seq k40_7 k40_8
def k40_10 : SCode := .seq k40_3 k40_9
def k40_11 : SCode := .loop k40_10
def k40_12 : SCode := .block 0 k40_11
def k40_13 : SCode := .seq k40_0 k40_12
theorem ilaw_wire_sun_days_1 (b : Nat) (fs cs : List CV) (xs : List (List CV)) (hb2 : b + 1000 ≤ 1000000000) (hl : fs.length + 1 + cs.length ≤ 34) (h : ∀ Iv A G id, (∃ v, G (.yl id) v) → (∀ k row, xs[k]? = some row → YT Try.prog Iv A G id k row) → STri (cfI Try.prog [] 34 b Iv A G) k40_13 (initS 0 (fs.map .c ++ .yl id :: cs.map .c)) [(1000000000 + b, .gh 0 false)] (itQ b xs.length)) : IterL Try.prog 132 b fs cs xs :=
  iter_of [] follows Try.func132 rfl Try.ntmps132 (by decide) hb2 (by kernel_rfl) rfl hl h
def k41_0 : SCode := .reg [⟨some 4, none, .box 139 (.tmp 0), [], false⟩, ⟨some 7, none, .box 25 (.tmp 3), [], false⟩, ⟨some 8, none, .mov (.const (.bool false)), [], false⟩] [1, 2, 7]
def k41_1 : SCode := .reg [⟨some 9, none, .fld 0 (.tmp 7), [], false⟩, ⟨some 10, none, .load false 1 (.tmp 9), [], false⟩, ⟨some 11, none, .fld 1 (.tmp 7), [], false⟩, ⟨some 12, none, .load false 1 (.tmp 11), [], false⟩, ⟨some 13, none, .mov (.tmp 1), [], false⟩, ⟨some 14, none, .mov (.tmp 2), [], false⟩, ⟨some 15, none, .bin .sub (.tmp 13) (.tmp 14), [], false⟩, ⟨some 16, none, .buildSl 3 1 [(.int .i64 0)] 1 [(0, (.tmp 15))], [], false⟩, ⟨some 17, none, .call 56 [(.tmp 10), (.tmp 12), (.tmp 16)], [], false⟩, ⟨some 8, none, .mov (.tmp 17), [], false⟩] [8]
def k41_2 : SCode := .seq k41_1 .ret
def k41_3 : SCode := .seq k41_0 k41_2
@[simp] def rs_wire_signal_isRight : List SRes := [.tmp 8]
theorem law_wire_signal_isRight (cs : List CV) (r : CV) (hl : cs.length ≤ 18) (h : STri (cfF Try.prog [] 18) k41_3 (initT 0 cs) [] (retQ rs_wire_signal_isRight r)) : SC Try.prog 133 cs r :=
  sc_of [] follows Try.func133 rfl Try.ntmps133 (by decide) (by kernel_rfl) (by kernel_rfl) hl h
def k42_0 : SCode := .reg [⟨some 2, none, .box 139 (.tmp 0), [], false⟩, ⟨some 4, none, .mov (.const (.bool false)), [], false⟩] [1]
def k42_1 : SCode := .reg [⟨some 5, none, .mov (.tmp 1), [], false⟩, ⟨some 6, none, .buildSl 3 1 [(.int .i64 0)] 1 [(0, (.tmp 5))], [], false⟩, ⟨some 7, none, .call 56 [(.const (.int .i64 0)), (.const (.int .i64 3155760000)), (.tmp 6)], [], false⟩, ⟨some 4, none, .mov (.tmp 7), [], false⟩] [4]
def k42_2 : SCode := .seq k42_1 .ret
def k42_3 : SCode := .seq k42_0 k42_2
@[simp] def rs_wire_signal_isSaid : List SRes := [.tmp 4]
theorem law_wire_signal_isSaid (cs : List CV) (r : CV) (hl : cs.length ≤ 8) (h : STri (cfF Try.prog [] 8) k42_3 (initT 0 cs) [] (retQ rs_wire_signal_isSaid r)) : SC Try.prog 134 cs r :=
  sc_of [] follows Try.func134 rfl Try.ntmps134 (by decide) (by kernel_rfl) (by kernel_rfl) hl h
def k43_0 : SCode := .reg [⟨some 1, none, .box 139 (.tmp 0), [], false⟩, ⟨some 2, none, .mov (.const (.bool false)), [], false⟩] []
def k43_1 : SCode := .reg [⟨some 2, none, .mov (.const (.bool true)), [], false⟩] [2]
def k43_2 : SCode := .seq k43_1 .ret
def k43_3 : SCode := .seq k43_0 k43_2
@[simp] def rs_wire_signal_isValid : List SRes := [.tmp 2]
theorem law_wire_signal_isValid (cs : List CV) (r : CV) (hl : cs.length ≤ 3) (h : STri (cfF Try.prog [] 3) k43_3 (initT 0 cs) [] (retQ rs_wire_signal_isValid r)) : SC Try.prog 135 cs r :=
  sc_of [] follows Try.func135 rfl Try.ntmps135 (by decide) (by kernel_rfl) (by kernel_rfl) hl h
def k44_0 : SCode := .reg [⟨some 5, none, .box 25 (.tmp 2), [], false⟩, ⟨some 6, none, .mov (.const (.slice none 0 0)), [], false⟩, ⟨some 7, none, .mov (.const (.int .i64 0)), [], false⟩] [0, 1, 5]
def k44_1 : SCode := .reg [⟨some 12, none, .mov (.tmp 0), [], false⟩, ⟨some 13, none, .mov (.tmp 1), [], false⟩, ⟨some 14, none, .load true 2 (.tmp 5), [], false⟩, ⟨some 15, none, .call 44 [(.tmp 12), (.tmp 13), (.tmp 14)], [], false⟩, ⟨some 11, none, .mov (.tmp 15), [], false⟩, ⟨some 16, none, .ext (.tmp 11) 0, [], false⟩, ⟨some 17, none, .ext (.tmp 11) 1, [], false⟩, ⟨some 8, none, .alloc 91 [(.slice none 0 0), (.slice none 0 0), (.slice none 0 0), (.int .i64 0), (.int .i64 0)], [], false⟩, ⟨none, none, .store 5 (.tmp 8) (.tmp 16), [], false⟩, ⟨some 9, none, .mov (.tmp 17), [], false⟩] [8, 9]
def k44_2 : SCode := .reg [⟨some 18, none, .mov (.tmp 9), [], false⟩, ⟨some 19, none, .bin .neq (.tmp 18) (.const (.int .i64 0)), [], false⟩] [8, 9, 19]
def k44_3 : SCode := .reg [⟨some 20, none, .mov (.tmp 9), [], false⟩, ⟨some 6, none, .mov (.const (.slice none 0 0)), [], false⟩, ⟨some 7, none, .mov (.tmp 20), [], false⟩] [6, 7]
def k44_4 : SCode := .seq k44_3 .ret
def k44_5 : SCode := .cond (.tmp 19) k44_4 .skip
def k44_6 : SCode := .seq k44_2 k44_5
def k44_7 : SCode := .reg [⟨some 21, none, .load true 5 (.tmp 8), [], false⟩, ⟨some 22, none, .call 45 [(.tmp 21), (.func 46)], [], false⟩, ⟨some 10, none, .mov (.tmp 22), [], false⟩] [10]
def k44_8 : SCode := .reg [⟨some 23, none, .mov (.tmp 10), [], false⟩, ⟨some 24, none, .len (.tmp 23), [], false⟩, ⟨some 25, none, .bin .eql (.tmp 24) (.const (.int .i64 0)), [], false⟩] [10, 25]
def k44_9 : SCode := .reg [⟨some 6, none, .mov (.const (.slice none 0 0)), [], false⟩, ⟨some 7, none, .mov (.const (.int .i64 7)), [], false⟩] [6, 7]
def k44_10 : SCode := .seq k44_9 .ret
def k44_11 : SCode := .cond (.tmp 25) k44_10 .skip
def k44_12 : SCode := .seq k44_8 k44_11
def k44_13 : SCode := .reg [⟨some 26, none, .mov (.tmp 10), [], false⟩, ⟨some 6, none, .mov (.tmp 26), [], false⟩, ⟨some 7, none, .mov (.const (.int .i64 0)), [], false⟩] [6, 7]
def k44_14 : SCode := .seq k44_13 .ret
def k44_15 : SCode := .seq k44_12 k44_14
def k44_16 : SCode := .seq k44_7 k44_15
def k44_17 : SCode := .seq k44_6 k44_16
def k44_18 : SCode := .seq k44_1 k44_17
def k44_19 : SCode := .seq k44_0 k44_18
@[simp] def rs_wire_Fits : List SRes := [.tmp 6, .tmp 7]
theorem law_wire_Fits (cs : List CV) (r : CV) (hl : cs.length ≤ 27) (h : STri (cfF Try.prog [] 27) k44_19 (initT 0 cs) [] (retQ rs_wire_Fits r)) : SC Try.prog 16 cs r :=
  sc_of [] follows Try.func16 rfl Try.ntmps16 (by decide) (by kernel_rfl) (by kernel_rfl) hl h
def k45_0 : SCode := .reg [⟨some 5, none, .box 25 (.tmp 2), [], false⟩, ⟨some 6, none, .mov (.const (.int .i64 0)), [], false⟩, ⟨some 7, none, .mov (.const (.slice none 0 0)), [], false⟩, ⟨some 8, none, .mov (.const (.int .i64 0)), [], false⟩] [0, 1, 5]
def k45_1 : SCode := .reg [⟨some 13, none, .mov (.tmp 0), [], false⟩, ⟨some 14, none, .mov (.tmp 1), [], false⟩, ⟨some 15, none, .load true 2 (.tmp 5), [], false⟩, ⟨some 16, none, .call 44 [(.tmp 13), (.tmp 14), (.tmp 15)], [], false⟩, ⟨some 12, none, .mov (.tmp 16), [], false⟩, ⟨some 17, none, .ext (.tmp 12) 0, [], false⟩, ⟨some 18, none, .ext (.tmp 12) 1, [], false⟩, ⟨some 9, none, .alloc 91 [(.slice none 0 0), (.slice none 0 0), (.slice none 0 0), (.int .i64 0), (.int .i64 0)], [], false⟩, ⟨none, none, .store 5 (.tmp 9) (.tmp 17), [], false⟩, ⟨some 10, none, .mov (.tmp 18), [], false⟩] [0, 9, 10]
def k45_2 : SCode := .reg [⟨some 19, none, .mov (.tmp 10), [], false⟩, ⟨some 20, none, .bin .neq (.tmp 19) (.const (.int .i64 0)), [], false⟩] [0, 9, 10, 20]
def k45_3 : SCode := .reg [⟨some 21, none, .mov (.tmp 10), [], false⟩, ⟨some 6, none, .mov (.const (.int .i64 0)), [], false⟩, ⟨some 7, none, .mov (.const (.slice none 0 0)), [], false⟩, ⟨some 8, none, .mov (.tmp 21), [], false⟩] [6, 7, 8]
def k45_4 : SCode := .seq k45_3 .ret
def k45_5 : SCode := .cond (.tmp 20) k45_4 .skip
def k45_6 : SCode := .seq k45_2 k45_5
def k45_7 : SCode := .reg [⟨some 22, none, .load true 5 (.tmp 9), [], false⟩, ⟨some 23, none, .call 48 [(.tmp 22)], [], false⟩, ⟨some 11, none, .alloc 3 [(.int .i64 0)], [], false⟩, ⟨none, none, .store 1 (.tmp 11) (.tmp 23), [], false⟩] [0, 9, 11]
def k45_8 : SCode := .reg [⟨some 24, none, .mov (.tmp 0), [], false⟩, ⟨some 25, none, .len (.tmp 24), [], false⟩, ⟨some 26, none, .load false 1 (.tmp 11), [], false⟩, ⟨some 27, none, .bin .sub (.tmp 25) (.tmp 26), [], false⟩, ⟨some 28, none, .load true 5 (.tmp 9), [], false⟩, ⟨some 29, none, .mkFn 49 [] [(.tmp 11)], [], false⟩, ⟨some 30, none, .call 45 [(.tmp 28), (.tmp 29)], [], false⟩, ⟨some 6, none, .mov (.tmp 27), [], false⟩, ⟨some 7, none, .mov (.tmp 30), [], false⟩, ⟨some 8, none, .mov (.const (.int .i64 0)), [], false⟩] [6, 7, 8]
def k45_9 : SCode := .seq k45_8 .ret
def k45_10 : SCode := .seq k45_7 k45_9
def k45_11 : SCode := .seq k45_6 k45_10
def k45_12 : SCode := .seq k45_1 k45_11
def k45_13 : SCode := .seq k45_0 k45_12
@[simp] def rs_wire_Most : List SRes := [.tmp 6, .tmp 7, .tmp 8]
theorem law_wire_Most (cs : List CV) (r : CV) (hl : cs.length ≤ 31) (h : STri (cfF Try.prog [] 31) k45_13 (initT 0 cs) [] (retQ rs_wire_Most r)) : SC Try.prog 18 cs r :=
  sc_of [] follows Try.func18 rfl Try.ntmps18 (by decide) (by kernel_rfl) (by kernel_rfl) hl h
end Go.Proofs.Ytakdmliblijgmaa
/- Wire, I: small functions. -/
namespace Go.Proofs.Ytakdmliblijgmaa
open Go.RowKit
theorem sWithin1W (n lo hi : Int) : SC Try.prog 70 [I n, .ref [I lo], .ref [I hi]] (B (outB lo hi n)) := by
  refine law_wire_within_1 _ _ (by simp) ?_
  unfold outB
  (repeat' (first | ((first | with_reducible refine st_skip ?_ | with_reducible refine st_exit ?_); (try simp only [seqQ, blockQ, loopQ, forQ, whileQ, reduceIte, Nat.reduceEqDiff])) | (with_reducible refine st_ret ?_; ((try simp only [seqQ, blockQ, loopQ, forQ, whileQ]); first | (with_reducible refine retM_ret ?_) | refine retQ_ret ?_; simp)) | refine st_seq ?_ | refine st_block ?_ | ((with_reducible show (STri _ _ _ _ _) ∧ (STri _ _ _ _ _)); refine And.intro ?_ ?_) | ((first | refine st_reg ?_ | refine buildP_own ?_ | refine appP_own ?_) <;> (simp -dsimp; (repeat (simp -dsimp (disch := (first | omega | assumption | (refine Bool.eq_false_iff.1 ?_; assumption))) only [wrap_in, if_pos, if_neg]; (try simp -dsimp))))) | ((first | refine guardP_of (fun hc => ?_) (fun hc => ?_) | refine st_cond rfl (fun hc => ?_) (fun hc => ?_)) <;> (try simp only [lqA, lqB, lqC, lqD, lqE, lqF, lqG, lqH, lqI, lqJ, lqK, lqL, lqM, lqN, lqO] at hc) <;> (try (exfalso; first | omega | exact bool_tf hc (by assumption) | exact bool_ft hc (by assumption) | exact absurd (by assumption) hc)) <;> (first | with_reducible show STri _ _ _ _ _ _ | (simp -dsimp [hc]; (repeat (simp -dsimp (disch := (first | omega | assumption | (refine Bool.eq_false_iff.1 ?_; assumption))) only [wrap_in, if_pos, if_neg]; (try simp -dsimp [hc]))))))))
  all_goals (refine CLe.bool ?_; rw [Bool.eq_iff_iff]; simp; try omega)
theorem sWithinW (lo hi : Int) (l : List Int) (hl : l.length ≤ 1000000) : SC Try.prog 56 [I lo, I hi, slI l] (B (allIn lo hi l)) := by
  refine law_wire_within _ _ (by simp) ?_
  (repeat' (first | ((first | with_reducible refine st_skip ?_ | with_reducible refine st_exit ?_); (try simp only [seqQ, blockQ, loopQ, forQ, whileQ, reduceIte, Nat.reduceEqDiff])) | (with_reducible refine st_ret ?_; ((try simp only [seqQ, blockQ, loopQ, forQ, whileQ]); first | (with_reducible refine retM_ret ?_) | refine retQ_ret ?_; simp)) | refine st_seq ?_ | refine st_block ?_ | ((with_reducible show (STri _ _ _ _ _) ∧ (STri _ _ _ _ _)); refine And.intro ?_ ?_) | ((first | refine st_reg ?_ | refine buildP_own ?_ | refine appP_own ?_ | refine callP_b (sContainsFunc l 70 [] [.ref [I lo], .ref [I hi]] (outB lo hi) hl ⟨by kernel_rfl⟩ (fun x _ => sWithin1W x lo hi)) rfl ?_) <;> (simp -dsimp; (repeat (simp -dsimp (disch := (first | omega | assumption | (refine Bool.eq_false_iff.1 ?_; assumption))) only [wrap_in, if_pos, if_neg]; (try simp -dsimp))))) | ((first | refine guardP_of (fun hc => ?_) (fun hc => ?_) | refine st_cond rfl (fun hc => ?_) (fun hc => ?_)) <;> (try simp only [lqA, lqB, lqC, lqD, lqE, lqF, lqG, lqH, lqI, lqJ, lqK, lqL, lqM, lqN, lqO] at hc) <;> (try (exfalso; first | omega | exact bool_tf hc (by assumption) | exact bool_ft hc (by assumption) | exact absurd (by assumption) hc)) <;> (first | with_reducible show STri _ _ _ _ _ _ | (simp -dsimp [hc]; (repeat (simp -dsimp (disch := (first | omega | assumption | (refine Bool.eq_false_iff.1 ?_; assumption))) only [wrap_in, if_pos, if_neg]; (try simp -dsimp [hc]))))))))
  all_goals (refine CLe.bool ?_; exact allIn_eq lo hi l)
def spanW (lo hi most : Int) : Bool := decide (-most ≤ lo) && decide (lo ≤ hi) && decide (hi ≤ most)
theorem sIsSpanW (lo hi most : Int) (h : 0 ≤ most) (h2 : most ≤ 1000000) : SC Try.prog 61 [.agg [I lo, I hi], I most] (B (spanW lo hi most)) := by
  refine law_wire_isSpan _ _ (by simp) ?_
  have e : (allIn (-most) most [lo, hi] && decide (lo ≤ hi)) = spanW lo hi most := by
    unfold allIn inB spanW
    rw [Bool.eq_iff_iff]; simp; omega
  (repeat' (first | ((first | with_reducible refine st_skip ?_ | with_reducible refine st_exit ?_); (try simp only [seqQ, blockQ, loopQ, forQ, whileQ, reduceIte, Nat.reduceEqDiff])) | (with_reducible refine st_ret ?_; ((try simp only [seqQ, blockQ, loopQ, forQ, whileQ]); first | (with_reducible refine retM_ret ?_) | refine retQ_ret ?_; simp)) | refine st_seq ?_ | refine st_block ?_ | ((with_reducible show (STri _ _ _ _ _) ∧ (STri _ _ _ _ _)); refine And.intro ?_ ?_) | ((first | refine st_reg ?_ | refine buildP_own ?_ | refine appP_own ?_ | refine callP_b (sWithinW (-most) most [lo, hi] (by simp)) rfl ?_) <;> (simp -dsimp; (repeat (simp -dsimp (disch := (first | omega | assumption | (refine Bool.eq_false_iff.1 ?_; assumption))) only [wrap_in, if_pos, if_neg]; (try simp -dsimp))))) | ((first | refine guardP_of (fun hc => ?_) (fun hc => ?_) | refine st_cond rfl (fun hc => ?_) (fun hc => ?_)) <;> (try simp only [lqA, lqB, lqC, lqD, lqE, lqF, lqG, lqH, lqI, lqJ, lqK, lqL, lqM, lqN, lqO] at hc) <;> (try (exfalso; first | omega | exact bool_tf hc (by assumption) | exact bool_ft hc (by assumption) | exact absurd (by assumption) hc)) <;> (first | with_reducible show STri _ _ _ _ _ _ | (simp -dsimp [hc]; (repeat (simp -dsimp (disch := (first | omega | assumption | (refine Bool.eq_false_iff.1 ?_; assumption))) only [wrap_in, if_pos, if_neg]; (try simp -dsimp [hc]))))))))
  all_goals (refine CLe.bool ?_; simp_all)
theorem sModuloW (n b : Int) (h3 : 0 < b) (h4 : b ≤ 1000000000000) : SC Try.prog 123 [I n, I b] (I (n % b)) := by
  refine law_wire_modulo _ _ (by simp) ?_
  have hne : ¬ b = 0 := by omega
  have hb : IntKind.i64.wrap (n.tmod b + b) = n.tmod b + b := by
    have := tmod_lt n b h3
    exact wrap_in _ (by omega) (by omega)
  have he := mod_eq n b h3
  (repeat' (first | ((first | with_reducible refine st_skip ?_ | with_reducible refine st_exit ?_); (try simp only [seqQ, blockQ, loopQ, forQ, whileQ, reduceIte, Nat.reduceEqDiff])) | (with_reducible refine st_ret ?_; ((try simp only [seqQ, blockQ, loopQ, forQ, whileQ]); first | (with_reducible refine retM_ret ?_) | refine retQ_ret ?_; simp [hne, hb, he])) | refine st_seq ?_ | refine st_block ?_ | ((with_reducible show (STri _ _ _ _ _) ∧ (STri _ _ _ _ _)); refine And.intro ?_ ?_) | ((first | refine st_reg ?_ | refine buildP_own ?_ | refine appP_own ?_) <;> (simp -dsimp [hne, hb, he]; (repeat (simp -dsimp (disch := (first | omega | assumption | (refine Bool.eq_false_iff.1 ?_; assumption))) only [wrap_in, if_pos, if_neg]; (try simp -dsimp [hne, hb, he]))))) | ((first | refine guardP_of (fun hc => ?_) (fun hc => ?_) | refine st_cond rfl (fun hc => ?_) (fun hc => ?_)) <;> (try simp only [lqA, lqB, lqC, lqD, lqE, lqF, lqG, lqH, lqI, lqJ, lqK, lqL, lqM, lqN, lqO] at hc) <;> (try (exfalso; first | omega | exact bool_tf hc (by assumption) | exact bool_ft hc (by assumption) | exact absurd (by assumption) hc)) <;> (first | with_reducible show STri _ _ _ _ _ _ | (simp -dsimp [hne, hb, he, hc]; (repeat (simp -dsimp (disch := (first | omega | assumption | (refine Bool.eq_false_iff.1 ?_; assumption))) only [wrap_in, if_pos, if_neg]; (try simp -dsimp [hne, hb, he, hc]))))))))
  exact .refl _
theorem sDownW (n b : Int) (h1 : -1000000000000000000 ≤ n) (h2 : n ≤ 1000000000000000000) (h3 : 0 < b) (h4 : b ≤ 1000000000000) : SC Try.prog 121 [I n, I b] (I (n / b)) := by
  refine law_wire_down _ _ (by simp) ?_
  have hne : ¬ b = 0 := by omega
  have h5 := Int.emod_nonneg n (show b ≠ 0 by omega)
  have h6 := Int.emod_lt_of_pos n h3
  have h7 : (n - n % b).tdiv b = n / b := by
    have e : n - n % b = b * (n / b) := by have := Int.emod_add_mul_ediv n b; omega
    rw [e, Int.mul_tdiv_cancel_left _ hne]
  have h8 : IntKind.i64.wrap (n / b) = n / b := by
    have e := Int.natAbs_tdiv_le_natAbs (n - n % b) b
    rw [h7] at e
    exact wrap_in _ (by omega) (by omega)
  (repeat' (first | ((first | with_reducible refine st_skip ?_ | with_reducible refine st_exit ?_); (try simp only [seqQ, blockQ, loopQ, forQ, whileQ, reduceIte, Nat.reduceEqDiff])) | (with_reducible refine st_ret ?_; ((try simp only [seqQ, blockQ, loopQ, forQ, whileQ]); first | (with_reducible refine retM_ret ?_) | refine retQ_ret ?_; simp [hne, h7, h8])) | refine st_seq ?_ | refine st_block ?_ | ((with_reducible show (STri _ _ _ _ _) ∧ (STri _ _ _ _ _)); refine And.intro ?_ ?_) | ((first | refine st_reg ?_ | refine buildP_own ?_ | refine appP_own ?_ | refine callP_b (sModuloW n b h3 h4) rfl ?_) <;> (simp -dsimp [hne, h7, h8]; (repeat (simp -dsimp (disch := (first | omega | assumption | (refine Bool.eq_false_iff.1 ?_; assumption))) only [wrap_in, if_pos, if_neg]; (try simp -dsimp [hne, h7, h8]))))) | ((first | refine guardP_of (fun hc => ?_) (fun hc => ?_) | refine st_cond rfl (fun hc => ?_) (fun hc => ?_)) <;> (try simp only [lqA, lqB, lqC, lqD, lqE, lqF, lqG, lqH, lqI, lqJ, lqK, lqL, lqM, lqN, lqO] at hc) <;> (try (exfalso; first | omega | exact bool_tf hc (by assumption) | exact bool_ft hc (by assumption) | exact absurd (by assumption) hc)) <;> (first | with_reducible show STri _ _ _ _ _ _ | (simp -dsimp [hne, h7, h8, hc]; (repeat (simp -dsimp (disch := (first | omega | assumption | (refine Bool.eq_false_iff.1 ?_; assumption))) only [wrap_in, if_pos, if_neg]; (try simp -dsimp [hne, h7, h8, hc]))))))))
  exact .refl _
def upI (n b : Int) : Int := -(-n / b)
theorem sUpW (n b : Int) (h1 : -1000000000000000000 ≤ n) (h2 : n ≤ 1000000000000000000) (h3 : 0 < b) (h4 : b ≤ 1000000000000) : SC Try.prog 122 [I n, I b] (I (upI n b)) := by
  refine law_wire_up _ _ (by simp) ?_
  unfold upI
  have e := Int.natAbs_ediv_le_natAbs (-n) b
  (repeat' (first | ((first | with_reducible refine st_skip ?_ | with_reducible refine st_exit ?_); (try simp only [seqQ, blockQ, loopQ, forQ, whileQ, reduceIte, Nat.reduceEqDiff])) | (with_reducible refine st_ret ?_; ((try simp only [seqQ, blockQ, loopQ, forQ, whileQ]); first | (with_reducible refine retM_ret ?_) | refine retQ_ret ?_; simp)) | refine st_seq ?_ | refine st_block ?_ | ((with_reducible show (STri _ _ _ _ _) ∧ (STri _ _ _ _ _)); refine And.intro ?_ ?_) | ((first | refine st_reg ?_ | refine buildP_own ?_ | refine appP_own ?_ | refine callP_b (sDownW (-n) b (by omega) (by omega) h3 h4) rfl ?_) <;> (simp -dsimp; (repeat (simp -dsimp (disch := (first | omega | assumption | (refine Bool.eq_false_iff.1 ?_; assumption))) only [wrap_in, if_pos, if_neg]; (try simp -dsimp))))) | ((first | refine guardP_of (fun hc => ?_) (fun hc => ?_) | refine st_cond rfl (fun hc => ?_) (fun hc => ?_)) <;> (try simp only [lqA, lqB, lqC, lqD, lqE, lqF, lqG, lqH, lqI, lqJ, lqK, lqL, lqM, lqN, lqO] at hc) <;> (try (exfalso; first | omega | exact bool_tf hc (by assumption) | exact bool_ft hc (by assumption) | exact absurd (by assumption) hc)) <;> (first | with_reducible show STri _ _ _ _ _ _ | (simp -dsimp [hc]; (repeat (simp -dsimp (disch := (first | omega | assumption | (refine Bool.eq_false_iff.1 ?_; assumption))) only [wrap_in, if_pos, if_neg]; (try simp -dsimp [hc]))))))))
  exact .refl _
end Go.Proofs.Ytakdmliblijgmaa
/- Wire, II: sources. -/
namespace Go.Proofs.Ytakdmliblijgmaa
open Go.RowKit
structure Wsrc where
  (kind elo ehi at' dlo dhi every : Int) (table : List Int)
structure Wnt where
  (src tick said : Int)
def rowSr (s : Wsrc) : List CV := [I s.kind, I s.elo, I s.ehi, I s.at', I s.dlo, I s.dhi, I s.every, slI s.table]
def cSr (s : Wsrc) : CV := .agg (rowSr s)
def slSr (w : List Wsrc) : CV := .sl 8 (w.map rowSr)
def rowN (n : Wnt) : List CV := [I n.src, I n.tick, I n.said]
def cN (n : Wnt) : CV := .agg (rowN n)
def slN (l : List Wnt) : CV := .sl 3 (l.map rowN)
attribute [simp] rowSr cSr slSr rowN cN slN
def within1 (lo hi n : Int) : Bool := decide (lo ≤ n) && decide (n ≤ hi)
theorem allIn_one (lo hi n : Int) : allIn lo hi [n] = within1 lo hi n := by simp [allIn, inB, within1]
def clockV (s : Wsrc) : Bool := within1 0 3155760000 s.at' && spanW s.dlo s.dhi 100000
def eventV (s : Wsrc) : Bool := within1 0 3155760000 s.at' && within1 1 3155760000 s.every
def sunV (s : Wsrc) : Bool := within1 1 366 s.table.length && allIn (-3600) 3600 s.table
theorem sClockV (s : Wsrc) : SC Try.prog 120 [cSr s] (B (clockV s)) := by
  refine law_wire_clock_isValid _ _ (by simp) ?_
  unfold clockV
  (repeat' (first | ((first | with_reducible refine st_skip ?_ | with_reducible refine st_exit ?_); (try simp only [seqQ, blockQ, loopQ, forQ, whileQ, reduceIte, Nat.reduceEqDiff])) | (with_reducible refine st_ret ?_; ((try simp only [seqQ, blockQ, loopQ, forQ, whileQ]); first | (with_reducible refine retM_ret ?_) | refine retQ_ret ?_; simp)) | refine st_seq ?_ | refine st_block ?_ | ((with_reducible show (STri _ _ _ _ _) ∧ (STri _ _ _ _ _)); refine And.intro ?_ ?_) | ((first | refine st_reg ?_ | refine buildP_own ?_ | refine appP_own ?_ | refine callP_b (sWithinW 0 3155760000 [s.at'] (by simp)) rfl ?_ | refine callP_b (sIsSpanW s.dlo s.dhi 100000 (by omega) (by omega)) rfl ?_) <;> (simp -dsimp; (repeat (simp -dsimp (disch := (first | omega | assumption | (refine Bool.eq_false_iff.1 ?_; assumption))) only [wrap_in, if_pos, if_neg]; (try simp -dsimp))))) | ((first | refine guardP_of (fun hc => ?_) (fun hc => ?_) | refine st_cond rfl (fun hc => ?_) (fun hc => ?_)) <;> (try simp only [lqA, lqB, lqC, lqD, lqE, lqF, lqG, lqH, lqI, lqJ, lqK, lqL, lqM, lqN, lqO] at hc) <;> (try (exfalso; first | omega | exact bool_tf hc (by assumption) | exact bool_ft hc (by assumption) | exact absurd (by assumption) hc)) <;> (first | with_reducible show STri _ _ _ _ _ _ | (simp -dsimp [hc]; (repeat (simp -dsimp (disch := (first | omega | assumption | (refine Bool.eq_false_iff.1 ?_; assumption))) only [wrap_in, if_pos, if_neg]; (try simp -dsimp [hc]))))))))
  all_goals (refine CLe.bool ?_; rw [allIn_one] at hc; simp [hc])
theorem sEventV (s : Wsrc) : SC Try.prog 126 [cSr s] (B (eventV s)) := by
  refine law_wire_event_isValid _ _ (by simp) ?_
  unfold eventV
  (repeat' (first | ((first | with_reducible refine st_skip ?_ | with_reducible refine st_exit ?_); (try simp only [seqQ, blockQ, loopQ, forQ, whileQ, reduceIte, Nat.reduceEqDiff])) | (with_reducible refine st_ret ?_; ((try simp only [seqQ, blockQ, loopQ, forQ, whileQ]); first | (with_reducible refine retM_ret ?_) | refine retQ_ret ?_; simp)) | refine st_seq ?_ | refine st_block ?_ | ((with_reducible show (STri _ _ _ _ _) ∧ (STri _ _ _ _ _)); refine And.intro ?_ ?_) | ((first | refine st_reg ?_ | refine buildP_own ?_ | refine appP_own ?_ | refine callP_b (sWithinW 0 3155760000 [s.at'] (by simp)) rfl ?_ | refine callP_b (sWithinW 1 3155760000 [s.every] (by simp)) rfl ?_) <;> (simp -dsimp; (repeat (simp -dsimp (disch := (first | omega | assumption | (refine Bool.eq_false_iff.1 ?_; assumption))) only [wrap_in, if_pos, if_neg]; (try simp -dsimp))))) | ((first | refine guardP_of (fun hc => ?_) (fun hc => ?_) | refine st_cond rfl (fun hc => ?_) (fun hc => ?_)) <;> (try simp only [lqA, lqB, lqC, lqD, lqE, lqF, lqG, lqH, lqI, lqJ, lqK, lqL, lqM, lqN, lqO] at hc) <;> (try (exfalso; first | omega | exact bool_tf hc (by assumption) | exact bool_ft hc (by assumption) | exact absurd (by assumption) hc)) <;> (first | with_reducible show STri _ _ _ _ _ _ | (simp -dsimp [hc]; (repeat (simp -dsimp (disch := (first | omega | assumption | (refine Bool.eq_false_iff.1 ?_; assumption))) only [wrap_in, if_pos, if_neg]; (try simp -dsimp [hc]))))))))
  all_goals (refine CLe.bool ?_; rw [allIn_one] at hc; simp [hc, allIn_one])
theorem sSunV (s : Wsrc) (h : s.table.length ≤ 1000000) : SC Try.prog 130 [cSr s] (B (sunV s)) := by
  refine law_wire_sun_isValid _ _ (by simp) ?_
  unfold sunV
  (repeat' (first | ((first | with_reducible refine st_skip ?_ | with_reducible refine st_exit ?_); (try simp only [seqQ, blockQ, loopQ, forQ, whileQ, reduceIte, Nat.reduceEqDiff])) | (with_reducible refine st_ret ?_; ((try simp only [seqQ, blockQ, loopQ, forQ, whileQ]); first | (with_reducible refine retM_ret ?_) | refine retQ_ret ?_; simp)) | refine st_seq ?_ | refine st_block ?_ | ((with_reducible show (STri _ _ _ _ _) ∧ (STri _ _ _ _ _)); refine And.intro ?_ ?_) | ((first | refine st_reg ?_ | refine buildP_own ?_ | refine appP_own ?_ | refine callP_b (sWithinW 1 366 [(s.table.length : Int)] (by simp)) rfl ?_ | refine callP_b (sWithinW (-3600) 3600 s.table h) rfl ?_) <;> (simp -dsimp; (repeat (simp -dsimp (disch := (first | omega | assumption | (refine Bool.eq_false_iff.1 ?_; assumption))) only [wrap_in, if_pos, if_neg]; (try simp -dsimp))))) | ((first | refine guardP_of (fun hc => ?_) (fun hc => ?_) | refine st_cond rfl (fun hc => ?_) (fun hc => ?_)) <;> (try simp only [lqA, lqB, lqC, lqD, lqE, lqF, lqG, lqH, lqI, lqJ, lqK, lqL, lqM, lqN, lqO] at hc) <;> (try (exfalso; first | omega | exact bool_tf hc (by assumption) | exact bool_ft hc (by assumption) | exact absurd (by assumption) hc)) <;> (first | with_reducible show STri _ _ _ _ _ _ | (simp -dsimp [hc]; (repeat (simp -dsimp (disch := (first | omega | assumption | (refine Bool.eq_false_iff.1 ?_; assumption))) only [wrap_in, if_pos, if_neg]; (try simp -dsimp [hc]))))))))
  all_goals (refine CLe.bool ?_; rw [allIn_one] at hc; simp [hc])
theorem sSignalV (s : Wsrc) : SC Try.prog 135 [cSr s] (B true) := by
  refine law_wire_signal_isValid _ _ (by simp) ?_
  (repeat' (first | ((first | with_reducible refine st_skip ?_ | with_reducible refine st_exit ?_); (try simp only [seqQ, blockQ, loopQ, forQ, whileQ, reduceIte, Nat.reduceEqDiff])) | (with_reducible refine st_ret ?_; ((try simp only [seqQ, blockQ, loopQ, forQ, whileQ]); first | (with_reducible refine retM_ret ?_) | refine retQ_ret ?_; simp)) | refine st_seq ?_ | refine st_block ?_ | ((with_reducible show (STri _ _ _ _ _) ∧ (STri _ _ _ _ _)); refine And.intro ?_ ?_) | ((first | refine st_reg ?_ | refine buildP_own ?_ | refine appP_own ?_) <;> (simp -dsimp; (repeat (simp -dsimp (disch := (first | omega | assumption | (refine Bool.eq_false_iff.1 ?_; assumption))) only [wrap_in, if_pos, if_neg]; (try simp -dsimp))))) | ((first | refine guardP_of (fun hc => ?_) (fun hc => ?_) | refine st_cond rfl (fun hc => ?_) (fun hc => ?_)) <;> (try simp only [lqA, lqB, lqC, lqD, lqE, lqF, lqG, lqH, lqI, lqJ, lqK, lqL, lqM, lqN, lqO] at hc) <;> (try (exfalso; first | omega | exact bool_tf hc (by assumption) | exact bool_ft hc (by assumption) | exact absurd (by assumption) hc)) <;> (first | with_reducible show STri _ _ _ _ _ _ | (simp -dsimp [hc]; (repeat (simp -dsimp (disch := (first | omega | assumption | (refine Bool.eq_false_iff.1 ?_; assumption))) only [wrap_in, if_pos, if_neg]; (try simp -dsimp [hc]))))))))
  exact .refl _
theorem sClockS (s : Wsrc) (n : Int) : SC Try.prog 119 [cSr s, I n] (B (within1 0 43199 n)) := by
  refine law_wire_clock_isSaid _ _ (by simp) ?_
  (repeat' (first | ((first | with_reducible refine st_skip ?_ | with_reducible refine st_exit ?_); (try simp only [seqQ, blockQ, loopQ, forQ, whileQ, reduceIte, Nat.reduceEqDiff])) | (with_reducible refine st_ret ?_; ((try simp only [seqQ, blockQ, loopQ, forQ, whileQ]); first | (with_reducible refine retM_ret ?_) | refine retQ_ret ?_; simp)) | refine st_seq ?_ | refine st_block ?_ | ((with_reducible show (STri _ _ _ _ _) ∧ (STri _ _ _ _ _)); refine And.intro ?_ ?_) | ((first | refine st_reg ?_ | refine buildP_own ?_ | refine appP_own ?_ | refine callP_b (sWithinW 0 43199 [n] (by simp)) rfl ?_) <;> (simp -dsimp; (repeat (simp -dsimp (disch := (first | omega | assumption | (refine Bool.eq_false_iff.1 ?_; assumption))) only [wrap_in, if_pos, if_neg]; (try simp -dsimp))))) | ((first | refine guardP_of (fun hc => ?_) (fun hc => ?_) | refine st_cond rfl (fun hc => ?_) (fun hc => ?_)) <;> (try simp only [lqA, lqB, lqC, lqD, lqE, lqF, lqG, lqH, lqI, lqJ, lqK, lqL, lqM, lqN, lqO] at hc) <;> (try (exfalso; first | omega | exact bool_tf hc (by assumption) | exact bool_ft hc (by assumption) | exact absurd (by assumption) hc)) <;> (first | with_reducible show STri _ _ _ _ _ _ | (simp -dsimp [hc]; (repeat (simp -dsimp (disch := (first | omega | assumption | (refine Bool.eq_false_iff.1 ?_; assumption))) only [wrap_in, if_pos, if_neg]; (try simp -dsimp [hc]))))))))
  all_goals (refine CLe.bool ?_; exact allIn_one _ _ _)
theorem sNothingS (n : Int) : SC Try.prog 127 [.agg [], I n] (B (decide (n = 0))) := by
  refine law_wire_nothing_isSaid _ _ (by simp) ?_
  (repeat' (first | ((first | with_reducible refine st_skip ?_ | with_reducible refine st_exit ?_); (try simp only [seqQ, blockQ, loopQ, forQ, whileQ, reduceIte, Nat.reduceEqDiff])) | (with_reducible refine st_ret ?_; ((try simp only [seqQ, blockQ, loopQ, forQ, whileQ]); first | (with_reducible refine retM_ret ?_) | refine retQ_ret ?_; simp)) | refine st_seq ?_ | refine st_block ?_ | ((with_reducible show (STri _ _ _ _ _) ∧ (STri _ _ _ _ _)); refine And.intro ?_ ?_) | ((first | refine st_reg ?_ | refine buildP_own ?_ | refine appP_own ?_) <;> (simp -dsimp; (repeat (simp -dsimp (disch := (first | omega | assumption | (refine Bool.eq_false_iff.1 ?_; assumption))) only [wrap_in, if_pos, if_neg]; (try simp -dsimp))))) | ((first | refine guardP_of (fun hc => ?_) (fun hc => ?_) | refine st_cond rfl (fun hc => ?_) (fun hc => ?_)) <;> (try simp only [lqA, lqB, lqC, lqD, lqE, lqF, lqG, lqH, lqI, lqJ, lqK, lqL, lqM, lqN, lqO] at hc) <;> (try (exfalso; first | omega | exact bool_tf hc (by assumption) | exact bool_ft hc (by assumption) | exact absurd (by assumption) hc)) <;> (first | with_reducible show STri _ _ _ _ _ _ | (simp -dsimp [hc]; (repeat (simp -dsimp (disch := (first | omega | assumption | (refine Bool.eq_false_iff.1 ?_; assumption))) only [wrap_in, if_pos, if_neg]; (try simp -dsimp [hc]))))))))
  all_goals (refine CLe.bool ?_; rw [Bool.eq_iff_iff]; simp)
theorem sEventS (s : Wsrc) (n : Int) : SC Try.prog 125 [cSr s, I n] (B (decide (n = 0))) := by
  refine law_wire_event_isSaid _ _ (by simp) ?_
  (repeat' (first | ((first | with_reducible refine st_skip ?_ | with_reducible refine st_exit ?_); (try simp only [seqQ, blockQ, loopQ, forQ, whileQ, reduceIte, Nat.reduceEqDiff])) | (with_reducible refine st_ret ?_; ((try simp only [seqQ, blockQ, loopQ, forQ, whileQ]); first | (with_reducible refine retM_ret ?_) | refine retQ_ret ?_; simp)) | refine st_seq ?_ | refine st_block ?_ | ((with_reducible show (STri _ _ _ _ _) ∧ (STri _ _ _ _ _)); refine And.intro ?_ ?_) | ((first | refine st_reg ?_ | refine buildP_own ?_ | refine appP_own ?_ | refine callP_b (sNothingS n) rfl ?_) <;> (simp -dsimp; (repeat (simp -dsimp (disch := (first | omega | assumption | (refine Bool.eq_false_iff.1 ?_; assumption))) only [wrap_in, if_pos, if_neg]; (try simp -dsimp))))) | ((first | refine guardP_of (fun hc => ?_) (fun hc => ?_) | refine st_cond rfl (fun hc => ?_) (fun hc => ?_)) <;> (try simp only [lqA, lqB, lqC, lqD, lqE, lqF, lqG, lqH, lqI, lqJ, lqK, lqL, lqM, lqN, lqO] at hc) <;> (try (exfalso; first | omega | exact bool_tf hc (by assumption) | exact bool_ft hc (by assumption) | exact absurd (by assumption) hc)) <;> (first | with_reducible show STri _ _ _ _ _ _ | (simp -dsimp [hc]; (repeat (simp -dsimp (disch := (first | omega | assumption | (refine Bool.eq_false_iff.1 ?_; assumption))) only [wrap_in, if_pos, if_neg]; (try simp -dsimp [hc]))))))))
  all_goals exact .refl _
theorem sSunS (s : Wsrc) (n : Int) : SC Try.prog 129 [cSr s, I n] (B (decide (n = 0))) := by
  refine law_wire_sun_isSaid _ _ (by simp) ?_
  (repeat' (first | ((first | with_reducible refine st_skip ?_ | with_reducible refine st_exit ?_); (try simp only [seqQ, blockQ, loopQ, forQ, whileQ, reduceIte, Nat.reduceEqDiff])) | (with_reducible refine st_ret ?_; ((try simp only [seqQ, blockQ, loopQ, forQ, whileQ]); first | (with_reducible refine retM_ret ?_) | refine retQ_ret ?_; simp)) | refine st_seq ?_ | refine st_block ?_ | ((with_reducible show (STri _ _ _ _ _) ∧ (STri _ _ _ _ _)); refine And.intro ?_ ?_) | ((first | refine st_reg ?_ | refine buildP_own ?_ | refine appP_own ?_ | refine callP_b (sNothingS n) rfl ?_) <;> (simp -dsimp; (repeat (simp -dsimp (disch := (first | omega | assumption | (refine Bool.eq_false_iff.1 ?_; assumption))) only [wrap_in, if_pos, if_neg]; (try simp -dsimp))))) | ((first | refine guardP_of (fun hc => ?_) (fun hc => ?_) | refine st_cond rfl (fun hc => ?_) (fun hc => ?_)) <;> (try simp only [lqA, lqB, lqC, lqD, lqE, lqF, lqG, lqH, lqI, lqJ, lqK, lqL, lqM, lqN, lqO] at hc) <;> (try (exfalso; first | omega | exact bool_tf hc (by assumption) | exact bool_ft hc (by assumption) | exact absurd (by assumption) hc)) <;> (first | with_reducible show STri _ _ _ _ _ _ | (simp -dsimp [hc]; (repeat (simp -dsimp (disch := (first | omega | assumption | (refine Bool.eq_false_iff.1 ?_; assumption))) only [wrap_in, if_pos, if_neg]; (try simp -dsimp [hc]))))))))
  all_goals exact .refl _
theorem sSignalS (s : Wsrc) (n : Int) : SC Try.prog 134 [cSr s, I n] (B (within1 0 3155760000 n)) := by
  refine law_wire_signal_isSaid _ _ (by simp) ?_
  (repeat' (first | ((first | with_reducible refine st_skip ?_ | with_reducible refine st_exit ?_); (try simp only [seqQ, blockQ, loopQ, forQ, whileQ, reduceIte, Nat.reduceEqDiff])) | (with_reducible refine st_ret ?_; ((try simp only [seqQ, blockQ, loopQ, forQ, whileQ]); first | (with_reducible refine retM_ret ?_) | refine retQ_ret ?_; simp)) | refine st_seq ?_ | refine st_block ?_ | ((with_reducible show (STri _ _ _ _ _) ∧ (STri _ _ _ _ _)); refine And.intro ?_ ?_) | ((first | refine st_reg ?_ | refine buildP_own ?_ | refine appP_own ?_ | refine callP_b (sWithinW 0 3155760000 [n] (by simp)) rfl ?_) <;> (simp -dsimp; (repeat (simp -dsimp (disch := (first | omega | assumption | (refine Bool.eq_false_iff.1 ?_; assumption))) only [wrap_in, if_pos, if_neg]; (try simp -dsimp))))) | ((first | refine guardP_of (fun hc => ?_) (fun hc => ?_) | refine st_cond rfl (fun hc => ?_) (fun hc => ?_)) <;> (try simp only [lqA, lqB, lqC, lqD, lqE, lqF, lqG, lqH, lqI, lqJ, lqK, lqL, lqM, lqN, lqO] at hc) <;> (try (exfalso; first | omega | exact bool_tf hc (by assumption) | exact bool_ft hc (by assumption) | exact absurd (by assumption) hc)) <;> (first | with_reducible show STri _ _ _ _ _ _ | (simp -dsimp [hc]; (repeat (simp -dsimp (disch := (first | omega | assumption | (refine Bool.eq_false_iff.1 ?_; assumption))) only [wrap_in, if_pos, if_neg]; (try simp -dsimp [hc]))))))))
  all_goals (refine CLe.bool ?_; exact allIn_one _ _ _)
structure TSm (t said elo ehi : Int) : Prop where
  t0 : -10000000000 ≤ t
  t1 : t ≤ 10000000000
  s0 : -10000000000 ≤ said
  s1 : said ≤ 10000000000
  l0 : -100000 ≤ elo
  l1 : elo ≤ 100000
  h0 : -100000 ≤ ehi
  h1 : ehi ≤ 100000
def clLo (s : Wsrc) (t elo : Int) : Int := elo + s.dlo * (t - s.at') / 86400000
def clHi (s : Wsrc) (t ehi : Int) : Int := ehi + upI (s.dhi * (t - s.at')) 86400000
def clockR (s : Wsrc) (t said elo ehi : Int) : Bool := decide (0 ≤ t - s.at') && decide ((said - t - clLo s t elo) % 43200 ≤ clHi s t ehi - clLo s t elo)
theorem mul_bd {a b : Int} (A B : Nat) (ha : a.natAbs ≤ A) (hb : b.natAbs ≤ B) : -((A * B : Nat) : Int) ≤ a * b ∧ a * b ≤ ((A * B : Nat) : Int) := by
  have h : (a * b).natAbs ≤ A * B := by rw [Int.natAbs_mul]; exact Nat.mul_le_mul ha hb
  omega
theorem div_bd (n b : Int) : -(n.natAbs : Int) ≤ n / b ∧ n / b ≤ n.natAbs := by
  have := Int.natAbs_ediv_le_natAbs n b
  omega
theorem clockV_is {s : Wsrc} (h : clockV s = true) : 0 ≤ s.at' ∧ s.at' ≤ 3155760000 ∧ -100000 ≤ s.dlo ∧ s.dlo ≤ s.dhi ∧ s.dhi ≤ 100000 := by
  unfold clockV within1 spanW at h
  simp at h
  omega
theorem cl_bd {s : Wsrc} (h : clockV s = true) {t said elo ehi : Int} (ht : TSm t said elo ehi) : -2000000000000000 ≤ s.dlo * (t - s.at') ∧ s.dlo * (t - s.at') ≤ 2000000000000000 ∧ -2000000000000000 ≤ s.dhi * (t - s.at') ∧ s.dhi * (t - s.at') ≤ 2000000000000000 := by
  obtain ⟨h1, h2, h3, h4, h5⟩ := clockV_is h
  have t0 := ht.t0
  have t1 := ht.t1
  have b1 := mul_bd (a := s.dlo) (b := t - s.at') 100000 20000000000 (by omega) (by omega)
  have b2 := mul_bd (a := s.dhi) (b := t - s.at') 100000 20000000000 (by omega) (by omega)
  omega
theorem sClockR (s : Wsrc) (hs : clockV s = true) (t said elo ehi : Int) (ht : TSm t said elo ehi) : SC Try.prog 118 [cSr s, I t, I said, .agg [I elo, I ehi]] (B (clockR s t said elo ehi)) := by
  refine law_wire_clock_isRight _ _ (by simp) ?_
  obtain ⟨h1, h2, h3, h4, h5⟩ := clockV_is hs
  obtain ⟨b1, b2, b3, b4⟩ := cl_bd hs ht
  obtain ⟨t0, t1, s0, s1, l0, l1, e0, e1⟩ := ht
  have c1 := div_bd (s.dlo * (t - s.at')) 86400000
  have c2 := div_bd (-(s.dhi * (t - s.at'))) 86400000
  unfold clockR clLo clHi
  generalize hx : s.dlo * (t - s.at') = x at *
  generalize hy : s.dhi * (t - s.at') = y at *
  have hu : upI y 86400000 = -(-y / 86400000) := rfl
  generalize hX : x / 86400000 = X at *
  generalize hY : upI y 86400000 = Y at *
  have sd := sDownW x 86400000 (by omega) (by omega) (by omega) (by omega)
  have su := sUpW y 86400000 (by omega) (by omega) (by omega) (by omega)
  rw [hX] at sd
  rw [hY] at su
  (repeat' (first | ((first | with_reducible refine st_skip ?_ | with_reducible refine st_exit ?_); (try simp only [seqQ, blockQ, loopQ, forQ, whileQ, reduceIte, Nat.reduceEqDiff])) | (with_reducible refine st_ret ?_; ((try simp only [seqQ, blockQ, loopQ, forQ, whileQ]); first | (with_reducible refine retM_ret ?_) | refine retQ_ret ?_; simp [hx, hy])) | refine st_seq ?_ | refine st_block ?_ | ((with_reducible show (STri _ _ _ _ _) ∧ (STri _ _ _ _ _)); refine And.intro ?_ ?_) | ((first | refine st_reg ?_ | refine buildP_own ?_ | refine appP_own ?_ | refine callP_b (sd) rfl ?_ | refine callP_b (su) rfl ?_ | refine callP_b (sModuloW (said - t - (elo + X)) 43200 (by omega) (by omega)) rfl ?_) <;> (simp -dsimp [hx, hy]; (repeat (simp -dsimp (disch := (first | omega | assumption | (refine Bool.eq_false_iff.1 ?_; assumption))) only [wrap_in, if_pos, if_neg]; (try simp -dsimp [hx, hy]))))) | ((first | refine guardP_of (fun hc => ?_) (fun hc => ?_) | refine st_cond rfl (fun hc => ?_) (fun hc => ?_)) <;> (try simp only [lqA, lqB, lqC, lqD, lqE, lqF, lqG, lqH, lqI, lqJ, lqK, lqL, lqM, lqN, lqO] at hc) <;> (try (exfalso; first | omega | exact bool_tf hc (by assumption) | exact bool_ft hc (by assumption) | exact absurd (by assumption) hc)) <;> (first | with_reducible show STri _ _ _ _ _ _ | (simp -dsimp [hx, hy, hc]; (repeat (simp -dsimp (disch := (first | omega | assumption | (refine Bool.eq_false_iff.1 ?_; assumption))) only [wrap_in, if_pos, if_neg]; (try simp -dsimp [hx, hy, hc]))))))))
  all_goals (refine CLe.bool ?_; simp_all; try (intros; omega))
def eventR (s : Wsrc) (t elo ehi : Int) : Bool := decide (max 0 (upI (t - s.at' - ehi) s.every) ≤ (t - s.at' - elo) / s.every)
theorem eventV_is {s : Wsrc} (h : eventV s = true) : 0 ≤ s.at' ∧ s.at' ≤ 3155760000 ∧ 1 ≤ s.every ∧ s.every ≤ 3155760000 := by
  unfold eventV within1 at h
  simp at h
  omega
theorem sEventR (s : Wsrc) (hs : eventV s = true) (t said elo ehi : Int) (ht : TSm t said elo ehi) : SC Try.prog 124 [cSr s, I t, I said, .agg [I elo, I ehi]] (B (eventR s t elo ehi)) := by
  refine law_wire_event_isRight _ _ (by simp) ?_
  obtain ⟨h1, h2, h3, h4⟩ := eventV_is hs
  obtain ⟨t0, t1, s0, s1, l0, l1, e0, e1⟩ := ht
  unfold eventR
  have sd := sDownW (t - s.at' - elo) s.every (by omega) (by omega) (by omega) (by omega)
  have su := sUpW (t - s.at' - ehi) s.every (by omega) (by omega) (by omega) (by omega)
  generalize hX : (t - s.at' - elo) / s.every = X at *
  generalize hY : upI (t - s.at' - ehi) s.every = Y at *
  (repeat' (first | ((first | with_reducible refine st_skip ?_ | with_reducible refine st_exit ?_); (try simp only [seqQ, blockQ, loopQ, forQ, whileQ, reduceIte, Nat.reduceEqDiff])) | (with_reducible refine st_ret ?_; ((try simp only [seqQ, blockQ, loopQ, forQ, whileQ]); first | (with_reducible refine retM_ret ?_) | refine retQ_ret ?_; simp)) | refine st_seq ?_ | refine st_block ?_ | ((with_reducible show (STri _ _ _ _ _) ∧ (STri _ _ _ _ _)); refine And.intro ?_ ?_) | ((first | refine st_reg ?_ | refine buildP_own ?_ | refine appP_own ?_ | refine callP_b (sd) rfl ?_ | refine callP_b (su) rfl ?_) <;> (simp -dsimp; (repeat (simp -dsimp (disch := (first | omega | assumption | (refine Bool.eq_false_iff.1 ?_; assumption))) only [wrap_in, if_pos, if_neg]; (try simp -dsimp))))) | ((first | refine guardP_of (fun hc => ?_) (fun hc => ?_) | refine st_cond rfl (fun hc => ?_) (fun hc => ?_)) <;> (try simp only [lqA, lqB, lqC, lqD, lqE, lqF, lqG, lqH, lqI, lqJ, lqK, lqL, lqM, lqN, lqO] at hc) <;> (try (exfalso; first | omega | exact bool_tf hc (by assumption) | exact bool_ft hc (by assumption) | exact absurd (by assumption) hc)) <;> (first | with_reducible show STri _ _ _ _ _ _ | (simp -dsimp [hc]; (repeat (simp -dsimp (disch := (first | omega | assumption | (refine Bool.eq_false_iff.1 ?_; assumption))) only [wrap_in, if_pos, if_neg]; (try simp -dsimp [hc]))))))))
  all_goals (refine CLe.bool ?_; rw [Bool.eq_iff_iff]; simp; try omega)
def signalR (t said elo ehi : Int) : Bool := within1 elo ehi (t - said)
theorem sSignalR (s : Wsrc) (t said elo ehi : Int) (ht : TSm t said elo ehi) : SC Try.prog 133 [cSr s, I t, I said, .agg [I elo, I ehi]] (B (signalR t said elo ehi)) := by
  refine law_wire_signal_isRight _ _ (by simp) ?_
  obtain ⟨t0, t1, s0, s1, l0, l1, e0, e1⟩ := ht
  (repeat' (first | ((first | with_reducible refine st_skip ?_ | with_reducible refine st_exit ?_); (try simp only [seqQ, blockQ, loopQ, forQ, whileQ, reduceIte, Nat.reduceEqDiff])) | (with_reducible refine st_ret ?_; ((try simp only [seqQ, blockQ, loopQ, forQ, whileQ]); first | (with_reducible refine retM_ret ?_) | refine retQ_ret ?_; simp)) | refine st_seq ?_ | refine st_block ?_ | ((with_reducible show (STri _ _ _ _ _) ∧ (STri _ _ _ _ _)); refine And.intro ?_ ?_) | ((first | refine st_reg ?_ | refine buildP_own ?_ | refine appP_own ?_ | refine callP_b (sWithinW elo ehi [t - said] (by simp)) rfl ?_) <;> (simp -dsimp; (repeat (simp -dsimp (disch := (first | omega | assumption | (refine Bool.eq_false_iff.1 ?_; assumption))) only [wrap_in, if_pos, if_neg]; (try simp -dsimp))))) | ((first | refine guardP_of (fun hc => ?_) (fun hc => ?_) | refine st_cond rfl (fun hc => ?_) (fun hc => ?_)) <;> (try simp only [lqA, lqB, lqC, lqD, lqE, lqF, lqG, lqH, lqI, lqJ, lqK, lqL, lqM, lqN, lqO] at hc) <;> (try (exfalso; first | omega | exact bool_tf hc (by assumption) | exact bool_ft hc (by assumption) | exact absurd (by assumption) hc)) <;> (first | with_reducible show STri _ _ _ _ _ _ | (simp -dsimp [hc]; (repeat (simp -dsimp (disch := (first | omega | assumption | (refine Bool.eq_false_iff.1 ?_; assumption))) only [wrap_in, if_pos, if_neg]; (try simp -dsimp [hc]))))))))
  all_goals (refine CLe.bool ?_; exact allIn_one _ _ _)
end Go.Proofs.Ytakdmliblijgmaa
/- Wire, III: suns. -/
namespace Go.Proofs.Ytakdmliblijgmaa
open Go.RowKit
def dayLo (t : Int) : Int := max 0 (t / 86400 - 1)
def noonI (s : Wsrc) (d : Int) : Int := d * 86400 + s.table.getD (d % s.table.length).toNat 0
def dayN (t : Int) : Nat := (t / 86400 + 2 - dayLo t).toNat
def dayL (s : Wsrc) (t : Int) : List (Int × Int) := (List.range (dayN t)).map fun (k : Nat) => (dayLo t + k, noonI s (dayLo t + k))
def rowD (x : Int × Int) : List CV := [I x.1, I x.2]
def sunR (s : Wsrc) (t elo ehi : Int) : Bool := (dayL s t).any fun x => within1 elo ehi (t - x.2)
theorem sunV_is {s : Wsrc} (h : sunV s = true) : 1 ≤ s.table.length ∧ s.table.length ≤ 366 ∧ ∀ x ∈ s.table, -3600 ≤ x ∧ x ≤ 3600 := by
  unfold sunV within1 allIn inB at h
  simp at h
  exact ⟨by omega, by omega, h.2⟩
theorem sDays (s : Wsrc) (t : Int) : SC Try.prog 131 [cSr s, I t] (.fn 132 [] [.ref [I t], .ref (rowSr s)]) := by
  refine law_wire_sun_days _ _ (by simp) ?_
  (repeat' (first | ((first | with_reducible refine st_skip ?_ | with_reducible refine st_exit ?_); (try simp only [seqQ, blockQ, loopQ, forQ, whileQ, reduceIte, Nat.reduceEqDiff])) | (with_reducible refine st_ret ?_; ((try simp only [seqQ, blockQ, loopQ, forQ, whileQ]); first | (with_reducible refine retM_ret ?_) | refine retQ_ret ?_; simp)) | refine st_seq ?_ | refine st_block ?_ | ((with_reducible show (STri _ _ _ _ _) ∧ (STri _ _ _ _ _)); refine And.intro ?_ ?_) | ((first | refine st_reg ?_ | refine buildP_own ?_ | refine appP_own ?_) <;> (simp -dsimp; (repeat (simp -dsimp (disch := (first | omega | assumption | (refine Bool.eq_false_iff.1 ?_; assumption))) only [wrap_in, if_pos, if_neg]; (try simp -dsimp))))) | ((first | refine guardP_of (fun hc => ?_) (fun hc => ?_) | refine st_cond rfl (fun hc => ?_) (fun hc => ?_)) <;> (try simp only [lqA, lqB, lqC, lqD, lqE, lqF, lqG, lqH, lqI, lqJ, lqK, lqL, lqM, lqN, lqO] at hc) <;> (try (exfalso; first | omega | exact bool_tf hc (by assumption) | exact bool_ft hc (by assumption) | exact absurd (by assumption) hc)) <;> (first | with_reducible show STri _ _ _ _ _ _ | (simp -dsimp [hc]; (repeat (simp -dsimp (disch := (first | omega | assumption | (refine Bool.eq_false_iff.1 ?_; assumption))) only [wrap_in, if_pos, if_neg]; (try simp -dsimp [hc]))))))))
  exact .refl _
theorem iDays (s : Wsrc) (hs : sunV s = true) (t : Int) (h0 : 0 ≤ t) (h1 : t ≤ 10000000000) : IterL Try.prog 132 1000 [] [.ref [I t], .ref (rowSr s)] ((dayL s t).map rowD) := by
  obtain ⟨l1, l2, l3⟩ := sunV_is hs
  refine ilaw_wire_sun_days_1 1000 _ _ _ (by omega) (by simp) (fun Iv A G id hG hY => ?_)
  have hlen : ((dayL s t).map rowD).length = dayN t := by simp [dayL]
  have ht : t.tdiv 86400 = t / 86400 := Int.tdiv_eq_ediv_of_nonneg h0
  have hD : dayLo t = max 0 (t / 86400 - 1) := rfl
  have hq0 : 0 ≤ t / 86400 := Int.ediv_nonneg h0 (by omega)
  have hq1 : t / 86400 ≤ 10000000000 := by omega
  have hN : (dayN t : Int) = t / 86400 + 2 - dayLo t := by unfold dayN; omega
  generalize hq : t / 86400 = q at *
  have hmx : (if 1 < q then q - 1 else 0) = dayLo t := by rw [hD]; split <;> omega
  have hd0 : 0 ≤ dayLo t := by omega
  have hd1 : dayLo t ≤ q := by omega
  (repeat' (first | ((first | with_reducible refine st_skip ?_ | with_reducible refine st_exit ?_); (try simp only [seqQ, blockQ, loopQ, forQ, whileQ, reduceIte, Nat.reduceEqDiff])) | (with_reducible refine st_ret ?_; ((try simp only [seqQ, blockQ, loopQ, forQ, whileQ]); first | (with_reducible refine retM_ret ?_) | refine retQ_ret ?_; simp [ht, hmx])) | refine st_seq ?_ | refine st_block ?_ | ((with_reducible show (STri _ _ _ _ _) ∧ (STri _ _ _ _ _)); refine And.intro ?_ ?_) | ((first | refine st_reg ?_ | refine buildP_own ?_ | refine appP_own ?_) <;> (simp -dsimp [ht, hmx]; (repeat (simp -dsimp (disch := (first | omega | assumption | (refine Bool.eq_false_iff.1 ?_; assumption))) only [wrap_in, if_pos, if_neg]; (try simp -dsimp [ht, hmx]))))) | ((first | refine guardP_of (fun hc => ?_) (fun hc => ?_) | refine st_cond rfl (fun hc => ?_) (fun hc => ?_)) <;> (try simp only [lqA, lqB, lqC, lqD, lqE, lqF, lqG, lqH, lqI, lqJ, lqK, lqL, lqM, lqN, lqO] at hc) <;> (try (exfalso; first | omega | exact bool_tf hc (by assumption) | exact bool_ft hc (by assumption) | exact absurd (by assumption) hc)) <;> (first | with_reducible show STri _ _ _ _ _ _ | (simp -dsimp [ht, hmx, hc]; (repeat (simp -dsimp (disch := (first | omega | assumption | (refine Bool.eq_false_iff.1 ?_; assumption))) only [wrap_in, if_pos, if_neg]; (try simp -dsimp [ht, hmx, hc]))))))))
  refine st_for [1000001000] (dayN t) (fun k T H => T = [(0, .yl id), (1, .c (.ref [I t])), (2, .c (.ref (rowSr s))), (4, .c (I (dayLo t + k)))] ∧ H = [(1000001000, .gh k false)]) (by simp) ⟨by simp, by simp⟩ ?_
  rintro k T H hk ⟨rfl, rfl⟩
  by_cases hlt : k < dayN t
  · have hle : dayLo t + k ≤ q + 1 := by omega
    have hrow : ((dayL s t).map rowD)[k]? = some [I (dayLo t + k), I (noonI s (dayLo t + k))] := by simp [dayL, hlt, rowD]
    have hm : (dayLo t + k).tmod s.table.length = (dayLo t + k) % s.table.length := Int.tmod_eq_emod_of_nonneg (by omega)
    have hm0 := Int.emod_nonneg (dayLo t + k) (show (s.table.length : Int) ≠ 0 by omega)
    have hm1 := Int.emod_lt_of_pos (dayLo t + k) (show (0 : Int) < s.table.length by omega)
    have hne : ¬ (s.table.length : Int) = 0 := by omega
    have hne2 : ¬ s.table = [] := fun e => by rw [e] at l1; simp at l1
    generalize hj : (dayLo t + k) % s.table.length = j at *
    have hjl : j.toNat < s.table.length := by omega
    have hx := l3 _ (List.getElem_mem hjl)
    have hno : noonI s (dayLo t + k) = (dayLo t + k) * 86400 + s.table[j.toNat]'hjl := by
      unfold noonI
      rw [hj]
      simp [hjl]
    rw [hno] at hrow
    (repeat' (first | ((first | with_reducible refine st_skip ?_ | with_reducible refine st_exit ?_); (try simp only [seqQ, blockQ, loopQ, forQ, whileQ, reduceIte, Nat.reduceEqDiff])) | (with_reducible refine st_ret ?_; ((try simp only [seqQ, blockQ, loopQ, forQ, whileQ]); first | (with_reducible refine retM_ret ?_) | refine retQ_ret ?_; simp [hle, ht, hq, hm, hm0, hne, hne2, hjl])) | refine st_seq ?_ | refine st_block ?_ | ((with_reducible show (STri _ _ _ _ _) ∧ (STri _ _ _ _ _)); refine And.intro ?_ ?_) | ((first | refine st_reg ?_ | ((with_reducible show callVP _ _ _ _ _ _ _); refine callV_yl (hY k _ hrow) [] (by first | rfl | simp) (fun j hj => by cases hj) rfl ?_ ?_) | refine buildP_own ?_ | refine appP_own ?_) <;> (simp -dsimp [hle, ht, hq, hm, hm0, hne, hne2, hjl]; (repeat (simp -dsimp (disch := (first | omega | assumption | (refine Bool.eq_false_iff.1 ?_; assumption))) only [wrap_in, if_pos, if_neg]; (try simp -dsimp [hle, ht, hq, hm, hm0, hne, hne2, hjl]))))) | ((first | refine guardP_of (fun hc => ?_) (fun hc => ?_) | refine st_cond rfl (fun hc => ?_) (fun hc => ?_)) <;> (try simp only [lqA, lqB, lqC, lqD, lqE, lqF, lqG, lqH, lqI, lqJ, lqK, lqL, lqM, lqN, lqO] at hc) <;> (try (exfalso; first | omega | exact bool_tf hc (by assumption) | exact bool_ft hc (by assumption) | exact absurd (by assumption) hc)) <;> (first | with_reducible show STri _ _ _ _ _ _ | (simp -dsimp [hle, ht, hq, hm, hm0, hne, hne2, hjl, hc]; (repeat (simp -dsimp (disch := (first | omega | assumption | (refine Bool.eq_false_iff.1 ?_; assumption))) only [wrap_in, if_pos, if_neg]; (try simp -dsimp [hle, ht, hq, hm, hm0, hne, hne2, hjl, hc]))))))))
    · exact ⟨hlt, by simp, by simp; omega, by simp⟩
    · exact st_ret ⟨.inr rfl, k + 1, true, rfl, fun h => by cases h⟩
  · have hle : ¬ dayLo t + k ≤ q + 1 := by omega
    (repeat' (first | ((first | with_reducible refine st_skip ?_ | with_reducible refine st_exit ?_); (try simp only [seqQ, blockQ, loopQ, forQ, whileQ, reduceIte, Nat.reduceEqDiff])) | (with_reducible refine st_ret ?_; ((try simp only [seqQ, blockQ, loopQ, forQ, whileQ]); first | (with_reducible refine retM_ret ?_) | refine retQ_ret ?_; simp [hle, ht, hq])) | refine st_seq ?_ | refine st_block ?_ | ((with_reducible show (STri _ _ _ _ _) ∧ (STri _ _ _ _ _)); refine And.intro ?_ ?_) | ((first | refine st_reg ?_ | refine buildP_own ?_ | refine appP_own ?_) <;> (simp -dsimp [hle, ht, hq]; (repeat (simp -dsimp (disch := (first | omega | assumption | (refine Bool.eq_false_iff.1 ?_; assumption))) only [wrap_in, if_pos, if_neg]; (try simp -dsimp [hle, ht, hq]))))) | ((first | refine guardP_of (fun hc => ?_) (fun hc => ?_) | refine st_cond rfl (fun hc => ?_) (fun hc => ?_)) <;> (try simp only [lqA, lqB, lqC, lqD, lqE, lqF, lqG, lqH, lqI, lqJ, lqK, lqL, lqM, lqN, lqO] at hc) <;> (try (exfalso; first | omega | exact bool_tf hc (by assumption) | exact bool_ft hc (by assumption) | exact absurd (by assumption) hc)) <;> (first | with_reducible show STri _ _ _ _ _ _ | (simp -dsimp [hle, ht, hq, hc]; (repeat (simp -dsimp (disch := (first | omega | assumption | (refine Bool.eq_false_iff.1 ?_; assumption))) only [wrap_in, if_pos, if_neg]; (try simp -dsimp [hle, ht, hq, hc]))))))))
    exact ⟨.inl rfl, k, false, rfl, fun _ => by rw [hlen]; omega⟩
def NoSun (s : Wsrc) (t elo ehi : Int) (k : Nat) : Prop := ∀ x ∈ (dayL s t).take k, within1 elo ehi (t - x.2) = false
theorem noon_bd {s : Wsrc} (hs : sunV s = true) (d : Int) (h0 : -100000 ≤ d) (h1 : d ≤ 1000000) : -10000000000 ≤ noonI s d ∧ noonI s d ≤ 100000000000 := by
  obtain ⟨l1, l2, l3⟩ := sunV_is hs
  have : -3600 ≤ s.table.getD (d % s.table.length).toNat 0 ∧ s.table.getD (d % s.table.length).toNat 0 ≤ 3600 := by
    rw [List.getD_eq_getElem?_getD]
    cases h : s.table[(d % s.table.length).toNat]? with
    | none => simp
    | some x => simpa using l3 x (List.mem_of_getElem? h)
  unfold noonI; omega
theorem sSunR (s : Wsrc) (hs : sunV s = true) (t said elo ehi : Int) (h0 : 0 ≤ t) (ht : TSm t said elo ehi) : SC Try.prog 128 [cSr s, I t, I said, .agg [I elo, I ehi]] (B (sunR s t elo ehi)) := by
  refine law_wire_sun_isRight _ _ (by simp) ?_
  obtain ⟨t0, t1, s0, s1, l0, l1, e0, e1⟩ := ht
  have hq0 : 0 ≤ t / 86400 := Int.ediv_nonneg h0 (by omega)
  have hq1 : t / 86400 ≤ 1000000 := by omega
  have hD : dayLo t = max 0 (t / 86400 - 1) := rfl
  (repeat' (first | ((first | with_reducible refine st_skip ?_ | with_reducible refine st_exit ?_); (try simp only [seqQ, blockQ, loopQ, forQ, whileQ, reduceIte, Nat.reduceEqDiff])) | (with_reducible refine st_ret ?_; ((try simp only [seqQ, blockQ, loopQ, forQ, whileQ]); first | (with_reducible refine retM_ret ?_) | refine retQ_ret ?_; simp)) | refine st_seq ?_ | refine st_block ?_ | ((with_reducible show (STri _ _ _ _ _) ∧ (STri _ _ _ _ _)); refine And.intro ?_ ?_) | ((first | refine st_reg ?_ | refine buildP_own ?_ | refine appP_own ?_ | refine callP_b (sDays s t) rfl ?_) <;> (simp -dsimp; (repeat (simp -dsimp (disch := (first | omega | assumption | (refine Bool.eq_false_iff.1 ?_; assumption))) only [wrap_in, if_pos, if_neg]; (try simp -dsimp))))) | ((first | refine guardP_of (fun hc => ?_) (fun hc => ?_) | refine st_cond rfl (fun hc => ?_) (fun hc => ?_)) <;> (try simp only [lqA, lqB, lqC, lqD, lqE, lqF, lqG, lqH, lqI, lqJ, lqK, lqL, lqM, lqN, lqO] at hc) <;> (try (exfalso; first | omega | exact bool_tf hc (by assumption) | exact bool_ft hc (by assumption) | exact absurd (by assumption) hc)) <;> (first | with_reducible show STri _ _ _ _ _ _ | (simp -dsimp [hc]; (repeat (simp -dsimp (disch := (first | omega | assumption | (refine Bool.eq_false_iff.1 ?_; assumption))) only [wrap_in, if_pos, if_neg]; (try simp -dsimp [hc]))))))))
  refine st_range (iDays s hs t h0 t1) [5, 7, 8] [] (fun k R => NoSun s t elo ehi k ∧ R = [(5, .box 3 [.c (I t)]), (7, .box 25 [.c (I elo), .c (I ehi)]), (8, .box 4 [.c (B false)])])
    rfl rfl rfl (by kernel_rfl) (by show (0 : Nat) + 1000 ≤ 1000; decide) (fun j hj => by cases hj) (fun row hrow => by obtain ⟨y, _, rfl⟩ := List.mem_map.1 hrow; rfl) (by simp) (by simp) ⟨fun x hx => by simp at hx, by simp⟩ ?_ ?_
  · rintro k row R ⟨hno, rfl⟩ hrow Iv1 G1 hGG hin
    obtain ⟨d, hdk, rfl⟩ : ∃ d, (dayL s t)[k]? = some d ∧ row = rowD d := by
      rw [List.getElem?_map, Option.map_eq_some_iff] at hrow
      obtain ⟨d, h1, h2⟩ := hrow
      exact ⟨d, h1, h2.symm⟩
    have hk : k < (dayL s t).length := (List.getElem?_eq_some_iff.1 hdk).1
    have hkd : (dayL s t)[k] = d := (List.getElem?_eq_some_iff.1 hdk).2
    have hbd : -10000000000 ≤ d.2 ∧ d.2 ≤ 100000000000 := by
      unfold dayL at hdk
      rw [List.getElem?_map, Option.map_eq_some_iff] at hdk
      obtain ⟨i, hi1, rfl⟩ := hdk
      have hi := List.mem_range.1 (List.mem_of_getElem? hi1)
      unfold dayN at hi
      exact noon_bd hs _ (by omega) (by omega)
    obtain ⟨b1, b2⟩ := hbd
    unfold rowD
    (repeat' (first | ((first | with_reducible refine st_skip ?_ | with_reducible refine st_exit ?_); (try simp only [seqQ, blockQ, loopQ, forQ, whileQ, reduceIte, Nat.reduceEqDiff])) | (with_reducible refine st_ret ?_; ((try simp only [seqQ, blockQ, loopQ, forQ, whileQ]); first | (with_reducible refine retM_ret ?_) | refine retQ_ret ?_; simp)) | refine st_seq ?_ | refine st_block ?_ | ((with_reducible show (STri _ _ _ _ _) ∧ (STri _ _ _ _ _)); refine And.intro ?_ ?_) | ((first | refine st_reg ?_ | refine buildP_own ?_ | refine appP_own ?_) <;> (simp -dsimp; (repeat (simp -dsimp (disch := (first | omega | assumption | (refine Bool.eq_false_iff.1 ?_; assumption))) only [wrap_in, if_pos, if_neg]; (try simp -dsimp))))) | ((first | refine guardP_of (fun hc => ?_) (fun hc => ?_) | refine st_cond rfl (fun hc => ?_) (fun hc => ?_)) <;> (try simp only [lqA, lqB, lqC, lqD, lqE, lqF, lqG, lqH, lqI, lqJ, lqK, lqL, lqM, lqN, lqO] at hc) <;> (try (exfalso; first | omega | exact bool_tf hc (by assumption) | exact bool_ft hc (by assumption) | exact absurd (by assumption) hc)) <;> (first | with_reducible show STri _ _ _ _ _ _ | (simp -dsimp [hc]; (repeat (simp -dsimp (disch := (first | omega | assumption | (refine Bool.eq_false_iff.1 ?_; assumption))) only [wrap_in, if_pos, if_neg]; (try simp -dsimp [hc]))))))))
    refine ⟨rfl, fun Iv2 hin2 => ?_⟩
    (repeat' (first | ((first | with_reducible refine st_skip ?_ | with_reducible refine st_exit ?_); (try simp only [seqQ, blockQ, loopQ, forQ, whileQ, reduceIte, Nat.reduceEqDiff])) | (with_reducible refine st_ret ?_; ((try simp only [seqQ, blockQ, loopQ, forQ, whileQ]); first | (with_reducible refine retM_ret ?_) | refine retQ_ret ?_; simp)) | refine st_seq ?_ | refine st_block ?_ | ((with_reducible show (STri _ _ _ _ _) ∧ (STri _ _ _ _ _)); refine And.intro ?_ ?_) | ((first | refine st_reg ?_ | refine buildP_own ?_ | refine appP_own ?_ | refine callP_b (sWithinW elo ehi [t - d.2] (by simp)) rfl ?_) <;> (simp -dsimp; (repeat (simp -dsimp (disch := (first | omega | assumption | (refine Bool.eq_false_iff.1 ?_; assumption))) only [wrap_in, if_pos, if_neg]; (try simp -dsimp))))) | ((first | refine guardP_of (fun hc => ?_) (fun hc => ?_) | refine st_cond rfl (fun hc => ?_) (fun hc => ?_)) <;> (try simp only [lqA, lqB, lqC, lqD, lqE, lqF, lqG, lqH, lqI, lqJ, lqK, lqL, lqM, lqN, lqO] at hc) <;> (try (exfalso; first | omega | exact bool_tf hc (by assumption) | exact bool_ft hc (by assumption) | exact absurd (by assumption) hc)) <;> (first | with_reducible show STri _ _ _ _ _ _ | (simp -dsimp [hc]; (repeat (simp -dsimp (disch := (first | omega | assumption | (refine Bool.eq_false_iff.1 ?_; assumption))) only [wrap_in, if_pos, if_neg]; (try simp -dsimp [hc]))))))))
    · rw [allIn_one] at hc
      refine st_ret ⟨by simp, by simp, ?_⟩
      show retQ _ _ _ _ _
      refine retQ_ret ?_
      simp
      have : sunR s t elo ehi = true := by
        unfold sunR
        rw [List.any_eq_true]
        exact ⟨d, hkd ▸ List.getElem_mem hk, hc⟩
      rw [this]
      exact .refl _
    · rw [allIn_one] at hc
      refine ⟨by simp, by simp, fun x hx => ?_, by simp⟩
      rw [List.take_succ_eq_append_getElem hk, List.mem_append] at hx
      rcases hx with hx | hx
      · exact hno x hx
      · simp only [List.mem_singleton] at hx
        rw [hx, hkd]; exact hc
  · rintro R ⟨hno, rfl⟩
    simp only [blockQ, seqQ]
    have : sunR s t elo ehi = false := by
      unfold sunR
      rw [List.any_eq_false]
      intro x hx
      have := hno x (by rw [List.length_map, List.take_length]; exact hx)
      rw [this]; decide
    rw [this]
    (repeat' (first | ((first | with_reducible refine st_skip ?_ | with_reducible refine st_exit ?_); (try simp only [seqQ, blockQ, loopQ, forQ, whileQ, reduceIte, Nat.reduceEqDiff])) | (with_reducible refine st_ret ?_; ((try simp only [seqQ, blockQ, loopQ, forQ, whileQ]); first | (with_reducible refine retM_ret ?_) | refine retQ_ret ?_; simp)) | refine st_seq ?_ | refine st_block ?_ | ((with_reducible show (STri _ _ _ _ _) ∧ (STri _ _ _ _ _)); refine And.intro ?_ ?_) | ((first | refine st_reg ?_ | refine buildP_own ?_ | refine appP_own ?_) <;> (simp -dsimp; (repeat (simp -dsimp (disch := (first | omega | assumption | (refine Bool.eq_false_iff.1 ?_; assumption))) only [wrap_in, if_pos, if_neg]; (try simp -dsimp))))) | ((first | refine guardP_of (fun hc => ?_) (fun hc => ?_) | refine st_cond rfl (fun hc => ?_) (fun hc => ?_)) <;> (try simp only [lqA, lqB, lqC, lqD, lqE, lqF, lqG, lqH, lqI, lqJ, lqK, lqL, lqM, lqN, lqO] at hc) <;> (try (exfalso; first | omega | exact bool_tf hc (by assumption) | exact bool_ft hc (by assumption) | exact absurd (by assumption) hc)) <;> (first | with_reducible show STri _ _ _ _ _ _ | (simp -dsimp [hc]; (repeat (simp -dsimp (disch := (first | omega | assumption | (refine Bool.eq_false_iff.1 ?_; assumption))) only [wrap_in, if_pos, if_neg]; (try simp -dsimp [hc]))))))))
    exact .refl _
end Go.Proofs.Ytakdmliblijgmaa
/- Wire, IV: a source of any kind. -/
namespace Go.Proofs.Ytakdmliblijgmaa
open Go.RowKit
def tyK (k : Int) : TypeId := if k = 1 then 136 else if k = 2 then 137 else if k = 3 then 138 else 139
def cI (s : Wsrc) : CV := .ifc (tyK s.kind) (cSr s)
def kindOK (k : Int) : Bool := decide (k = 1) || decide (k = 2) || decide (k = 3) || decide (k = 4)
theorem kind_cases {k : Int} (h : kindOK k = true) : k = 1 ∨ k = 2 ∨ k = 3 ∨ k = 4 := by
  unfold kindOK at h; simp at h; omega
def useV (s : Wsrc) : Bool := if s.kind = 1 then clockV s else if s.kind = 2 then eventV s else if s.kind = 3 then sunV s else true
def saidB (s : Wsrc) (n : Int) : Bool := if s.kind = 1 then within1 0 43199 n else if s.kind = 2 ∨ s.kind = 3 then decide (n = 0) else within1 0 3155760000 n
def rightB (s : Wsrc) (t said elo ehi : Int) : Bool := if s.kind = 1 then clockR s t said elo ehi else if s.kind = 2 then eventR s t elo ehi else if s.kind = 3 then sunR s t elo ehi else signalR t said elo ehi
theorem mValid (s : Wsrc) (hk : kindOK s.kind = true) (hl : s.table.length ≤ 1000000) : MethS Try.prog "turret/wire.isValid" (tyK s.kind) (cSr s) [] (B (useV s)) := by
  unfold useV tyK
  rcases kind_cases hk with h | h | h | h <;> rw [h]
  · exact ⟨_, by kernel_rfl, by kernel_rfl, sClockV s⟩
  · exact ⟨_, by kernel_rfl, by kernel_rfl, sEventV s⟩
  · exact ⟨_, by kernel_rfl, by kernel_rfl, sSunV s hl⟩
  · exact ⟨_, by kernel_rfl, by kernel_rfl, sSignalV s⟩
theorem mSaid (s : Wsrc) (hk : kindOK s.kind = true) (n : Int) : MethS Try.prog "turret/wire.isSaid" (tyK s.kind) (cSr s) [I n] (B (saidB s n)) := by
  unfold saidB tyK
  rcases kind_cases hk with h | h | h | h <;> rw [h]
  · exact ⟨_, by kernel_rfl, by kernel_rfl, sClockS s n⟩
  · exact ⟨_, by kernel_rfl, by kernel_rfl, sEventS s n⟩
  · exact ⟨_, by kernel_rfl, by kernel_rfl, sSunS s n⟩
  · exact ⟨_, by kernel_rfl, by kernel_rfl, sSignalS s n⟩
theorem mRight (s : Wsrc) (hk : kindOK s.kind = true) (hu : useV s = true) (t said elo ehi : Int) (h0 : 0 ≤ t) (ht : TSm t said elo ehi) :
    MethS Try.prog "turret/wire.isRight" (tyK s.kind) (cSr s) [I t, I said, .agg [I elo, I ehi]] (B (rightB s t said elo ehi)) := by
  unfold rightB tyK
  unfold useV at hu
  rcases kind_cases hk with h | h | h | h <;> rw [h] at hu ⊢
  · exact ⟨_, by kernel_rfl, by kernel_rfl, sClockR s hu t said elo ehi ht⟩
  · exact ⟨_, by kernel_rfl, by kernel_rfl, sEventR s hu t said elo ehi ht⟩
  · exact ⟨_, by kernel_rfl, by kernel_rfl, sSunR s hu t said elo ehi h0 ht⟩
  · exact ⟨_, by kernel_rfl, by kernel_rfl, sSignalR s t said elo ehi ht⟩
def kindsM : List (List Int × CV) := [([1], .fn 81 [] []), ([2], .fn 82 [] []), ([3], .fn 83 [] []), ([4], .fn 84 [] [])]
theorem sKinds : SC Try.prog 72 [] (.map false .i64 kindsM) := by
  refine law_wire_kinds _ _ (by simp) ?_
  unfold kindsM
  (repeat' (first | ((first | with_reducible refine st_skip ?_ | with_reducible refine st_exit ?_); (try simp only [seqQ, blockQ, loopQ, forQ, whileQ, reduceIte, Nat.reduceEqDiff])) | (with_reducible refine st_ret ?_; ((try simp only [seqQ, blockQ, loopQ, forQ, whileQ]); first | (with_reducible refine retM_ret ?_) | refine retQ_ret ?_; simp)) | refine st_seq ?_ | refine st_block ?_ | ((with_reducible show (STri _ _ _ _ _) ∧ (STri _ _ _ _ _)); refine And.intro ?_ ?_) | ((first | refine st_reg ?_ | refine buildP_own ?_ | refine appP_own ?_) <;> (simp -dsimp; (repeat (simp -dsimp (disch := (first | omega | assumption | (refine Bool.eq_false_iff.1 ?_; assumption))) only [wrap_in, if_pos, if_neg]; (try simp -dsimp))))) | ((first | refine guardP_of (fun hc => ?_) (fun hc => ?_) | refine st_cond rfl (fun hc => ?_) (fun hc => ?_)) <;> (try simp only [lqA, lqB, lqC, lqD, lqE, lqF, lqG, lqH, lqI, lqJ, lqK, lqL, lqM, lqN, lqO] at hc) <;> (try (exfalso; first | omega | exact bool_tf hc (by assumption) | exact bool_ft hc (by assumption) | exact absurd (by assumption) hc)) <;> (first | with_reducible show STri _ _ _ _ _ _ | (simp -dsimp [hc]; (repeat (simp -dsimp (disch := (first | omega | assumption | (refine Bool.eq_false_iff.1 ?_; assumption))) only [wrap_in, if_pos, if_neg]; (try simp -dsimp [hc]))))))))
  exact .refl _
theorem sKind1 (s : Wsrc) : SC Try.prog 81 [cSr s] (.ifc (tyK 1) (cSr s)) := by
  refine law_wire_kinds_1 _ _ (by simp) ?_
  (repeat' (first | ((first | with_reducible refine st_skip ?_ | with_reducible refine st_exit ?_); (try simp only [seqQ, blockQ, loopQ, forQ, whileQ, reduceIte, Nat.reduceEqDiff])) | (with_reducible refine st_ret ?_; ((try simp only [seqQ, blockQ, loopQ, forQ, whileQ]); first | (with_reducible refine retM_ret ?_) | refine retQ_ret ?_; simp)) | refine st_seq ?_ | refine st_block ?_ | ((with_reducible show (STri _ _ _ _ _) ∧ (STri _ _ _ _ _)); refine And.intro ?_ ?_) | ((first | refine st_reg ?_ | refine buildP_own ?_ | refine appP_own ?_) <;> (simp -dsimp; (repeat (simp -dsimp (disch := (first | omega | assumption | (refine Bool.eq_false_iff.1 ?_; assumption))) only [wrap_in, if_pos, if_neg]; (try simp -dsimp))))) | ((first | refine guardP_of (fun hc => ?_) (fun hc => ?_) | refine st_cond rfl (fun hc => ?_) (fun hc => ?_)) <;> (try simp only [lqA, lqB, lqC, lqD, lqE, lqF, lqG, lqH, lqI, lqJ, lqK, lqL, lqM, lqN, lqO] at hc) <;> (try (exfalso; first | omega | exact bool_tf hc (by assumption) | exact bool_ft hc (by assumption) | exact absurd (by assumption) hc)) <;> (first | with_reducible show STri _ _ _ _ _ _ | (simp -dsimp [hc]; (repeat (simp -dsimp (disch := (first | omega | assumption | (refine Bool.eq_false_iff.1 ?_; assumption))) only [wrap_in, if_pos, if_neg]; (try simp -dsimp [hc]))))))))
  exact .refl _
theorem sKind2 (s : Wsrc) : SC Try.prog 82 [cSr s] (.ifc (tyK 2) (cSr s)) := by
  refine law_wire_kinds_2 _ _ (by simp) ?_
  (repeat' (first | ((first | with_reducible refine st_skip ?_ | with_reducible refine st_exit ?_); (try simp only [seqQ, blockQ, loopQ, forQ, whileQ, reduceIte, Nat.reduceEqDiff])) | (with_reducible refine st_ret ?_; ((try simp only [seqQ, blockQ, loopQ, forQ, whileQ]); first | (with_reducible refine retM_ret ?_) | refine retQ_ret ?_; simp)) | refine st_seq ?_ | refine st_block ?_ | ((with_reducible show (STri _ _ _ _ _) ∧ (STri _ _ _ _ _)); refine And.intro ?_ ?_) | ((first | refine st_reg ?_ | refine buildP_own ?_ | refine appP_own ?_) <;> (simp -dsimp; (repeat (simp -dsimp (disch := (first | omega | assumption | (refine Bool.eq_false_iff.1 ?_; assumption))) only [wrap_in, if_pos, if_neg]; (try simp -dsimp))))) | ((first | refine guardP_of (fun hc => ?_) (fun hc => ?_) | refine st_cond rfl (fun hc => ?_) (fun hc => ?_)) <;> (try simp only [lqA, lqB, lqC, lqD, lqE, lqF, lqG, lqH, lqI, lqJ, lqK, lqL, lqM, lqN, lqO] at hc) <;> (try (exfalso; first | omega | exact bool_tf hc (by assumption) | exact bool_ft hc (by assumption) | exact absurd (by assumption) hc)) <;> (first | with_reducible show STri _ _ _ _ _ _ | (simp -dsimp [hc]; (repeat (simp -dsimp (disch := (first | omega | assumption | (refine Bool.eq_false_iff.1 ?_; assumption))) only [wrap_in, if_pos, if_neg]; (try simp -dsimp [hc]))))))))
  exact .refl _
theorem sKind3 (s : Wsrc) : SC Try.prog 83 [cSr s] (.ifc (tyK 3) (cSr s)) := by
  refine law_wire_kinds_3 _ _ (by simp) ?_
  (repeat' (first | ((first | with_reducible refine st_skip ?_ | with_reducible refine st_exit ?_); (try simp only [seqQ, blockQ, loopQ, forQ, whileQ, reduceIte, Nat.reduceEqDiff])) | (with_reducible refine st_ret ?_; ((try simp only [seqQ, blockQ, loopQ, forQ, whileQ]); first | (with_reducible refine retM_ret ?_) | refine retQ_ret ?_; simp)) | refine st_seq ?_ | refine st_block ?_ | ((with_reducible show (STri _ _ _ _ _) ∧ (STri _ _ _ _ _)); refine And.intro ?_ ?_) | ((first | refine st_reg ?_ | refine buildP_own ?_ | refine appP_own ?_) <;> (simp -dsimp; (repeat (simp -dsimp (disch := (first | omega | assumption | (refine Bool.eq_false_iff.1 ?_; assumption))) only [wrap_in, if_pos, if_neg]; (try simp -dsimp))))) | ((first | refine guardP_of (fun hc => ?_) (fun hc => ?_) | refine st_cond rfl (fun hc => ?_) (fun hc => ?_)) <;> (try simp only [lqA, lqB, lqC, lqD, lqE, lqF, lqG, lqH, lqI, lqJ, lqK, lqL, lqM, lqN, lqO] at hc) <;> (try (exfalso; first | omega | exact bool_tf hc (by assumption) | exact bool_ft hc (by assumption) | exact absurd (by assumption) hc)) <;> (first | with_reducible show STri _ _ _ _ _ _ | (simp -dsimp [hc]; (repeat (simp -dsimp (disch := (first | omega | assumption | (refine Bool.eq_false_iff.1 ?_; assumption))) only [wrap_in, if_pos, if_neg]; (try simp -dsimp [hc]))))))))
  exact .refl _
theorem sKind4 (s : Wsrc) : SC Try.prog 84 [cSr s] (.ifc (tyK 4) (cSr s)) := by
  refine law_wire_kinds_4 _ _ (by simp) ?_
  (repeat' (first | ((first | with_reducible refine st_skip ?_ | with_reducible refine st_exit ?_); (try simp only [seqQ, blockQ, loopQ, forQ, whileQ, reduceIte, Nat.reduceEqDiff])) | (with_reducible refine st_ret ?_; ((try simp only [seqQ, blockQ, loopQ, forQ, whileQ]); first | (with_reducible refine retM_ret ?_) | refine retQ_ret ?_; simp)) | refine st_seq ?_ | refine st_block ?_ | ((with_reducible show (STri _ _ _ _ _) ∧ (STri _ _ _ _ _)); refine And.intro ?_ ?_) | ((first | refine st_reg ?_ | refine buildP_own ?_ | refine appP_own ?_) <;> (simp -dsimp; (repeat (simp -dsimp (disch := (first | omega | assumption | (refine Bool.eq_false_iff.1 ?_; assumption))) only [wrap_in, if_pos, if_neg]; (try simp -dsimp))))) | ((first | refine guardP_of (fun hc => ?_) (fun hc => ?_) | refine st_cond rfl (fun hc => ?_) (fun hc => ?_)) <;> (try simp only [lqA, lqB, lqC, lqD, lqE, lqF, lqG, lqH, lqI, lqJ, lqK, lqL, lqM, lqN, lqO] at hc) <;> (try (exfalso; first | omega | exact bool_tf hc (by assumption) | exact bool_ft hc (by assumption) | exact absurd (by assumption) hc)) <;> (first | with_reducible show STri _ _ _ _ _ _ | (simp -dsimp [hc]; (repeat (simp -dsimp (disch := (first | omega | assumption | (refine Bool.eq_false_iff.1 ?_; assumption))) only [wrap_in, if_pos, if_neg]; (try simp -dsimp [hc]))))))))
  exact .refl _
end Go.Proofs.Ytakdmliblijgmaa
/- Wire, V: sources are made. -/
namespace Go.Proofs.Ytakdmliblijgmaa
open Go.RowKit
def baseV (s : Wsrc) : Bool := kindOK s.kind && spanW s.elo s.ehi 3600
def validV (s : Wsrc) : Bool := baseV s && useV s
def srcX (s : Wsrc) : CV := if baseV s = true then cI s else .val .nilIface
theorem findK1 : kindsM.find? (fun p => p.1 == [1]) = some ([1], .fn 81 [] []) := rfl
theorem findK2 : kindsM.find? (fun p => p.1 == [2]) = some ([2], .fn 82 [] []) := rfl
theorem findK3 : kindsM.find? (fun p => p.1 == [3]) = some ([3], .fn 83 [] []) := rfl
theorem findK4 : kindsM.find? (fun p => p.1 == [4]) = some ([4], .fn 84 [] []) := rfl
theorem findK0 {k : Int} (h : ¬ kindOK k = true) : kindsM.find? (fun p => p.1 == [k]) = none := by
  unfold kindOK at h
  simp at h
  unfold kindsM
  have a1 : ¬ 1 = k := fun e => by omega
  have a2 : ¬ 2 = k := fun e => by omega
  have a3 : ¬ 3 = k := fun e => by omega
  have a4 : ¬ 4 = k := fun e => by omega
  simp [a1, a2, a3, a4]
theorem sNewSource (s : Wsrc) (hl : s.table.length ≤ 1000000) : SC Try.prog 60 [cSr s] (.tup [srcX s, B (validV s)]) := by
  refine law_wire_newSource _ _ (by simp) ?_
  have hs := sIsSpanW s.elo s.ehi 3600 (by omega) (by omega)
  by_cases hk : kindOK s.kind = true
  · have hm := mValid s hk hl
    have hv : validV s = (spanW s.elo s.ehi 3600 && useV s) := by unfold validV baseV; rw [hk]; rfl
    have hx : srcX s = if spanW s.elo s.ehi 3600 = true then .ifc (tyK s.kind) (cSr s) else .val .nilIface := by unfold srcX baseV cI; rw [hk]; simp
    rw [hv, hx]
    generalize spanW s.elo s.ehi 3600 = sp at *
    generalize useV s = uv at *
    obtain ⟨kind, elo, ehi, at', dlo, dhi, every, table⟩ := s
    simp only at hk hl
    rcases kind_cases hk with h | h | h | h <;> subst h
    · (repeat' (first | ((first | with_reducible refine st_skip ?_ | with_reducible refine st_exit ?_); (try simp only [seqQ, blockQ, loopQ, forQ, whileQ, reduceIte, Nat.reduceEqDiff])) | (with_reducible refine st_ret ?_; ((try simp only [seqQ, blockQ, loopQ, forQ, whileQ]); first | (with_reducible refine retM_ret ?_) | refine retQ_ret ?_; simp [findK1])) | refine st_seq ?_ | refine st_block ?_ | ((with_reducible show (STri _ _ _ _ _) ∧ (STri _ _ _ _ _)); refine And.intro ?_ ?_) | ((first | refine st_reg ?_ | ((with_reducible show callVP _ _ _ _ _ _ _); refine callV_b (by first | exact Ent.h (by assumption) | kernel_rfl) (sKind1 ⟨1, elo, ehi, at', dlo, dhi, every, table⟩) rfl ?_) | refine buildP_own ?_ | refine appP_own ?_ | ((with_reducible show callIP _ _ _ _ _ _ _); refine callI_m (hm) rfl ?_) | refine callP_b (sKinds) rfl ?_ | refine callP_b (hs) rfl ?_) <;> (simp -dsimp [findK1]; (repeat (simp -dsimp (disch := (first | omega | assumption | (refine Bool.eq_false_iff.1 ?_; assumption))) only [wrap_in, if_pos, if_neg]; (try simp -dsimp [findK1]))))) | ((first | refine guardP_of (fun hc => ?_) (fun hc => ?_) | refine st_cond rfl (fun hc => ?_) (fun hc => ?_)) <;> (try simp only [lqA, lqB, lqC, lqD, lqE, lqF, lqG, lqH, lqI, lqJ, lqK, lqL, lqM, lqN, lqO] at hc) <;> (try (exfalso; first | omega | exact bool_tf hc (by assumption) | exact bool_ft hc (by assumption) | exact absurd (by assumption) hc)) <;> (first | with_reducible show STri _ _ _ _ _ _ | (simp -dsimp [findK1, hc]; (repeat (simp -dsimp (disch := (first | omega | assumption | (refine Bool.eq_false_iff.1 ?_; assumption))) only [wrap_in, if_pos, if_neg]; (try simp -dsimp [findK1, hc]))))))))
      all_goals (subst hc; first | exact .refl _ | (simp; exact .refl _))
    · (repeat' (first | ((first | with_reducible refine st_skip ?_ | with_reducible refine st_exit ?_); (try simp only [seqQ, blockQ, loopQ, forQ, whileQ, reduceIte, Nat.reduceEqDiff])) | (with_reducible refine st_ret ?_; ((try simp only [seqQ, blockQ, loopQ, forQ, whileQ]); first | (with_reducible refine retM_ret ?_) | refine retQ_ret ?_; simp [findK2])) | refine st_seq ?_ | refine st_block ?_ | ((with_reducible show (STri _ _ _ _ _) ∧ (STri _ _ _ _ _)); refine And.intro ?_ ?_) | ((first | refine st_reg ?_ | ((with_reducible show callVP _ _ _ _ _ _ _); refine callV_b (by first | exact Ent.h (by assumption) | kernel_rfl) (sKind2 ⟨2, elo, ehi, at', dlo, dhi, every, table⟩) rfl ?_) | refine buildP_own ?_ | refine appP_own ?_ | ((with_reducible show callIP _ _ _ _ _ _ _); refine callI_m (hm) rfl ?_) | refine callP_b (sKinds) rfl ?_ | refine callP_b (hs) rfl ?_) <;> (simp -dsimp [findK2]; (repeat (simp -dsimp (disch := (first | omega | assumption | (refine Bool.eq_false_iff.1 ?_; assumption))) only [wrap_in, if_pos, if_neg]; (try simp -dsimp [findK2]))))) | ((first | refine guardP_of (fun hc => ?_) (fun hc => ?_) | refine st_cond rfl (fun hc => ?_) (fun hc => ?_)) <;> (try simp only [lqA, lqB, lqC, lqD, lqE, lqF, lqG, lqH, lqI, lqJ, lqK, lqL, lqM, lqN, lqO] at hc) <;> (try (exfalso; first | omega | exact bool_tf hc (by assumption) | exact bool_ft hc (by assumption) | exact absurd (by assumption) hc)) <;> (first | with_reducible show STri _ _ _ _ _ _ | (simp -dsimp [findK2, hc]; (repeat (simp -dsimp (disch := (first | omega | assumption | (refine Bool.eq_false_iff.1 ?_; assumption))) only [wrap_in, if_pos, if_neg]; (try simp -dsimp [findK2, hc]))))))))
      all_goals (subst hc; first | exact .refl _ | (simp; exact .refl _))
    · (repeat' (first | ((first | with_reducible refine st_skip ?_ | with_reducible refine st_exit ?_); (try simp only [seqQ, blockQ, loopQ, forQ, whileQ, reduceIte, Nat.reduceEqDiff])) | (with_reducible refine st_ret ?_; ((try simp only [seqQ, blockQ, loopQ, forQ, whileQ]); first | (with_reducible refine retM_ret ?_) | refine retQ_ret ?_; simp [findK3])) | refine st_seq ?_ | refine st_block ?_ | ((with_reducible show (STri _ _ _ _ _) ∧ (STri _ _ _ _ _)); refine And.intro ?_ ?_) | ((first | refine st_reg ?_ | ((with_reducible show callVP _ _ _ _ _ _ _); refine callV_b (by first | exact Ent.h (by assumption) | kernel_rfl) (sKind3 ⟨3, elo, ehi, at', dlo, dhi, every, table⟩) rfl ?_) | refine buildP_own ?_ | refine appP_own ?_ | ((with_reducible show callIP _ _ _ _ _ _ _); refine callI_m (hm) rfl ?_) | refine callP_b (sKinds) rfl ?_ | refine callP_b (hs) rfl ?_) <;> (simp -dsimp [findK3]; (repeat (simp -dsimp (disch := (first | omega | assumption | (refine Bool.eq_false_iff.1 ?_; assumption))) only [wrap_in, if_pos, if_neg]; (try simp -dsimp [findK3]))))) | ((first | refine guardP_of (fun hc => ?_) (fun hc => ?_) | refine st_cond rfl (fun hc => ?_) (fun hc => ?_)) <;> (try simp only [lqA, lqB, lqC, lqD, lqE, lqF, lqG, lqH, lqI, lqJ, lqK, lqL, lqM, lqN, lqO] at hc) <;> (try (exfalso; first | omega | exact bool_tf hc (by assumption) | exact bool_ft hc (by assumption) | exact absurd (by assumption) hc)) <;> (first | with_reducible show STri _ _ _ _ _ _ | (simp -dsimp [findK3, hc]; (repeat (simp -dsimp (disch := (first | omega | assumption | (refine Bool.eq_false_iff.1 ?_; assumption))) only [wrap_in, if_pos, if_neg]; (try simp -dsimp [findK3, hc]))))))))
      all_goals (subst hc; first | exact .refl _ | (simp; exact .refl _))
    · (repeat' (first | ((first | with_reducible refine st_skip ?_ | with_reducible refine st_exit ?_); (try simp only [seqQ, blockQ, loopQ, forQ, whileQ, reduceIte, Nat.reduceEqDiff])) | (with_reducible refine st_ret ?_; ((try simp only [seqQ, blockQ, loopQ, forQ, whileQ]); first | (with_reducible refine retM_ret ?_) | refine retQ_ret ?_; simp [findK4])) | refine st_seq ?_ | refine st_block ?_ | ((with_reducible show (STri _ _ _ _ _) ∧ (STri _ _ _ _ _)); refine And.intro ?_ ?_) | ((first | refine st_reg ?_ | ((with_reducible show callVP _ _ _ _ _ _ _); refine callV_b (by first | exact Ent.h (by assumption) | kernel_rfl) (sKind4 ⟨4, elo, ehi, at', dlo, dhi, every, table⟩) rfl ?_) | refine buildP_own ?_ | refine appP_own ?_ | ((with_reducible show callIP _ _ _ _ _ _ _); refine callI_m (hm) rfl ?_) | refine callP_b (sKinds) rfl ?_ | refine callP_b (hs) rfl ?_) <;> (simp -dsimp [findK4]; (repeat (simp -dsimp (disch := (first | omega | assumption | (refine Bool.eq_false_iff.1 ?_; assumption))) only [wrap_in, if_pos, if_neg]; (try simp -dsimp [findK4]))))) | ((first | refine guardP_of (fun hc => ?_) (fun hc => ?_) | refine st_cond rfl (fun hc => ?_) (fun hc => ?_)) <;> (try simp only [lqA, lqB, lqC, lqD, lqE, lqF, lqG, lqH, lqI, lqJ, lqK, lqL, lqM, lqN, lqO] at hc) <;> (try (exfalso; first | omega | exact bool_tf hc (by assumption) | exact bool_ft hc (by assumption) | exact absurd (by assumption) hc)) <;> (first | with_reducible show STri _ _ _ _ _ _ | (simp -dsimp [findK4, hc]; (repeat (simp -dsimp (disch := (first | omega | assumption | (refine Bool.eq_false_iff.1 ?_; assumption))) only [wrap_in, if_pos, if_neg]; (try simp -dsimp [findK4, hc]))))))))
      all_goals (subst hc; first | exact .refl _ | (simp; exact .refl _))
  · have hb : baseV s = false := by unfold baseV; simp [hk]
    have hv : validV s = false := by unfold validV; rw [hb]; rfl
    have hx : srcX s = .val .nilIface := by unfold srcX; rw [hb]; rfl
    have hg2 := findK0 hk
    rw [hv, hx]
    (repeat' (first | ((first | with_reducible refine st_skip ?_ | with_reducible refine st_exit ?_); (try simp only [seqQ, blockQ, loopQ, forQ, whileQ, reduceIte, Nat.reduceEqDiff])) | (with_reducible refine st_ret ?_; ((try simp only [seqQ, blockQ, loopQ, forQ, whileQ]); first | (with_reducible refine retM_ret ?_) | refine retQ_ret ?_; simp [hg2])) | refine st_seq ?_ | refine st_block ?_ | ((with_reducible show (STri _ _ _ _ _) ∧ (STri _ _ _ _ _)); refine And.intro ?_ ?_) | ((first | refine st_reg ?_ | refine buildP_own ?_ | refine appP_own ?_ | refine callP_b (sKinds) rfl ?_) <;> (simp -dsimp [hg2]; (repeat (simp -dsimp (disch := (first | omega | assumption | (refine Bool.eq_false_iff.1 ?_; assumption))) only [wrap_in, if_pos, if_neg]; (try simp -dsimp [hg2]))))) | ((first | refine guardP_of (fun hc => ?_) (fun hc => ?_) | refine st_cond rfl (fun hc => ?_) (fun hc => ?_)) <;> (try simp only [lqA, lqB, lqC, lqD, lqE, lqF, lqG, lqH, lqI, lqJ, lqK, lqL, lqM, lqN, lqO] at hc) <;> (try (exfalso; first | omega | exact bool_tf hc (by assumption) | exact bool_ft hc (by assumption) | exact absurd (by assumption) hc)) <;> (first | with_reducible show STri _ _ _ _ _ _ | (simp -dsimp [hg2, hc]; (repeat (simp -dsimp (disch := (first | omega | assumption | (refine Bool.eq_false_iff.1 ?_; assumption))) only [wrap_in, if_pos, if_neg]; (try simp -dsimp [hg2, hc]))))))))
    exact .refl _
end Go.Proofs.Ytakdmliblijgmaa
/- Wire, VI: books. -/
namespace Go.Proofs.Ytakdmliblijgmaa
open Go.RowKit
structure Wbk where
  (srcs : List Wsrc) (errs : List (Int × Int)) (notes : List Wnt) (nlo nhi : Int)
def rowS (s : Wsrc) : List CV := [cI s]
def rowE (e : Int × Int) : List CV := [I e.1, I e.2]
def rowBk (b : Wbk) : List CV := [.sl 1 (b.srcs.map rowS), .sl 2 (b.errs.map rowE), slN b.notes, I b.nlo, I b.nhi]
def cBk (b : Wbk) : CV := .agg (rowBk b)
attribute [simp] rowS rowE rowBk cBk cI
def errOf (s : Wsrc) : Int × Int := (s.elo, s.ehi)
def bare (w : List Wsrc) : Wbk := ⟨w, w.map errOf, [], 0, 0⟩
def sizeW (w : List Wsrc) : Bool := within1 1 10 w.length
def noteErr (w : List Wsrc) (n : Wnt) : Int :=
  if within1 0 (w.length - 1) n.src = true then (if within1 0 3155760000 n.tick = true ∧ (w.map fun s => saidB s n.said).getD n.src.toNat false = true then 0 else 2) else 7
def notesErr (w : List Wsrc) (l : List Wnt) : Int := match l.find? (fun n => decide (noteErr w n ≠ 0)) with
  | some n => noteErr w n
  | none => 0
def newErr (w : List Wsrc) (l : List Wnt) (nlo nhi : Int) : Int :=
  if ¬ sizeW w = true then 2 else if ¬ w.all validV = true then 2 else if 60 < l.length then 5 else if ¬ notesErr w l = 0 then notesErr w l else if spanW nlo nhi 7200 = true then 0 else 3
def newBk (w : List Wsrc) (l : List Wnt) (nlo nhi : Int) : Wbk :=
  if ¬ sizeW w = true then bare [] else if ¬ w.all validV = true then bare (w.takeWhile validV) else if newErr w l nlo nhi = 0 then ⟨w, w.map errOf, l, nlo, nhi⟩ else bare w
def AllV (w : List Wsrc) (k : Nat) : Prop := ∀ s ∈ w.take k, validV s = true
theorem allV_succ {w : List Wsrc} {k : Nat} (hlt : k < w.length) (h : AllV w k) (hv : validV w[k] = true) : AllV w (k + 1) := fun s hs => by
  rw [List.take_succ_eq_append_getElem hlt, List.mem_append] at hs
  rcases hs with hs | hs
  · exact h s hs
  · simp at hs; rw [hs]; exact hv
theorem allV_all {w : List Wsrc} (h : AllV w w.length) : w.all validV = true := List.all_eq_true.2 fun s hs => h s (by rw [List.take_length]; exact hs)
theorem allV_stop : ∀ {w : List Wsrc} {k : Nat} (hlt : k < w.length), AllV w k → validV w[k] = false → w.takeWhile validV = w.take k ∧ ¬ w.all validV = true
  | s :: w, 0, _, _, hv => by
    have : validV s = false := hv
    simp [this]
  | s :: w, k + 1, hlt, h, hv => by
    have h1 : validV s = true := h s (by simp)
    obtain ⟨e1, e2⟩ := allV_stop (w := w) (k := k) (by simpa using hlt) (fun x hx => h x (by simp [hx])) (by simpa using hv)
    exact ⟨by simp [h1, e1], by simp only [List.all_cons, h1, Bool.true_and]; exact e2⟩
theorem valid_X {s : Wsrc} (h : validV s = true) : srcX s = cI s := by
  unfold validV at h
  unfold srcX
  rw [if_pos (by simp at h; exact h.1)]
def NotesTo (w : List Wsrc) (l : List Wnt) (k : Nat) : Prop := ∀ n ∈ l.take k, noteErr w n = 0
theorem notes_succ {w : List Wsrc} {l : List Wnt} {k : Nat} (hlt : k < l.length) (h : NotesTo w l k) (hv : noteErr w l[k] = 0) : NotesTo w l (k + 1) := fun s hs => by
  rw [List.take_succ_eq_append_getElem hlt, List.mem_append] at hs
  rcases hs with hs | hs
  · exact h s hs
  · simp at hs; rw [hs]; exact hv
theorem notes_all {w : List Wsrc} {l : List Wnt} (h : NotesTo w l l.length) : notesErr w l = 0 := by
  unfold notesErr
  rw [List.find?_eq_none.2 (fun n hn => by simpa using h n (by rw [List.take_length]; exact hn))]
theorem notes_stop : ∀ {w : List Wsrc} {l : List Wnt} {k : Nat} (hlt : k < l.length), NotesTo w l k → ¬ noteErr w l[k] = 0 → notesErr w l = noteErr w l[k]
  | w, n :: l, 0, _, _, hv => by
    unfold notesErr
    have : ¬ noteErr w n = 0 := hv
    simp [this]
  | w, n :: l, k + 1, hlt, h, hv => by
    have h1 : noteErr w n = 0 := h n (by simp)
    have ih := notes_stop (w := w) (l := l) (k := k) (by simpa using hlt) (fun x hx => h x (by simp [hx])) (by simpa using hv)
    unfold notesErr at ih ⊢
    simp [h1] at ih ⊢
    exact ih
theorem take_map_succ {α β : Type} (f : α → β) {w : List α} {k : Nat} (hlt : k < w.length) : (w.map f).take (k + 1) = (w.map f).take k ++ [f w[k]] := by
  rw [List.take_succ_eq_append_getElem (by simpa using hlt), List.getElem_map]
structure WLen (w : List Wsrc) : Prop where
  h : ∀ s ∈ w, s.table.length ≤ 1000000
theorem sNewBook (w : List Wsrc) (hw : WLen w) (l : List Wnt) (hl : l.length ≤ 1000000) (nlo nhi : Int) :
    SC Try.prog 44 [slSr w, slN l, .agg [I nlo, I nhi]] (.tup [cBk (newBk w l nlo nhi), I (newErr w l nlo nhi)]) := by
  refine law_wire_newBook _ _ (by simp) ?_
  have s1 := sWithinW 1 10 [(w.length : Int)] (by simp)
  rw [allIn_one] at s1
  change SC _ _ _ (B (sizeW w)) at s1
  by_cases hz : sizeW w = true
  case neg =>
    have e1 : newBk w l nlo nhi = bare [] := by unfold newBk; rw [if_pos hz]
    have e2 : newErr w l nlo nhi = 2 := by unfold newErr; rw [if_pos hz]
    rw [e1, e2]
    unfold bare
    (repeat' (first | (refine st_nilB 6 0 200 112 1 rfl (by simp) rfl (by simp [newOK]) ?_) | (refine st_nilB 6 1 201 25 2 rfl (by simp) rfl (by simp [newOK]) ?_) | (refine st_nilB 6 2 202 73 3 rfl (by simp) rfl (by simp [newOK]) ?_) | ((first | with_reducible refine st_skip ?_ | with_reducible refine st_exit ?_); (try simp only [seqQ, blockQ, loopQ, forQ, whileQ, reduceIte, Nat.reduceEqDiff])) | (with_reducible refine st_ret ?_; ((try simp only [seqQ, blockQ, loopQ, forQ, whileQ]); first | (with_reducible refine retM_ret ?_) | refine retQ_ret ?_; simp [hz])) | refine st_seq ?_ | refine st_block ?_ | ((with_reducible show (STri _ _ _ _ _) ∧ (STri _ _ _ _ _)); refine And.intro ?_ ?_) | ((first | refine st_reg ?_ | refine buildP_own ?_ | refine appP_own ?_ | refine callP_b (s1) rfl ?_) <;> (simp -dsimp [hz]; (repeat (simp -dsimp (disch := (first | omega | assumption | (refine Bool.eq_false_iff.1 ?_; assumption))) only [wrap_in, if_pos, if_neg]; (try simp -dsimp [hz]))))) | ((first | refine guardP_of (fun hc => ?_) (fun hc => ?_) | refine st_cond rfl (fun hc => ?_) (fun hc => ?_)) <;> (try simp only [lqA, lqB, lqC, lqD, lqE, lqF, lqG, lqH, lqI, lqJ, lqK, lqL, lqM, lqN, lqO] at hc) <;> (try (exfalso; first | omega | exact bool_tf hc (by assumption) | exact bool_ft hc (by assumption) | exact absurd (by assumption) hc)) <;> (first | with_reducible show STri _ _ _ _ _ _ | (simp -dsimp [hz, hc]; (repeat (simp -dsimp (disch := (first | omega | assumption | (refine Bool.eq_false_iff.1 ?_; assumption))) only [wrap_in, if_pos, if_neg]; (try simp -dsimp [hz, hc]))))))))
    all_goals exact .refl _
  have hlen : 1 ≤ w.length ∧ w.length ≤ 10 := by
    unfold sizeW within1 at hz; simp at hz; omega
  (repeat' (first | (refine st_nilB 6 0 200 112 1 rfl (by simp) rfl (by simp [newOK]) ?_) | (refine st_nilB 6 1 201 25 2 rfl (by simp) rfl (by simp [newOK]) ?_) | (refine st_nilB 6 2 202 73 3 rfl (by simp) rfl (by simp [newOK]) ?_) | ((first | with_reducible refine st_skip ?_ | with_reducible refine st_exit ?_); (try simp only [seqQ, blockQ, loopQ, forQ, whileQ, reduceIte, Nat.reduceEqDiff])) | (with_reducible refine st_ret ?_; ((try simp only [seqQ, blockQ, loopQ, forQ, whileQ]); first | (with_reducible refine retM_ret ?_) | refine retQ_ret ?_; simp [hz])) | refine st_seq ?_ | refine st_block ?_ | ((with_reducible show (STri _ _ _ _ _) ∧ (STri _ _ _ _ _)); refine And.intro ?_ ?_) | ((first | refine st_reg ?_ | refine buildP_own ?_ | refine appP_own ?_ | refine callP_b (s1) rfl ?_) <;> (simp -dsimp [hz]; (repeat (simp -dsimp (disch := (first | omega | assumption | (refine Bool.eq_false_iff.1 ?_; assumption))) only [wrap_in, if_pos, if_neg]; (try simp -dsimp [hz]))))) | ((first | refine guardP_of (fun hc => ?_) (fun hc => ?_) | refine st_cond rfl (fun hc => ?_) (fun hc => ?_)) <;> (try simp only [lqA, lqB, lqC, lqD, lqE, lqF, lqG, lqH, lqI, lqJ, lqK, lqL, lqM, lqN, lqO] at hc) <;> (try (exfalso; first | omega | exact bool_tf hc (by assumption) | exact bool_ft hc (by assumption) | exact absurd (by assumption) hc)) <;> (first | with_reducible show STri _ _ _ _ _ _ | (simp -dsimp [hz, hc]; (repeat (simp -dsimp (disch := (first | omega | assumption | (refine Bool.eq_false_iff.1 ?_; assumption))) only [wrap_in, if_pos, if_neg]; (try simp -dsimp [hz, hc]))))))))
  refine st_for [5, 6, 200, 201, 202] w.length (fun k T H => AllV w k ∧ T = [(0, .c (slSr w)), (1, .c (slN l)), (5, .ptr 5 0), (6, .ptr 6 0), (20, .c (slSr w)), (21, .c (I w.length)), (22, .c (I k))] ∧
    H = [(5, .box 25 [.c (I nlo), .c (I nhi)]), (6, .box 91 [.own 200 k, .own 201 k, .own 202 0, .c (I 0), .c (I 0)]), (200, .arr 112 1 ((w.take k).map rowS)), (201, .arr 25 2 (((w.take k).map errOf).map rowE)), (202, .arr 73 3 [])]) (by simp) ⟨fun s hs => by simp at hs, by simp, by simp⟩ ?_
  rintro k T H hk ⟨hall, rfl, rfl⟩
  by_cases hlt : k < w.length
  · have sn := sNewSource w[k] (hw.h _ (List.getElem_mem hlt))
    have hkl : (w.take k).length = k := by rw [List.length_take]; omega
    have hm : min k w.length = k := by omega
    have hA : k ≤ 9223372036854775806 := by omega
    have hB : (k + 1) * 16 ≤ 140737488355328 := by omega
    by_cases hv : validV w[k] = true
    · rw [valid_X hv, hv] at sn
      (repeat' (first | ((first | with_reducible refine st_skip ?_ | with_reducible refine st_exit ?_); (try simp only [seqQ, blockQ, loopQ, forQ, whileQ, reduceIte, Nat.reduceEqDiff])) | (with_reducible refine st_ret ?_; ((try simp only [seqQ, blockQ, loopQ, forQ, whileQ]); first | (with_reducible refine retM_ret ?_) | refine retQ_ret ?_; simp [hlt, hm, hA, hB])) | refine st_seq ?_ | refine st_block ?_ | ((with_reducible show (STri _ _ _ _ _) ∧ (STri _ _ _ _ _)); refine And.intro ?_ ?_) | ((first | refine st_reg ?_ | refine buildP_own ?_ | refine appP_own ?_ | refine callP_b (sn) rfl ?_) <;> (simp -dsimp [hlt, hm, hA, hB]; (repeat (simp -dsimp (disch := (first | omega | assumption | (refine Bool.eq_false_iff.1 ?_; assumption))) only [wrap_in, if_pos, if_neg]; (try simp -dsimp [hlt, hm, hA, hB]))))) | ((first | refine guardP_of (fun hc => ?_) (fun hc => ?_) | refine st_cond rfl (fun hc => ?_) (fun hc => ?_)) <;> (try simp only [lqA, lqB, lqC, lqD, lqE, lqF, lqG, lqH, lqI, lqJ, lqK, lqL, lqM, lqN, lqO] at hc) <;> (try (exfalso; first | omega | exact bool_tf hc (by assumption) | exact bool_ft hc (by assumption) | exact absurd (by assumption) hc)) <;> (first | with_reducible show STri _ _ _ _ _ _ | (simp -dsimp [hlt, hm, hA, hB, hc]; (repeat (simp -dsimp (disch := (first | omega | assumption | (refine Bool.eq_false_iff.1 ?_; assumption))) only [wrap_in, if_pos, if_neg]; (try simp -dsimp [hlt, hm, hA, hB, hc]))))))))
      exact ⟨hlt, by simp, allV_succ hlt hall hv, by simp, by simp [take_map_succ _ hlt, hm, errOf]⟩
    · rw [Bool.not_eq_true] at hv
      rw [hv] at sn
      obtain ⟨e3, e4⟩ := allV_stop hlt hall hv
      have e1 : newBk w l nlo nhi = bare (w.take k) := by unfold newBk; rw [if_neg (by rw [hz]; decide), if_pos e4, e3]
      have e2 : newErr w l nlo nhi = 2 := by unfold newErr; rw [if_neg (by rw [hz]; decide), if_pos e4]
      rw [e1, e2]
      unfold bare
      (repeat' (first | ((first | with_reducible refine st_skip ?_ | with_reducible refine st_exit ?_); (try simp only [seqQ, blockQ, loopQ, forQ, whileQ, reduceIte, Nat.reduceEqDiff])) | (with_reducible refine st_ret ?_; ((try simp only [seqQ, blockQ, loopQ, forQ, whileQ]); first | (with_reducible refine retM_ret ?_) | refine retQ_ret ?_; simp [hlt, hm])) | refine st_seq ?_ | refine st_block ?_ | ((with_reducible show (STri _ _ _ _ _) ∧ (STri _ _ _ _ _)); refine And.intro ?_ ?_) | ((first | refine st_reg ?_ | refine buildP_own ?_ | refine appP_own ?_ | refine callP_b (sn) rfl ?_) <;> (simp -dsimp [hlt, hm]; (repeat (simp -dsimp (disch := (first | omega | assumption | (refine Bool.eq_false_iff.1 ?_; assumption))) only [wrap_in, if_pos, if_neg]; (try simp -dsimp [hlt, hm]))))) | ((first | refine guardP_of (fun hc => ?_) (fun hc => ?_) | refine st_cond rfl (fun hc => ?_) (fun hc => ?_)) <;> (try simp only [lqA, lqB, lqC, lqD, lqE, lqF, lqG, lqH, lqI, lqJ, lqK, lqL, lqM, lqN, lqO] at hc) <;> (try (exfalso; first | omega | exact bool_tf hc (by assumption) | exact bool_ft hc (by assumption) | exact absurd (by assumption) hc)) <;> (first | with_reducible show STri _ _ _ _ _ _ | (simp -dsimp [hlt, hm, hc]; (repeat (simp -dsimp (disch := (first | omega | assumption | (refine Bool.eq_false_iff.1 ?_; assumption))) only [wrap_in, if_pos, if_neg]; (try simp -dsimp [hlt, hm, hc]))))))))
      exact .refl _
  have hkw : k = w.length := by omega
  subst hkw
  have hav := allV_all hall
  have hz1 : ¬ ¬ sizeW w = true := by rw [hz]; decide
  have hz2 : ¬ ¬ w.all validV = true := by rw [hav]; decide
  have hbk : newBk w l nlo nhi = if newErr w l nlo nhi = 0 then ⟨w, w.map errOf, l, nlo, nhi⟩ else bare w := by unfold newBk; rw [if_neg hz1, if_neg hz2]
  have her : newErr w l nlo nhi = if 60 < l.length then 5 else if ¬ notesErr w l = 0 then notesErr w l else if spanW nlo nhi 7200 = true then 0 else 3 := by unfold newErr; rw [if_neg hz1, if_neg hz2]
  rw [List.take_length]
  by_cases h60 : 60 < l.length
  · rw [if_pos h60] at her
    rw [hbk, her, if_neg (by decide)]
    unfold bare
    (repeat' (first | ((first | with_reducible refine st_skip ?_ | with_reducible refine st_exit ?_); (try simp only [seqQ, blockQ, loopQ, forQ, whileQ, reduceIte, Nat.reduceEqDiff])) | (with_reducible refine st_ret ?_; ((try simp only [seqQ, blockQ, loopQ, forQ, whileQ]); first | (with_reducible refine retM_ret ?_) | refine retQ_ret ?_; simp [hlt, h60])) | refine st_seq ?_ | refine st_block ?_ | ((with_reducible show (STri _ _ _ _ _) ∧ (STri _ _ _ _ _)); refine And.intro ?_ ?_) | ((first | refine st_reg ?_ | refine buildP_own ?_ | refine appP_own ?_) <;> (simp -dsimp [hlt, h60]; (repeat (simp -dsimp (disch := (first | omega | assumption | (refine Bool.eq_false_iff.1 ?_; assumption))) only [wrap_in, if_pos, if_neg]; (try simp -dsimp [hlt, h60]))))) | ((first | refine guardP_of (fun hc => ?_) (fun hc => ?_) | refine st_cond rfl (fun hc => ?_) (fun hc => ?_)) <;> (try simp only [lqA, lqB, lqC, lqD, lqE, lqF, lqG, lqH, lqI, lqJ, lqK, lqL, lqM, lqN, lqO] at hc) <;> (try (exfalso; first | omega | exact bool_tf hc (by assumption) | exact bool_ft hc (by assumption) | exact absurd (by assumption) hc)) <;> (first | with_reducible show STri _ _ _ _ _ _ | (simp -dsimp [hlt, h60, hc]; (repeat (simp -dsimp (disch := (first | omega | assumption | (refine Bool.eq_false_iff.1 ?_; assumption))) only [wrap_in, if_pos, if_neg]; (try simp -dsimp [hlt, h60, hc]))))))))
    exact .refl _
  rw [if_neg h60] at her
  (repeat' (first | ((first | with_reducible refine st_skip ?_ | with_reducible refine st_exit ?_); (try simp only [seqQ, blockQ, loopQ, forQ, whileQ, reduceIte, Nat.reduceEqDiff])) | (with_reducible refine st_ret ?_; ((try simp only [seqQ, blockQ, loopQ, forQ, whileQ]); first | (with_reducible refine retM_ret ?_) | refine retQ_ret ?_; simp [hlt, h60])) | refine st_seq ?_ | refine st_block ?_ | ((with_reducible show (STri _ _ _ _ _) ∧ (STri _ _ _ _ _)); refine And.intro ?_ ?_) | ((first | refine st_reg ?_ | refine buildP_own ?_ | refine appP_own ?_) <;> (simp -dsimp [hlt, h60]; (repeat (simp -dsimp (disch := (first | omega | assumption | (refine Bool.eq_false_iff.1 ?_; assumption))) only [wrap_in, if_pos, if_neg]; (try simp -dsimp [hlt, h60]))))) | ((first | refine guardP_of (fun hc => ?_) (fun hc => ?_) | refine st_cond rfl (fun hc => ?_) (fun hc => ?_)) <;> (try simp only [lqA, lqB, lqC, lqD, lqE, lqF, lqG, lqH, lqI, lqJ, lqK, lqL, lqM, lqN, lqO] at hc) <;> (try (exfalso; first | omega | exact bool_tf hc (by assumption) | exact bool_ft hc (by assumption) | exact absurd (by assumption) hc)) <;> (first | with_reducible show STri _ _ _ _ _ _ | (simp -dsimp [hlt, h60, hc]; (repeat (simp -dsimp (disch := (first | omega | assumption | (refine Bool.eq_false_iff.1 ?_; assumption))) only [wrap_in, if_pos, if_neg]; (try simp -dsimp [hlt, h60, hc]))))))))
  refine st_for [5, 6, 200, 201, 202] l.length (fun j T H => NotesTo w l j ∧ T = [(0, .c (slSr w)), (1, .c (slN l)), (5, .ptr 5 0), (6, .ptr 6 0), (52, .c (slN l)), (53, .c (I l.length)), (54, .c (I j))] ∧
    H = [(5, .box 25 [.c (I nlo), .c (I nhi)]), (6, .box 91 [.own 200 w.length, .own 201 w.length, .own 202 0, .c (I 0), .c (I 0)]), (200, .arr 112 1 (w.map rowS)), (201, .arr 25 2 ((w.map errOf).map rowE)), (202, .arr 73 3 [])]) (by simp) ⟨fun s hs => by simp at hs, by simp, by simp⟩ ?_
  rintro j T H hj ⟨hno, rfl, rfl⟩
  by_cases hlt2 : j < l.length
  · have s1 := sWithinW 0 (w.length - 1) [l[j].src] (by simp)
    have s2 := sWithinW 0 3155760000 [l[j].tick] (by simp)
    rw [allIn_one] at s1 s2
    by_cases b1 : within1 0 (w.length - 1) l[j].src = true
    · rw [b1] at s1
      have hr : 0 ≤ l[j].src ∧ l[j].src.toNat < w.length := by
        unfold within1 at b1; simp at b1; omega
      obtain ⟨r1, r2⟩ := hr
      have hsv := List.all_eq_true.1 hav _ (List.getElem_mem r2)
      have hbase : kindOK (w[l[j].src.toNat]).kind = true := by
        unfold validV baseV at hsv; simp at hsv; exact hsv.1.1
      have hm := mSaid _ hbase l[j].said
      have hget : (w.map fun s => saidB s l[j].said).getD l[j].src.toNat false = saidB (w[l[j].src.toNat]) l[j].said := by simp [r2]
      have hne : noteErr w l[j] = if within1 0 3155760000 l[j].tick = true ∧ saidB (w[l[j].src.toNat]) l[j].said = true then 0 else 2 := by unfold noteErr; rw [if_pos b1, hget]
      by_cases b2 : within1 0 3155760000 l[j].tick = true
      · rw [b2] at s2 hne
        by_cases b3 : saidB (w[l[j].src.toNat]) l[j].said = true
        · rw [b3] at hm hne
          rw [if_pos ⟨rfl, rfl⟩] at hne
          (repeat' (first | ((first | with_reducible refine st_skip ?_ | with_reducible refine st_exit ?_); (try simp only [seqQ, blockQ, loopQ, forQ, whileQ, reduceIte, Nat.reduceEqDiff])) | (with_reducible refine st_ret ?_; ((try simp only [seqQ, blockQ, loopQ, forQ, whileQ]); first | (with_reducible refine retM_ret ?_) | refine retQ_ret ?_; simp [hlt2, r1, r2])) | refine st_seq ?_ | refine st_block ?_ | ((with_reducible show (STri _ _ _ _ _) ∧ (STri _ _ _ _ _)); refine And.intro ?_ ?_) | ((first | refine st_reg ?_ | refine buildP_own ?_ | refine appP_own ?_ | ((with_reducible show callIP _ _ _ _ _ _ _); refine callI_m (hm) rfl ?_) | refine callP_b (s1) rfl ?_ | refine callP_b (s2) rfl ?_) <;> (simp -dsimp [hlt2, r1, r2]; (repeat (simp -dsimp (disch := (first | omega | assumption | (refine Bool.eq_false_iff.1 ?_; assumption))) only [wrap_in, if_pos, if_neg]; (try simp -dsimp [hlt2, r1, r2]))))) | ((first | refine guardP_of (fun hc => ?_) (fun hc => ?_) | refine st_cond rfl (fun hc => ?_) (fun hc => ?_)) <;> (try simp only [lqA, lqB, lqC, lqD, lqE, lqF, lqG, lqH, lqI, lqJ, lqK, lqL, lqM, lqN, lqO] at hc) <;> (try (exfalso; first | omega | exact bool_tf hc (by assumption) | exact bool_ft hc (by assumption) | exact absurd (by assumption) hc)) <;> (first | with_reducible show STri _ _ _ _ _ _ | (simp -dsimp [hlt2, r1, r2, hc]; (repeat (simp -dsimp (disch := (first | omega | assumption | (refine Bool.eq_false_iff.1 ?_; assumption))) only [wrap_in, if_pos, if_neg]; (try simp -dsimp [hlt2, r1, r2, hc]))))))))
          exact ⟨hlt2, by simp, notes_succ hlt2 hno hne, by simp, by simp⟩
        · rw [Bool.not_eq_true] at b3
          rw [b3] at hm hne
          rw [if_neg (by simp)] at hne
          have h2 := notes_stop hlt2 hno (by omega)
          rw [hne] at h2
          rw [h2] at her
          rw [hbk, her]
          unfold bare
          (repeat' (first | ((first | with_reducible refine st_skip ?_ | with_reducible refine st_exit ?_); (try simp only [seqQ, blockQ, loopQ, forQ, whileQ, reduceIte, Nat.reduceEqDiff])) | (with_reducible refine st_ret ?_; ((try simp only [seqQ, blockQ, loopQ, forQ, whileQ]); first | (with_reducible refine retM_ret ?_) | refine retQ_ret ?_; simp [hlt2, r1, r2])) | refine st_seq ?_ | refine st_block ?_ | ((with_reducible show (STri _ _ _ _ _) ∧ (STri _ _ _ _ _)); refine And.intro ?_ ?_) | ((first | refine st_reg ?_ | refine buildP_own ?_ | refine appP_own ?_ | ((with_reducible show callIP _ _ _ _ _ _ _); refine callI_m (hm) rfl ?_) | refine callP_b (s1) rfl ?_ | refine callP_b (s2) rfl ?_) <;> (simp -dsimp [hlt2, r1, r2]; (repeat (simp -dsimp (disch := (first | omega | assumption | (refine Bool.eq_false_iff.1 ?_; assumption))) only [wrap_in, if_pos, if_neg]; (try simp -dsimp [hlt2, r1, r2]))))) | ((first | refine guardP_of (fun hc => ?_) (fun hc => ?_) | refine st_cond rfl (fun hc => ?_) (fun hc => ?_)) <;> (try simp only [lqA, lqB, lqC, lqD, lqE, lqF, lqG, lqH, lqI, lqJ, lqK, lqL, lqM, lqN, lqO] at hc) <;> (try (exfalso; first | omega | exact bool_tf hc (by assumption) | exact bool_ft hc (by assumption) | exact absurd (by assumption) hc)) <;> (first | with_reducible show STri _ _ _ _ _ _ | (simp -dsimp [hlt2, r1, r2, hc]; (repeat (simp -dsimp (disch := (first | omega | assumption | (refine Bool.eq_false_iff.1 ?_; assumption))) only [wrap_in, if_pos, if_neg]; (try simp -dsimp [hlt2, r1, r2, hc]))))))))
          exact .refl _
      · rw [Bool.not_eq_true] at b2
        rw [b2] at s2 hne
        rw [if_neg (by simp)] at hne
        have h2 := notes_stop hlt2 hno (by omega)
        rw [hne] at h2
        rw [h2] at her
        rw [hbk, her]
        unfold bare
        (repeat' (first | ((first | with_reducible refine st_skip ?_ | with_reducible refine st_exit ?_); (try simp only [seqQ, blockQ, loopQ, forQ, whileQ, reduceIte, Nat.reduceEqDiff])) | (with_reducible refine st_ret ?_; ((try simp only [seqQ, blockQ, loopQ, forQ, whileQ]); first | (with_reducible refine retM_ret ?_) | refine retQ_ret ?_; simp [hlt2])) | refine st_seq ?_ | refine st_block ?_ | ((with_reducible show (STri _ _ _ _ _) ∧ (STri _ _ _ _ _)); refine And.intro ?_ ?_) | ((first | refine st_reg ?_ | refine buildP_own ?_ | refine appP_own ?_ | refine callP_b (s1) rfl ?_ | refine callP_b (s2) rfl ?_) <;> (simp -dsimp [hlt2]; (repeat (simp -dsimp (disch := (first | omega | assumption | (refine Bool.eq_false_iff.1 ?_; assumption))) only [wrap_in, if_pos, if_neg]; (try simp -dsimp [hlt2]))))) | ((first | refine guardP_of (fun hc => ?_) (fun hc => ?_) | refine st_cond rfl (fun hc => ?_) (fun hc => ?_)) <;> (try simp only [lqA, lqB, lqC, lqD, lqE, lqF, lqG, lqH, lqI, lqJ, lqK, lqL, lqM, lqN, lqO] at hc) <;> (try (exfalso; first | omega | exact bool_tf hc (by assumption) | exact bool_ft hc (by assumption) | exact absurd (by assumption) hc)) <;> (first | with_reducible show STri _ _ _ _ _ _ | (simp -dsimp [hlt2, hc]; (repeat (simp -dsimp (disch := (first | omega | assumption | (refine Bool.eq_false_iff.1 ?_; assumption))) only [wrap_in, if_pos, if_neg]; (try simp -dsimp [hlt2, hc]))))))))
        exact .refl _
    · have hne : noteErr w l[j] = 7 := by unfold noteErr; rw [if_neg b1]
      rw [Bool.not_eq_true] at b1
      rw [b1] at s1
      have h2 := notes_stop hlt2 hno (by omega)
      rw [hne] at h2
      rw [h2] at her
      rw [hbk, her]
      unfold bare
      (repeat' (first | ((first | with_reducible refine st_skip ?_ | with_reducible refine st_exit ?_); (try simp only [seqQ, blockQ, loopQ, forQ, whileQ, reduceIte, Nat.reduceEqDiff])) | (with_reducible refine st_ret ?_; ((try simp only [seqQ, blockQ, loopQ, forQ, whileQ]); first | (with_reducible refine retM_ret ?_) | refine retQ_ret ?_; simp [hlt2])) | refine st_seq ?_ | refine st_block ?_ | ((with_reducible show (STri _ _ _ _ _) ∧ (STri _ _ _ _ _)); refine And.intro ?_ ?_) | ((first | refine st_reg ?_ | refine buildP_own ?_ | refine appP_own ?_ | refine callP_b (s1) rfl ?_) <;> (simp -dsimp [hlt2]; (repeat (simp -dsimp (disch := (first | omega | assumption | (refine Bool.eq_false_iff.1 ?_; assumption))) only [wrap_in, if_pos, if_neg]; (try simp -dsimp [hlt2]))))) | ((first | refine guardP_of (fun hc => ?_) (fun hc => ?_) | refine st_cond rfl (fun hc => ?_) (fun hc => ?_)) <;> (try simp only [lqA, lqB, lqC, lqD, lqE, lqF, lqG, lqH, lqI, lqJ, lqK, lqL, lqM, lqN, lqO] at hc) <;> (try (exfalso; first | omega | exact bool_tf hc (by assumption) | exact bool_ft hc (by assumption) | exact absurd (by assumption) hc)) <;> (first | with_reducible show STri _ _ _ _ _ _ | (simp -dsimp [hlt2, hc]; (repeat (simp -dsimp (disch := (first | omega | assumption | (refine Bool.eq_false_iff.1 ?_; assumption))) only [wrap_in, if_pos, if_neg]; (try simp -dsimp [hlt2, hc]))))))))
      exact .refl _
  · have hjl : j = l.length := by omega
    subst hjl
    have h2 := notes_all hno
    have s3 := sIsSpanW nlo nhi 7200 (by omega) (by omega)
    rw [h2] at her
    rw [if_neg (by decide)] at her
    rw [hbk, her]
    by_cases b4 : spanW nlo nhi 7200 = true
    · rw [b4] at s3
      (repeat' (first | ((first | with_reducible refine st_skip ?_ | with_reducible refine st_exit ?_); (try simp only [seqQ, blockQ, loopQ, forQ, whileQ, reduceIte, Nat.reduceEqDiff])) | (with_reducible refine st_ret ?_; ((try simp only [seqQ, blockQ, loopQ, forQ, whileQ]); first | (with_reducible refine retM_ret ?_) | refine retQ_ret ?_; simp [hlt2, b4])) | refine st_seq ?_ | refine st_block ?_ | ((with_reducible show (STri _ _ _ _ _) ∧ (STri _ _ _ _ _)); refine And.intro ?_ ?_) | ((first | refine st_reg ?_ | refine buildP_own ?_ | refine appP_own ?_ | refine callP_b (s3) rfl ?_) <;> (simp -dsimp [hlt2, b4]; (repeat (simp -dsimp (disch := (first | omega | assumption | (refine Bool.eq_false_iff.1 ?_; assumption))) only [wrap_in, if_pos, if_neg]; (try simp -dsimp [hlt2, b4]))))) | ((first | refine guardP_of (fun hc => ?_) (fun hc => ?_) | refine st_cond rfl (fun hc => ?_) (fun hc => ?_)) <;> (try simp only [lqA, lqB, lqC, lqD, lqE, lqF, lqG, lqH, lqI, lqJ, lqK, lqL, lqM, lqN, lqO] at hc) <;> (try (exfalso; first | omega | exact bool_tf hc (by assumption) | exact bool_ft hc (by assumption) | exact absurd (by assumption) hc)) <;> (first | with_reducible show STri _ _ _ _ _ _ | (simp -dsimp [hlt2, b4, hc]; (repeat (simp -dsimp (disch := (first | omega | assumption | (refine Bool.eq_false_iff.1 ?_; assumption))) only [wrap_in, if_pos, if_neg]; (try simp -dsimp [hlt2, b4, hc]))))))))
      exact .refl _
    · rw [Bool.not_eq_true] at b4
      rw [b4] at s3
      unfold bare
      (repeat' (first | ((first | with_reducible refine st_skip ?_ | with_reducible refine st_exit ?_); (try simp only [seqQ, blockQ, loopQ, forQ, whileQ, reduceIte, Nat.reduceEqDiff])) | (with_reducible refine st_ret ?_; ((try simp only [seqQ, blockQ, loopQ, forQ, whileQ]); first | (with_reducible refine retM_ret ?_) | refine retQ_ret ?_; simp [hlt2, b4])) | refine st_seq ?_ | refine st_block ?_ | ((with_reducible show (STri _ _ _ _ _) ∧ (STri _ _ _ _ _)); refine And.intro ?_ ?_) | ((first | refine st_reg ?_ | refine buildP_own ?_ | refine appP_own ?_ | refine callP_b (s3) rfl ?_) <;> (simp -dsimp [hlt2, b4]; (repeat (simp -dsimp (disch := (first | omega | assumption | (refine Bool.eq_false_iff.1 ?_; assumption))) only [wrap_in, if_pos, if_neg]; (try simp -dsimp [hlt2, b4]))))) | ((first | refine guardP_of (fun hc => ?_) (fun hc => ?_) | refine st_cond rfl (fun hc => ?_) (fun hc => ?_)) <;> (try simp only [lqA, lqB, lqC, lqD, lqE, lqF, lqG, lqH, lqI, lqJ, lqK, lqL, lqM, lqN, lqO] at hc) <;> (try (exfalso; first | omega | exact bool_tf hc (by assumption) | exact bool_ft hc (by assumption) | exact absurd (by assumption) hc)) <;> (first | with_reducible show STri _ _ _ _ _ _ | (simp -dsimp [hlt2, b4, hc]; (repeat (simp -dsimp (disch := (first | omega | assumption | (refine Bool.eq_false_iff.1 ?_; assumption))) only [wrap_in, if_pos, if_neg]; (try simp -dsimp [hlt2, b4, hc]))))))))
      exact .refl _
end Go.Proofs.Ytakdmliblijgmaa
/- Sets of small numbers as bits of an unsigned integer. -/
namespace Go.Proofs.Ytakdmliblijgmaa
open Go.RowKit
theorem shr_nat (a i : Nat) (hi : i ≤ 64) : shiftI false .u64 (a : Int) (i : Int) = some (.int .u64 ((a >>> i : Nat) : Int)) := by
  unfold shiftI
  rw [if_neg (by omega)]
  simp only [Bool.false_eq_true, if_false, Int.toNat_natCast]
  rw [Nat.min_eq_left (by exact hi), Nat.shiftRight_eq_div_pow]
  have e : (2 : Int) ^ i = ((2 ^ i : Nat) : Int) := by simp
  rw [e, Int.fdiv_eq_ediv_of_nonneg _ (Int.natCast_nonneg _)]
  rfl
theorem wrapU {n : Int} (h0 : 0 ≤ n) (h1 : n < 18446744073709551616) : IntKind.u64.wrap n = n := by
  simp [IntKind.wrap, IntKind.bits, IntKind.signed]
  omega
theorem shl_one (i : Nat) (hi : i < 64) : shiftI true .u64 1 (i : Int) = some (.int .u64 ((2 ^ i : Nat) : Int)) := by
  unfold shiftI
  rw [if_neg (by omega)]
  simp only [if_true, Int.toNat_natCast, Int.one_mul]
  rw [Nat.min_eq_left (by show i ≤ 64; omega)]
  have e : (2 : Int) ^ i = ((2 ^ i : Nat) : Int) := by simp
  have hp : 2 ^ i < 2 ^ 64 := Nat.pow_lt_pow_right (by omega) hi
  rw [e, wrapU (Int.natCast_nonneg _) (by omega)]
theorem and_one (a i : Nat) : IntKind.u64.wrap ((((a : Int) >>> i % 2 ^ IntKind.u64.bits).toNat &&& 1 % 2 ^ IntKind.u64.bits : Nat) : Int) = ((a >>> i % 2 : Nat) : Int) := by
  have e1 : ((a : Int) >>> i % 2 ^ IntKind.u64.bits).toNat = a >>> i % 2 ^ 64 := by
    show ((a : Int) >>> i % 2 ^ 64).toNat = a >>> i % 2 ^ 64
    have e2 : (a : Int) >>> i = ((a >>> i : Nat) : Int) := rfl
    rw [e2]
    generalize a >>> i = z at *
    omega
  rw [e1]
  have e3 : 1 % 2 ^ IntKind.u64.bits = 1 := rfl
  rw [e3, Nat.and_one_is_mod, wrapU (by omega) (by omega)]
  generalize a >>> i = z at *
  omega
theorem or_two {a i : Nat} (ha : a < 2 ^ 64) (hi : i < 64) : IntKind.u64.wrap ((a % 2 ^ IntKind.u64.bits ||| ((2 : Int) ^ i % 2 ^ IntKind.u64.bits).toNat : Nat) : Int) = ((a ||| 2 ^ i : Nat) : Int) := by
  have hp : 2 ^ i < 2 ^ 64 := Nat.pow_lt_pow_right (by omega) hi
  have e1 : ((2 : Int) ^ i % 2 ^ IntKind.u64.bits).toNat = 2 ^ i := by
    show ((2 : Int) ^ i % 2 ^ 64).toNat = 2 ^ i
    have e2 : (2 : Int) ^ i = ((2 ^ i : Nat) : Int) := by simp
    rw [e2]
    generalize 2 ^ i = z at *
    omega
  have e2 : a % 2 ^ IntKind.u64.bits = a := Nat.mod_eq_of_lt ha
  have h3 : a ||| 2 ^ i < 2 ^ 64 := Nat.or_lt_two_pow ha hp
  rw [e1, e2, wrapU (Int.natCast_nonneg _) (by omega)]
theorem bit_odd (a i : Nat) : (a >>> i % 2 = 1) = (a.testBit i = true) := by
  rw [Nat.testBit, Nat.shiftRight_eq_div_pow, bne_iff_ne, Nat.one_and_eq_mod_two]
  simp
theorem bitI (a i : Nat) : ((a : Int) >>> i % 2 = 0) = (a.testBit i = false) := by
  have e : (a : Int) >>> i = ((a >>> i : Nat) : Int) := rfl
  have := bit_odd a i
  rw [e]
  cases h : a.testBit i with
  | true => rw [h] at this; simp at this ⊢; omega
  | false => rw [h] at this; simp at this ⊢; omega
theorem or_self {a i : Nat} (h : a.testBit i = true) : a ||| 2 ^ i = a := by
  apply Nat.eq_of_testBit_eq
  intro j
  rw [Nat.testBit_or, Nat.testBit_two_pow]
  by_cases e : i = j
  · subst e; simp [h]
  · simp [e]
end Go.Proofs.Ytakdmliblijgmaa
/- Wire, VII: notes that are right; sets of sources that are wrong. -/
namespace Go.Proofs.Ytakdmliblijgmaa
open Go.RowKit
structure BkOK (b : Wbk) : Prop where
  len : b.srcs.length ≤ 10
  el : b.errs.length = b.srcs.length
  va : ∀ s ∈ b.srcs, validV s = true
  er : ∀ e ∈ b.errs, -20000 ≤ e.1 ∧ e.1 ≤ 20000 ∧ -20000 ≤ e.2 ∧ e.2 ≤ 20000
  nl : b.notes.length ≤ 60
  no : ∀ n ∈ b.notes, 0 ≤ n.src ∧ n.src < b.srcs.length ∧ 0 ≤ n.tick ∧ n.tick ≤ 3155760000 ∧ 0 ≤ n.said ∧ n.said ≤ 3155760000
  n0 : -7200 ≤ b.nlo
  n1 : b.nlo ≤ b.nhi
  n2 : b.nhi ≤ 7200
def noSrc : Wsrc := ⟨0, 0, 0, 0, 0, 0, 0, []⟩
def rightN (b : Wbk) (n : Wnt) (y : Int) : Bool :=
  within1 0 3155760000 (n.tick + y) && rightB (b.srcs.getD n.src.toNat noSrc) (n.tick + y) n.said (b.errs.getD n.src.toNat (0, 0)).1 (b.errs.getD n.src.toNat (0, 0)).2
theorem sIsRight (b : Wbk) (hb : BkOK b) (n : Wnt) (hn : n ∈ b.notes) (y : Int) (y0 : -7200 ≤ y) (y1 : y ≤ 7200) : SC Try.prog 85 [cBk b, cN n, I y] (B (rightN b n y)) := by
  refine law_wire_book_isRight _ _ (by simp) ?_
  obtain ⟨n1, n2, n3, n4, n5, n6⟩ := hb.no n hn
  have hs : n.src.toNat < b.srcs.length := by omega
  have he : n.src.toNat < b.errs.length := by rw [hb.el]; omega
  have hE := hb.er _ (List.getElem_mem he)
  have hv := hb.va _ (List.getElem_mem hs)
  have e1 : b.srcs.getD n.src.toNat noSrc = b.srcs[n.src.toNat] := by simp [hs]
  have e2 : b.errs.getD n.src.toNat (0, 0) = b.errs[n.src.toNat] := by simp [he]
  unfold rightN
  rw [e1, e2]
  have s1 := sWithinW 0 3155760000 [n.tick + y] (by simp)
  rw [allIn_one] at s1
  unfold validV at hv
  rw [Bool.and_eq_true] at hv
  have hk : kindOK (b.srcs[n.src.toNat]).kind = true := by
    have := hv.1
    unfold baseV at this
    simp at this; exact this.1
  by_cases hw : within1 0 3155760000 (n.tick + y) = true
  · rw [hw] at s1 ⊢
    have hw' : 0 ≤ n.tick + y ∧ n.tick + y ≤ 3155760000 := by unfold within1 at hw; simp at hw; exact hw
    have hm := mRight _ hk hv.2 (n.tick + y) n.said (b.errs[n.src.toNat]).1 (b.errs[n.src.toNat]).2 hw'.1 ⟨by omega, by omega, by omega, by omega, by omega, by omega, by omega, by omega⟩
    (repeat' (first | ((first | with_reducible refine st_skip ?_ | with_reducible refine st_exit ?_); (try simp only [seqQ, blockQ, loopQ, forQ, whileQ, reduceIte, Nat.reduceEqDiff])) | (with_reducible refine st_ret ?_; ((try simp only [seqQ, blockQ, loopQ, forQ, whileQ]); first | (with_reducible refine retM_ret ?_) | refine retQ_ret ?_; simp [hs, he, n1])) | refine st_seq ?_ | refine st_block ?_ | ((with_reducible show (STri _ _ _ _ _) ∧ (STri _ _ _ _ _)); refine And.intro ?_ ?_) | ((first | refine st_reg ?_ | refine buildP_own ?_ | refine appP_own ?_ | ((with_reducible show callIP _ _ _ _ _ _ _); refine callI_m (hm) rfl ?_) | refine callP_b (s1) rfl ?_) <;> (simp -dsimp [hs, he, n1]; (repeat (simp -dsimp (disch := (first | omega | assumption | (refine Bool.eq_false_iff.1 ?_; assumption))) only [wrap_in, if_pos, if_neg]; (try simp -dsimp [hs, he, n1]))))) | ((first | refine guardP_of (fun hc => ?_) (fun hc => ?_) | refine st_cond rfl (fun hc => ?_) (fun hc => ?_)) <;> (try simp only [lqA, lqB, lqC, lqD, lqE, lqF, lqG, lqH, lqI, lqJ, lqK, lqL, lqM, lqN, lqO] at hc) <;> (try (exfalso; first | omega | exact bool_tf hc (by assumption) | exact bool_ft hc (by assumption) | exact absurd (by assumption) hc)) <;> (first | with_reducible show STri _ _ _ _ _ _ | (simp -dsimp [hs, he, n1, hc]; (repeat (simp -dsimp (disch := (first | omega | assumption | (refine Bool.eq_false_iff.1 ?_; assumption))) only [wrap_in, if_pos, if_neg]; (try simp -dsimp [hs, he, n1, hc]))))))))
    exact .refl _
  · rw [Bool.not_eq_true] at hw
    rw [hw] at s1 ⊢
    (repeat' (first | ((first | with_reducible refine st_skip ?_ | with_reducible refine st_exit ?_); (try simp only [seqQ, blockQ, loopQ, forQ, whileQ, reduceIte, Nat.reduceEqDiff])) | (with_reducible refine st_ret ?_; ((try simp only [seqQ, blockQ, loopQ, forQ, whileQ]); first | (with_reducible refine retM_ret ?_) | refine retQ_ret ?_; simp [hs, he, n1])) | refine st_seq ?_ | refine st_block ?_ | ((with_reducible show (STri _ _ _ _ _) ∧ (STri _ _ _ _ _)); refine And.intro ?_ ?_) | ((first | refine st_reg ?_ | refine buildP_own ?_ | refine appP_own ?_ | refine callP_b (s1) rfl ?_) <;> (simp -dsimp [hs, he, n1]; (repeat (simp -dsimp (disch := (first | omega | assumption | (refine Bool.eq_false_iff.1 ?_; assumption))) only [wrap_in, if_pos, if_neg]; (try simp -dsimp [hs, he, n1]))))) | ((first | refine guardP_of (fun hc => ?_) (fun hc => ?_) | refine st_cond rfl (fun hc => ?_) (fun hc => ?_)) <;> (try simp only [lqA, lqB, lqC, lqD, lqE, lqF, lqG, lqH, lqI, lqJ, lqK, lqL, lqM, lqN, lqO] at hc) <;> (try (exfalso; first | omega | exact bool_tf hc (by assumption) | exact bool_ft hc (by assumption) | exact absurd (by assumption) hc)) <;> (first | with_reducible show STri _ _ _ _ _ _ | (simp -dsimp [hs, he, n1, hc]; (repeat (simp -dsimp (disch := (first | omega | assumption | (refine Bool.eq_false_iff.1 ?_; assumption))) only [wrap_in, if_pos, if_neg]; (try simp -dsimp [hs, he, n1, hc]))))))))
    exact .refl _
def wrongTo (b : Wbk) (y : Int) (k : Nat) : Nat := (b.notes.take k).foldl (fun a n => if rightN b n y = true then a else a ||| 2 ^ n.src.toNat) 0
def wrongN (b : Wbk) (y : Int) : Nat := wrongTo b y b.notes.length
theorem wrongTo_succ {b : Wbk} {y : Int} {k : Nat} (hlt : k < b.notes.length) : wrongTo b y (k + 1) = if rightN b b.notes[k] y = true then wrongTo b y k else wrongTo b y k ||| 2 ^ (b.notes[k]).src.toNat := by
  unfold wrongTo
  rw [List.take_succ_eq_append_getElem hlt, List.foldl_append]
  rfl
def wrongB (b : Wbk) (y : Int) (k i : Nat) : Bool := (b.notes.take k).any fun n => decide (n.src.toNat = i) && !rightN b n y
theorem wrongTo_bit (b : Wbk) (y : Int) (k i : Nat) (hk : k ≤ b.notes.length) : (wrongTo b y k).testBit i = wrongB b y k i := by
  induction k with
  | zero => simp [wrongTo, wrongB]
  | succ k ih =>
    have hlt : k < b.notes.length := by omega
    have e : wrongB b y (k + 1) i = (wrongB b y k i || (decide ((b.notes[k]).src.toNat = i) && !rightN b b.notes[k] y)) := by
      unfold wrongB
      rw [List.take_succ_eq_append_getElem hlt, List.any_append]
      simp
    rw [wrongTo_succ hlt, e, ← ih (by omega)]
    by_cases hr : rightN b b.notes[k] y = true
    · rw [if_pos hr]; simp [hr]
    · rw [if_neg hr, Nat.testBit_or, Nat.testBit_two_pow]
      simp [hr]
theorem wrongTo_lt {b : Wbk} (hb : BkOK b) (y : Int) (k : Nat) (hk : k ≤ b.notes.length) : wrongTo b y k < 2 ^ b.srcs.length := by
  apply Nat.lt_pow_two_of_testBit
  intro i hi
  rw [wrongTo_bit b y k i hk]
  unfold wrongB
  rw [List.any_eq_false]
  intro n hn
  have := hb.no n (List.mem_of_mem_take hn)
  have : ¬ n.src.toNat = i := by omega
  simp [this]
theorem sWrong (b : Wbk) (hb : BkOK b) (y : Int) (y0 : -7200 ≤ y) (y1 : y ≤ 7200) : SC Try.prog 73 [cBk b, I y] (.val (.int .u64 (wrongN b y))) := by
  refine law_wire_book_wrong _ _ (by simp) ?_
  have hl := hb.nl
  (repeat' (first | ((first | with_reducible refine st_skip ?_ | with_reducible refine st_exit ?_); (try simp only [seqQ, blockQ, loopQ, forQ, whileQ, reduceIte, Nat.reduceEqDiff])) | (with_reducible refine st_ret ?_; ((try simp only [seqQ, blockQ, loopQ, forQ, whileQ]); first | (with_reducible refine retM_ret ?_) | refine retQ_ret ?_; simp)) | refine st_seq ?_ | refine st_block ?_ | ((with_reducible show (STri _ _ _ _ _) ∧ (STri _ _ _ _ _)); refine And.intro ?_ ?_) | ((first | refine st_reg ?_ | refine buildP_own ?_ | refine appP_own ?_) <;> (simp -dsimp; (repeat (simp -dsimp (disch := (first | omega | assumption | (refine Bool.eq_false_iff.1 ?_; assumption))) only [wrap_in, if_pos, if_neg]; (try simp -dsimp))))) | ((first | refine guardP_of (fun hc => ?_) (fun hc => ?_) | refine st_cond rfl (fun hc => ?_) (fun hc => ?_)) <;> (try simp only [lqA, lqB, lqC, lqD, lqE, lqF, lqG, lqH, lqI, lqJ, lqK, lqL, lqM, lqN, lqO] at hc) <;> (try (exfalso; first | omega | exact bool_tf hc (by assumption) | exact bool_ft hc (by assumption) | exact absurd (by assumption) hc)) <;> (first | with_reducible show STri _ _ _ _ _ _ | (simp -dsimp [hc]; (repeat (simp -dsimp (disch := (first | omega | assumption | (refine Bool.eq_false_iff.1 ?_; assumption))) only [wrap_in, if_pos, if_neg]; (try simp -dsimp [hc]))))))))
  refine st_for [2] b.notes.length (fun k T H => T = [(1, .c (I y)), (2, .ptr 2 0), (4, .c (.val (.int .u64 (wrongTo b y k)))), (8, .c (slN b.notes)), (9, .c (I b.notes.length)), (10, .c (I k))] ∧ H = [(2, .box 91 ((rowBk b).map .c))]) (by simp) ⟨by simp [wrongTo], by simp⟩ ?_
  rintro k T H hk ⟨rfl, rfl⟩
  by_cases hlt : k < b.notes.length
  · have sr := sIsRight b hb b.notes[k] (List.getElem_mem hlt) y y0 y1
    obtain ⟨n1, n2, n3, n4, n5, n6⟩ := hb.no b.notes[k] (List.getElem_mem hlt)
    have hws := wrongTo_succ (y := y) hlt
    obtain ⟨i, hi⟩ : ∃ i : Nat, (b.notes[k]).src = i := ⟨(b.notes[k]).src.toNat, by omega⟩
    have hi2 : i ≤ 64 := by have := hb.len; omega
    have f1 := shr_nat (wrongTo b y k) i hi2
    simp only [cN, rowN, hi] at sr
    have ha : wrongTo b y k < 2 ^ 64 := Nat.lt_of_lt_of_le (wrongTo_lt hb y k hk) (Nat.pow_le_pow_right (by omega) (by have := hb.len; omega))
    have f3 := and_one (wrongTo b y k) i
    have f2 := shl_one i (by have := hb.len; omega)
    (repeat' (first | ((first | with_reducible refine st_skip ?_ | with_reducible refine st_exit ?_); (try simp only [seqQ, blockQ, loopQ, forQ, whileQ, reduceIte, Nat.reduceEqDiff])) | (with_reducible refine st_ret ?_; ((try simp only [seqQ, blockQ, loopQ, forQ, whileQ]); first | (with_reducible refine retM_ret ?_) | refine retQ_ret ?_; simp [hlt, hi, f1, f2, f3])) | refine st_seq ?_ | refine st_block ?_ | ((with_reducible show (STri _ _ _ _ _) ∧ (STri _ _ _ _ _)); refine And.intro ?_ ?_) | ((first | refine st_reg ?_ | refine buildP_own ?_ | refine appP_own ?_ | refine callP_b (sr) rfl ?_) <;> (simp -dsimp [hlt, hi, f1, f2, f3]; (repeat (simp -dsimp (disch := (first | omega | assumption | (refine Bool.eq_false_iff.1 ?_; assumption))) only [wrap_in, if_pos, if_neg]; (try simp -dsimp [hlt, hi, f1, f2, f3]))))) | ((first | refine guardP_of (fun hc => ?_) (fun hc => ?_) | refine st_cond rfl (fun hc => ?_) (fun hc => ?_)) <;> (try simp only [lqA, lqB, lqC, lqD, lqE, lqF, lqG, lqH, lqI, lqJ, lqK, lqL, lqM, lqN, lqO] at hc) <;> (try (exfalso; first | omega | exact bool_tf hc (by assumption) | exact bool_ft hc (by assumption) | exact absurd (by assumption) hc)) <;> (first | with_reducible show STri _ _ _ _ _ _ | (simp -dsimp [hlt, hi, f1, f2, f3, hc]; (repeat (simp -dsimp (disch := (first | omega | assumption | (refine Bool.eq_false_iff.1 ?_; assumption))) only [wrap_in, if_pos, if_neg]; (try simp -dsimp [hlt, hi, f1, f2, f3, hc]))))))))
    · rw [hi, Int.toNat_natCast, if_neg (by rw [hc]; decide)] at hws
      have hi3 : i < 64 := by have := hb.len; omega
      refine ⟨hlt, by simp, ?_, by simp⟩
      rw [or_two ha hi3, hws]
      simp
    · rw [if_pos hc] at hws
      exact ⟨hlt, by simp, by rw [hws]; simp, by simp⟩
    · rename_i h0 _ _ _ _
      rw [bitI, Bool.not_eq_false] at h0
      rw [hi, Int.toNat_natCast, or_self h0] at hws
      refine ⟨hlt, by simp, ?_, by simp⟩
      rw [hws]
      simp
  · (repeat' (first | ((first | with_reducible refine st_skip ?_ | with_reducible refine st_exit ?_); (try simp only [seqQ, blockQ, loopQ, forQ, whileQ, reduceIte, Nat.reduceEqDiff])) | (with_reducible refine st_ret ?_; ((try simp only [seqQ, blockQ, loopQ, forQ, whileQ]); first | (with_reducible refine retM_ret ?_) | refine retQ_ret ?_; simp [hlt])) | refine st_seq ?_ | refine st_block ?_ | ((with_reducible show (STri _ _ _ _ _) ∧ (STri _ _ _ _ _)); refine And.intro ?_ ?_) | ((first | refine st_reg ?_ | refine buildP_own ?_ | refine appP_own ?_) <;> (simp -dsimp [hlt]; (repeat (simp -dsimp (disch := (first | omega | assumption | (refine Bool.eq_false_iff.1 ?_; assumption))) only [wrap_in, if_pos, if_neg]; (try simp -dsimp [hlt]))))) | ((first | refine guardP_of (fun hc => ?_) (fun hc => ?_) | refine st_cond rfl (fun hc => ?_) (fun hc => ?_)) <;> (try simp only [lqA, lqB, lqC, lqD, lqE, lqF, lqG, lqH, lqI, lqJ, lqK, lqL, lqM, lqN, lqO] at hc) <;> (try (exfalso; first | omega | exact bool_tf hc (by assumption) | exact bool_ft hc (by assumption) | exact absurd (by assumption) hc)) <;> (first | with_reducible show STri _ _ _ _ _ _ | (simp -dsimp [hlt, hc]; (repeat (simp -dsimp (disch := (first | omega | assumption | (refine Bool.eq_false_iff.1 ?_; assumption))) only [wrap_in, if_pos, if_neg]; (try simp -dsimp [hlt, hc]))))))))
    have : k = b.notes.length := by omega
    subst this
    exact .refl _
end Go.Proofs.Ytakdmliblijgmaa
/- The shadow code of functions, as the kit's translation has them. -/
namespace Go.Proofs.Ytakdmliblijgmaa
open Go.RowKit
def len8s : ByteArray := ⟨#[0, 1, 2, 2, 3, 3, 3, 3, 4, 4, 4, 4, 4, 4, 4, 4, 5, 5, 5, 5, 5, 5, 5, 5, 5, 5, 5, 5, 5, 5, 5, 5, 6, 6, 6, 6, 6, 6, 6, 6, 6, 6, 6, 6, 6, 6, 6, 6, 6, 6, 6, 6, 6, 6, 6, 6, 6, 6, 6, 6, 6, 6, 6, 6, 7, 7, 7, 7, 7, 7, 7, 7, 7, 7, 7, 7, 7, 7, 7, 7, 7, 7, 7, 7, 7, 7, 7, 7, 7, 7, 7, 7, 7, 7, 7, 7, 7, 7, 7, 7, 7, 7, 7, 7, 7, 7, 7, 7, 7, 7, 7, 7, 7, 7, 7, 7, 7, 7, 7, 7, 7, 7, 7, 7, 7, 7, 7, 7, 8, 8, 8, 8, 8, 8, 8, 8, 8, 8, 8, 8, 8, 8, 8, 8, 8, 8, 8, 8, 8, 8, 8, 8, 8, 8, 8, 8, 8, 8, 8, 8, 8, 8, 8, 8, 8, 8, 8, 8, 8, 8, 8, 8, 8, 8, 8, 8, 8, 8, 8, 8, 8, 8, 8, 8, 8, 8, 8, 8, 8, 8, 8, 8, 8, 8, 8, 8, 8, 8, 8, 8, 8, 8, 8, 8, 8, 8, 8, 8, 8, 8, 8, 8, 8, 8, 8, 8, 8, 8, 8, 8, 8, 8, 8, 8, 8, 8, 8, 8, 8, 8, 8, 8, 8, 8, 8, 8, 8, 8, 8, 8, 8, 8, 8, 8, 8, 8, 8, 8, 8, 8, 8, 8, 8, 8, 8, 8]⟩
def k46_0 : SCode := .reg [⟨some 2, none, .mov (.const (.int .i64 0)), [], false⟩] [0]
def k46_1 : SCode := .reg [⟨some 3, none, .mov (.tmp 0), [], false⟩, ⟨some 4, none, .conv .u32 (.tmp 3), [], false⟩, ⟨some 5, none, .call 63 [(.tmp 4)], [], false⟩, ⟨some 2, none, .mov (.tmp 5), [], false⟩] [2]
def k46_2 : SCode := .seq k46_1 .ret
def k46_3 : SCode := .cond (.const (.bool false)) k46_2 .skip
def k46_4 : SCode := .reg [⟨some 6, none, .mov (.tmp 0), [], false⟩, ⟨some 7, none, .call 64 [(.tmp 6)], [], false⟩, ⟨some 2, none, .mov (.tmp 7), [], false⟩] [2]
def k46_5 : SCode := .seq k46_4 .ret
def k46_6 : SCode := .seq k46_3 k46_5
def k46_7 : SCode := .seq k46_0 k46_6
@[simp] def rs_math_bits_OnesCount : List SRes := [.tmp 2]
theorem law_math_bits_OnesCount (cs : List CV) (r : CV) (hl : cs.length ≤ 8) (h : STri (cfF Try.prog [] 8) k46_7 (initT 0 cs) [] (retQ rs_math_bits_OnesCount r)) : SC Try.prog 50 cs r :=
  sc_of [] follows Try.func50 rfl Try.ntmps50 (by decide) (by kernel_rfl) (by kernel_rfl) hl h
def k47_0 : SCode := .reg [⟨some 2, none, .mov (.const (.int .i64 0)), [], false⟩] [0]
def k47_1 : SCode := .reg [⟨some 3, none, .mov (.tmp 0), [], false⟩, ⟨some 4, none, .shift false (.tmp 3) (.const (.int .u64 1)), [], false⟩, ⟨some 5, none, .bin .and (.tmp 4) (.const (.int .u64 6148914691236517205)), [], false⟩, ⟨some 6, none, .mov (.tmp 0), [], false⟩, ⟨some 7, none, .bin .and (.tmp 6) (.const (.int .u64 6148914691236517205)), [], false⟩, ⟨some 8, none, .bin .add (.tmp 5) (.tmp 7), [], false⟩, ⟨some 0, none, .mov (.tmp 8), [], false⟩] [0]
def k47_2 : SCode := .reg [⟨some 9, none, .mov (.tmp 0), [], false⟩, ⟨some 10, none, .shift false (.tmp 9) (.const (.int .u64 2)), [], false⟩, ⟨some 11, none, .bin .and (.tmp 10) (.const (.int .u64 3689348814741910323)), [], false⟩, ⟨some 12, none, .mov (.tmp 0), [], false⟩, ⟨some 13, none, .bin .and (.tmp 12) (.const (.int .u64 3689348814741910323)), [], false⟩, ⟨some 14, none, .bin .add (.tmp 11) (.tmp 13), [], false⟩, ⟨some 0, none, .mov (.tmp 14), [], false⟩] [0]
def k47_3 : SCode := .reg [⟨some 15, none, .mov (.tmp 0), [], false⟩, ⟨some 16, none, .shift false (.tmp 15) (.const (.int .u64 4)), [], false⟩, ⟨some 17, none, .mov (.tmp 0), [], false⟩, ⟨some 18, none, .bin .add (.tmp 16) (.tmp 17), [], false⟩, ⟨some 19, none, .bin .and (.tmp 18) (.const (.int .u64 1085102592571150095)), [], false⟩, ⟨some 0, none, .mov (.tmp 19), [], false⟩] [0]
def k47_4 : SCode := .reg [⟨some 20, none, .mov (.tmp 0), [], false⟩, ⟨some 21, none, .mov (.tmp 0), [], false⟩, ⟨some 22, none, .shift false (.tmp 21) (.const (.int .u64 8)), [], false⟩, ⟨some 23, none, .bin .add (.tmp 20) (.tmp 22), [], false⟩, ⟨some 0, none, .mov (.tmp 23), [], false⟩] [0]
def k47_5 : SCode := .reg [⟨some 24, none, .mov (.tmp 0), [], false⟩, ⟨some 25, none, .mov (.tmp 0), [], false⟩, ⟨some 26, none, .shift false (.tmp 25) (.const (.int .u64 16)), [], false⟩, ⟨some 27, none, .bin .add (.tmp 24) (.tmp 26), [], false⟩, ⟨some 0, none, .mov (.tmp 27), [], false⟩] [0]
def k47_6 : SCode := .reg [⟨some 28, none, .mov (.tmp 0), [], false⟩, ⟨some 29, none, .mov (.tmp 0), [], false⟩, ⟨some 30, none, .shift false (.tmp 29) (.const (.int .u64 32)), [], false⟩, ⟨some 31, none, .bin .add (.tmp 28) (.tmp 30), [], false⟩, ⟨some 0, none, .mov (.tmp 31), [], false⟩] [0]
def k47_7 : SCode := .reg [⟨some 32, none, .mov (.tmp 0), [], false⟩, ⟨some 33, none, .conv .i64 (.tmp 32), [], false⟩, ⟨some 34, none, .bin .and (.tmp 33) (.const (.int .i64 127)), [], false⟩, ⟨some 2, none, .mov (.tmp 34), [], false⟩] [2]
def k47_8 : SCode := .seq k47_7 .ret
def k47_9 : SCode := .seq k47_6 k47_8
def k47_10 : SCode := .seq k47_5 k47_9
def k47_11 : SCode := .seq k47_4 k47_10
def k47_12 : SCode := .seq k47_3 k47_11
def k47_13 : SCode := .seq k47_2 k47_12
def k47_14 : SCode := .seq k47_1 k47_13
def k47_15 : SCode := .seq k47_0 k47_14
@[simp] def rs_math_bits_OnesCount64 : List SRes := [.tmp 2]
theorem law_math_bits_OnesCount64 (cs : List CV) (r : CV) (hl : cs.length ≤ 35) (h : STri (cfF Try.prog [] 35) k47_15 (initT 0 cs) [] (retQ rs_math_bits_OnesCount64 r)) : SC Try.prog 64 cs r :=
  sc_of [] follows Try.func64 rfl Try.ntmps64 (by decide) (by kernel_rfl) (by kernel_rfl) hl h
def k48_0 : SCode := .reg [⟨some 2, none, .mov (.const (.int .i64 0)), [], false⟩] [0]
def k48_1 : SCode := .reg [⟨some 3, none, .mov (.tmp 0), [], false⟩, ⟨some 4, none, .conv .u32 (.tmp 3), [], false⟩, ⟨some 5, none, .call 86 [(.tmp 4)], [], false⟩, ⟨some 2, none, .mov (.tmp 5), [], false⟩] [2]
def k48_2 : SCode := .seq k48_1 .ret
def k48_3 : SCode := .cond (.const (.bool false)) k48_2 .skip
def k48_4 : SCode := .reg [⟨some 6, none, .mov (.tmp 0), [], false⟩, ⟨some 7, none, .call 87 [(.tmp 6)], [], false⟩, ⟨some 2, none, .mov (.tmp 7), [], false⟩] [2]
def k48_5 : SCode := .seq k48_4 .ret
def k48_6 : SCode := .seq k48_3 k48_5
def k48_7 : SCode := .seq k48_0 k48_6
@[simp] def rs_math_bits_Len : List SRes := [.tmp 2]
theorem law_math_bits_Len (cs : List CV) (r : CV) (hl : cs.length ≤ 8) (h : STri (cfF Try.prog [] 8) k48_7 (initT 0 cs) [] (retQ rs_math_bits_Len r)) : SC Try.prog 77 cs r :=
  sc_of [] follows Try.func77 rfl Try.ntmps77 (by decide) (by kernel_rfl) (by kernel_rfl) hl h
def k49_0 : SCode := .reg [⟨some 2, none, .mov (.const (.int .i64 0)), [], false⟩] [0, 2]
def k49_1 : SCode := .reg [⟨some 3, none, .mov (.tmp 0), [], false⟩, ⟨some 4, none, .bin .geq (.tmp 3) (.const (.int .u64 4294967296)), [], false⟩] [0, 2, 4]
def k49_2 : SCode := .reg [⟨some 5, none, .mov (.tmp 0), [], false⟩, ⟨some 6, none, .shift false (.tmp 5) (.const (.int .u64 32)), [], false⟩, ⟨some 0, none, .mov (.tmp 6), [], false⟩] [0]
def k49_3 : SCode := .reg [⟨some 2, none, .mov (.const (.int .i64 32)), [], false⟩] [0, 2]
def k49_4 : SCode := .seq k49_2 k49_3
def k49_5 : SCode := .cond (.tmp 4) k49_4 .skip
def k49_6 : SCode := .seq k49_1 k49_5
def k49_7 : SCode := .reg [⟨some 7, none, .mov (.tmp 0), [], false⟩, ⟨some 8, none, .bin .geq (.tmp 7) (.const (.int .u64 65536)), [], false⟩] [0, 2, 8]
def k49_8 : SCode := .reg [⟨some 9, none, .mov (.tmp 0), [], false⟩, ⟨some 10, none, .shift false (.tmp 9) (.const (.int .u64 16)), [], false⟩, ⟨some 0, none, .mov (.tmp 10), [], false⟩] [0, 2]
def k49_9 : SCode := .reg [⟨some 11, none, .mov (.tmp 2), [], false⟩, ⟨some 12, none, .bin .add (.tmp 11) (.const (.int .i64 16)), [], false⟩, ⟨some 2, none, .mov (.tmp 12), [], false⟩] [0, 2]
def k49_10 : SCode := .seq k49_8 k49_9
def k49_11 : SCode := .cond (.tmp 8) k49_10 .skip
def k49_12 : SCode := .seq k49_7 k49_11
def k49_13 : SCode := .reg [⟨some 13, none, .mov (.tmp 0), [], false⟩, ⟨some 14, none, .bin .geq (.tmp 13) (.const (.int .u64 256)), [], false⟩] [0, 2, 14]
def k49_14 : SCode := .reg [⟨some 15, none, .mov (.tmp 0), [], false⟩, ⟨some 16, none, .shift false (.tmp 15) (.const (.int .u64 8)), [], false⟩, ⟨some 0, none, .mov (.tmp 16), [], false⟩] [0, 2]
def k49_15 : SCode := .reg [⟨some 17, none, .mov (.tmp 2), [], false⟩, ⟨some 18, none, .bin .add (.tmp 17) (.const (.int .i64 8)), [], false⟩, ⟨some 2, none, .mov (.tmp 18), [], false⟩] [0, 2]
def k49_16 : SCode := .seq k49_14 k49_15
def k49_17 : SCode := .cond (.tmp 14) k49_16 .skip
def k49_18 : SCode := .seq k49_13 k49_17
def k49_19 : SCode := .reg [⟨some 19, none, .mov (.tmp 2), [], false⟩, ⟨some 20, none, .mov (.tmp 0), [], false⟩, ⟨some 21, none, .conv .u8 (.tmp 20), [], false⟩, ⟨some 22, none, .strAt (.const (.string len8s)) (.tmp 21), [], false⟩, ⟨some 23, none, .conv .i64 (.tmp 22), [], false⟩, ⟨some 24, none, .bin .add (.tmp 19) (.tmp 23), [], false⟩, ⟨some 2, none, .mov (.tmp 24), [], false⟩] [2]
def k49_20 : SCode := .seq k49_19 .ret
def k49_21 : SCode := .seq k49_18 k49_20
def k49_22 : SCode := .seq k49_12 k49_21
def k49_23 : SCode := .seq k49_6 k49_22
def k49_24 : SCode := .seq k49_0 k49_23
@[simp] def rs_math_bits_Len64 : List SRes := [.tmp 2]
theorem law_math_bits_Len64 (cs : List CV) (r : CV) (hl : cs.length ≤ 25) (h : STri (cfF Try.prog [] 25) k49_24 (initT 0 cs) [] (retQ rs_math_bits_Len64 r)) : SC Try.prog 87 cs r :=
  sc_of [] follows Try.func87 rfl Try.ntmps87 (by decide) (by kernel_rfl) (by kernel_rfl) hl h
end Go.Proofs.Ytakdmliblijgmaa
/- Counts of bits. -/
namespace Go.Proofs.Ytakdmliblijgmaa
open Go.RowKit
def U (n : Nat) : CV := .val (.int .u64 n)
attribute [simp] U
def popN (x : Nat) : Nat := ((List.range 10).filter fun i => x.testBit i).length
def lenN (x : Nat) : Nat := if x = 0 then 0 else x.log2 + 1
theorem sOnes64 (x : Nat) (hx : x < 1024) : SC Try.prog 64 [U x] (I (popN x)) := by
  refine law_math_bits_OnesCount64 _ _ (by simp) ?_
  (repeat' (first | ((first | with_reducible refine st_skip ?_ | with_reducible refine st_exit ?_); (try simp only [seqQ, blockQ, loopQ, forQ, whileQ, reduceIte, Nat.reduceEqDiff])) | (with_reducible refine st_ret ?_; ((try simp only [seqQ, blockQ, loopQ, forQ, whileQ]); first | (with_reducible refine retM_ret ?_) | refine retQ_ret ?_; simp [shiftI])) | refine st_seq ?_ | refine st_block ?_ | ((with_reducible show (STri _ _ _ _ _) ∧ (STri _ _ _ _ _)); refine And.intro ?_ ?_) | ((first | refine st_reg ?_ | refine buildP_own ?_ | refine appP_own ?_) <;> (simp -dsimp [shiftI]; (repeat (simp -dsimp (disch := (first | omega | assumption | (refine Bool.eq_false_iff.1 ?_; assumption))) only [wrap_in, if_pos, if_neg]; (try simp -dsimp [shiftI]))))) | ((first | refine guardP_of (fun hc => ?_) (fun hc => ?_) | refine st_cond rfl (fun hc => ?_) (fun hc => ?_)) <;> (try simp only [lqA, lqB, lqC, lqD, lqE, lqF, lqG, lqH, lqI, lqJ, lqK, lqL, lqM, lqN, lqO] at hc) <;> (try (exfalso; first | omega | exact bool_tf hc (by assumption) | exact bool_ft hc (by assumption) | exact absurd (by assumption) hc)) <;> (first | with_reducible show STri _ _ _ _ _ _ | (simp -dsimp [shiftI, hc]; (repeat (simp -dsimp (disch := (first | omega | assumption | (refine Bool.eq_false_iff.1 ?_; assumption))) only [wrap_in, if_pos, if_neg]; (try simp -dsimp [shiftI, hc]))))))))
  refine CLe.int ?_
  revert x
  decide +kernel
theorem sOnes (x : Nat) (hx : x < 1024) : SC Try.prog 50 [U x] (I (popN x)) := by
  refine law_math_bits_OnesCount _ _ (by simp) ?_
  (repeat' (first | ((first | with_reducible refine st_skip ?_ | with_reducible refine st_exit ?_); (try simp only [seqQ, blockQ, loopQ, forQ, whileQ, reduceIte, Nat.reduceEqDiff])) | (with_reducible refine st_ret ?_; ((try simp only [seqQ, blockQ, loopQ, forQ, whileQ]); first | (with_reducible refine retM_ret ?_) | refine retQ_ret ?_; simp)) | refine st_seq ?_ | refine st_block ?_ | ((with_reducible show (STri _ _ _ _ _) ∧ (STri _ _ _ _ _)); refine And.intro ?_ ?_) | ((first | refine st_reg ?_ | refine buildP_own ?_ | refine appP_own ?_ | refine callP_b (sOnes64 x hx) rfl ?_) <;> (simp -dsimp; (repeat (simp -dsimp (disch := (first | omega | assumption | (refine Bool.eq_false_iff.1 ?_; assumption))) only [wrap_in, if_pos, if_neg]; (try simp -dsimp))))) | ((first | refine guardP_of (fun hc => ?_) (fun hc => ?_) | refine st_cond rfl (fun hc => ?_) (fun hc => ?_)) <;> (try simp only [lqA, lqB, lqC, lqD, lqE, lqF, lqG, lqH, lqI, lqJ, lqK, lqL, lqM, lqN, lqO] at hc) <;> (try (exfalso; first | omega | exact bool_tf hc (by assumption) | exact bool_ft hc (by assumption) | exact absurd (by assumption) hc)) <;> (first | with_reducible show STri _ _ _ _ _ _ | (simp -dsimp [hc]; (repeat (simp -dsimp (disch := (first | omega | assumption | (refine Bool.eq_false_iff.1 ?_; assumption))) only [wrap_in, if_pos, if_neg]; (try simp -dsimp [hc]))))))))
  all_goals exact .refl _
theorem len8 : ∀ x : Nat, x < 256 → len8s[x]? = some (UInt8.ofNat (lenN x)) := by decide +kernel
theorem len_small : ∀ x : Nat, x < 256 → (lenN x : Int) = (UInt8.ofNat (lenN x)).toNat ∧ lenN x ≤ 8 := by decide +kernel
theorem len_shift : ∀ x : Nat, x < 1024 → 256 ≤ x → lenN x = 8 + lenN (x / 256) := by decide +kernel
theorem sLen64 (x : Nat) (hx : x < 1024) : SC Try.prog 87 [U x] (I (lenN x)) := by
  refine law_math_bits_Len64 _ _ (by simp) ?_
  by_cases h : 256 ≤ x
  · have hs := len_shift x hx h
    have hf : shiftI false .u64 (x : Int) 8 = some (.int .u64 ((x / 256 : Nat) : Int)) := by
      have := shr_nat x 8 (by omega)
      rwa [Nat.shiftRight_eq_div_pow] at this
    have hy : x / 256 < 256 := by omega
    generalize x / 256 = y at *
    have hg := len8 y hy
    obtain ⟨g1, g2⟩ := len_small y hy
    have hw : IntKind.u8.wrap (y : Int) = (y : Int) := by
      simp [IntKind.wrap, IntKind.bits, IntKind.signed]; omega
    have h2 : 256 ≤ (x : Int) := by omega
    clear g1
    rw [hs]
    (repeat' (first | ((first | with_reducible refine st_skip ?_ | with_reducible refine st_exit ?_); (try simp only [seqQ, blockQ, loopQ, forQ, whileQ, reduceIte, Nat.reduceEqDiff])) | (with_reducible refine st_ret ?_; ((try simp only [seqQ, blockQ, loopQ, forQ, whileQ]); first | (with_reducible refine retM_ret ?_) | refine retQ_ret ?_; simp [h2, hf, hw, hg])) | refine st_seq ?_ | refine st_block ?_ | ((with_reducible show (STri _ _ _ _ _) ∧ (STri _ _ _ _ _)); refine And.intro ?_ ?_) | ((first | refine st_reg ?_ | refine buildP_own ?_ | refine appP_own ?_) <;> (simp -dsimp [h2, hf, hw, hg]; (repeat (simp -dsimp (disch := (first | omega | assumption | (refine Bool.eq_false_iff.1 ?_; assumption))) only [wrap_in, if_pos, if_neg]; (try simp -dsimp [h2, hf, hw, hg]))))) | ((first | refine guardP_of (fun hc => ?_) (fun hc => ?_) | refine st_cond rfl (fun hc => ?_) (fun hc => ?_)) <;> (try simp only [lqA, lqB, lqC, lqD, lqE, lqF, lqG, lqH, lqI, lqJ, lqK, lqL, lqM, lqN, lqO] at hc) <;> (try (exfalso; first | omega | exact bool_tf hc (by assumption) | exact bool_ft hc (by assumption) | exact absurd (by assumption) hc)) <;> (first | with_reducible show STri _ _ _ _ _ _ | (simp -dsimp [h2, hf, hw, hg, hc]; (repeat (simp -dsimp (disch := (first | omega | assumption | (refine Bool.eq_false_iff.1 ?_; assumption))) only [wrap_in, if_pos, if_neg]; (try simp -dsimp [h2, hf, hw, hg, hc]))))))))
    all_goals (refine CLe.int ?_; omega)
  · have hg := len8 x (by omega)
    obtain ⟨g1, g2⟩ := len_small x (by omega)
    have hw : IntKind.u8.wrap (x : Int) = (x : Int) := by
      simp [IntKind.wrap, IntKind.bits, IntKind.signed]; omega
    (repeat' (first | ((first | with_reducible refine st_skip ?_ | with_reducible refine st_exit ?_); (try simp only [seqQ, blockQ, loopQ, forQ, whileQ, reduceIte, Nat.reduceEqDiff])) | (with_reducible refine st_ret ?_; ((try simp only [seqQ, blockQ, loopQ, forQ, whileQ]); first | (with_reducible refine retM_ret ?_) | refine retQ_ret ?_; simp [h, hw, hg])) | refine st_seq ?_ | refine st_block ?_ | ((with_reducible show (STri _ _ _ _ _) ∧ (STri _ _ _ _ _)); refine And.intro ?_ ?_) | ((first | refine st_reg ?_ | refine buildP_own ?_ | refine appP_own ?_) <;> (simp -dsimp [h, hw, hg]; (repeat (simp -dsimp (disch := (first | omega | assumption | (refine Bool.eq_false_iff.1 ?_; assumption))) only [wrap_in, if_pos, if_neg]; (try simp -dsimp [h, hw, hg]))))) | ((first | refine guardP_of (fun hc => ?_) (fun hc => ?_) | refine st_cond rfl (fun hc => ?_) (fun hc => ?_)) <;> (try simp only [lqA, lqB, lqC, lqD, lqE, lqF, lqG, lqH, lqI, lqJ, lqK, lqL, lqM, lqN, lqO] at hc) <;> (try (exfalso; first | omega | exact bool_tf hc (by assumption) | exact bool_ft hc (by assumption) | exact absurd (by assumption) hc)) <;> (first | with_reducible show STri _ _ _ _ _ _ | (simp -dsimp [h, hw, hg, hc]; (repeat (simp -dsimp (disch := (first | omega | assumption | (refine Bool.eq_false_iff.1 ?_; assumption))) only [wrap_in, if_pos, if_neg]; (try simp -dsimp [h, hw, hg, hc]))))))))
    all_goals (refine CLe.int ?_; omega)
theorem sLen (x : Nat) (hx : x < 1024) : SC Try.prog 77 [U x] (I (lenN x)) := by
  refine law_math_bits_Len _ _ (by simp) ?_
  (repeat' (first | ((first | with_reducible refine st_skip ?_ | with_reducible refine st_exit ?_); (try simp only [seqQ, blockQ, loopQ, forQ, whileQ, reduceIte, Nat.reduceEqDiff])) | (with_reducible refine st_ret ?_; ((try simp only [seqQ, blockQ, loopQ, forQ, whileQ]); first | (with_reducible refine retM_ret ?_) | refine retQ_ret ?_; simp)) | refine st_seq ?_ | refine st_block ?_ | ((with_reducible show (STri _ _ _ _ _) ∧ (STri _ _ _ _ _)); refine And.intro ?_ ?_) | ((first | refine st_reg ?_ | refine buildP_own ?_ | refine appP_own ?_ | refine callP_b (sLen64 x hx) rfl ?_) <;> (simp -dsimp; (repeat (simp -dsimp (disch := (first | omega | assumption | (refine Bool.eq_false_iff.1 ?_; assumption))) only [wrap_in, if_pos, if_neg]; (try simp -dsimp))))) | ((first | refine guardP_of (fun hc => ?_) (fun hc => ?_) | refine st_cond rfl (fun hc => ?_) (fun hc => ?_)) <;> (try simp only [lqA, lqB, lqC, lqD, lqE, lqF, lqG, lqH, lqI, lqJ, lqK, lqL, lqM, lqN, lqO] at hc) <;> (try (exfalso; first | omega | exact bool_tf hc (by assumption) | exact bool_ft hc (by assumption) | exact absurd (by assumption) hc)) <;> (first | with_reducible show STri _ _ _ _ _ _ | (simp -dsimp [hc]; (repeat (simp -dsimp (disch := (first | omega | assumption | (refine Bool.eq_false_iff.1 ?_; assumption))) only [wrap_in, if_pos, if_neg]; (try simp -dsimp [hc]))))))))
  all_goals exact .refl _
end Go.Proofs.Ytakdmliblijgmaa
