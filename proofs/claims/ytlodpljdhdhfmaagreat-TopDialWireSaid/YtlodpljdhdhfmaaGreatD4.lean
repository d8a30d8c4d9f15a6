/- Part 4 of a proof: CodeD, CodeM, Sh, ShC, Da, Db, Dc, Dd, De, Df, Dg, SortOwn, DLay2, DLay, Dn, Do, Dp, Dh. -/
import Derived.Test.YtlodpljdhdhfmaaGreatD3
import Derived.Laws.ResultCell
import Derived.Laws.Rows
import Derived.Shelf.SlSortCmp.WholeK
import Derived.Shelf.SlSortCmp.NoneTotal
import Derived.Shelf.SlicesG.Cmp
import Derived.Test.YtlodpljdhdhfmaaGreatProg
import Derived.StillTailTactics
import Derived.RegionTactic
set_option linter.unusedSimpArgs false
set_option linter.unusedVariables false
/- The shadow code of functions, as the kit's translation has them. -/
namespace Go.Proofs.YtlodpljdhdhfmaaGreat
open Go.RowKit
def k41_0 : SCode := .reg [⟨some 4, none, .box 63 (.tmp 0), [], false⟩, ⟨some 7, none, .box 34 (.tmp 3), [], false⟩, ⟨some 8, none, .alloc 34 [(.int .i64 0), (.int .i64 0)], [], false⟩, ⟨some 9, none, .mov (.const (.int .i64 0)), [], false⟩] [1, 2, 4, 7, 8]
def k41_1 : SCode := .reg [⟨some 12, none, .load true 4 (.tmp 4), [], false⟩, ⟨some 13, none, .mov (.tmp 1), [], false⟩, ⟨some 14, none, .mov (.tmp 2), [], false⟩, ⟨some 15, none, .load true 2 (.tmp 7), [], false⟩, ⟨some 16, none, .call 35 [(.tmp 12), (.tmp 13), (.tmp 14), (.tmp 15)], [], false⟩, ⟨some 11, none, .mov (.tmp 16), [], false⟩, ⟨some 17, none, .ext (.tmp 11) 0, [], false⟩, ⟨some 18, none, .ext (.tmp 11) 1, [], false⟩, ⟨some 10, none, .alloc 109 [(.int .i64 0), (.int .i64 0), (.int .i64 0), (.slice none 0 0), (.slice none 0 0), (.int .i64 0), (.int .i64 0), (.slice none 0 0), (.int .i64 0), (.int .i64 0), (.int .i64 0), (.int .i64 0), (.int .i64 0), (.int .i64 0)], [], false⟩, ⟨none, none, .store 14 (.tmp 10) (.tmp 17), [], false⟩, ⟨some 9, none, .mov (.tmp 18), [], false⟩] [8, 9, 10]
def k41_2 : SCode := .reg [⟨some 19, none, .mov (.tmp 9), [], false⟩, ⟨some 20, none, .bin .neq (.tmp 19) (.const (.int .i64 0)), [], false⟩] [8, 9, 10, 20]
def k41_3 : SCode := .reg [⟨some 21, none, .load true 2 (.tmp 8), [], false⟩, ⟨some 22, none, .mov (.tmp 9), [], false⟩, ⟨none, none, .store 2 (.tmp 8) (.tmp 21), [], false⟩, ⟨some 9, none, .mov (.tmp 22), [], false⟩] [8, 9]
def k41_4 : SCode := .seq k41_3 .ret
def k41_5 : SCode := .cond (.tmp 20) k41_4 .skip
def k41_6 : SCode := .seq k41_2 k41_5
def k41_7 : SCode := .reg [⟨some 23, none, .load true 14 (.tmp 10), [], false⟩, ⟨some 24, none, .call 36 [(.tmp 23)], [], false⟩, ⟨none, none, .store 2 (.tmp 8) (.tmp 24), [], false⟩, ⟨some 9, none, .mov (.const (.int .i64 0)), [], false⟩] [8, 9]
def k41_8 : SCode := .seq k41_7 .ret
def k41_9 : SCode := .seq k41_6 k41_8
def k41_10 : SCode := .seq k41_1 k41_9
def k41_11 : SCode := .seq k41_0 k41_10
@[simp] def rs_dial_Off : List SRes := [.cell 8 true 2, .tmp 9]
theorem law_dial_Off (cs : List CV) (r : CV) (hl : cs.length ≤ 25) (h : STri (cfF Tryz.prog [] 25) k41_11 (initT 0 cs) [] (retQ rs_dial_Off r)) : SC Tryz.prog 18 cs r :=
  sc_of [] follows Tryz.func18 rfl Tryz.ntmps18 (by decide) (by kernel_rfl) (by kernel_rfl) hl h
@[simp] def rs_dial_Shows : List SRes := [.tmp 8, .tmp 9]
def k42_0 : SCode := .reg [⟨some 4, none, .box 63 (.tmp 0), [], false⟩, ⟨some 7, none, .box 34 (.tmp 3), [], false⟩, ⟨some 8, none, .alloc 109 [(.int .i64 0), (.int .i64 0), (.int .i64 0), (.slice none 0 0), (.slice none 0 0), (.int .i64 0), (.int .i64 0), (.slice none 0 0), (.int .i64 0), (.int .i64 0), (.int .i64 0), (.int .i64 0), (.int .i64 0), (.int .i64 0)], [], false⟩, ⟨some 9, none, .mov (.const (.int .i64 0)), [], false⟩] [1, 2, 4, 7, 8]
def k42_1 : SCode := .reg [⟨some 12, none, .load true 4 (.tmp 4), [], false⟩, ⟨some 13, none, .call 65 [(.tmp 12)], [], false⟩, ⟨some 11, none, .mov (.tmp 13), [], false⟩, ⟨some 14, none, .ext (.tmp 11) 0, [], false⟩, ⟨some 15, none, .ext (.tmp 11) 1, [], false⟩, ⟨some 10, none, .alloc 105 [(.int .i64 0), (.int .i64 0), (.int .i64 0), (.slice none 0 0), (.slice none 0 0)], [], false⟩, ⟨none, none, .store 5 (.tmp 10) (.tmp 14), [], false⟩, ⟨some 9, none, .mov (.tmp 15), [], false⟩] [1, 2, 7, 8, 9, 10]
def k42_2 : SCode := .reg [⟨some 17, none, .mov (.tmp 9), [], false⟩, ⟨some 18, none, .bin .neq (.tmp 17) (.const (.int .i64 0)), [], false⟩, ⟨some 16, none, .mov (.tmp 18), [], false⟩] [1, 2, 7, 8, 9, 10, 16]
def k42_3 : SCode := .reg [⟨some 19, none, .load true 14 (.tmp 8), [], false⟩, ⟨some 20, none, .mov (.tmp 9), [], false⟩, ⟨none, none, .store 14 (.tmp 8) (.tmp 19), [], false⟩, ⟨some 9, none, .mov (.tmp 20), [], false⟩] [8, 9]
def k42_4 : SCode := .seq k42_3 .ret
def k42_5 : SCode := .reg [⟨some 22, none, .fld 4 (.tmp 10), [], false⟩, ⟨some 23, none, .load false 1 (.tmp 22), [], false⟩, ⟨some 24, none, .len (.tmp 23), [], false⟩, ⟨some 25, none, .bin .sub (.tmp 24) (.const (.int .i64 1)), [], false⟩, ⟨some 26, none, .mov (.tmp 1), [], false⟩, ⟨some 27, none, .buildSl 3 1 [(.int .i64 0)] 1 [(0, (.tmp 26))], [], false⟩, ⟨some 28, none, .call 66 [(.const (.int .i64 0)), (.tmp 25), (.tmp 27)], [], false⟩, ⟨some 29, none, .un .not (.tmp 28), [], false⟩, ⟨some 21, none, .mov (.tmp 29), [], false⟩] [1, 2, 7, 8, 10, 21]
def k42_6 : SCode := .reg [⟨some 30, none, .load true 14 (.tmp 8), [], false⟩, ⟨none, none, .store 14 (.tmp 8) (.tmp 30), [], false⟩, ⟨some 9, none, .mov (.const (.int .i64 7)), [], false⟩] [8, 9]
def k42_7 : SCode := .seq k42_6 .ret
def k42_8 : SCode := .reg [⟨some 32, none, .mov (.tmp 2), [], false⟩, ⟨some 33, none, .buildSl 3 1 [(.int .i64 0)] 1 [(0, (.tmp 32))], [], false⟩, ⟨some 34, none, .call 66 [(.const (.int .i64 0)), (.const (.int .i64 3155760000)), (.tmp 33)], [], false⟩, ⟨some 35, none, .un .not (.tmp 34), [], false⟩, ⟨some 31, none, .mov (.tmp 35), [], false⟩] [1, 2, 7, 8, 10, 31]
def k42_9 : SCode := .reg [⟨some 36, none, .load true 14 (.tmp 8), [], false⟩, ⟨none, none, .store 14 (.tmp 8) (.tmp 36), [], false⟩, ⟨some 9, none, .mov (.const (.int .i64 3)), [], false⟩] [8, 9]
def k42_10 : SCode := .seq k42_9 .ret
def k42_11 : SCode := .reg [⟨some 38, none, .load true 2 (.tmp 7), [], false⟩, ⟨some 39, none, .call 67 [(.tmp 38)], [], false⟩, ⟨some 40, none, .un .not (.tmp 39), [], false⟩, ⟨some 37, none, .mov (.tmp 40), [], false⟩] [1, 2, 7, 8, 10, 37]
def k42_12 : SCode := .reg [⟨some 41, none, .load true 14 (.tmp 8), [], false⟩, ⟨none, none, .store 14 (.tmp 8) (.tmp 41), [], false⟩, ⟨some 9, none, .mov (.const (.int .i64 2)), [], false⟩] [8, 9]
def k42_13 : SCode := .seq k42_12 .ret
def k42_14 : SCode := .cond (.tmp 37) k42_13 .skip
def k42_15 : SCode := .seq k42_11 k42_14
def k42_16 : SCode := .cond (.tmp 31) k42_10 k42_15
def k42_17 : SCode := .seq k42_8 k42_16
def k42_18 : SCode := .cond (.tmp 21) k42_7 k42_17
def k42_19 : SCode := .seq k42_5 k42_18
def k42_20 : SCode := .cond (.tmp 16) k42_4 k42_19
def k42_21 : SCode := .seq k42_2 k42_20
def k42_22 : SCode := .block 0 k42_21
def k42_23 : SCode := .reg [⟨some 42, none, .load true 5 (.tmp 10), [], false⟩, ⟨some 43, none, .fld 4 (.tmp 10), [], false⟩, ⟨some 44, none, .load false 1 (.tmp 43), [], false⟩, ⟨some 45, none, .mov (.tmp 1), [], false⟩, ⟨some 46, none, .idxS 6 (.tmp 44) (.tmp 45), [], false⟩, ⟨some 47, none, .load true 6 (.tmp 46), [], false⟩, ⟨some 48, none, .mov (.tmp 2), [], false⟩, ⟨some 49, none, .load true 2 (.tmp 7), [], false⟩, ⟨some 50, none, .build [(.int .i64 0), (.int .i64 0), (.int .i64 0), (.slice none 0 0), (.slice none 0 0), (.int .i64 0), (.int .i64 0), (.slice none 0 0), (.int .i64 0), (.int .i64 0), (.int .i64 0), (.int .i64 0), (.int .i64 0), (.int .i64 0)] [(0, 5, (.tmp 42)), (5, 6, (.tmp 47)), (11, 1, (.tmp 48)), (12, 2, (.tmp 49))], [], false⟩, ⟨none, none, .store 14 (.tmp 8) (.tmp 50), [], false⟩, ⟨some 9, none, .mov (.const (.int .i64 0)), [], false⟩] [8, 9]
def k42_24 : SCode := .seq k42_23 .ret
def k42_25 : SCode := .seq k42_22 k42_24
def k42_26 : SCode := .seq k42_1 k42_25
def k42_27 : SCode := .seq k42_0 k42_26
@[simp] def rs_dial_newLook : List SRes := [.cell 8 true 14, .tmp 9]
theorem law_dial_newLook (cs : List CV) (r : CV) (hl : cs.length ≤ 51) (h : STri (cfF Tryz.prog [] 51) k42_27 (initT 0 cs) [] (retQ rs_dial_newLook r)) : SC Tryz.prog 35 cs r :=
  sc_of [] follows Tryz.func35 rfl Tryz.ntmps35 (by decide) (by kernel_rfl) (by kernel_rfl) hl h
def k43_0 : SCode := .reg [⟨some 1, none, .box 109 (.tmp 0), [], false⟩, ⟨some 2, none, .alloc 34 [(.int .i64 0), (.int .i64 0)], [], false⟩] [1, 2]
def k43_1 : SCode := .reg [⟨some 3, none, .alloc 65 [(.slice none 0 0)], [], false⟩] [1, 2, 3]
def k43_2 : SCode := .reg [⟨some 5, none, .load true 14 (.tmp 1), [], false⟩, ⟨some 6, none, .mkFn 37 [(.tmp 5)] [], [], false⟩] [1, 2, 3, 6]
def k43_3 : SCode := .reg [⟨some 4, none, .alloc 34 [(.int .i64 0), (.int .i64 0)], [], false⟩, ⟨none, none, .store 2 (.tmp 4) (.tmp 7), [], false⟩] [3, 4]
def k43_4 : SCode := .reg [⟨some 8, none, .load false 1 (.tmp 3), [], false⟩, ⟨some 9, none, .load true 2 (.tmp 4), [], false⟩, ⟨some 10, none, .buildSl 34 2 [(.int .i64 0), (.int .i64 0)] 1 [(0, (.tmp 9))], [], false⟩, ⟨some 11, none, .append 34 2 16 (.tmp 8) (.tmp 10), [], false⟩, ⟨none, none, .store 1 (.tmp 3) (.tmp 11), [], false⟩] []
def k43_5 : SCode := .block 1 k43_4
def k43_6 : SCode := .range (.tmp 6) [7] k43_3 k43_5
def k43_7 : SCode := .block 0 k43_6
def k43_8 : SCode := .seq k43_2 k43_7
def k43_9 : SCode := .reg [⟨some 12, none, .load false 1 (.tmp 3), [], false⟩, ⟨some 13, none, .call 68 [(.tmp 12), (.func 69)], [], false⟩, ⟨some 14, none, .field false 0 1 (.tmp 13), [], false⟩, ⟨some 15, none, .fld 11 (.tmp 1), [], false⟩, ⟨some 16, none, .load false 1 (.tmp 15), [], false⟩, ⟨some 17, none, .bin .sub (.tmp 14) (.tmp 16), [], false⟩, ⟨some 18, none, .load false 1 (.tmp 3), [], false⟩, ⟨some 19, none, .call 70 [(.tmp 18), (.func 71)], [], false⟩, ⟨some 20, none, .field false 1 1 (.tmp 19), [], false⟩, ⟨some 21, none, .fld 11 (.tmp 1), [], false⟩, ⟨some 22, none, .load false 1 (.tmp 21), [], false⟩, ⟨some 23, none, .bin .sub (.tmp 20) (.tmp 22), [], false⟩, ⟨some 24, none, .build [(.int .i64 0), (.int .i64 0)] [(0, 1, (.tmp 17)), (1, 1, (.tmp 23))], [], false⟩, ⟨none, none, .store 2 (.tmp 2) (.tmp 24), [], false⟩] [2]
def k43_10 : SCode := .seq k43_9 .ret
def k43_11 : SCode := .seq k43_8 k43_10
def k43_12 : SCode := .seq k43_1 k43_11
def k43_13 : SCode := .seq k43_0 k43_12
@[simp] def rs_dial_look_off : List SRes := [.cell 2 true 2]
theorem law_dial_look_off (cs : List CV) (r : CV) (hl : cs.length ≤ 25) (h : STri (cfF Tryz.prog [] 25) k43_13 (initT 0 cs) [] (retQ rs_dial_look_off r)) : SC Tryz.prog 36 cs r :=
  sc_of [] follows Tryz.func36 rfl Tryz.ntmps36 (by decide) (by kernel_rfl) (by kernel_rfl) hl h
def k44_0 : SCode := .reg [⟨some 4, none, .mov (.const (.int .i64 0)), [], false⟩] [0, 1]
def k44_1 : SCode := .reg [⟨some 5, none, .mov (.tmp 0), [], false⟩, ⟨some 6, none, .mov (.tmp 0), [], false⟩, ⟨some 7, none, .mov (.tmp 1), [], false⟩, ⟨some 8, none, .call 38 [(.tmp 6), (.tmp 7)], [], false⟩, ⟨some 9, none, .bin .sub (.tmp 5) (.tmp 8), [], false⟩, ⟨some 4, none, .mov (.tmp 9), [], false⟩] [4]
def k44_2 : SCode := .seq k44_1 .ret
def k44_3 : SCode := .seq k44_0 k44_2
@[simp] def rs_dial_down : List SRes := [.tmp 4]
theorem law_dial_down (cs : List CV) (r : CV) (hl : cs.length ≤ 10) (h : STri (cfF Tryz.prog [] 10) k44_3 (initT 0 cs) [] (retQ rs_dial_down r)) : SC Tryz.prog 100 cs r :=
  sc_of [] follows Tryz.func100 rfl Tryz.ntmps100 (by decide) (by kernel_rfl) (by kernel_rfl) hl h
def k45_0 : SCode := .reg [⟨some 3, none, .box 107 (.tmp 0), [], false⟩, ⟨some 5, none, .box 34 (.tmp 2), [], false⟩, ⟨some 6, none, .alloc 34 [(.int .i64 0), (.int .i64 0)], [], false⟩] [1, 3, 5, 6]
def k45_1 : SCode := .reg [⟨some 8, none, .load true 6 (.tmp 3), [], false⟩, ⟨some 9, none, .mov (.tmp 1), [], false⟩, ⟨some 10, none, .load true 2 (.tmp 5), [], false⟩, ⟨some 11, none, .call 101 [(.tmp 8), (.tmp 9), (.tmp 10)], [], false⟩, ⟨some 7, none, .alloc 34 [(.int .i64 0), (.int .i64 0)], [], false⟩, ⟨none, none, .store 2 (.tmp 7) (.tmp 11), [], false⟩] [1, 3, 6, 7]
def k45_2 : SCode := .reg [⟨some 12, none, .mov (.tmp 1), [], false⟩, ⟨some 13, none, .fld 0 (.tmp 3), [], false⟩, ⟨some 14, none, .fld 0 (.tmp 13), [], false⟩, ⟨some 15, none, .fld 0 (.tmp 14), [], false⟩, ⟨some 16, none, .load false 1 (.tmp 15), [], false⟩, ⟨some 17, none, .bin .add (.tmp 12) (.tmp 16), [], false⟩, ⟨some 18, none, .fld 1 (.tmp 7), [], false⟩, ⟨some 19, none, .load false 1 (.tmp 18), [], false⟩, ⟨some 20, none, .bin .sub (.tmp 17) (.tmp 19), [], false⟩, ⟨some 21, none, .mov (.tmp 1), [], false⟩, ⟨some 22, none, .fld 0 (.tmp 3), [], false⟩, ⟨some 23, none, .fld 0 (.tmp 22), [], false⟩, ⟨some 24, none, .fld 1 (.tmp 23), [], false⟩, ⟨some 25, none, .load false 1 (.tmp 24), [], false⟩, ⟨some 26, none, .bin .add (.tmp 21) (.tmp 25), [], false⟩, ⟨some 27, none, .fld 0 (.tmp 7), [], false⟩, ⟨some 28, none, .load false 1 (.tmp 27), [], false⟩, ⟨some 29, none, .bin .sub (.tmp 26) (.tmp 28), [], false⟩, ⟨some 30, none, .build [(.int .i64 0), (.int .i64 0)] [(0, 1, (.tmp 20)), (1, 1, (.tmp 29))], [], false⟩, ⟨none, none, .store 2 (.tmp 6) (.tmp 30), [], false⟩] [6]
def k45_3 : SCode := .seq k45_2 .ret
def k45_4 : SCode := .seq k45_1 k45_3
def k45_5 : SCode := .seq k45_0 k45_4
@[simp] def rs_dial_face_hands : List SRes := [.cell 6 true 2]
theorem law_dial_face_hands (cs : List CV) (r : CV) (hl : cs.length ≤ 31) (h : STri (cfF Tryz.prog [] 31) k45_5 (initT 0 cs) [] (retQ rs_dial_face_hands r)) : SC Tryz.prog 73 cs r :=
  sc_of [] follows Tryz.func73 rfl Tryz.ntmps73 (by decide) (by kernel_rfl) (by kernel_rfl) hl h
def k46_0 : SCode := .reg [⟨some 3, none, .box 107 (.tmp 0), [], false⟩, ⟨some 5, none, .box 34 (.tmp 2), [], false⟩, ⟨some 6, none, .alloc 34 [(.int .i64 0), (.int .i64 0)], [], false⟩] [1, 3, 5, 6]
def k46_1 : SCode := .reg [⟨some 10, none, .fld 0 (.tmp 5), [], false⟩, ⟨some 11, none, .load false 1 (.tmp 10), [], false⟩, ⟨some 12, none, .load true 6 (.tmp 3), [], false⟩, ⟨some 13, none, .mov (.tmp 1), [], false⟩, ⟨some 14, none, .call 116 [(.tmp 12), (.tmp 13)], [], false⟩, ⟨some 15, none, .bin .add (.tmp 11) (.tmp 14), [], false⟩, ⟨some 16, none, .fld 1 (.tmp 5), [], false⟩, ⟨some 17, none, .load false 1 (.tmp 16), [], false⟩, ⟨some 18, none, .load true 6 (.tmp 3), [], false⟩, ⟨some 19, none, .mov (.tmp 1), [], false⟩, ⟨some 20, none, .call 116 [(.tmp 18), (.tmp 19)], [], false⟩, ⟨some 21, none, .bin .add (.tmp 17) (.tmp 20), [], false⟩, ⟨some 7, none, .mov (.tmp 15), [], false⟩, ⟨some 8, none, .mov (.tmp 21), [], false⟩] [3, 6, 7, 8]
def k46_2 : SCode := .reg [⟨some 22, none, .fld 5 (.tmp 3), [], false⟩, ⟨some 23, none, .load false 1 (.tmp 22), [], false⟩, ⟨some 24, none, .build [(.int .i64 0), (.int .i64 0)] [(1, 1, (.tmp 23))], [], false⟩, ⟨some 9, none, .alloc 34 [(.int .i64 0), (.int .i64 0)], [], false⟩, ⟨none, none, .store 2 (.tmp 9) (.tmp 24), [], false⟩] [3, 6, 7, 8, 9]
def k46_3 : SCode := .reg [⟨some 26, none, .mov (.tmp 7), [], false⟩, ⟨some 27, none, .fld 0 (.tmp 3), [], false⟩, ⟨some 28, none, .fld 4 (.tmp 27), [], false⟩, ⟨some 29, none, .load false 1 (.tmp 28), [], false⟩, ⟨some 30, none, .bin .gtr (.tmp 26) (.tmp 29), [], false⟩, ⟨some 25, none, .mov (.tmp 30), [], false⟩] [3, 6, 8, 9, 25]
def k46_4 : SCode := .reg [⟨some 31, none, .fld 1 (.tmp 9), [], false⟩, ⟨none, none, .store 1 (.tmp 31) (.const (.int .i64 0)), [], false⟩] [6, 9]
def k46_5 : SCode := .reg [⟨some 33, none, .mov (.tmp 8), [], false⟩, ⟨some 34, none, .fld 0 (.tmp 3), [], false⟩, ⟨some 35, none, .fld 4 (.tmp 34), [], false⟩, ⟨some 36, none, .load false 1 (.tmp 35), [], false⟩, ⟨some 37, none, .un .neg (.tmp 36), [], false⟩, ⟨some 38, none, .bin .lss (.tmp 33) (.tmp 37), [], false⟩, ⟨some 32, none, .mov (.tmp 38), [], false⟩] [3, 6, 9, 32]
def k46_6 : SCode := .reg [⟨some 39, none, .fld 5 (.tmp 3), [], false⟩, ⟨some 40, none, .load false 1 (.tmp 39), [], false⟩, ⟨some 41, none, .fld 0 (.tmp 9), [], false⟩, ⟨none, none, .store 1 (.tmp 41) (.tmp 40), [], false⟩] [6, 9]
def k46_7 : SCode := .cond (.tmp 32) k46_6 .skip
def k46_8 : SCode := .seq k46_5 k46_7
def k46_9 : SCode := .cond (.tmp 25) k46_4 k46_8
def k46_10 : SCode := .seq k46_3 k46_9
def k46_11 : SCode := .block 0 k46_10
def k46_12 : SCode := .reg [⟨some 42, none, .load true 2 (.tmp 9), [], false⟩, ⟨none, none, .store 2 (.tmp 6) (.tmp 42), [], false⟩] [6]
def k46_13 : SCode := .seq k46_12 .ret
def k46_14 : SCode := .seq k46_11 k46_13
def k46_15 : SCode := .seq k46_2 k46_14
def k46_16 : SCode := .seq k46_1 k46_15
def k46_17 : SCode := .seq k46_0 k46_16
@[simp] def rs_dial_face_lags : List SRes := [.cell 6 true 2]
theorem law_dial_face_lags (cs : List CV) (r : CV) (hl : cs.length ≤ 43) (h : STri (cfF Tryz.prog [] 43) k46_17 (initT 0 cs) [] (retQ rs_dial_face_lags r)) : SC Tryz.prog 101 cs r :=
  sc_of [] follows Tryz.func101 rfl Tryz.ntmps101 (by decide) (by kernel_rfl) (by kernel_rfl) hl h
def k47_0 : SCode := .reg [⟨some 2, none, .box 109 (.tmp 0), [], false⟩, ⟨some 3, none, .box 147 (.tmp 1), [], false⟩] [2, 3]
def k47_1 : SCode := .reg [⟨some 5, none, .fld 0 (.tmp 2), [], false⟩, ⟨some 6, none, .load true 5 (.tmp 5), [], false⟩, ⟨some 7, none, .fld 11 (.tmp 2), [], false⟩, ⟨some 8, none, .load false 1 (.tmp 7), [], false⟩, ⟨some 9, none, .fld 11 (.tmp 2), [], false⟩, ⟨some 10, none, .load false 1 (.tmp 9), [], false⟩, ⟨some 11, none, .build [(.int .i64 0), (.int .i64 0)] [(0, 1, (.tmp 8)), (1, 1, (.tmp 10))], [], false⟩, ⟨some 12, none, .call 72 [(.tmp 6), (.tmp 11)], [], false⟩] [2, 3, 12]
def k47_2 : SCode := .reg [⟨some 4, none, .mov (.tmp 13), [], false⟩] [2, 3, 4]
def k47_3 : SCode := .reg [⟨some 14, none, .load false 1 (.tmp 3), [], false⟩, ⟨some 15, none, .fld 5 (.tmp 2), [], false⟩, ⟨some 16, none, .load true 6 (.tmp 15), [], false⟩, ⟨some 17, none, .mov (.tmp 4), [], false⟩, ⟨some 18, none, .fld 12 (.tmp 2), [], false⟩, ⟨some 19, none, .load true 2 (.tmp 18), [], false⟩, ⟨some 20, none, .call 73 [(.tmp 16), (.tmp 17), (.tmp 19)], [], false⟩, ⟨some 21, none, .callV (.tmp 14) [(.tmp 20)], [], false⟩, ⟨some 22, none, .un .not (.tmp 21), [], false⟩] [22]
def k47_4 : SCode := .cond (.tmp 22) .ret .skip
def k47_5 : SCode := .seq k47_3 k47_4
def k47_6 : SCode := .block 1 k47_5
def k47_7 : SCode := .range (.tmp 12) [13] k47_2 k47_6
def k47_8 : SCode := .block 0 k47_7
def k47_9 : SCode := .seq k47_1 k47_8
def k47_10 : SCode := .seq k47_0 k47_9
theorem ilaw_dial_look_all (b : Nat) (fs cs : List CV) (xs : List (List CV)) (hb2 : b + 1000 ≤ 1000000000) (hl : fs.length + 1 + cs.length ≤ 23) (h : ∀ Iv A G id, (∃ v, G (.yl id) v) → (∀ k row, xs[k]? = some row → YT Tryz.prog Iv A G id k row) → STri (cfI Tryz.prog [] 23 b Iv A G) k47_10 (initS 0 (fs.map .c ++ .yl id :: cs.map .c)) [(1000000000 + b, .gh 0 false)] (itQ b xs.length)) : IterL Tryz.prog 37 b fs cs xs :=
  iter_of [] follows Tryz.func37 rfl Tryz.ntmps37 (by decide) hb2 (by kernel_rfl) rfl hl h
def k48_0 : SCode := .reg [⟨some 4, none, .mov (.const (.int .i64 0)), [], false⟩] [0, 1]
def k48_1 : SCode := .reg [⟨some 5, none, .mov (.tmp 0), [], false⟩, ⟨some 6, none, .mov (.tmp 1), [], false⟩, ⟨some 7, none, .bin .rem (.tmp 5) (.tmp 6), [], false⟩, ⟨some 8, none, .mov (.tmp 1), [], false⟩, ⟨some 9, none, .bin .add (.tmp 7) (.tmp 8), [], false⟩, ⟨some 10, none, .mov (.tmp 1), [], false⟩, ⟨some 11, none, .bin .rem (.tmp 9) (.tmp 10), [], false⟩, ⟨some 4, none, .mov (.tmp 11), [], false⟩] [4]
def k48_2 : SCode := .seq k48_1 .ret
def k48_3 : SCode := .seq k48_0 k48_2
@[simp] def rs_dial_modulo : List SRes := [.tmp 4]
theorem law_dial_modulo (cs : List CV) (r : CV) (hl : cs.length ≤ 12) (h : STri (cfF Tryz.prog [] 12) k48_3 (initT 0 cs) [] (retQ rs_dial_modulo r)) : SC Tryz.prog 38 cs r :=
  sc_of [] follows Tryz.func38 rfl Tryz.ntmps38 (by decide) (by kernel_rfl) (by kernel_rfl) hl h
@[simp] def rs_dial_joined : List SRes := [.tmp 2]
def k49_0 : SCode := .reg [⟨some 2, none, .boxZ 105 (.tmp 0), [], false⟩, ⟨some 3, none, .boxZ 34 (.tmp 1), [], false⟩, ⟨some 4, none, .mov (.const .nilFunc), [], false⟩] [2, 3]
def k49_1 : SCode := .reg [⟨some 5, none, .mkFn 99 [] [(.tmp 3), (.tmp 2)], [], false⟩, ⟨some 4, none, .mov (.tmp 5), [], false⟩] [4]
def k49_2 : SCode := .seq k49_1 .ret
def k49_3 : SCode := .seq k49_0 k49_2
@[simp] def rs_dial_works_driven : List SRes := [.tmp 4]
theorem law_dial_works_driven (cs : List CV) (r : CV) (hl : cs.length ≤ 6) (h : STri (cfF Tryz.prog [] 6) k49_3 (initT 0 cs) [] (retQ rs_dial_works_driven r)) : SC Tryz.prog 72 cs r :=
  sc_of [] follows Tryz.func72 rfl Tryz.ntmps72 (by decide) (by kernel_rfl) (by kernel_rfl) hl h
def k50_0 : SCode := .reg [⟨some 1, none, .box 59 (.tmp 0), [], false⟩, ⟨some 2, none, .alloc 107 [(.int .i64 0), (.int .i64 0), (.slice none 0 0), (.int .i64 0), (.int .i64 0), (.int .i64 0)], [], false⟩, ⟨some 3, none, .mov (.const (.bool false)), [], false⟩] [1, 2]
def k50_1 : SCode := .reg [⟨some 10, none, .fld 0 (.tmp 1), [], false⟩, ⟨some 11, none, .load true 2 (.tmp 10), [], false⟩, ⟨some 12, none, .call 96 [(.tmp 11), (.const (.int .i64 (-3600))), (.const (.int .i64 3600))], [], false⟩, ⟨some 13, none, .un .not (.tmp 12), [], false⟩, ⟨some 14, none, .mov (.tmp 13), [], false⟩, ⟨some 15, (some (14, false)), .fld 2 (.tmp 1), [], false⟩, ⟨some 16, (some (14, false)), .load false 1 (.tmp 15), [], false⟩, ⟨some 17, (some (14, false)), .len (.tmp 16), [], false⟩, ⟨some 18, (some (14, false)), .bin .gtr (.tmp 17) (.const (.int .i64 4)), [], false⟩, ⟨some 19, none, .pick (.tmp 14) (.const (.bool true)) (.tmp 18), [], false⟩, ⟨some 20, none, .mov (.tmp 19), [], false⟩, ⟨some 21, (some (20, false)), .fld 3 (.tmp 1), [], false⟩, ⟨some 22, (some (20, false)), .load false 1 (.tmp 21), [], false⟩, ⟨some 23, (some (20, false)), .buildSl 3 1 [(.int .i64 0)] 1 [(0, (.tmp 22))], [], false⟩, ⟨some 24, (some (20, false)), .call 66 [(.const (.int .i64 (-10000))), (.const (.int .i64 10000)), (.tmp 23)], [], false⟩, ⟨some 25, (some (20, false)), .un .not (.tmp 24), [], false⟩, ⟨some 26, none, .pick (.tmp 20) (.const (.bool true)) (.tmp 25), [], false⟩, ⟨some 27, none, .mov (.tmp 26), [], false⟩, ⟨some 28, (some (27, false)), .fld 4 (.tmp 1), [], false⟩, ⟨some 29, (some (27, false)), .load false 1 (.tmp 28), [], false⟩, ⟨some 30, (some (27, false)), .buildSl 3 1 [(.int .i64 0)] 1 [(0, (.tmp 29))], [], false⟩, ⟨some 31, (some (27, false)), .call 66 [(.const (.int .i64 0)), (.const (.int .i64 10000)), (.tmp 30)], [], false⟩, ⟨some 32, (some (27, false)), .un .not (.tmp 31), [], false⟩, ⟨some 33, none, .pick (.tmp 27) (.const (.bool true)) (.tmp 32), [], false⟩] [1, 2, 33]
def k50_2 : SCode := .reg [⟨some 34, none, .load true 6 (.tmp 2), [], false⟩, ⟨none, none, .store 6 (.tmp 2) (.tmp 34), [], false⟩, ⟨some 3, none, .mov (.const (.bool false)), [], false⟩] [2, 3]
def k50_3 : SCode := .seq k50_2 .ret
def k50_4 : SCode := .cond (.tmp 33) k50_3 .skip
def k50_5 : SCode := .seq k50_1 k50_4
def k50_6 : SCode := .reg [⟨some 4, none, .mov (.const (.int .i64 1)), [], false⟩] [1, 2, 4]
def k50_7 : SCode := .reg [⟨some 35, none, .fld 2 (.tmp 1), [], false⟩, ⟨some 36, none, .load false 1 (.tmp 35), [], false⟩, ⟨some 37, none, .len (.tmp 36), [], false⟩, ⟨some 38, none, .mov (.const (.int .i64 0)), [], false⟩] [1, 2, 4, 36, 37, 38]
def k50_8 : SCode := .reg [⟨some 39, none, .bin .lss (.tmp 38) (.tmp 37), [], false⟩] [1, 2, 4, 36, 37, 38, 39]
def k50_9 : SCode := .cond (.tmp 39) .skip (.exit 0)
def k50_10 : SCode := .reg [⟨some 40, none, .idxS 3 (.tmp 36) (.tmp 38), [], false⟩, ⟨some 41, none, .load true 3 (.tmp 40), [], false⟩, ⟨some 6, none, .alloc 102 [(.int .i64 0), (.int .i64 0), (.int .i64 0)], [], false⟩, ⟨none, none, .store 3 (.tmp 6) (.tmp 41), [], false⟩] [1, 2, 4, 6, 36, 37, 38]
def k50_11 : SCode := .reg [⟨some 42, none, .load true 3 (.tmp 6), [], false⟩, ⟨some 43, none, .call 113 [(.tmp 42)], [], false⟩, ⟨some 44, none, .un .not (.tmp 43), [], false⟩] [1, 2, 4, 6, 36, 37, 38, 44]
def k50_12 : SCode := .reg [⟨some 45, none, .load true 6 (.tmp 2), [], false⟩, ⟨none, none, .store 6 (.tmp 2) (.tmp 45), [], false⟩, ⟨some 3, none, .mov (.const (.bool false)), [], false⟩] [2, 3]
def k50_13 : SCode := .seq k50_12 .ret
def k50_14 : SCode := .cond (.tmp 44) k50_13 .skip
def k50_15 : SCode := .seq k50_11 k50_14
def k50_16 : SCode := .reg [⟨some 46, none, .mov (.tmp 4), [], false⟩, ⟨some 47, none, .mov (.tmp 4), [], false⟩, ⟨some 48, none, .fld 1 (.tmp 6), [], false⟩, ⟨some 49, none, .fld 0 (.tmp 48), [], false⟩, ⟨some 50, none, .load false 1 (.tmp 49), [], false⟩, ⟨some 51, none, .call 114 [(.tmp 47), (.tmp 50)], [], false⟩, ⟨some 52, none, .bin .quo (.tmp 46) (.tmp 51), [], false⟩, ⟨some 53, none, .fld 1 (.tmp 6), [], false⟩, ⟨some 54, none, .fld 0 (.tmp 53), [], false⟩, ⟨some 55, none, .load false 1 (.tmp 54), [], false⟩, ⟨some 56, none, .bin .mul (.tmp 52) (.tmp 55), [], false⟩, ⟨some 4, none, .mov (.tmp 56), [], false⟩] [1, 2, 4, 36, 37, 38]
def k50_17 : SCode := .seq k50_15 k50_16
def k50_18 : SCode := .seq k50_10 k50_17
def k50_19 : SCode := .block 1 k50_18
def k50_20 : SCode := .reg [⟨some 57, none, .bin .add (.tmp 38) (.const (.int .i64 1)), [], false⟩, ⟨some 38, none, .mov (.tmp 57), [], false⟩] [1, 2, 4, 36, 37, 38]
def k50_21 : SCode := .seq k50_19 k50_20
def k50_22 : SCode := .seq k50_9 k50_21
def k50_23 : SCode := .seq k50_8 k50_22
def k50_24 : SCode := .loop k50_23
def k50_25 : SCode := .block 0 k50_24
def k50_26 : SCode := .seq k50_7 k50_25
def k50_27 : SCode := .reg [⟨some 7, none, .mov (.const (.int .i64 0)), [], false⟩] [1, 2, 4, 7]
def k50_28 : SCode := .reg [⟨some 58, none, .fld 2 (.tmp 1), [], false⟩, ⟨some 59, none, .load false 1 (.tmp 58), [], false⟩, ⟨some 60, none, .len (.tmp 59), [], false⟩, ⟨some 61, none, .mov (.const (.int .i64 0)), [], false⟩] [1, 2, 4, 7, 59, 60, 61]
def k50_29 : SCode := .reg [⟨some 62, none, .bin .lss (.tmp 61) (.tmp 60), [], false⟩] [1, 2, 4, 7, 59, 60, 61, 62]
def k50_30 : SCode := .cond (.tmp 62) .skip (.exit 2)
def k50_31 : SCode := .reg [⟨some 63, none, .idxS 3 (.tmp 59) (.tmp 61), [], false⟩, ⟨some 64, none, .load true 3 (.tmp 63), [], false⟩, ⟨some 9, none, .alloc 102 [(.int .i64 0), (.int .i64 0), (.int .i64 0)], [], false⟩, ⟨none, none, .store 3 (.tmp 9) (.tmp 64), [], false⟩] [1, 2, 4, 7, 9, 59, 60, 61]
def k50_32 : SCode := .reg [⟨some 65, none, .mov (.tmp 7), [], false⟩, ⟨some 66, none, .fld 0 (.tmp 9), [], false⟩, ⟨some 67, none, .load false 1 (.tmp 66), [], false⟩, ⟨some 68, none, .bin .mul (.tmp 67) (.const (.int .i64 3600)), [], false⟩, ⟨some 69, none, .fld 1 (.tmp 9), [], false⟩, ⟨some 70, none, .fld 1 (.tmp 69), [], false⟩, ⟨some 71, none, .load false 1 (.tmp 70), [], false⟩, ⟨some 72, none, .bin .mul (.tmp 68) (.tmp 71), [], false⟩, ⟨some 73, none, .mov (.tmp 4), [], false⟩, ⟨some 74, none, .fld 1 (.tmp 9), [], false⟩, ⟨some 75, none, .fld 0 (.tmp 74), [], false⟩, ⟨some 76, none, .load false 1 (.tmp 75), [], false⟩, ⟨some 77, none, .bin .quo (.tmp 73) (.tmp 76), [], false⟩, ⟨some 78, none, .bin .mul (.tmp 72) (.tmp 77), [], false⟩, ⟨some 79, none, .bin .add (.tmp 65) (.tmp 78), [], false⟩, ⟨some 7, none, .mov (.tmp 79), [], false⟩] [1, 2, 4, 7, 59, 60, 61]
def k50_33 : SCode := .seq k50_31 k50_32
def k50_34 : SCode := .block 3 k50_33
def k50_35 : SCode := .reg [⟨some 80, none, .bin .add (.tmp 61) (.const (.int .i64 1)), [], false⟩, ⟨some 61, none, .mov (.tmp 80), [], false⟩] [1, 2, 4, 7, 59, 60, 61]
def k50_36 : SCode := .seq k50_34 k50_35
def k50_37 : SCode := .seq k50_30 k50_36
def k50_38 : SCode := .seq k50_29 k50_37
def k50_39 : SCode := .loop k50_38
def k50_40 : SCode := .block 2 k50_39
def k50_41 : SCode := .seq k50_28 k50_40
def k50_42 : SCode := .reg [⟨some 81, none, .load true 5 (.tmp 1), [], false⟩, ⟨some 82, none, .mov (.tmp 7), [], false⟩, ⟨some 83, none, .mov (.tmp 4), [], false⟩, ⟨some 84, none, .bin .mul (.const (.int .i64 1000)) (.tmp 83), [], false⟩, ⟨some 85, none, .call 115 [(.tmp 82), (.tmp 84)], [], false⟩, ⟨some 86, none, .build [(.int .i64 0), (.int .i64 0), (.slice none 0 0), (.int .i64 0), (.int .i64 0), (.int .i64 0)] [(0, 5, (.tmp 81)), (5, 1, (.tmp 85))], [], false⟩, ⟨none, none, .store 6 (.tmp 2) (.tmp 86), [], false⟩] [2]
def k50_43 : SCode := .reg [⟨some 87, none, .load true 6 (.tmp 2), [], false⟩, ⟨some 88, none, .fld 5 (.tmp 2), [], false⟩, ⟨some 89, none, .load false 1 (.tmp 88), [], false⟩, ⟨some 90, none, .bin .leq (.tmp 89) (.const (.int .i64 3600)), [], false⟩, ⟨none, none, .store 6 (.tmp 2) (.tmp 87), [], false⟩, ⟨some 3, none, .mov (.tmp 90), [], false⟩] [2, 3]
def k50_44 : SCode := .seq k50_43 .ret
def k50_45 : SCode := .seq k50_42 k50_44
def k50_46 : SCode := .seq k50_41 k50_45
def k50_47 : SCode := .seq k50_27 k50_46
def k50_48 : SCode := .seq k50_26 k50_47
def k50_49 : SCode := .seq k50_6 k50_48
def k50_50 : SCode := .seq k50_5 k50_49
def k50_51 : SCode := .seq k50_0 k50_50
@[simp] def rs_dial_newFace : List SRes := [.cell 2 true 6, .tmp 3]
theorem law_dial_newFace (cs : List CV) (r : CV) (hl : cs.length ≤ 91) (h : STri (cfF Tryz.prog [] 91) k50_51 (initT 0 cs) [] (retQ rs_dial_newFace r)) : SC Tryz.prog 97 cs r :=
  sc_of [] follows Tryz.func97 rfl Tryz.ntmps97 (by decide) (by kernel_rfl) (by kernel_rfl) hl h
def k51_0 : SCode := .reg [⟨some 1, none, .box 34 (.tmp 0), [], false⟩, ⟨some 2, none, .mov (.const (.bool false)), [], false⟩] [1]
def k51_1 : SCode := .reg [⟨some 3, none, .load true 2 (.tmp 1), [], false⟩, ⟨some 4, none, .call 96 [(.tmp 3), (.const (.int .i64 (-10000))), (.const (.int .i64 10000))], [], false⟩, ⟨some 2, none, .mov (.tmp 4), [], false⟩] [2]
def k51_2 : SCode := .seq k51_1 .ret
def k51_3 : SCode := .seq k51_0 k51_2
@[simp] def rs_dial_isWind : List SRes := [.tmp 2]
theorem law_dial_isWind (cs : List CV) (r : CV) (hl : cs.length ≤ 5) (h : STri (cfF Tryz.prog [] 5) k51_3 (initT 0 cs) [] (retQ rs_dial_isWind r)) : SC Tryz.prog 67 cs r :=
  sc_of [] follows Tryz.func67 rfl Tryz.ntmps67 (by decide) (by kernel_rfl) (by kernel_rfl) hl h
def k52_0 : SCode := .reg [⟨some 1, none, .box 63 (.tmp 0), [], false⟩, ⟨some 2, none, .alloc 105 [(.int .i64 0), (.int .i64 0), (.int .i64 0), (.slice none 0 0), (.slice none 0 0)], [], false⟩, ⟨some 3, none, .mov (.const (.int .i64 0)), [], false⟩] [1, 2]
def k52_1 : SCode := .reg [⟨some 8, none, .fld 0 (.tmp 1), [], false⟩, ⟨some 9, none, .load false 1 (.tmp 8), [], false⟩, ⟨some 10, none, .buildSl 3 1 [(.int .i64 0)] 1 [(0, (.tmp 9))], [], false⟩, ⟨some 11, none, .call 66 [(.const (.int .i64 1)), (.const (.int .i64 3600)), (.tmp 10)], [], false⟩, ⟨some 12, none, .un .not (.tmp 11), [], false⟩, ⟨some 13, none, .mov (.tmp 12), [], false⟩, ⟨some 14, (some (13, false)), .fld 0 (.tmp 1), [], false⟩, ⟨some 15, (some (13, false)), .load false 1 (.tmp 14), [], false⟩, ⟨some 16, (some (13, false)), .bin .rem (.const (.int .i64 3600)) (.tmp 15), [], false⟩, ⟨some 17, (some (13, false)), .bin .neq (.tmp 16) (.const (.int .i64 0)), [], false⟩, ⟨some 18, none, .pick (.tmp 13) (.const (.bool true)) (.tmp 17), [], false⟩, ⟨some 19, none, .mov (.tmp 18), [], false⟩, ⟨some 20, (some (19, false)), .fld 1 (.tmp 1), [], false⟩, ⟨some 21, (some (19, false)), .load true 2 (.tmp 20), [], false⟩, ⟨some 22, (some (19, false)), .call 96 [(.tmp 21), (.const (.int .i64 (-3600))), (.const (.int .i64 3600))], [], false⟩, ⟨some 23, (some (19, false)), .un .not (.tmp 22), [], false⟩, ⟨some 24, none, .pick (.tmp 19) (.const (.bool true)) (.tmp 23), [], false⟩, ⟨some 25, none, .mov (.tmp 24), [], false⟩, ⟨some 26, (some (25, false)), .fld 3 (.tmp 1), [], false⟩, ⟨some 27, (some (25, false)), .load false 1 (.tmp 26), [], false⟩, ⟨some 28, (some (25, false)), .len (.tmp 27), [], false⟩, ⟨some 29, (some (25, false)), .buildSl 3 1 [(.int .i64 0)] 1 [(0, (.tmp 28))], [], false⟩, ⟨some 30, (some (25, false)), .call 66 [(.const (.int .i64 1)), (.const (.int .i64 8)), (.tmp 29)], [], false⟩, ⟨some 31, (some (25, false)), .un .not (.tmp 30), [], false⟩, ⟨some 32, none, .pick (.tmp 25) (.const (.bool true)) (.tmp 31), [], false⟩] [1, 2, 32]
def k52_2 : SCode := .reg [⟨some 33, none, .load true 5 (.tmp 2), [], false⟩, ⟨none, none, .store 5 (.tmp 2) (.tmp 33), [], false⟩, ⟨some 3, none, .mov (.const (.int .i64 2)), [], false⟩] [2, 3]
def k52_3 : SCode := .seq k52_2 .ret
def k52_4 : SCode := .cond (.tmp 32) k52_3 .skip
def k52_5 : SCode := .seq k52_1 k52_4
def k52_6 : SCode := .reg [⟨some 34, none, .load true 4 (.tmp 1), [], false⟩, ⟨some 35, none, .fld 0 (.tmp 2), [], false⟩, ⟨none, none, .store 4 (.tmp 35) (.tmp 34), [], false⟩] [1, 2]
def k52_7 : SCode := .reg [⟨some 36, none, .fld 3 (.tmp 1), [], false⟩, ⟨some 37, none, .load false 1 (.tmp 36), [], false⟩, ⟨some 38, none, .len (.tmp 37), [], false⟩, ⟨some 39, none, .mov (.const (.int .i64 0)), [], false⟩] [2, 37, 38, 39]
def k52_8 : SCode := .reg [⟨some 40, none, .bin .lss (.tmp 39) (.tmp 38), [], false⟩] [2, 37, 38, 39, 40]
def k52_9 : SCode := .cond (.tmp 40) .skip (.exit 0)
def k52_10 : SCode := .reg [⟨some 41, none, .idxS 5 (.tmp 37) (.tmp 39), [], false⟩, ⟨some 42, none, .load true 5 (.tmp 41), [], false⟩, ⟨some 5, none, .alloc 59 [(.int .i64 0), (.int .i64 0), (.slice none 0 0), (.int .i64 0), (.int .i64 0)], [], false⟩, ⟨none, none, .store 5 (.tmp 5) (.tmp 42), [], false⟩] [2, 5, 37, 38, 39]
def k52_11 : SCode := .reg [⟨some 44, none, .load true 5 (.tmp 5), [], false⟩, ⟨some 45, none, .call 97 [(.tmp 44)], [], false⟩, ⟨some 43, none, .mov (.tmp 45), [], false⟩, ⟨some 46, none, .ext (.tmp 43) 0, [], false⟩, ⟨some 47, none, .ext (.tmp 43) 1, [], false⟩, ⟨some 6, none, .alloc 107 [(.int .i64 0), (.int .i64 0), (.slice none 0 0), (.int .i64 0), (.int .i64 0), (.int .i64 0)], [], false⟩, ⟨none, none, .store 6 (.tmp 6) (.tmp 46), [], false⟩, ⟨some 7, none, .mov (.tmp 47), [], false⟩] [2, 6, 7, 37, 38, 39]
def k52_12 : SCode := .reg [⟨some 48, none, .mov (.tmp 7), [], false⟩, ⟨some 49, none, .un .not (.tmp 48), [], false⟩] [2, 6, 37, 38, 39, 49]
def k52_13 : SCode := .reg [⟨some 50, none, .build [(.int .i64 0), (.int .i64 0), (.int .i64 0), (.slice none 0 0), (.slice none 0 0)] [], [], false⟩, ⟨none, none, .store 5 (.tmp 2) (.tmp 50), [], false⟩, ⟨some 3, none, .mov (.const (.int .i64 2)), [], false⟩] [2, 3]
def k52_14 : SCode := .seq k52_13 .ret
def k52_15 : SCode := .cond (.tmp 49) k52_14 .skip
def k52_16 : SCode := .seq k52_12 k52_15
def k52_17 : SCode := .reg [⟨some 51, none, .fld 4 (.tmp 2), [], false⟩, ⟨some 52, none, .load false 1 (.tmp 51), [], false⟩, ⟨some 53, none, .load true 6 (.tmp 6), [], false⟩, ⟨some 54, none, .buildSl 107 6 [(.int .i64 0), (.int .i64 0), (.slice none 0 0), (.int .i64 0), (.int .i64 0), (.int .i64 0)] 1 [(0, (.tmp 53))], [], false⟩, ⟨some 55, none, .append 107 6 64 (.tmp 52) (.tmp 54), [], false⟩, ⟨some 56, none, .fld 4 (.tmp 2), [], false⟩, ⟨none, none, .store 1 (.tmp 56) (.tmp 55), [], false⟩] [2, 37, 38, 39]
def k52_18 : SCode := .seq k52_16 k52_17
def k52_19 : SCode := .seq k52_11 k52_18
def k52_20 : SCode := .seq k52_10 k52_19
def k52_21 : SCode := .block 1 k52_20
def k52_22 : SCode := .reg [⟨some 57, none, .bin .add (.tmp 39) (.const (.int .i64 1)), [], false⟩, ⟨some 39, none, .mov (.tmp 57), [], false⟩] [2, 37, 38, 39]
def k52_23 : SCode := .seq k52_21 k52_22
def k52_24 : SCode := .seq k52_9 k52_23
def k52_25 : SCode := .seq k52_8 k52_24
def k52_26 : SCode := .loop k52_25
def k52_27 : SCode := .block 0 k52_26
def k52_28 : SCode := .seq k52_7 k52_27
def k52_29 : SCode := .reg [⟨some 58, none, .load true 5 (.tmp 2), [], false⟩, ⟨none, none, .store 5 (.tmp 2) (.tmp 58), [], false⟩, ⟨some 3, none, .mov (.const (.int .i64 0)), [], false⟩] [2, 3]
def k52_30 : SCode := .seq k52_29 .ret
def k52_31 : SCode := .seq k52_28 k52_30
def k52_32 : SCode := .seq k52_6 k52_31
def k52_33 : SCode := .seq k52_5 k52_32
def k52_34 : SCode := .seq k52_0 k52_33
@[simp] def rs_dial_newWorks : List SRes := [.cell 2 true 5, .tmp 3]
theorem law_dial_newWorks (cs : List CV) (r : CV) (hl : cs.length ≤ 59) (h : STri (cfF Tryz.prog [] 59) k52_34 (initT 0 cs) [] (retQ rs_dial_newWorks r)) : SC Tryz.prog 65 cs r :=
  sc_of [] follows Tryz.func65 rfl Tryz.ntmps65 (by decide) (by kernel_rfl) (by kernel_rfl) hl h
def k53_0 : SCode := .reg [⟨some 3, none, .boxZ 3 (.tmp 0), [], false⟩, ⟨some 4, none, .boxZ 3 (.tmp 1), [], false⟩, ⟨some 6, none, .mov (.const (.bool false)), [], false⟩] [2, 3, 4]
def k53_1 : SCode := .reg [⟨some 7, none, .mov (.tmp 2), [], false⟩, ⟨some 8, none, .mkFn 98 [] [(.tmp 3), (.tmp 4)], [], false⟩, ⟨some 9, none, .call 93 [(.tmp 7), (.tmp 8)], [], false⟩, ⟨some 10, none, .un .not (.tmp 9), [], false⟩, ⟨some 6, none, .mov (.tmp 10), [], false⟩] [6]
def k53_2 : SCode := .seq k53_1 .ret
def k53_3 : SCode := .seq k53_0 k53_2
@[simp] def rs_dial_within : List SRes := [.tmp 6]
theorem law_dial_within (cs : List CV) (r : CV) (hl : cs.length ≤ 11) (h : STri (cfF Tryz.prog [] 11) k53_3 (initT 0 cs) [] (retQ rs_dial_within r)) : SC Tryz.prog 66 cs r :=
  sc_of [] follows Tryz.func66 rfl Tryz.ntmps66 (by decide) (by kernel_rfl) (by kernel_rfl) hl h
def k54_0 : SCode := .reg [⟨some 4, none, .alloc 34 [(.int .i64 0), (.int .i64 0)], [], false⟩] [0, 1, 4]
def k54_1 : SCode := .reg [⟨some 7, none, .mov (.tmp 0), [], false⟩, ⟨some 8, none, .len (.tmp 7), [], false⟩, ⟨some 9, none, .bin .lss (.tmp 8) (.const (.int .i64 1)), [], false⟩] [0, 1, 4, 9]
def k54_2 : SCode := .reg [⟨some 10, none, .mkIfc 9 (.const (.string ⟨#[115, 108, 105, 99, 101, 115, 46, 77, 105, 110, 70, 117, 110, 99, 58, 32, 101, 109, 112, 116, 121, 32, 108, 105, 115, 116]⟩)), [], false⟩, ⟨none, none, .callM 0 [(.tmp 10)], [], false⟩] [0, 1, 4]
def k54_3 : SCode := .cond (.tmp 9) k54_2 .skip
def k54_4 : SCode := .seq k54_1 k54_3
def k54_5 : SCode := .reg [⟨some 11, none, .mov (.tmp 0), [], false⟩, ⟨some 12, none, .idxS 2 (.tmp 11) (.const (.int .i64 0)), [], false⟩, ⟨some 13, none, .load true 2 (.tmp 12), [], false⟩, ⟨some 5, none, .alloc 34 [(.int .i64 0), (.int .i64 0)], [], false⟩, ⟨none, none, .store 2 (.tmp 5) (.tmp 13), [], false⟩] [0, 1, 4, 5]
def k54_6 : SCode := .reg [⟨some 6, none, .mov (.const (.int .i64 1)), [], false⟩] [0, 1, 4, 5, 6]
def k54_7 : SCode := .reg [⟨some 14, none, .mov (.tmp 6), [], false⟩, ⟨some 15, none, .mov (.tmp 0), [], false⟩, ⟨some 16, none, .len (.tmp 15), [], false⟩, ⟨some 17, none, .bin .lss (.tmp 14) (.tmp 16), [], false⟩] [0, 1, 4, 5, 6, 17]
def k54_8 : SCode := .cond (.tmp 17) .skip (.exit 0)
def k54_9 : SCode := .seq k54_7 k54_8
def k54_10 : SCode := .reg [⟨some 20, none, .mov (.tmp 1), [], false⟩, ⟨some 21, none, .mov (.tmp 0), [], false⟩, ⟨some 22, none, .mov (.tmp 6), [], false⟩, ⟨some 23, none, .idxS 2 (.tmp 21) (.tmp 22), [], false⟩, ⟨some 24, none, .load true 2 (.tmp 23), [], false⟩, ⟨some 25, none, .load true 2 (.tmp 5), [], false⟩, ⟨some 26, none, .callV (.tmp 20) [(.tmp 24), (.tmp 25)], [], false⟩, ⟨some 27, none, .bin .lss (.tmp 26) (.const (.int .i64 0)), [], false⟩] [0, 1, 4, 5, 6, 27]
def k54_11 : SCode := .reg [⟨some 28, none, .mov (.tmp 0), [], false⟩, ⟨some 29, none, .mov (.tmp 6), [], false⟩, ⟨some 30, none, .idxS 2 (.tmp 28) (.tmp 29), [], false⟩, ⟨some 31, none, .load true 2 (.tmp 30), [], false⟩, ⟨none, none, .store 2 (.tmp 5) (.tmp 31), [], false⟩] [0, 1, 4, 5, 6]
def k54_12 : SCode := .cond (.tmp 27) k54_11 .skip
def k54_13 : SCode := .seq k54_10 k54_12
def k54_14 : SCode := .block 1 k54_13
def k54_15 : SCode := .reg [⟨some 18, none, .mov (.tmp 6), [], false⟩, ⟨some 19, none, .bin .add (.tmp 18) (.const (.int .i64 1)), [], false⟩, ⟨some 6, none, .mov (.tmp 19), [], false⟩] [0, 1, 4, 5, 6]
def k54_16 : SCode := .seq k54_14 k54_15
def k54_17 : SCode := .seq k54_9 k54_16
def k54_18 : SCode := .loop k54_17
def k54_19 : SCode := .block 0 k54_18
def k54_20 : SCode := .seq k54_6 k54_19
def k54_21 : SCode := .reg [⟨some 32, none, .load true 2 (.tmp 5), [], false⟩, ⟨none, none, .store 2 (.tmp 4) (.tmp 32), [], false⟩] [4]
def k54_22 : SCode := .seq k54_21 .ret
def k54_23 : SCode := .seq k54_20 k54_22
def k54_24 : SCode := .seq k54_5 k54_23
def k54_25 : SCode := .seq k54_4 k54_24
def k54_26 : SCode := .seq k54_0 k54_25
@[simp] def rs_slices_MinFunc_api_Span_api_Span : List SRes := [.cell 4 true 2]
theorem law_slices_MinFunc_api_Span_api_Span (cs : List CV) (r : CV) (hl : cs.length ≤ 33) (h : STri (cfF Tryz.prog [] 33) k54_26 (initT 0 cs) [] (retQ rs_slices_MinFunc_api_Span_api_Span r)) : SC Tryz.prog 68 cs r :=
  sc_of [] follows Tryz.func68 rfl Tryz.ntmps68 (by decide) (by kernel_rfl) (by kernel_rfl) hl h
def k55_0 : SCode := .reg [⟨some 2, none, .box 34 (.tmp 0), [], false⟩, ⟨some 3, none, .box 34 (.tmp 1), [], false⟩, ⟨some 4, none, .mov (.const (.int .i64 0)), [], false⟩] [2, 3]
def k55_1 : SCode := .reg [⟨some 5, none, .fld 0 (.tmp 2), [], false⟩, ⟨some 6, none, .load false 1 (.tmp 5), [], false⟩, ⟨some 7, none, .fld 0 (.tmp 3), [], false⟩, ⟨some 8, none, .load false 1 (.tmp 7), [], false⟩, ⟨some 9, none, .bin .sub (.tmp 6) (.tmp 8), [], false⟩, ⟨some 4, none, .mov (.tmp 9), [], false⟩] [4]
def k55_2 : SCode := .seq k55_1 .ret
def k55_3 : SCode := .seq k55_0 k55_2
@[simp] def rs_dial_look_off_1 : List SRes := [.tmp 4]
theorem law_dial_look_off_1 (cs : List CV) (r : CV) (hl : cs.length ≤ 10) (h : STri (cfF Tryz.prog [] 10) k55_3 (initT 0 cs) [] (retQ rs_dial_look_off_1 r)) : SC Tryz.prog 69 cs r :=
  sc_of [] follows Tryz.func69 rfl Tryz.ntmps69 (by decide) (by kernel_rfl) (by kernel_rfl) hl h
def k56_0 : SCode := .reg [⟨some 4, none, .alloc 34 [(.int .i64 0), (.int .i64 0)], [], false⟩] [0, 1, 4]
def k56_1 : SCode := .reg [⟨some 7, none, .mov (.tmp 0), [], false⟩, ⟨some 8, none, .len (.tmp 7), [], false⟩, ⟨some 9, none, .bin .lss (.tmp 8) (.const (.int .i64 1)), [], false⟩] [0, 1, 4, 9]
def k56_2 : SCode := .reg [⟨some 10, none, .mkIfc 9 (.const (.string ⟨#[115, 108, 105, 99, 101, 115, 46, 77, 97, 120, 70, 117, 110, 99, 58, 32, 101, 109, 112, 116, 121, 32, 108, 105, 115, 116]⟩)), [], false⟩, ⟨none, none, .callM 0 [(.tmp 10)], [], false⟩] [0, 1, 4]
def k56_3 : SCode := .cond (.tmp 9) k56_2 .skip
def k56_4 : SCode := .seq k56_1 k56_3
def k56_5 : SCode := .reg [⟨some 11, none, .mov (.tmp 0), [], false⟩, ⟨some 12, none, .idxS 2 (.tmp 11) (.const (.int .i64 0)), [], false⟩, ⟨some 13, none, .load true 2 (.tmp 12), [], false⟩, ⟨some 5, none, .alloc 34 [(.int .i64 0), (.int .i64 0)], [], false⟩, ⟨none, none, .store 2 (.tmp 5) (.tmp 13), [], false⟩] [0, 1, 4, 5]
def k56_6 : SCode := .reg [⟨some 6, none, .mov (.const (.int .i64 1)), [], false⟩] [0, 1, 4, 5, 6]
def k56_7 : SCode := .reg [⟨some 14, none, .mov (.tmp 6), [], false⟩, ⟨some 15, none, .mov (.tmp 0), [], false⟩, ⟨some 16, none, .len (.tmp 15), [], false⟩, ⟨some 17, none, .bin .lss (.tmp 14) (.tmp 16), [], false⟩] [0, 1, 4, 5, 6, 17]
def k56_8 : SCode := .cond (.tmp 17) .skip (.exit 0)
def k56_9 : SCode := .seq k56_7 k56_8
def k56_10 : SCode := .reg [⟨some 20, none, .mov (.tmp 1), [], false⟩, ⟨some 21, none, .mov (.tmp 0), [], false⟩, ⟨some 22, none, .mov (.tmp 6), [], false⟩, ⟨some 23, none, .idxS 2 (.tmp 21) (.tmp 22), [], false⟩, ⟨some 24, none, .load true 2 (.tmp 23), [], false⟩, ⟨some 25, none, .load true 2 (.tmp 5), [], false⟩, ⟨some 26, none, .callV (.tmp 20) [(.tmp 24), (.tmp 25)], [], false⟩, ⟨some 27, none, .bin .gtr (.tmp 26) (.const (.int .i64 0)), [], false⟩] [0, 1, 4, 5, 6, 27]
def k56_11 : SCode := .reg [⟨some 28, none, .mov (.tmp 0), [], false⟩, ⟨some 29, none, .mov (.tmp 6), [], false⟩, ⟨some 30, none, .idxS 2 (.tmp 28) (.tmp 29), [], false⟩, ⟨some 31, none, .load true 2 (.tmp 30), [], false⟩, ⟨none, none, .store 2 (.tmp 5) (.tmp 31), [], false⟩] [0, 1, 4, 5, 6]
def k56_12 : SCode := .cond (.tmp 27) k56_11 .skip
def k56_13 : SCode := .seq k56_10 k56_12
def k56_14 : SCode := .block 1 k56_13
def k56_15 : SCode := .reg [⟨some 18, none, .mov (.tmp 6), [], false⟩, ⟨some 19, none, .bin .add (.tmp 18) (.const (.int .i64 1)), [], false⟩, ⟨some 6, none, .mov (.tmp 19), [], false⟩] [0, 1, 4, 5, 6]
def k56_16 : SCode := .seq k56_14 k56_15
def k56_17 : SCode := .seq k56_9 k56_16
def k56_18 : SCode := .loop k56_17
def k56_19 : SCode := .block 0 k56_18
def k56_20 : SCode := .seq k56_6 k56_19
def k56_21 : SCode := .reg [⟨some 32, none, .load true 2 (.tmp 5), [], false⟩, ⟨none, none, .store 2 (.tmp 4) (.tmp 32), [], false⟩] [4]
def k56_22 : SCode := .seq k56_21 .ret
def k56_23 : SCode := .seq k56_20 k56_22
def k56_24 : SCode := .seq k56_5 k56_23
def k56_25 : SCode := .seq k56_4 k56_24
def k56_26 : SCode := .seq k56_0 k56_25
@[simp] def rs_slices_MaxFunc_api_Span_api_Span : List SRes := [.cell 4 true 2]
theorem law_slices_MaxFunc_api_Span_api_Span (cs : List CV) (r : CV) (hl : cs.length ≤ 33) (h : STri (cfF Tryz.prog [] 33) k56_26 (initT 0 cs) [] (retQ rs_slices_MaxFunc_api_Span_api_Span r)) : SC Tryz.prog 70 cs r :=
  sc_of [] follows Tryz.func70 rfl Tryz.ntmps70 (by decide) (by kernel_rfl) (by kernel_rfl) hl h
def k57_0 : SCode := .reg [⟨some 2, none, .box 34 (.tmp 0), [], false⟩, ⟨some 3, none, .box 34 (.tmp 1), [], false⟩, ⟨some 4, none, .mov (.const (.int .i64 0)), [], false⟩] [2, 3]
def k57_1 : SCode := .reg [⟨some 5, none, .fld 1 (.tmp 2), [], false⟩, ⟨some 6, none, .load false 1 (.tmp 5), [], false⟩, ⟨some 7, none, .fld 1 (.tmp 3), [], false⟩, ⟨some 8, none, .load false 1 (.tmp 7), [], false⟩, ⟨some 9, none, .bin .sub (.tmp 6) (.tmp 8), [], false⟩, ⟨some 4, none, .mov (.tmp 9), [], false⟩] [4]
def k57_2 : SCode := .seq k57_1 .ret
def k57_3 : SCode := .seq k57_0 k57_2
@[simp] def rs_dial_look_off_2 : List SRes := [.tmp 4]
theorem law_dial_look_off_2 (cs : List CV) (r : CV) (hl : cs.length ≤ 10) (h : STri (cfF Tryz.prog [] 10) k57_3 (initT 0 cs) [] (retQ rs_dial_look_off_2 r)) : SC Tryz.prog 71 cs r :=
  sc_of [] follows Tryz.func71 rfl Tryz.ntmps71 (by decide) (by kernel_rfl) (by kernel_rfl) hl h
def k58_0 : SCode := .reg [⟨some 2, none, .box 107 (.tmp 0), [], false⟩, ⟨some 4, none, .mov (.const (.int .i64 0)), [], false⟩] [1, 2]
def k58_1 : SCode := .reg [⟨some 5, none, .mov (.tmp 1), [], false⟩, ⟨some 6, none, .call 38 [(.tmp 5), (.const (.int .i64 3600))], [], false⟩, ⟨some 7, none, .bin .lss (.tmp 6) (.const (.int .i64 1800)), [], false⟩] [2, 7]
def k58_2 : SCode := .reg [⟨some 8, none, .fld 0 (.tmp 2), [], false⟩, ⟨some 9, none, .fld 3 (.tmp 8), [], false⟩, ⟨some 10, none, .load false 1 (.tmp 9), [], false⟩, ⟨some 4, none, .mov (.tmp 10), [], false⟩] [4]
def k58_3 : SCode := .seq k58_2 .ret
def k58_4 : SCode := .cond (.tmp 7) k58_3 .skip
def k58_5 : SCode := .seq k58_1 k58_4
def k58_6 : SCode := .reg [⟨some 11, none, .fld 0 (.tmp 2), [], false⟩, ⟨some 12, none, .fld 3 (.tmp 11), [], false⟩, ⟨some 13, none, .load false 1 (.tmp 12), [], false⟩, ⟨some 14, none, .un .neg (.tmp 13), [], false⟩, ⟨some 4, none, .mov (.tmp 14), [], false⟩] [4]
def k58_7 : SCode := .seq k58_6 .ret
def k58_8 : SCode := .seq k58_5 k58_7
def k58_9 : SCode := .seq k58_0 k58_8
@[simp] def rs_dial_face_force : List SRes := [.tmp 4]
theorem law_dial_face_force (cs : List CV) (r : CV) (hl : cs.length ≤ 15) (h : STri (cfF Tryz.prog [] 15) k58_9 (initT 0 cs) [] (retQ rs_dial_face_force r)) : SC Tryz.prog 116 cs r :=
  sc_of [] follows Tryz.func116 rfl Tryz.ntmps116 (by decide) (by kernel_rfl) (by kernel_rfl) hl h
def k59_0 : SCode := .reg [⟨some 3, none, .box 34 (.tmp 0), [], false⟩, ⟨some 6, none, .mov (.const (.bool false)), [], false⟩] [1, 2, 3]
def k59_1 : SCode := .reg [⟨some 7, none, .mov (.tmp 1), [], false⟩, ⟨some 8, none, .mov (.tmp 2), [], false⟩, ⟨some 9, none, .fld 0 (.tmp 3), [], false⟩, ⟨some 10, none, .load false 1 (.tmp 9), [], false⟩, ⟨some 11, none, .fld 1 (.tmp 3), [], false⟩, ⟨some 12, none, .load false 1 (.tmp 11), [], false⟩, ⟨some 13, none, .buildSl 3 1 [(.int .i64 0)] 2 [(0, (.tmp 10)), (1, (.tmp 12))], [], false⟩, ⟨some 14, none, .call 66 [(.tmp 7), (.tmp 8), (.tmp 13)], [], false⟩, ⟨some 15, none, .mov (.tmp 14), [], false⟩, ⟨some 16, (some (15, true)), .fld 0 (.tmp 3), [], false⟩, ⟨some 17, (some (15, true)), .load false 1 (.tmp 16), [], false⟩, ⟨some 18, (some (15, true)), .fld 1 (.tmp 3), [], false⟩, ⟨some 19, (some (15, true)), .load false 1 (.tmp 18), [], false⟩, ⟨some 20, (some (15, true)), .bin .leq (.tmp 17) (.tmp 19), [], false⟩, ⟨some 21, none, .pick (.tmp 15) (.tmp 20) (.const (.bool false)), [], false⟩, ⟨some 6, none, .mov (.tmp 21), [], false⟩] [6]
def k59_2 : SCode := .seq k59_1 .ret
def k59_3 : SCode := .seq k59_0 k59_2
@[simp] def rs_dial_isSpan : List SRes := [.tmp 6]
theorem law_dial_isSpan (cs : List CV) (r : CV) (hl : cs.length ≤ 22) (h : STri (cfF Tryz.prog [] 22) k59_3 (initT 0 cs) [] (retQ rs_dial_isSpan r)) : SC Tryz.prog 96 cs r :=
  sc_of [] follows Tryz.func96 rfl Tryz.ntmps96 (by decide) (by kernel_rfl) (by kernel_rfl) hl h
def k60_0 : SCode := .reg [⟨some 5, none, .fld 0 (.tmp 1), [], false⟩, ⟨some 6, none, .load false 1 (.tmp 5), [], false⟩, ⟨some 7, none, .fld 0 (.tmp 2), [], false⟩, ⟨some 8, none, .fld 1 (.tmp 7), [], false⟩, ⟨some 9, none, .fld 0 (.tmp 8), [], false⟩, ⟨some 10, none, .load false 1 (.tmp 9), [], false⟩, ⟨some 11, none, .bin .add (.tmp 6) (.tmp 10), [], false⟩, ⟨some 12, none, .fld 0 (.tmp 2), [], false⟩, ⟨some 13, none, .fld 0 (.tmp 12), [], false⟩, ⟨some 14, none, .load false 1 (.tmp 13), [], false⟩, ⟨some 15, none, .call 100 [(.tmp 11), (.tmp 14)], [], false⟩, ⟨some 4, none, .mov (.tmp 15), [], false⟩] [0, 1, 2, 4]
def k60_1 : SCode := .reg [⟨some 16, none, .mov (.tmp 4), [], false⟩, ⟨some 17, none, .fld 1 (.tmp 1), [], false⟩, ⟨some 18, none, .load false 1 (.tmp 17), [], false⟩, ⟨some 19, none, .fld 0 (.tmp 2), [], false⟩, ⟨some 20, none, .fld 1 (.tmp 19), [], false⟩, ⟨some 21, none, .fld 1 (.tmp 20), [], false⟩, ⟨some 22, none, .load false 1 (.tmp 21), [], false⟩, ⟨some 23, none, .bin .add (.tmp 18) (.tmp 22), [], false⟩, ⟨some 24, none, .bin .leq (.tmp 16) (.tmp 23), [], false⟩] [0, 1, 2, 4, 24]
def k60_2 : SCode := .cond (.tmp 24) .skip (.exit 0)
def k60_3 : SCode := .seq k60_1 k60_2
def k60_4 : SCode := .reg [⟨some 30, none, .mov (.tmp 0), [], false⟩, ⟨some 31, none, .mov (.tmp 4), [], false⟩, ⟨some 32, none, .callV (.tmp 30) [(.tmp 31)], [], false⟩, ⟨some 33, none, .un .not (.tmp 32), [], false⟩] [0, 1, 2, 4, 33]
def k60_5 : SCode := .cond (.tmp 33) .ret .skip
def k60_6 : SCode := .seq k60_4 k60_5
def k60_7 : SCode := .block 1 k60_6
def k60_8 : SCode := .reg [⟨some 25, none, .mov (.tmp 4), [], false⟩, ⟨some 26, none, .fld 0 (.tmp 2), [], false⟩, ⟨some 27, none, .fld 0 (.tmp 26), [], false⟩, ⟨some 28, none, .load false 1 (.tmp 27), [], false⟩, ⟨some 29, none, .bin .add (.tmp 25) (.tmp 28), [], false⟩, ⟨some 4, none, .mov (.tmp 29), [], false⟩] [0, 1, 2, 4]
def k60_9 : SCode := .seq k60_7 k60_8
def k60_10 : SCode := .seq k60_3 k60_9
def k60_11 : SCode := .loop k60_10
def k60_12 : SCode := .block 0 k60_11
def k60_13 : SCode := .seq k60_0 k60_12
theorem ilaw_dial_works_driven_1 (b : Nat) (fs cs : List CV) (xs : List (List CV)) (hb2 : b + 1000 ≤ 1000000000) (hl : fs.length + 1 + cs.length ≤ 34) (h : ∀ Iv A G id, (∃ v, G (.yl id) v) → (∀ k row, xs[k]? = some row → YT Tryz.prog Iv A G id k row) → STri (cfI Tryz.prog [] 34 b Iv A G) k60_13 (initS 0 (fs.map .c ++ .yl id :: cs.map .c)) [(1000000000 + b, .gh 0 false)] (itQ b xs.length)) : IterL Tryz.prog 99 b fs cs xs :=
  iter_of [] follows Tryz.func99 rfl Tryz.ntmps99 (by decide) hb2 (by kernel_rfl) rfl hl h
def k61_0 : SCode := .reg [⟨some 1, none, .box 102 (.tmp 0), [], false⟩, ⟨some 2, none, .mov (.const (.bool false)), [], false⟩] [1]
def k61_1 : SCode := .reg [⟨some 3, none, .fld 0 (.tmp 1), [], false⟩, ⟨some 4, none, .load false 1 (.tmp 3), [], false⟩, ⟨some 5, none, .buildSl 3 1 [(.int .i64 0)] 1 [(0, (.tmp 4))], [], false⟩, ⟨some 6, none, .call 66 [(.const (.int .i64 0)), (.const (.int .i64 1000)), (.tmp 5)], [], false⟩, ⟨some 7, none, .mov (.tmp 6), [], false⟩, ⟨some 8, (some (7, true)), .fld 1 (.tmp 1), [], false⟩, ⟨some 9, (some (7, true)), .fld 0 (.tmp 8), [], false⟩, ⟨some 10, (some (7, true)), .load false 1 (.tmp 9), [], false⟩, ⟨some 11, (some (7, true)), .fld 1 (.tmp 1), [], false⟩, ⟨some 12, (some (7, true)), .fld 1 (.tmp 11), [], false⟩, ⟨some 13, (some (7, true)), .load false 1 (.tmp 12), [], false⟩, ⟨some 14, (some (7, true)), .buildSl 3 1 [(.int .i64 0)] 2 [(0, (.tmp 10)), (1, (.tmp 13))], [], false⟩, ⟨some 15, (some (7, true)), .call 66 [(.const (.int .i64 1)), (.const (.int .i64 200)), (.tmp 14)], [], false⟩, ⟨some 16, none, .pick (.tmp 7) (.tmp 15) (.const (.bool false)), [], false⟩, ⟨some 2, none, .mov (.tmp 16), [], false⟩] [2]
def k61_2 : SCode := .seq k61_1 .ret
def k61_3 : SCode := .seq k61_0 k61_2
@[simp] def rs_dial_isLink : List SRes := [.tmp 2]
theorem law_dial_isLink (cs : List CV) (r : CV) (hl : cs.length ≤ 17) (h : STri (cfF Tryz.prog [] 17) k61_3 (initT 0 cs) [] (retQ rs_dial_isLink r)) : SC Tryz.prog 113 cs r :=
  sc_of [] follows Tryz.func113 rfl Tryz.ntmps113 (by decide) (by kernel_rfl) (by kernel_rfl) hl h
def k62_0 : SCode := .reg [⟨some 4, none, .mov (.const (.int .i64 0)), [], false⟩] [0, 1]
def k62_1 : SCode := .reg [⟨some 5, none, .mov (.tmp 1), [], false⟩, ⟨some 6, none, .bin .gtr (.tmp 5) (.const (.int .i64 0)), [], false⟩] [0, 1, 6]
def k62_2 : SCode := .cond (.tmp 6) .skip (.exit 0)
def k62_3 : SCode := .seq k62_1 k62_2
def k62_4 : SCode := .reg [⟨some 7, none, .mov (.tmp 1), [], false⟩, ⟨some 8, none, .mov (.tmp 0), [], false⟩, ⟨some 9, none, .mov (.tmp 1), [], false⟩, ⟨some 10, none, .bin .rem (.tmp 8) (.tmp 9), [], false⟩, ⟨some 0, none, .mov (.tmp 7), [], false⟩, ⟨some 1, none, .mov (.tmp 10), [], false⟩] [0, 1]
def k62_5 : SCode := .block 1 k62_4
def k62_6 : SCode := .seq k62_3 k62_5
def k62_7 : SCode := .loop k62_6
def k62_8 : SCode := .block 0 k62_7
def k62_9 : SCode := .reg [⟨some 11, none, .mov (.tmp 0), [], false⟩, ⟨some 4, none, .mov (.tmp 11), [], false⟩] [4]
def k62_10 : SCode := .seq k62_9 .ret
def k62_11 : SCode := .seq k62_8 k62_10
def k62_12 : SCode := .seq k62_0 k62_11
@[simp] def rs_dial_gcd : List SRes := [.tmp 4]
theorem law_dial_gcd (cs : List CV) (r : CV) (hl : cs.length ≤ 12) (h : STri (cfF Tryz.prog [] 12) k62_12 (initT 0 cs) [] (retQ rs_dial_gcd r)) : SC Tryz.prog 114 cs r :=
  sc_of [] follows Tryz.func114 rfl Tryz.ntmps114 (by decide) (by kernel_rfl) (by kernel_rfl) hl h
def k63_0 : SCode := .reg [⟨some 4, none, .mov (.const (.int .i64 0)), [], false⟩] [0, 1]
def k63_1 : SCode := .reg [⟨some 5, none, .mov (.tmp 0), [], false⟩, ⟨some 6, none, .mov (.tmp 1), [], false⟩, ⟨some 7, none, .bin .add (.tmp 5) (.tmp 6), [], false⟩, ⟨some 8, none, .bin .sub (.tmp 7) (.const (.int .i64 1)), [], false⟩, ⟨some 9, none, .mov (.tmp 1), [], false⟩, ⟨some 10, none, .bin .quo (.tmp 8) (.tmp 9), [], false⟩, ⟨some 4, none, .mov (.tmp 10), [], false⟩] [4]
def k63_2 : SCode := .seq k63_1 .ret
def k63_3 : SCode := .seq k63_0 k63_2
@[simp] def rs_dial_over : List SRes := [.tmp 4]
theorem law_dial_over (cs : List CV) (r : CV) (hl : cs.length ≤ 11) (h : STri (cfF Tryz.prog [] 11) k63_3 (initT 0 cs) [] (retQ rs_dial_over r)) : SC Tryz.prog 115 cs r :=
  sc_of [] follows Tryz.func115 rfl Tryz.ntmps115 (by decide) (by kernel_rfl) (by kernel_rfl) hl h
def k64_0 : SCode := .reg [⟨some 4, none, .mov (.const (.bool false)), [], false⟩] [0, 1, 2]
def k64_1 : SCode := .reg [⟨some 5, none, .mov (.tmp 0), [], false⟩, ⟨some 6, none, .load false 1 (.tmp 1), [], false⟩, ⟨some 7, none, .bin .lss (.tmp 5) (.tmp 6), [], false⟩, ⟨some 8, none, .mov (.tmp 7), [], false⟩, ⟨some 9, (some (8, false)), .mov (.tmp 0), [], false⟩, ⟨some 10, (some (8, false)), .load false 1 (.tmp 2), [], false⟩, ⟨some 11, (some (8, false)), .bin .gtr (.tmp 9) (.tmp 10), [], false⟩, ⟨some 12, none, .pick (.tmp 8) (.const (.bool true)) (.tmp 11), [], false⟩, ⟨some 4, none, .mov (.tmp 12), [], false⟩] [4]
def k64_2 : SCode := .seq k64_1 .ret
def k64_3 : SCode := .seq k64_0 k64_2
@[simp] def rs_dial_within_1 : List SRes := [.tmp 4]
theorem law_dial_within_1 (cs : List CV) (r : CV) (hl : cs.length ≤ 13) (h : STri (cfF Tryz.prog [] 13) k64_3 (initT 0 cs) [] (retQ rs_dial_within_1 r)) : SC Tryz.prog 98 cs r :=
  sc_of [] follows Tryz.func98 rfl Tryz.ntmps98 (by decide) (by kernel_rfl) (by kernel_rfl) hl h
end Go.Proofs.YtlodpljdhdhfmaaGreat
/- The shadow code of functions that turn slices, or call such. -/
namespace Go.Proofs.YtlodpljdhdhfmaaGreat
open Go.RowKit
def turners : List FuncId := [74, 39]
def m_dial_joined_0 : SCode := .reg [⟨some 2, none, .mov (.const (.slice none 0 0)), [], false⟩] [0, 2]
def m_dial_joined_1 : SCode := .reg [⟨some 6, none, .mov (.tmp 0), [], false⟩, ⟨some 7, none, .callM 74 [(.tmp 6), (.func 75)], [], false⟩] [0, 2]
def m_dial_joined_2 : SCode := .reg [⟨some 8, none, .mov (.tmp 0), [], false⟩, ⟨some 9, none, .len (.tmp 8), [], false⟩, ⟨some 10, none, .mov (.const (.int .i64 0)), [], false⟩] [2, 8, 9, 10]
def m_dial_joined_3 : SCode := .reg [⟨some 11, none, .bin .lss (.tmp 10) (.tmp 9), [], false⟩] [2, 8, 9, 10, 11]
def m_dial_joined_4 : SCode := .cond (.tmp 11) .skip (.exit 0)
def m_dial_joined_5 : SCode := .reg [⟨some 12, none, .idxS 2 (.tmp 8) (.tmp 10), [], false⟩, ⟨some 13, none, .load true 2 (.tmp 12), [], false⟩, ⟨some 4, none, .alloc 34 [(.int .i64 0), (.int .i64 0)], [], false⟩, ⟨none, none, .store 2 (.tmp 4) (.tmp 13), [], false⟩] [2, 4, 8, 9, 10]
def m_dial_joined_6 : SCode := .reg [⟨some 14, none, .mov (.tmp 2), [], false⟩, ⟨some 15, none, .len (.tmp 14), [], false⟩, ⟨some 16, none, .bin .sub (.tmp 15) (.const (.int .i64 1)), [], false⟩, ⟨some 5, none, .mov (.tmp 16), [], false⟩] [2, 4, 5, 8, 9, 10]
def m_dial_joined_7 : SCode := .reg [⟨some 17, none, .mov (.tmp 5), [], false⟩, ⟨some 18, none, .bin .geq (.tmp 17) (.const (.int .i64 0)), [], false⟩, ⟨some 19, none, .mov (.tmp 18), [], false⟩, ⟨some 20, (some (19, true)), .fld 0 (.tmp 4), [], false⟩, ⟨some 21, (some (19, true)), .load false 1 (.tmp 20), [], false⟩, ⟨some 22, (some (19, true)), .mov (.tmp 2), [], false⟩, ⟨some 23, (some (19, true)), .mov (.tmp 5), [], false⟩, ⟨some 24, (some (19, true)), .idxS 2 (.tmp 22) (.tmp 23), [], false⟩, ⟨some 25, (some (19, true)), .fld 1 (.tmp 24), [], false⟩, ⟨some 26, (some (19, true)), .load false 1 (.tmp 25), [], false⟩, ⟨some 27, (some (19, true)), .bin .add (.tmp 26) (.const (.int .i64 1)), [], false⟩, ⟨some 28, (some (19, true)), .bin .leq (.tmp 21) (.tmp 27), [], false⟩, ⟨some 29, none, .pick (.tmp 19) (.tmp 28) (.const (.bool false)), [], false⟩] [2, 4, 5, 8, 9, 10, 29]
def m_dial_joined_8 : SCode := .reg [⟨some 30, none, .mov (.tmp 2), [], false⟩, ⟨some 31, none, .mov (.tmp 5), [], false⟩, ⟨some 32, none, .mov (.tmp 2), [], false⟩, ⟨some 33, none, .mov (.tmp 5), [], false⟩, ⟨some 34, none, .idxS 2 (.tmp 32) (.tmp 33), [], false⟩, ⟨some 35, none, .fld 1 (.tmp 34), [], false⟩, ⟨some 36, none, .load false 1 (.tmp 35), [], false⟩, ⟨some 37, none, .fld 1 (.tmp 4), [], false⟩, ⟨some 38, none, .load false 1 (.tmp 37), [], false⟩, ⟨some 39, none, .max [(.tmp 36), (.tmp 38)], [], false⟩, ⟨some 40, none, .idxS 2 (.tmp 30) (.tmp 31), [], false⟩, ⟨some 41, none, .fld 1 (.tmp 40), [], false⟩, ⟨none, none, .store 1 (.tmp 41) (.tmp 39), [], false⟩] [2, 8, 9, 10]
def m_dial_joined_9 : SCode := .reg [⟨some 42, none, .mov (.tmp 2), [], false⟩, ⟨some 43, none, .load true 2 (.tmp 4), [], false⟩, ⟨some 44, none, .buildSl 34 2 [(.int .i64 0), (.int .i64 0)] 1 [(0, (.tmp 43))], [], false⟩, ⟨some 45, none, .append 34 2 16 (.tmp 42) (.tmp 44), [], false⟩, ⟨some 2, none, .mov (.tmp 45), [], false⟩] [2, 8, 9, 10]
def m_dial_joined_10 : SCode := .cond (.tmp 29) m_dial_joined_8 m_dial_joined_9
def m_dial_joined_11 : SCode := .seq m_dial_joined_7 m_dial_joined_10
def m_dial_joined_12 : SCode := .seq m_dial_joined_6 m_dial_joined_11
def m_dial_joined_13 : SCode := .seq m_dial_joined_5 m_dial_joined_12
def m_dial_joined_14 : SCode := .block 1 m_dial_joined_13
def m_dial_joined_15 : SCode := .reg [⟨some 46, none, .bin .add (.tmp 10) (.const (.int .i64 1)), [], false⟩, ⟨some 10, none, .mov (.tmp 46), [], false⟩] [2, 8, 9, 10]
def m_dial_joined_16 : SCode := .seq m_dial_joined_14 m_dial_joined_15
def m_dial_joined_17 : SCode := .seq m_dial_joined_4 m_dial_joined_16
def m_dial_joined_18 : SCode := .seq m_dial_joined_3 m_dial_joined_17
def m_dial_joined_19 : SCode := .loop m_dial_joined_18
def m_dial_joined_20 : SCode := .block 0 m_dial_joined_19
def m_dial_joined_21 : SCode := .seq m_dial_joined_2 m_dial_joined_20
def m_dial_joined_22 : SCode := .reg [⟨some 47, none, .mov (.tmp 2), [], false⟩, ⟨some 2, none, .mov (.tmp 47), [], false⟩] [2]
def m_dial_joined_23 : SCode := .seq m_dial_joined_22 .ret
def m_dial_joined_24 : SCode := .seq m_dial_joined_21 m_dial_joined_23
def m_dial_joined_25 : SCode := .seq m_dial_joined_1 m_dial_joined_24
def m_dial_joined_26 : SCode := .seq m_dial_joined_0 m_dial_joined_25
theorem mlaw_dial_joined (t : TypeId) (k : Nat) (rows : List (List CV)) (cs : List CV) (R : List (List CV) → Prop) (r : CV) (hl : cs.length + 1 ≤ 48) (h : STri (cfM Tryz.prog turners 48) m_dial_joined_26 (initM rows.length cs) [(900, .arr t k rows)] (retM rs_dial_joined t k rows.length R r)) : MC Tryz.prog 39 t k rows cs R (some r) :=
  mc_of turners follows Tryz.func39 rfl Tryz.ntmps39 (by decide) (by kernel_rfl) (by kernel_rfl) hl h
def m_dial_Shows_0 : SCode := .reg [⟨some 4, none, .box 63 (.tmp 0), [], false⟩, ⟨some 7, none, .box 34 (.tmp 3), [], false⟩, ⟨some 8, none, .mov (.const (.slice none 0 0)), [], false⟩, ⟨some 9, none, .mov (.const (.int .i64 0)), [], false⟩] [1, 2, 4, 7, 8, 9]
def m_dial_Shows_1 : SCode := .reg [⟨some 18, none, .load true 4 (.tmp 4), [], false⟩, ⟨some 19, none, .mov (.tmp 1), [], false⟩, ⟨some 20, none, .mov (.tmp 2), [], false⟩, ⟨some 21, none, .load true 2 (.tmp 7), [], false⟩, ⟨some 22, none, .call 35 [(.tmp 18), (.tmp 19), (.tmp 20), (.tmp 21)], [], false⟩, ⟨some 17, none, .mov (.tmp 22), [], false⟩, ⟨some 23, none, .ext (.tmp 17) 0, [], false⟩, ⟨some 24, none, .ext (.tmp 17) 1, [], false⟩, ⟨some 10, none, .alloc 109 [(.int .i64 0), (.int .i64 0), (.int .i64 0), (.slice none 0 0), (.slice none 0 0), (.int .i64 0), (.int .i64 0), (.slice none 0 0), (.int .i64 0), (.int .i64 0), (.int .i64 0), (.int .i64 0), (.int .i64 0), (.int .i64 0)], [], false⟩, ⟨none, none, .store 14 (.tmp 10) (.tmp 23), [], false⟩, ⟨some 11, none, .mov (.tmp 24), [], false⟩] [8, 9, 10, 11]
def m_dial_Shows_2 : SCode := .reg [⟨some 25, none, .mov (.tmp 11), [], false⟩, ⟨some 26, none, .bin .neq (.tmp 25) (.const (.int .i64 0)), [], false⟩] [8, 9, 10, 11, 26]
def m_dial_Shows_3 : SCode := .reg [⟨some 27, none, .mov (.tmp 11), [], false⟩, ⟨some 8, none, .mov (.const (.slice none 0 0)), [], false⟩, ⟨some 9, none, .mov (.tmp 27), [], false⟩] [8, 9]
def m_dial_Shows_4 : SCode := .seq m_dial_Shows_3 .ret
def m_dial_Shows_5 : SCode := .cond (.tmp 26) m_dial_Shows_4 .skip
def m_dial_Shows_6 : SCode := .seq m_dial_Shows_2 m_dial_Shows_5
def m_dial_Shows_7 : SCode := .reg [⟨some 12, none, .alloc 65 [(.slice none 0 0)], [], false⟩] [8, 9, 10, 12]
def m_dial_Shows_8 : SCode := .reg [⟨some 28, none, .load true 14 (.tmp 10), [], false⟩, ⟨some 29, none, .mkFn 37 [(.tmp 28)] [], [], false⟩] [8, 9, 12, 29]
def m_dial_Shows_9 : SCode := .reg [⟨some 13, none, .alloc 34 [(.int .i64 0), (.int .i64 0)], [], false⟩, ⟨none, none, .store 2 (.tmp 13) (.tmp 30), [], false⟩] [12, 13]
def m_dial_Shows_10 : SCode := .reg [⟨some 31, none, .fld 0 (.tmp 13), [], false⟩, ⟨some 32, none, .load false 1 (.tmp 31), [], false⟩, ⟨some 33, none, .call 38 [(.tmp 32), (.const (.int .i64 43200))], [], false⟩, ⟨some 34, none, .fld 1 (.tmp 13), [], false⟩, ⟨some 35, none, .load false 1 (.tmp 34), [], false⟩, ⟨some 36, none, .fld 0 (.tmp 13), [], false⟩, ⟨some 37, none, .load false 1 (.tmp 36), [], false⟩, ⟨some 38, none, .bin .sub (.tmp 35) (.tmp 37), [], false⟩, ⟨some 14, none, .mov (.tmp 33), [], false⟩, ⟨some 15, none, .mov (.tmp 38), [], false⟩] [12, 14, 15]
def m_dial_Shows_11 : SCode := .reg [⟨some 39, none, .load false 1 (.tmp 12), [], false⟩, ⟨some 40, none, .mov (.tmp 14), [], false⟩, ⟨some 41, none, .mov (.tmp 14), [], false⟩, ⟨some 42, none, .mov (.tmp 15), [], false⟩, ⟨some 43, none, .bin .add (.tmp 41) (.tmp 42), [], false⟩, ⟨some 44, none, .min [(.const (.int .i64 43199)), (.tmp 43)], [], false⟩, ⟨some 45, none, .build [(.int .i64 0), (.int .i64 0)] [(0, 1, (.tmp 40)), (1, 1, (.tmp 44))], [], false⟩, ⟨some 46, none, .buildSl 34 2 [(.int .i64 0), (.int .i64 0)] 1 [(0, (.tmp 45))], [], false⟩, ⟨some 47, none, .append 34 2 16 (.tmp 39) (.tmp 46), [], false⟩, ⟨none, none, .store 1 (.tmp 12) (.tmp 47), [], false⟩] [12, 14, 15]
def m_dial_Shows_12 : SCode := .reg [⟨some 48, none, .mov (.tmp 14), [], false⟩, ⟨some 49, none, .mov (.tmp 15), [], false⟩, ⟨some 50, none, .bin .add (.tmp 48) (.tmp 49), [], false⟩, ⟨some 51, none, .bin .sub (.tmp 50) (.const (.int .i64 43200)), [], false⟩, ⟨some 16, none, .mov (.tmp 51), [], false⟩] [12, 16]
def m_dial_Shows_13 : SCode := .reg [⟨some 52, none, .mov (.tmp 16), [], false⟩, ⟨some 53, none, .bin .geq (.tmp 52) (.const (.int .i64 0)), [], false⟩] [12, 16, 53]
def m_dial_Shows_14 : SCode := .reg [⟨some 54, none, .load false 1 (.tmp 12), [], false⟩, ⟨some 55, none, .mov (.tmp 16), [], false⟩, ⟨some 56, none, .build [(.int .i64 0), (.int .i64 0)] [(1, 1, (.tmp 55))], [], false⟩, ⟨some 57, none, .buildSl 34 2 [(.int .i64 0), (.int .i64 0)] 1 [(0, (.tmp 56))], [], false⟩, ⟨some 58, none, .append 34 2 16 (.tmp 54) (.tmp 57), [], false⟩, ⟨none, none, .store 1 (.tmp 12) (.tmp 58), [], false⟩] []
def m_dial_Shows_15 : SCode := .cond (.tmp 53) m_dial_Shows_14 .skip
def m_dial_Shows_16 : SCode := .seq m_dial_Shows_13 m_dial_Shows_15
def m_dial_Shows_17 : SCode := .seq m_dial_Shows_12 m_dial_Shows_16
def m_dial_Shows_18 : SCode := .seq m_dial_Shows_11 m_dial_Shows_17
def m_dial_Shows_19 : SCode := .seq m_dial_Shows_10 m_dial_Shows_18
def m_dial_Shows_20 : SCode := .block 1 m_dial_Shows_19
def m_dial_Shows_21 : SCode := .range (.tmp 29) [30] m_dial_Shows_9 m_dial_Shows_20
def m_dial_Shows_22 : SCode := .block 0 m_dial_Shows_21
def m_dial_Shows_23 : SCode := .seq m_dial_Shows_8 m_dial_Shows_22
def m_dial_Shows_24 : SCode := .reg [⟨some 59, none, .load false 1 (.tmp 12), [], false⟩, ⟨some 60, none, .callM 39 [(.tmp 59)], [], false⟩, ⟨some 8, none, .mov (.tmp 60), [], false⟩, ⟨some 9, none, .mov (.const (.int .i64 0)), [], false⟩] [8, 9]
def m_dial_Shows_25 : SCode := .seq m_dial_Shows_24 .ret
def m_dial_Shows_26 : SCode := .seq m_dial_Shows_23 m_dial_Shows_25
def m_dial_Shows_27 : SCode := .seq m_dial_Shows_7 m_dial_Shows_26
def m_dial_Shows_28 : SCode := .seq m_dial_Shows_6 m_dial_Shows_27
def m_dial_Shows_29 : SCode := .seq m_dial_Shows_1 m_dial_Shows_28
def m_dial_Shows_30 : SCode := .seq m_dial_Shows_0 m_dial_Shows_29
theorem mlaw_dial_Shows (cs : List CV) (r : CV) (hl : cs.length ≤ 61) (h : STri (cfF Tryz.prog turners 61) m_dial_Shows_30 (initT 0 cs) [] (retQ rs_dial_Shows r)) : SC Tryz.prog 19 cs r :=
  sc_of turners follows Tryz.func19 rfl Tryz.ntmps19 (by decide) (by kernel_rfl) (by kernel_rfl) hl h
end Go.Proofs.YtlodpljdhdhfmaaGreat
/- What several chapters share: plain. -/
namespace Go.Proofs.YtlodpljdhdhfmaaGreat
open Go.RowKit
def rowI (x : Int) : List CV := [I x]
def slI (xs : List Int) : CV := .sl 1 (xs.map rowI)
attribute [simp] rowI slI
def outB (lo hi n : Int) : Bool := decide (n < lo) || decide (n > hi)
structure Ent (P : Program) (f : FuncId) : Prop where
  h : entB P f = true
def ixF (p : Int → Bool) (l : List Int) : Int := match l.findIdx? p with
  | some i => i
  | none => -1
def NoneTo (p : Int → Bool) (l : List Int) (k : Nat) : Prop := ∀ x ∈ l.take k, p x = false
theorem ix_at {p : Int → Bool} {l : List Int} {k : Nat} (hlt : k < l.length) (h : NoneTo p l k) (hc : p l[k] = true) : ixF p l = k := by
  have : l.findIdx? p = some k := by
    rw [List.findIdx?_eq_some_iff_getElem]
    refine ⟨hlt, hc, fun j hj => ?_⟩
    have := h l[j] (List.mem_take_iff_getElem.2 ⟨j, by omega, rfl⟩)
    simp [this]
  unfold ixF; rw [this]
theorem ix_none {p : Int → Bool} {l : List Int} (h : NoneTo p l l.length) : ixF p l = -1 := by
  have : l.findIdx? p = none := by
    rw [List.findIdx?_eq_none_iff]
    intro x hx
    exact h x (by rw [List.take_length]; exact hx)
  unfold ixF; rw [this]
theorem none_succ {p : Int → Bool} {l : List Int} {k : Nat} (hlt : k < l.length) (h : NoneTo p l k) (hc : p l[k] = false) : NoneTo p l (k + 1) := fun x hx => by
  rw [List.take_succ_eq_append_getElem hlt, List.mem_append] at hx
  rcases hx with hx | hx
  · exact h x hx
  · simp at hx; rw [hx]; exact hc
theorem ix_pos {p : Int → Bool} {l : List Int} : decide (ixF p l ≥ 0) = l.any p := by
  unfold ixF
  rw [Bool.eq_iff_iff]
  cases h : l.findIdx? p with
  | none =>
    rw [List.findIdx?_eq_none_iff] at h
    simp; exact h
  | some i =>
    have h1 := (List.findIdx?_eq_some_iff_getElem.1 h)
    obtain ⟨hi, hp, _⟩ := h1
    simp
    exact ⟨l[i], List.getElem_mem hi, hp⟩
def inB (lo hi n : Int) : Bool := decide (lo ≤ n) && decide (n ≤ hi)
def allIn (lo hi : Int) (l : List Int) : Bool := l.all (inB lo hi)
theorem allIn_eq (lo hi : Int) (l : List Int) : (!l.any (outB lo hi)) = allIn lo hi l := by
  unfold allIn
  rw [List.not_any_eq_all_not]
  congr 1
  funext n
  unfold outB inB
  rw [Bool.eq_iff_iff]; simp
def gcdI (a b : Int) (m : Nat) (T : TL) (H : HL) : Prop := ∃ a' b' : Int, 0 ≤ a' ∧ 0 ≤ b' ∧ Int.gcd a' b' = Int.gcd a b ∧ m = b'.toNat ∧ T = [(0, .c (I a')), (1, .c (I b'))] ∧ H = []
theorem gcd_tmod {a b : Int} (ha : 0 ≤ a) (hb : 0 ≤ b) : Int.gcd b (a.tmod b) = Int.gcd a b := by
  rw [Int.tmod_eq_emod_of_nonneg ha]
  obtain ⟨x, rfl⟩ := Int.eq_ofNat_of_zero_le ha
  obtain ⟨y, rfl⟩ := Int.eq_ofNat_of_zero_le hb
  have e : ((x : Int) % (y : Int)) = ((x % y : Nat) : Int) := by simp
  rw [e]
  show Nat.gcd _ _ = Nat.gcd _ _
  simp only [Int.natAbs_natCast]
  rw [Nat.gcd_comm y, ← Nat.gcd_rec, Nat.gcd_comm]
theorem mod_eq (n b : Int) (h : 0 < b) : (n.tmod b + b).tmod b = n % b := by
  have h0 := Int.emod_nonneg n (show b ≠ 0 by omega)
  have h1 := Int.emod_lt_of_pos n h
  have e : n.tmod b = n % b ∨ n.tmod b = n % b - b := by
    rw [Int.tmod_eq_emod]
    split
    · left; omega
    · right; omega
  rcases e with e | e
  · rw [e, Int.tmod_eq_emod_of_nonneg (by omega), Int.add_emod_right, Int.emod_emod]
  · rw [e, Int.sub_add_cancel, Int.tmod_eq_emod_of_nonneg h0, Int.emod_emod]
theorem tmod_lt (n b : Int) (h : 0 < b) : -b < n.tmod b ∧ n.tmod b < b := by
  have h0 := Int.emod_nonneg n (show b ≠ 0 by omega)
  have h1 := Int.emod_lt_of_pos n h
  rw [Int.tmod_eq_emod]
  split <;> omega
theorem CLes.refl : ∀ xs : List CV, CLes xs xs
  | [] => .nil
  | x :: xs => .cons _ _ _ _ (.refl x) (CLes.refl xs)
theorem cle_nilT (k : Nat) (xs : List CV) : CLe (.tup (.val (.slice none 0 0) :: xs)) (.tup (.sl k [] :: xs)) := .tup _ _ (.cons _ _ _ _ (.nil k) (CLes.refl xs))
end Go.Proofs.YtlodpljdhdhfmaaGreat
/- What several chapters share: contracts of the library. -/
namespace Go.Proofs.YtlodpljdhdhfmaaGreat
open Go.RowKit
theorem sIndexFunc (l : List Int) (f : FuncId) (fs cs : List CV) (p : Int → Bool) (hl : l.length ≤ 1000000) (he : Ent Tryz.prog f) (hp : ∀ x ∈ l, SC Tryz.prog f (fs ++ [I x] ++ cs) (B (p x))) : SC Tryz.prog 112 [slI l, .fn f fs cs] (I (ixF p l)) := by
  refine law_slices_IndexFunc_int_int _ _ (by simp) ?_
  unfold slI
  (repeat' (first | ((first | with_reducible refine st_skip ?_ | with_reducible refine st_exit ?_); (try simp only [seqQ, blockQ, loopQ, forQ, whileQ, reduceIte, Nat.reduceEqDiff])) | (with_reducible refine st_ret ?_; ((try simp only [seqQ, blockQ, loopQ, forQ, whileQ]); first | (with_reducible refine retM_ret ?_) | refine retQ_ret ?_; simp)) | refine st_seq ?_ | refine st_block ?_ | ((with_reducible show (STri _ _ _ _ _) ∧ (STri _ _ _ _ _)); refine And.intro ?_ ?_) | ((first | refine st_reg ?_ | refine buildP_own ?_ | refine appP_own ?_) <;> (simp -dsimp; (repeat (simp -dsimp (disch := (first | omega | assumption | (refine Bool.eq_false_iff.1 ?_; assumption))) only [wrap_in, if_pos, if_neg]; (try simp -dsimp))))) | ((first | refine guardP_of (fun hc => ?_) (fun hc => ?_) | refine st_cond rfl (fun hc => ?_) (fun hc => ?_)) <;> (try simp only [lqA, lqB, lqC, lqD, lqE, lqF, lqG, lqH, lqI, lqJ, lqK, lqL, lqM, lqN, lqO] at hc) <;> (try (exfalso; first | omega | exact bool_tf hc (by assumption) | exact bool_ft hc (by assumption) | exact absurd (by assumption) hc)) <;> (first | with_reducible show STri _ _ _ _ _ _ | (simp -dsimp [hc]; (repeat (simp -dsimp (disch := (first | omega | assumption | (refine Bool.eq_false_iff.1 ?_; assumption))) only [wrap_in, if_pos, if_neg]; (try simp -dsimp [hc]))))))))
  refine st_for [] l.length (fun k T H => NoneTo p l k ∧ T = [(0, .c (.sl 1 (l.map rowI))), (1, .c (.fn f fs cs)), (7, .c (I l.length)), (8, .c (I k))] ∧ H = []) (by simp) ⟨by simp [NoneTo], by simp, rfl⟩ ?_
  rintro k T H hk ⟨ht, rfl, rfl⟩
  by_cases hlt : k < l.length
  · (repeat' (first | ((first | with_reducible refine st_skip ?_ | with_reducible refine st_exit ?_); (try simp only [seqQ, blockQ, loopQ, forQ, whileQ, reduceIte, Nat.reduceEqDiff])) | (with_reducible refine st_ret ?_; ((try simp only [seqQ, blockQ, loopQ, forQ, whileQ]); first | (with_reducible refine retM_ret ?_) | refine retQ_ret ?_; simp [hlt])) | refine st_seq ?_ | refine st_block ?_ | ((with_reducible show (STri _ _ _ _ _) ∧ (STri _ _ _ _ _)); refine And.intro ?_ ?_) | ((first | refine st_reg ?_ | ((with_reducible show callVP _ _ _ _ _ _ _); refine callV_b (by first | exact Ent.h (by assumption) | kernel_rfl) (hp l[k] (List.getElem_mem hlt)) rfl ?_) | refine buildP_own ?_ | refine appP_own ?_) <;> (simp -dsimp [hlt]; (repeat (simp -dsimp (disch := (first | omega | assumption | (refine Bool.eq_false_iff.1 ?_; assumption))) only [wrap_in, if_pos, if_neg]; (try simp -dsimp [hlt]))))) | ((first | refine guardP_of (fun hc => ?_) (fun hc => ?_) | refine st_cond rfl (fun hc => ?_) (fun hc => ?_)) <;> (try simp only [lqA, lqB, lqC, lqD, lqE, lqF, lqG, lqH, lqI, lqJ, lqK, lqL, lqM, lqN, lqO] at hc) <;> (try (exfalso; first | omega | exact bool_tf hc (by assumption) | exact bool_ft hc (by assumption) | exact absurd (by assumption) hc)) <;> (first | with_reducible show STri _ _ _ _ _ _ | (simp -dsimp [hlt, hc]; (repeat (simp -dsimp (disch := (first | omega | assumption | (refine Bool.eq_false_iff.1 ?_; assumption))) only [wrap_in, if_pos, if_neg]; (try simp -dsimp [hlt, hc]))))))))
    · refine CLe.int ?_; rw [ix_at hlt ht hc]
    · exact ⟨hlt, by simp, none_succ hlt ht hc, by simp, rfl⟩
  · (repeat' (first | ((first | with_reducible refine st_skip ?_ | with_reducible refine st_exit ?_); (try simp only [seqQ, blockQ, loopQ, forQ, whileQ, reduceIte, Nat.reduceEqDiff])) | (with_reducible refine st_ret ?_; ((try simp only [seqQ, blockQ, loopQ, forQ, whileQ]); first | (with_reducible refine retM_ret ?_) | refine retQ_ret ?_; simp [hlt])) | refine st_seq ?_ | refine st_block ?_ | ((with_reducible show (STri _ _ _ _ _) ∧ (STri _ _ _ _ _)); refine And.intro ?_ ?_) | ((first | refine st_reg ?_ | refine buildP_own ?_ | refine appP_own ?_) <;> (simp -dsimp [hlt]; (repeat (simp -dsimp (disch := (first | omega | assumption | (refine Bool.eq_false_iff.1 ?_; assumption))) only [wrap_in, if_pos, if_neg]; (try simp -dsimp [hlt]))))) | ((first | refine guardP_of (fun hc => ?_) (fun hc => ?_) | refine st_cond rfl (fun hc => ?_) (fun hc => ?_)) <;> (try simp only [lqA, lqB, lqC, lqD, lqE, lqF, lqG, lqH, lqI, lqJ, lqK, lqL, lqM, lqN, lqO] at hc) <;> (try (exfalso; first | omega | exact bool_tf hc (by assumption) | exact bool_ft hc (by assumption) | exact absurd (by assumption) hc)) <;> (first | with_reducible show STri _ _ _ _ _ _ | (simp -dsimp [hlt, hc]; (repeat (simp -dsimp (disch := (first | omega | assumption | (refine Bool.eq_false_iff.1 ?_; assumption))) only [wrap_in, if_pos, if_neg]; (try simp -dsimp [hlt, hc]))))))))
    have : k = l.length := by omega
    subst this
    refine CLe.int ?_; rw [ix_none ht]
theorem sContainsFunc (l : List Int) (f : FuncId) (fs cs : List CV) (p : Int → Bool) (hl : l.length ≤ 1000000) (he : Ent Tryz.prog f) (hp : ∀ x ∈ l, SC Tryz.prog f (fs ++ [I x] ++ cs) (B (p x))) : SC Tryz.prog 93 [slI l, .fn f fs cs] (B (l.any p)) := by
  refine law_slices_ContainsFunc_int_int _ _ (by simp) ?_
  (repeat' (first | ((first | with_reducible refine st_skip ?_ | with_reducible refine st_exit ?_); (try simp only [seqQ, blockQ, loopQ, forQ, whileQ, reduceIte, Nat.reduceEqDiff])) | (with_reducible refine st_ret ?_; ((try simp only [seqQ, blockQ, loopQ, forQ, whileQ]); first | (with_reducible refine retM_ret ?_) | refine retQ_ret ?_; simp)) | refine st_seq ?_ | refine st_block ?_ | ((with_reducible show (STri _ _ _ _ _) ∧ (STri _ _ _ _ _)); refine And.intro ?_ ?_) | ((first | refine st_reg ?_ | refine buildP_own ?_ | refine appP_own ?_ | refine callP_b (sIndexFunc l f fs cs p hl he hp) rfl ?_) <;> (simp -dsimp; (repeat (simp -dsimp (disch := (first | omega | assumption | (refine Bool.eq_false_iff.1 ?_; assumption))) only [wrap_in, if_pos, if_neg]; (try simp -dsimp))))) | ((first | refine guardP_of (fun hc => ?_) (fun hc => ?_) | refine st_cond rfl (fun hc => ?_) (fun hc => ?_)) <;> (try simp only [lqA, lqB, lqC, lqD, lqE, lqF, lqG, lqH, lqI, lqJ, lqK, lqL, lqM, lqN, lqO] at hc) <;> (try (exfalso; first | omega | exact bool_tf hc (by assumption) | exact bool_ft hc (by assumption) | exact absurd (by assumption) hc)) <;> (first | with_reducible show STri _ _ _ _ _ _ | (simp -dsimp [hc]; (repeat (simp -dsimp (disch := (first | omega | assumption | (refine Bool.eq_false_iff.1 ?_; assumption))) only [wrap_in, if_pos, if_neg]; (try simp -dsimp [hc]))))))))
  all_goals (refine CLe.bool ?_; exact ix_pos)
end Go.Proofs.YtlodpljdhdhfmaaGreat
/- Dial, I: small functions. -/
namespace Go.Proofs.YtlodpljdhdhfmaaGreat
open Go.RowKit
theorem sWithin1 (n lo hi : Int) : SC Tryz.prog 98 [I n, .ref [I lo], .ref [I hi]] (B (outB lo hi n)) := by
  refine law_dial_within_1 _ _ (by simp) ?_
  unfold outB
  (repeat' (first | ((first | with_reducible refine st_skip ?_ | with_reducible refine st_exit ?_); (try simp only [seqQ, blockQ, loopQ, forQ, whileQ, reduceIte, Nat.reduceEqDiff])) | (with_reducible refine st_ret ?_; ((try simp only [seqQ, blockQ, loopQ, forQ, whileQ]); first | (with_reducible refine retM_ret ?_) | refine retQ_ret ?_; simp)) | refine st_seq ?_ | refine st_block ?_ | ((with_reducible show (STri _ _ _ _ _) ∧ (STri _ _ _ _ _)); refine And.intro ?_ ?_) | ((first | refine st_reg ?_ | refine buildP_own ?_ | refine appP_own ?_) <;> (simp -dsimp; (repeat (simp -dsimp (disch := (first | omega | assumption | (refine Bool.eq_false_iff.1 ?_; assumption))) only [wrap_in, if_pos, if_neg]; (try simp -dsimp))))) | ((first | refine guardP_of (fun hc => ?_) (fun hc => ?_) | refine st_cond rfl (fun hc => ?_) (fun hc => ?_)) <;> (try simp only [lqA, lqB, lqC, lqD, lqE, lqF, lqG, lqH, lqI, lqJ, lqK, lqL, lqM, lqN, lqO] at hc) <;> (try (exfalso; first | omega | exact bool_tf hc (by assumption) | exact bool_ft hc (by assumption) | exact absurd (by assumption) hc)) <;> (first | with_reducible show STri _ _ _ _ _ _ | (simp -dsimp [hc]; (repeat (simp -dsimp (disch := (first | omega | assumption | (refine Bool.eq_false_iff.1 ?_; assumption))) only [wrap_in, if_pos, if_neg]; (try simp -dsimp [hc]))))))))
  all_goals (refine CLe.bool ?_; rw [Bool.eq_iff_iff]; simp; try omega)
theorem sWithin (lo hi : Int) (l : List Int) (hl : l.length ≤ 1000000) : SC Tryz.prog 66 [I lo, I hi, slI l] (B (allIn lo hi l)) := by
  refine law_dial_within _ _ (by simp) ?_
  (repeat' (first | ((first | with_reducible refine st_skip ?_ | with_reducible refine st_exit ?_); (try simp only [seqQ, blockQ, loopQ, forQ, whileQ, reduceIte, Nat.reduceEqDiff])) | (with_reducible refine st_ret ?_; ((try simp only [seqQ, blockQ, loopQ, forQ, whileQ]); first | (with_reducible refine retM_ret ?_) | refine retQ_ret ?_; simp)) | refine st_seq ?_ | refine st_block ?_ | ((with_reducible show (STri _ _ _ _ _) ∧ (STri _ _ _ _ _)); refine And.intro ?_ ?_) | ((first | refine st_reg ?_ | refine buildP_own ?_ | refine appP_own ?_ | refine callP_b (sContainsFunc l 98 [] [.ref [I lo], .ref [I hi]] (outB lo hi) hl ⟨by kernel_rfl⟩ (fun x _ => sWithin1 x lo hi)) rfl ?_) <;> (simp -dsimp; (repeat (simp -dsimp (disch := (first | omega | assumption | (refine Bool.eq_false_iff.1 ?_; assumption))) only [wrap_in, if_pos, if_neg]; (try simp -dsimp))))) | ((first | refine guardP_of (fun hc => ?_) (fun hc => ?_) | refine st_cond rfl (fun hc => ?_) (fun hc => ?_)) <;> (try simp only [lqA, lqB, lqC, lqD, lqE, lqF, lqG, lqH, lqI, lqJ, lqK, lqL, lqM, lqN, lqO] at hc) <;> (try (exfalso; first | omega | exact bool_tf hc (by assumption) | exact bool_ft hc (by assumption) | exact absurd (by assumption) hc)) <;> (first | with_reducible show STri _ _ _ _ _ _ | (simp -dsimp [hc]; (repeat (simp -dsimp (disch := (first | omega | assumption | (refine Bool.eq_false_iff.1 ?_; assumption))) only [wrap_in, if_pos, if_neg]; (try simp -dsimp [hc]))))))))
  all_goals (refine CLe.bool ?_; exact allIn_eq lo hi l)
theorem sGcd (a b : Int) (ha : 0 ≤ a) (hb : 0 ≤ b) : SC Tryz.prog 114 [I a, I b] (I (Int.gcd a b)) := by
  refine law_dial_gcd _ _ (by simp) ?_
  (repeat' (first | ((first | with_reducible refine st_skip ?_ | with_reducible refine st_exit ?_); (try simp only [seqQ, blockQ, loopQ, forQ, whileQ, reduceIte, Nat.reduceEqDiff])) | (with_reducible refine st_ret ?_; ((try simp only [seqQ, blockQ, loopQ, forQ, whileQ]); first | (with_reducible refine retM_ret ?_) | refine retQ_ret ?_; simp)) | refine st_seq ?_ | refine st_block ?_ | ((with_reducible show (STri _ _ _ _ _) ∧ (STri _ _ _ _ _)); refine And.intro ?_ ?_) | ((first | refine st_reg ?_ | refine buildP_own ?_ | refine appP_own ?_) <;> (simp -dsimp; (repeat (simp -dsimp (disch := (first | omega | assumption | (refine Bool.eq_false_iff.1 ?_; assumption))) only [wrap_in, if_pos, if_neg]; (try simp -dsimp))))) | ((first | refine guardP_of (fun hc => ?_) (fun hc => ?_) | refine st_cond rfl (fun hc => ?_) (fun hc => ?_)) <;> (try simp only [lqA, lqB, lqC, lqD, lqE, lqF, lqG, lqH, lqI, lqJ, lqK, lqL, lqM, lqN, lqO] at hc) <;> (try (exfalso; first | omega | exact bool_tf hc (by assumption) | exact bool_ft hc (by assumption) | exact absurd (by assumption) hc)) <;> (first | with_reducible show STri _ _ _ _ _ _ | (simp -dsimp [hc]; (repeat (simp -dsimp (disch := (first | omega | assumption | (refine Bool.eq_false_iff.1 ?_; assumption))) only [wrap_in, if_pos, if_neg]; (try simp -dsimp [hc]))))))))
  refine st_while [] (gcdI a b) b.toNat (by simp) ⟨a, b, ha, hb, rfl, rfl, rfl, rfl⟩ ?_
  rintro m T H ⟨a', b', h1, h2, h3, rfl, rfl, rfl⟩
  by_cases h0 : 0 < b'
  · have hne : ¬ b' = 0 := by omega
    have ht : a'.tmod b' = a' % b' := Int.tmod_eq_emod_of_nonneg h1
    have g1 := Int.emod_lt_of_pos a' h0
    have g2 := Int.emod_nonneg a' hne
    (repeat' (first | ((first | with_reducible refine st_skip ?_ | with_reducible refine st_exit ?_); (try simp only [seqQ, blockQ, loopQ, forQ, whileQ, reduceIte, Nat.reduceEqDiff])) | (with_reducible refine st_ret ?_; ((try simp only [seqQ, blockQ, loopQ, forQ, whileQ]); first | (with_reducible refine retM_ret ?_) | refine retQ_ret ?_; simp [h0, hne])) | refine st_seq ?_ | refine st_block ?_ | ((with_reducible show (STri _ _ _ _ _) ∧ (STri _ _ _ _ _)); refine And.intro ?_ ?_) | ((first | refine st_reg ?_ | refine buildP_own ?_ | refine appP_own ?_) <;> (simp -dsimp [h0, hne]; (repeat (simp -dsimp (disch := (first | omega | assumption | (refine Bool.eq_false_iff.1 ?_; assumption))) only [wrap_in, if_pos, if_neg]; (try simp -dsimp [h0, hne]))))) | ((first | refine guardP_of (fun hc => ?_) (fun hc => ?_) | refine st_cond rfl (fun hc => ?_) (fun hc => ?_)) <;> (try simp only [lqA, lqB, lqC, lqD, lqE, lqF, lqG, lqH, lqI, lqJ, lqK, lqL, lqM, lqN, lqO] at hc) <;> (try (exfalso; first | omega | exact bool_tf hc (by assumption) | exact bool_ft hc (by assumption) | exact absurd (by assumption) hc)) <;> (first | with_reducible show STri _ _ _ _ _ _ | (simp -dsimp [h0, hne, hc]; (repeat (simp -dsimp (disch := (first | omega | assumption | (refine Bool.eq_false_iff.1 ?_; assumption))) only [wrap_in, if_pos, if_neg]; (try simp -dsimp [h0, hne, hc]))))))))
    exact ⟨(a'.tmod b').toNat, by rw [ht]; omega, by simp, b', a'.tmod b', h2, by rw [ht]; exact g2, by rw [← h3]; exact gcd_tmod h1 h2, rfl, by simp, rfl⟩
  · have : b' = 0 := by omega
    subst this
    (repeat' (first | ((first | with_reducible refine st_skip ?_ | with_reducible refine st_exit ?_); (try simp only [seqQ, blockQ, loopQ, forQ, whileQ, reduceIte, Nat.reduceEqDiff])) | (with_reducible refine st_ret ?_; ((try simp only [seqQ, blockQ, loopQ, forQ, whileQ]); first | (with_reducible refine retM_ret ?_) | refine retQ_ret ?_; simp)) | refine st_seq ?_ | refine st_block ?_ | ((with_reducible show (STri _ _ _ _ _) ∧ (STri _ _ _ _ _)); refine And.intro ?_ ?_) | ((first | refine st_reg ?_ | refine buildP_own ?_ | refine appP_own ?_) <;> (simp -dsimp; (repeat (simp -dsimp (disch := (first | omega | assumption | (refine Bool.eq_false_iff.1 ?_; assumption))) only [wrap_in, if_pos, if_neg]; (try simp -dsimp))))) | ((first | refine guardP_of (fun hc => ?_) (fun hc => ?_) | refine st_cond rfl (fun hc => ?_) (fun hc => ?_)) <;> (try simp only [lqA, lqB, lqC, lqD, lqE, lqF, lqG, lqH, lqI, lqJ, lqK, lqL, lqM, lqN, lqO] at hc) <;> (try (exfalso; first | omega | exact bool_tf hc (by assumption) | exact bool_ft hc (by assumption) | exact absurd (by assumption) hc)) <;> (first | with_reducible show STri _ _ _ _ _ _ | (simp -dsimp [hc]; (repeat (simp -dsimp (disch := (first | omega | assumption | (refine Bool.eq_false_iff.1 ?_; assumption))) only [wrap_in, if_pos, if_neg]; (try simp -dsimp [hc]))))))))
    refine CLe.int ?_
    rw [← h3]; simp; omega
end Go.Proofs.YtlodpljdhdhfmaaGreat
/- Dial, II: spans, links, forces. -/
namespace Go.Proofs.YtlodpljdhdhfmaaGreat
open Go.RowKit
structure Lk where
  (slack num den : Int)
structure Fc where
  (lo hi : Int) (links : List Lk) (weight friction : Int)
structure Dw where
  (jump elo ehi : Int) (faces : List Fc)
def rowL (l : Lk) : List CV := [I l.slack, I l.num, I l.den]
def slLd (ls : List Lk) : CV := .sl 3 (ls.map rowL)
def rowF (f : Fc) : List CV := [I f.lo, I f.hi, slLd f.links, I f.weight, I f.friction]
def slF (fs : List Fc) : CV := .sl 5 (fs.map rowF)
def cF (f : Fc) : CV := .agg (rowF f)
def rowX (f : Fc) (s : Int) : List CV := [I f.lo, I f.hi, slLd f.links, I f.weight, I f.friction, I s]
def cX (f : Fc) (s : Int) : CV := .agg (rowX f s)
def cL (l : Lk) : CV := .agg (rowL l)
def cS (a b : Int) : CV := .agg [I a, I b]
def cDw (w : Dw) : CV := .agg [I w.jump, I w.elo, I w.ehi, slF w.faces]
attribute [simp] rowL slLd rowF slF cF rowX cX cL cS cDw
def overI (n b : Int) : Int := (n + b - 1).tdiv b
theorem sOver (n b : Int) (h1 : -4000000000000000000 ≤ n) (h2 : n ≤ 5000000000000000000) (h3 : 0 < b) (h4 : b ≤ 4000000000000000000) : SC Tryz.prog 115 [I n, I b] (I (overI n b)) := by
  refine law_dial_over _ _ (by simp) ?_
  have hne : ¬ b = 0 := by omega
  have hb : IntKind.i64.wrap ((n + b - 1).tdiv b) = (n + b - 1).tdiv b := by
    refine wrap_in _ ?_ ?_
    · have := Int.natAbs_tdiv_le_natAbs (n + b - 1) b; omega
    · have := Int.natAbs_tdiv_le_natAbs (n + b - 1) b; omega
  (repeat' (first | ((first | with_reducible refine st_skip ?_ | with_reducible refine st_exit ?_); (try simp only [seqQ, blockQ, loopQ, forQ, whileQ, reduceIte, Nat.reduceEqDiff])) | (with_reducible refine st_ret ?_; ((try simp only [seqQ, blockQ, loopQ, forQ, whileQ]); first | (with_reducible refine retM_ret ?_) | refine retQ_ret ?_; simp [hne, hb])) | refine st_seq ?_ | refine st_block ?_ | ((with_reducible show (STri _ _ _ _ _) ∧ (STri _ _ _ _ _)); refine And.intro ?_ ?_) | ((first | refine st_reg ?_ | refine buildP_own ?_ | refine appP_own ?_) <;> (simp -dsimp [hne, hb]; (repeat (simp -dsimp (disch := (first | omega | assumption | (refine Bool.eq_false_iff.1 ?_; assumption))) only [wrap_in, if_pos, if_neg]; (try simp -dsimp [hne, hb]))))) | ((first | refine guardP_of (fun hc => ?_) (fun hc => ?_) | refine st_cond rfl (fun hc => ?_) (fun hc => ?_)) <;> (try simp only [lqA, lqB, lqC, lqD, lqE, lqF, lqG, lqH, lqI, lqJ, lqK, lqL, lqM, lqN, lqO] at hc) <;> (try (exfalso; first | omega | exact bool_tf hc (by assumption) | exact bool_ft hc (by assumption) | exact absurd (by assumption) hc)) <;> (first | with_reducible show STri _ _ _ _ _ _ | (simp -dsimp [hne, hb, hc]; (repeat (simp -dsimp (disch := (first | omega | assumption | (refine Bool.eq_false_iff.1 ?_; assumption))) only [wrap_in, if_pos, if_neg]; (try simp -dsimp [hne, hb, hc]))))))))
  exact .refl _
theorem sModulo (n b : Int) (h3 : 0 < b) (h4 : b ≤ 1000000000000) : SC Tryz.prog 38 [I n, I b] (I (n % b)) := by
  refine law_dial_modulo _ _ (by simp) ?_
  have hne : ¬ b = 0 := by omega
  have hb : IntKind.i64.wrap (n.tmod b + b) = n.tmod b + b := by
    have := tmod_lt n b h3
    exact wrap_in _ (by omega) (by omega)
  have he := mod_eq n b h3
  (repeat' (first | ((first | with_reducible refine st_skip ?_ | with_reducible refine st_exit ?_); (try simp only [seqQ, blockQ, loopQ, forQ, whileQ, reduceIte, Nat.reduceEqDiff])) | (with_reducible refine st_ret ?_; ((try simp only [seqQ, blockQ, loopQ, forQ, whileQ]); first | (with_reducible refine retM_ret ?_) | refine retQ_ret ?_; simp [hne, hb, he])) | refine st_seq ?_ | refine st_block ?_ | ((with_reducible show (STri _ _ _ _ _) ∧ (STri _ _ _ _ _)); refine And.intro ?_ ?_) | ((first | refine st_reg ?_ | refine buildP_own ?_ | refine appP_own ?_) <;> (simp -dsimp [hne, hb, he]; (repeat (simp -dsimp (disch := (first | omega | assumption | (refine Bool.eq_false_iff.1 ?_; assumption))) only [wrap_in, if_pos, if_neg]; (try simp -dsimp [hne, hb, he]))))) | ((first | refine guardP_of (fun hc => ?_) (fun hc => ?_) | refine st_cond rfl (fun hc => ?_) (fun hc => ?_)) <;> (try simp only [lqA, lqB, lqC, lqD, lqE, lqF, lqG, lqH, lqI, lqJ, lqK, lqL, lqM, lqN, lqO] at hc) <;> (try (exfalso; first | omega | exact bool_tf hc (by assumption) | exact bool_ft hc (by assumption) | exact absurd (by assumption) hc)) <;> (first | with_reducible show STri _ _ _ _ _ _ | (simp -dsimp [hne, hb, he, hc]; (repeat (simp -dsimp (disch := (first | omega | assumption | (refine Bool.eq_false_iff.1 ?_; assumption))) only [wrap_in, if_pos, if_neg]; (try simp -dsimp [hne, hb, he, hc]))))))))
  exact .refl _
def downI (n b : Int) : Int := n - n % b
theorem sDown (n b : Int) (h1 : -1000000000000000 ≤ n) (h2 : n ≤ 1000000000000000) (h3 : 0 < b) (h4 : b ≤ 1000000000000) : SC Tryz.prog 100 [I n, I b] (I (downI n b)) := by
  refine law_dial_down _ _ (by simp) ?_
  have h5 := Int.emod_nonneg n (show b ≠ 0 by omega)
  have h6 := Int.emod_lt_of_pos n h3
  (repeat' (first | ((first | with_reducible refine st_skip ?_ | with_reducible refine st_exit ?_); (try simp only [seqQ, blockQ, loopQ, forQ, whileQ, reduceIte, Nat.reduceEqDiff])) | (with_reducible refine st_ret ?_; ((try simp only [seqQ, blockQ, loopQ, forQ, whileQ]); first | (with_reducible refine retM_ret ?_) | refine retQ_ret ?_; simp)) | refine st_seq ?_ | refine st_block ?_ | ((with_reducible show (STri _ _ _ _ _) ∧ (STri _ _ _ _ _)); refine And.intro ?_ ?_) | ((first | refine st_reg ?_ | refine buildP_own ?_ | refine appP_own ?_ | refine callP_b (sModulo n b h3 h4) rfl ?_) <;> (simp -dsimp; (repeat (simp -dsimp (disch := (first | omega | assumption | (refine Bool.eq_false_iff.1 ?_; assumption))) only [wrap_in, if_pos, if_neg]; (try simp -dsimp))))) | ((first | refine guardP_of (fun hc => ?_) (fun hc => ?_) | refine st_cond rfl (fun hc => ?_) (fun hc => ?_)) <;> (try simp only [lqA, lqB, lqC, lqD, lqE, lqF, lqG, lqH, lqI, lqJ, lqK, lqL, lqM, lqN, lqO] at hc) <;> (try (exfalso; first | omega | exact bool_tf hc (by assumption) | exact bool_ft hc (by assumption) | exact absurd (by assumption) hc)) <;> (first | with_reducible show STri _ _ _ _ _ _ | (simp -dsimp [hc]; (repeat (simp -dsimp (disch := (first | omega | assumption | (refine Bool.eq_false_iff.1 ?_; assumption))) only [wrap_in, if_pos, if_neg]; (try simp -dsimp [hc]))))))))
  exact .refl _
def spanB (least most lo hi : Int) : Bool := decide (least ≤ lo) && decide (lo ≤ hi) && decide (hi ≤ most)
theorem sIsSpan (lo hi least most : Int) : SC Tryz.prog 96 [cS lo hi, I least, I most] (B (spanB least most lo hi)) := by
  refine law_dial_isSpan _ _ (by simp) ?_
  unfold cS
  (repeat' (first | ((first | with_reducible refine st_skip ?_ | with_reducible refine st_exit ?_); (try simp only [seqQ, blockQ, loopQ, forQ, whileQ, reduceIte, Nat.reduceEqDiff])) | (with_reducible refine st_ret ?_; ((try simp only [seqQ, blockQ, loopQ, forQ, whileQ]); first | (with_reducible refine retM_ret ?_) | refine retQ_ret ?_; simp)) | refine st_seq ?_ | refine st_block ?_ | ((with_reducible show (STri _ _ _ _ _) ∧ (STri _ _ _ _ _)); refine And.intro ?_ ?_) | ((first | refine st_reg ?_ | refine buildP_own ?_ | refine appP_own ?_ | refine callP_b (sWithin least most [lo, hi] (by simp)) rfl ?_) <;> (simp -dsimp; (repeat (simp -dsimp (disch := (first | omega | assumption | (refine Bool.eq_false_iff.1 ?_; assumption))) only [wrap_in, if_pos, if_neg]; (try simp -dsimp))))) | ((first | refine guardP_of (fun hc => ?_) (fun hc => ?_) | refine st_cond rfl (fun hc => ?_) (fun hc => ?_)) <;> (try simp only [lqA, lqB, lqC, lqD, lqE, lqF, lqG, lqH, lqI, lqJ, lqK, lqL, lqM, lqN, lqO] at hc) <;> (try (exfalso; first | omega | exact bool_tf hc (by assumption) | exact bool_ft hc (by assumption) | exact absurd (by assumption) hc)) <;> (first | with_reducible show STri _ _ _ _ _ _ | (simp -dsimp [hc]; (repeat (simp -dsimp (disch := (first | omega | assumption | (refine Bool.eq_false_iff.1 ?_; assumption))) only [wrap_in, if_pos, if_neg]; (try simp -dsimp [hc]))))))))
  all_goals (refine CLe.bool ?_; rw [Bool.eq_iff_iff]; unfold allIn at *; unfold spanB; simp [inB] at *; try omega)
theorem sIsWind (lo hi : Int) : SC Tryz.prog 67 [cS lo hi] (B (spanB (-10000) 10000 lo hi)) := by
  refine law_dial_isWind _ _ (by simp) ?_
  unfold cS
  (repeat' (first | ((first | with_reducible refine st_skip ?_ | with_reducible refine st_exit ?_); (try simp only [seqQ, blockQ, loopQ, forQ, whileQ, reduceIte, Nat.reduceEqDiff])) | (with_reducible refine st_ret ?_; ((try simp only [seqQ, blockQ, loopQ, forQ, whileQ]); first | (with_reducible refine retM_ret ?_) | refine retQ_ret ?_; simp)) | refine st_seq ?_ | refine st_block ?_ | ((with_reducible show (STri _ _ _ _ _) ∧ (STri _ _ _ _ _)); refine And.intro ?_ ?_) | ((first | refine st_reg ?_ | refine buildP_own ?_ | refine appP_own ?_ | refine callP_b (sIsSpan lo hi (-10000) 10000) rfl ?_) <;> (simp -dsimp; (repeat (simp -dsimp (disch := (first | omega | assumption | (refine Bool.eq_false_iff.1 ?_; assumption))) only [wrap_in, if_pos, if_neg]; (try simp -dsimp))))) | ((first | refine guardP_of (fun hc => ?_) (fun hc => ?_) | refine st_cond rfl (fun hc => ?_) (fun hc => ?_)) <;> (try simp only [lqA, lqB, lqC, lqD, lqE, lqF, lqG, lqH, lqI, lqJ, lqK, lqL, lqM, lqN, lqO] at hc) <;> (try (exfalso; first | omega | exact bool_tf hc (by assumption) | exact bool_ft hc (by assumption) | exact absurd (by assumption) hc)) <;> (first | with_reducible show STri _ _ _ _ _ _ | (simp -dsimp [hc]; (repeat (simp -dsimp (disch := (first | omega | assumption | (refine Bool.eq_false_iff.1 ?_; assumption))) only [wrap_in, if_pos, if_neg]; (try simp -dsimp [hc]))))))))
  exact .refl _
def lkB (l : Lk) : Bool := inB 0 1000 l.slack && (inB 1 200 l.num && inB 1 200 l.den)
theorem sIsLink (l : Lk) : SC Tryz.prog 113 [cL l] (B (lkB l)) := by
  refine law_dial_isLink _ _ (by simp) ?_
  unfold cL rowL
  (repeat' (first | ((first | with_reducible refine st_skip ?_ | with_reducible refine st_exit ?_); (try simp only [seqQ, blockQ, loopQ, forQ, whileQ, reduceIte, Nat.reduceEqDiff])) | (with_reducible refine st_ret ?_; ((try simp only [seqQ, blockQ, loopQ, forQ, whileQ]); first | (with_reducible refine retM_ret ?_) | refine retQ_ret ?_; simp)) | refine st_seq ?_ | refine st_block ?_ | ((with_reducible show (STri _ _ _ _ _) ∧ (STri _ _ _ _ _)); refine And.intro ?_ ?_) | ((first | refine st_reg ?_ | refine buildP_own ?_ | refine appP_own ?_ | refine callP_b (sWithin 0 1000 [l.slack] (by simp)) rfl ?_ | refine callP_b (sWithin 1 200 [l.num, l.den] (by simp)) rfl ?_) <;> (simp -dsimp; (repeat (simp -dsimp (disch := (first | omega | assumption | (refine Bool.eq_false_iff.1 ?_; assumption))) only [wrap_in, if_pos, if_neg]; (try simp -dsimp))))) | ((first | refine guardP_of (fun hc => ?_) (fun hc => ?_) | refine st_cond rfl (fun hc => ?_) (fun hc => ?_)) <;> (try simp only [lqA, lqB, lqC, lqD, lqE, lqF, lqG, lqH, lqI, lqJ, lqK, lqL, lqM, lqN, lqO] at hc) <;> (try (exfalso; first | omega | exact bool_tf hc (by assumption) | exact bool_ft hc (by assumption) | exact absurd (by assumption) hc)) <;> (first | with_reducible show STri _ _ _ _ _ _ | (simp -dsimp [hc]; (repeat (simp -dsimp (disch := (first | omega | assumption | (refine Bool.eq_false_iff.1 ?_; assumption))) only [wrap_in, if_pos, if_neg]; (try simp -dsimp [hc]))))))))
  all_goals (refine CLe.bool ?_; rw [Bool.eq_iff_iff]; unfold allIn at *; unfold lkB; simp [inB] at *; try omega)
end Go.Proofs.YtlodpljdhdhfmaaGreat
/- Dial, III: forces, lags, hands. -/
namespace Go.Proofs.YtlodpljdhdhfmaaGreat
open Go.RowKit
def forceI (f : Fc) (d : Int) : Int := if d % 3600 < 1800 then f.weight else -f.weight
theorem sForce (f : Fc) (s d : Int) (h1 : -10000 ≤ f.weight) (h2 : f.weight ≤ 10000) : SC Tryz.prog 116 [cX f s, I d] (I (forceI f d)) := by
  refine law_dial_face_force _ _ (by simp) ?_
  unfold cX rowX
  (repeat' (first | ((first | with_reducible refine st_skip ?_ | with_reducible refine st_exit ?_); (try simp only [seqQ, blockQ, loopQ, forQ, whileQ, reduceIte, Nat.reduceEqDiff])) | (with_reducible refine st_ret ?_; ((try simp only [seqQ, blockQ, loopQ, forQ, whileQ]); first | (with_reducible refine retM_ret ?_) | refine retQ_ret ?_; simp)) | refine st_seq ?_ | refine st_block ?_ | ((with_reducible show (STri _ _ _ _ _) ∧ (STri _ _ _ _ _)); refine And.intro ?_ ?_) | ((first | refine st_reg ?_ | refine buildP_own ?_ | refine appP_own ?_ | refine callP_b (sModulo d 3600 (by omega) (by omega)) rfl ?_) <;> (simp -dsimp; (repeat (simp -dsimp (disch := (first | omega | assumption | (refine Bool.eq_false_iff.1 ?_; assumption))) only [wrap_in, if_pos, if_neg]; (try simp -dsimp))))) | ((first | refine guardP_of (fun hc => ?_) (fun hc => ?_) | refine st_cond rfl (fun hc => ?_) (fun hc => ?_)) <;> (try simp only [lqA, lqB, lqC, lqD, lqE, lqF, lqG, lqH, lqI, lqJ, lqK, lqL, lqM, lqN, lqO] at hc) <;> (try (exfalso; first | omega | exact bool_tf hc (by assumption) | exact bool_ft hc (by assumption) | exact absurd (by assumption) hc)) <;> (first | with_reducible show STri _ _ _ _ _ _ | (simp -dsimp [hc]; (repeat (simp -dsimp (disch := (first | omega | assumption | (refine Bool.eq_false_iff.1 ?_; assumption))) only [wrap_in, if_pos, if_neg]; (try simp -dsimp [hc]))))))))
  all_goals (refine CLe.int ?_; unfold forceI; split <;> omega)
def lagLo (f : Fc) (s d whi : Int) (wlo : Int) : Int := if wlo + forceI f d > f.friction then 0 else if whi + forceI f d < -f.friction then s else 0
def lagHi (f : Fc) (s d : Int) (wlo : Int) : Int := if wlo + forceI f d > f.friction then 0 else s
theorem force_le (f : Fc) (d : Int) (h1 : -10000 ≤ f.weight) (h2 : f.weight ≤ 10000) : -10000 ≤ forceI f d ∧ forceI f d ≤ 10000 := by
  unfold forceI; split <;> omega
theorem sLags (f : Fc) (s d wlo whi : Int) (h1 : -10000 ≤ f.weight) (h2 : f.weight ≤ 10000) (h3 : 0 ≤ f.friction) (h4 : f.friction ≤ 10000) (h5 : -1000000 ≤ wlo) (h6 : wlo ≤ 1000000) (h7 : -1000000 ≤ whi) (h8 : whi ≤ 1000000) :
    SC Tryz.prog 101 [cX f s, I d, cS wlo whi] (cS (lagLo f s d whi wlo) (lagHi f s d wlo)) := by
  refine law_dial_face_lags _ _ (by simp) ?_
  obtain ⟨g1, g2⟩ := force_le f d h1 h2
  unfold cS
  unfold cX rowX
  (repeat' (first | ((first | with_reducible refine st_skip ?_ | with_reducible refine st_exit ?_); (try simp only [seqQ, blockQ, loopQ, forQ, whileQ, reduceIte, Nat.reduceEqDiff])) | (with_reducible refine st_ret ?_; ((try simp only [seqQ, blockQ, loopQ, forQ, whileQ]); first | (with_reducible refine retM_ret ?_) | refine retQ_ret ?_; simp)) | refine st_seq ?_ | refine st_block ?_ | ((with_reducible show (STri _ _ _ _ _) ∧ (STri _ _ _ _ _)); refine And.intro ?_ ?_) | ((first | refine st_reg ?_ | refine buildP_own ?_ | refine appP_own ?_ | refine callP_b (sForce f s d h1 h2) rfl ?_) <;> (simp -dsimp; (repeat (simp -dsimp (disch := (first | omega | assumption | (refine Bool.eq_false_iff.1 ?_; assumption))) only [wrap_in, if_pos, if_neg]; (try simp -dsimp))))) | ((first | refine guardP_of (fun hc => ?_) (fun hc => ?_) | refine st_cond rfl (fun hc => ?_) (fun hc => ?_)) <;> (try simp only [lqA, lqB, lqC, lqD, lqE, lqF, lqG, lqH, lqI, lqJ, lqK, lqL, lqM, lqN, lqO] at hc) <;> (try (exfalso; first | omega | exact bool_tf hc (by assumption) | exact bool_ft hc (by assumption) | exact absurd (by assumption) hc)) <;> (first | with_reducible show STri _ _ _ _ _ _ | (simp -dsimp [hc]; (repeat (simp -dsimp (disch := (first | omega | assumption | (refine Bool.eq_false_iff.1 ?_; assumption))) only [wrap_in, if_pos, if_neg]; (try simp -dsimp [hc]))))))))
  all_goals (refine CLe.of_eq ?_; unfold lagLo lagHi; (repeat' split) <;> first | rfl | (exfalso; omega))
def handLo (f : Fc) (s d wlo : Int) : Int := d + f.lo - lagHi f s d wlo
def handHi (f : Fc) (s d wlo whi : Int) : Int := d + f.hi - lagLo f s d whi wlo
structure FcSm (f : Fc) (s : Int) : Prop where
  a : -3600 ≤ f.lo
  b : f.lo ≤ 3600
  c : -3600 ≤ f.hi
  d : f.hi ≤ 3600
  e : -10000 ≤ f.weight
  g : f.weight ≤ 10000
  h : 0 ≤ f.friction
  i : f.friction ≤ 10000
  j : 0 ≤ s
  k : s ≤ 3600
theorem lag_le (f : Fc) (s d wlo whi : Int) (h : 0 ≤ s) : 0 ≤ lagLo f s d whi wlo ∧ lagLo f s d whi wlo ≤ s ∧ 0 ≤ lagHi f s d wlo ∧ lagHi f s d wlo ≤ s := by
  unfold lagLo lagHi
  refine ⟨?_, ?_, ?_, ?_⟩ <;> (repeat' split) <;> omega
theorem sHands (f : Fc) (s d wlo whi : Int) (hf : FcSm f s) (h5 : -1000000 ≤ wlo) (h6 : wlo ≤ 1000000) (h7 : -1000000 ≤ whi) (h8 : whi ≤ 1000000) (h9 : -1000000000000 ≤ d) (h10 : d ≤ 1000000000000) :
    SC Tryz.prog 73 [cX f s, I d, cS wlo whi] (cS (handLo f s d wlo) (handHi f s d wlo whi)) := by
  refine law_dial_face_hands _ _ (by simp) ?_
  obtain ⟨g1, g2, g3, g4⟩ := lag_le f s d wlo whi hf.j
  have h11 := hf.a
  have h12 := hf.b
  have h13 := hf.c
  have h14 := hf.d
  have h15 := hf.k
  (repeat' (first | ((first | with_reducible refine st_skip ?_ | with_reducible refine st_exit ?_); (try simp only [seqQ, blockQ, loopQ, forQ, whileQ, reduceIte, Nat.reduceEqDiff])) | (with_reducible refine st_ret ?_; ((try simp only [seqQ, blockQ, loopQ, forQ, whileQ]); first | (with_reducible refine retM_ret ?_) | refine retQ_ret ?_; simp)) | refine st_seq ?_ | refine st_block ?_ | ((with_reducible show (STri _ _ _ _ _) ∧ (STri _ _ _ _ _)); refine And.intro ?_ ?_) | ((first | refine st_reg ?_ | refine buildP_own ?_ | refine appP_own ?_ | refine callP_b (sLags f s d wlo whi hf.e hf.g hf.h hf.i h5 h6 h7 h8) rfl ?_) <;> (simp -dsimp; (repeat (simp -dsimp (disch := (first | omega | assumption | (refine Bool.eq_false_iff.1 ?_; assumption))) only [wrap_in, if_pos, if_neg]; (try simp -dsimp))))) | ((first | refine guardP_of (fun hc => ?_) (fun hc => ?_) | refine st_cond rfl (fun hc => ?_) (fun hc => ?_)) <;> (try simp only [lqA, lqB, lqC, lqD, lqE, lqF, lqG, lqH, lqI, lqJ, lqK, lqL, lqM, lqN, lqO] at hc) <;> (try (exfalso; first | omega | exact bool_tf hc (by assumption) | exact bool_ft hc (by assumption) | exact absurd (by assumption) hc)) <;> (first | with_reducible show STri _ _ _ _ _ _ | (simp -dsimp [hc]; (repeat (simp -dsimp (disch := (first | omega | assumption | (refine Bool.eq_false_iff.1 ?_; assumption))) only [wrap_in, if_pos, if_neg]; (try simp -dsimp [hc]))))))))
  all_goals exact CLe.of_eq rfl
end Go.Proofs.YtlodpljdhdhfmaaGreat
/- Dial, IV: faces. -/
namespace Go.Proofs.YtlodpljdhdhfmaaGreat
open Go.RowKit
def stepD (d : Int) (l : Lk) : Int := d.tdiv (Int.gcd d l.num) * l.num
def denK (ls : List Lk) (k : Nat) : Int := (ls.take k).foldl stepD 1
def stepN (D n : Int) (l : Lk) : Int := n + l.slack * 3600 * l.den * D.tdiv l.num
def numK (ls : List Lk) (k : Nat) : Int := (ls.take k).foldl (stepN (denK ls ls.length)) 0
def slackI (ls : List Lk) : Int := overI (numK ls ls.length) (1000 * denK ls ls.length)
def fcB (f : Fc) : Bool := spanB (-3600) 3600 f.lo f.hi && decide (f.links.length ≤ 4) && inB (-10000) 10000 f.weight && inB 0 10000 f.friction && f.links.all lkB
def Fc.zero : Fc := ⟨0, 0, [], 0, 0⟩
def rNew (f : Fc) : CV := if fcB f then .tup [cX f (slackI f.links), B (decide (slackI f.links ≤ 3600))] else .tup [cX .zero 0, B false]
def LkTo (ls : List Lk) (k : Nat) : Prop := ∀ l ∈ ls.take k, lkB l = true
theorem lk_spec {l : Lk} (h : lkB l = true) : (0 ≤ l.slack ∧ l.slack ≤ 1000) ∧ (1 ≤ l.num ∧ l.num ≤ 200) ∧ (1 ≤ l.den ∧ l.den ≤ 200) := by
  unfold lkB inB at h
  simp only [Bool.and_eq_true, decide_eq_true_eq] at h
  exact h
theorem lk_succ {ls : List Lk} {k : Nat} (hlt : k < ls.length) (h : LkTo ls k) (hc : lkB ls[k] = true) : LkTo ls (k + 1) := fun x hx => by
  rw [List.take_succ_eq_append_getElem hlt, List.mem_append] at hx
  rcases hx with hx | hx
  · exact h x hx
  · simp at hx; rw [hx]; exact hc
theorem denK_succ {ls : List Lk} {k : Nat} (hlt : k < ls.length) : denK ls (k + 1) = stepD (denK ls k) ls[k] := by
  unfold denK
  rw [List.take_succ_eq_append_getElem hlt, List.foldl_append]; rfl
theorem numK_succ {ls : List Lk} {k : Nat} (hlt : k < ls.length) : numK ls (k + 1) = stepN (denK ls ls.length) (numK ls k) ls[k] := by
  unfold numK
  rw [List.take_succ_eq_append_getElem hlt, List.foldl_append]; rfl
theorem gcd_pos' {d n : Int} (h : 1 ≤ n) : 0 < (Int.gcd d n : Int) := by
  have : Int.gcd d n ≠ 0 := fun e => by
    have := (Int.gcd_eq_zero_iff.1 e).2
    omega
  omega
theorem stepD_le {d : Int} {l : Lk} {M : Int} (h1 : 1 ≤ d) (h2 : d ≤ M) (h3 : 1 ≤ l.num) (h4 : l.num ≤ 200) : 1 ≤ stepD d l ∧ stepD d l ≤ M * 200 ∧ 1 ≤ d.tdiv (Int.gcd d l.num) ∧ d.tdiv (Int.gcd d l.num) ≤ d := by
  have hg := gcd_pos' (d := d) h3
  have hd : (Int.gcd d l.num : Int) ∣ d := Int.gcd_dvd_left ..
  obtain ⟨q, hq⟩ := hd
  have hq1 : 1 ≤ q := by
    by_cases h : q < 1
    · exfalso
      have : (Int.gcd d l.num : Int) * q ≤ 0 := Int.mul_nonpos_of_nonneg_of_nonpos (by omega) (by omega)
      omega
    · omega
  have e : d.tdiv (Int.gcd d l.num) = q := by
    have : ∀ g x y : Int, 0 < g → x = g * y → x.tdiv g = y := fun g x y h0 h1 => by
      rw [h1]; exact Int.mul_tdiv_cancel_left y (by omega)
    exact this _ _ _ hg hq
  have hle : q ≤ d := by
    have := Int.mul_le_mul_of_nonneg_right (show (1 : Int) ≤ (Int.gcd d l.num : Int) by omega) (show 0 ≤ q by omega)
    rw [Int.one_mul, ← hq] at this
    exact this
  unfold stepD
  rw [e]
  refine ⟨?_, ?_, hq1, hle⟩
  · have := Int.mul_le_mul hq1 h3 (by omega) (by omega)
    simpa using this
  · exact Int.mul_le_mul (Int.le_trans hle h2) h4 (by omega) (by omega)
theorem denK_le {ls : List Lk} : ∀ {k : Nat}, k ≤ 4 → k ≤ ls.length → LkTo ls k → 1 ≤ denK ls k ∧ denK ls k ≤ 200 ^ k
  | 0, _, _, _ => by simp [denK]
  | k + 1, h4, hk, h => by
    have hlt : k < ls.length := by omega
    have hk' : LkTo ls k := fun x hx => h x (by rw [List.take_succ_eq_append_getElem hlt]; exact List.mem_append_left _ hx)
    obtain ⟨d1, d2⟩ := denK_le (k := k) (by omega) (by omega) hk'
    obtain ⟨_, ⟨h1, h2⟩, _⟩ := lk_spec (h ls[k] (by rw [List.take_succ_eq_append_getElem hlt]; exact List.mem_append_right _ (by simp)))
    obtain ⟨g1, g2, _⟩ := stepD_le d1 d2 h1 h2
    rw [denK_succ hlt, Int.pow_succ]
    exact ⟨g1, g2⟩
theorem den_le {ls : List Lk} {k : Nat} (h4 : k ≤ 4) (hk : k ≤ ls.length) (h : LkTo ls k) : 1 ≤ denK ls k ∧ denK ls k ≤ 1600000000 := by
  obtain ⟨h1, h2⟩ := denK_le h4 hk h
  refine ⟨h1, Int.le_trans h2 ?_⟩
  have : k = 0 ∨ k = 1 ∨ k = 2 ∨ k = 3 ∨ k = 4 := by omega
  rcases this with rfl | rfl | rfl | rfl | rfl <;> decide
theorem part_le {D : Int} {l : Lk} (hD : 1 ≤ D) (hD2 : D ≤ 1600000000) (h : lkB l = true) : (0 ≤ D.tdiv l.num ∧ D.tdiv l.num ≤ D) ∧ (0 ≤ l.slack * 3600 ∧ l.slack * 3600 ≤ 3600000) ∧ (0 ≤ l.slack * 3600 * l.den ∧ l.slack * 3600 * l.den ≤ 720000000) ∧
    0 ≤ l.slack * 3600 * l.den * D.tdiv l.num ∧ l.slack * 3600 * l.den * D.tdiv l.num ≤ 1152000000000000000 := by
  obtain ⟨⟨s1, s2⟩, ⟨n1, n2⟩, ⟨d1, d2⟩⟩ := lk_spec h
  have q0 : 0 ≤ D.tdiv l.num := Int.tdiv_nonneg (by omega) (by omega)
  have q1 : D.tdiv l.num ≤ D := by
    rw [Int.tdiv_eq_ediv_of_nonneg (by omega)]
    exact Int.ediv_le_self _ (by omega)
  have a1 : 0 ≤ l.slack * 3600 := by omega
  have a2 : l.slack * 3600 ≤ 3600000 := by omega
  have b1 : 0 ≤ l.slack * 3600 * l.den := Int.mul_nonneg a1 (by omega)
  have b2 : l.slack * 3600 * l.den ≤ 3600000 * 200 := Int.mul_le_mul a2 d2 (by omega) (by omega)
  refine ⟨⟨q0, q1⟩, ⟨a1, a2⟩, ⟨b1, by omega⟩, Int.mul_nonneg b1 q0, ?_⟩
  have := Int.mul_le_mul (show l.slack * 3600 * l.den ≤ 720000000 by omega) (show D.tdiv l.num ≤ 1600000000 by omega) q0 (by omega)
  omega
theorem numK_le {ls : List Lk} (h : LkTo ls ls.length) (hD : 1 ≤ denK ls ls.length) (hD2 : denK ls ls.length ≤ 1600000000) : ∀ {k : Nat}, k ≤ ls.length → 0 ≤ numK ls k ∧ numK ls k ≤ k * 1152000000000000000
  | 0, _ => by simp [numK]
  | k + 1, hk => by
    have hlt : k < ls.length := by omega
    obtain ⟨d1, d2⟩ := numK_le h hD hD2 (k := k) (by omega)
    obtain ⟨_, _, _, p1, p2⟩ := part_le hD hD2 (h ls[k] (by rw [List.take_length]; exact List.getElem_mem hlt))
    rw [numK_succ hlt]
    unfold stepN
    generalize ls[k].slack * 3600 * ls[k].den * (denK ls ls.length).tdiv ls[k].num = z at *
    constructor
    · omega
    · push_cast; omega
theorem new_bad {f : Fc} (h : fcB f = false) : CLe (.tup [.agg [I 0, I 0, .val (.slice none 0 0), I 0, I 0, I 0], B false]) (rNew f) := by
  unfold rNew; rw [if_neg (by simp [h])]
  exact .tup _ _ (.cons _ _ _ _ (.agg _ _ (.cons _ _ _ _ (.refl _) (.cons _ _ _ _ (.refl _) (.cons _ _ _ _ (.nil 3) (.cons _ _ _ _ (.refl _) (.cons _ _ _ _ (.refl _) (.cons _ _ _ _ (.refl _) .nil))))))) (.cons _ _ _ _ (.refl _) .nil))
theorem lkto_all {ls : List Lk} (h : LkTo ls ls.length) : ls.all lkB = true := by
  rw [List.all_eq_true]
  intro x hx
  exact h x (by rw [List.take_length]; exact hx)
theorem sNewFace (f : Fc) (hl : f.links.length ≤ 1000000) : SC Tryz.prog 97 [cF f] (rNew f) := by
  refine law_dial_newFace _ _ (by simp) ?_
  (repeat' (first | ((first | with_reducible refine st_skip ?_ | with_reducible refine st_exit ?_); (try simp only [seqQ, blockQ, loopQ, forQ, whileQ, reduceIte, Nat.reduceEqDiff])) | (with_reducible refine st_ret ?_; ((try simp only [seqQ, blockQ, loopQ, forQ, whileQ]); first | (with_reducible refine retM_ret ?_) | refine retQ_ret ?_; simp)) | refine st_seq ?_ | refine st_block ?_ | ((with_reducible show (STri _ _ _ _ _) ∧ (STri _ _ _ _ _)); refine And.intro ?_ ?_) | ((first | refine st_reg ?_ | refine buildP_own ?_ | refine appP_own ?_ | refine callP_b (sIsSpan f.lo f.hi (-3600) 3600) rfl ?_ | refine callP_b (sWithin (-10000) 10000 [f.weight] (by simp)) rfl ?_ | refine callP_b (sWithin 0 10000 [f.friction] (by simp)) rfl ?_) <;> (simp -dsimp; (repeat (simp -dsimp (disch := (first | omega | assumption | (refine Bool.eq_false_iff.1 ?_; assumption))) only [wrap_in, if_pos, if_neg]; (try simp -dsimp))))) | ((first | refine guardP_of (fun hc => ?_) (fun hc => ?_) | refine st_cond rfl (fun hc => ?_) (fun hc => ?_)) <;> (try simp only [lqA, lqB, lqC, lqD, lqE, lqF, lqG, lqH, lqI, lqJ, lqK, lqL, lqM, lqN, lqO] at hc) <;> (try (exfalso; first | omega | exact bool_tf hc (by assumption) | exact bool_ft hc (by assumption) | exact absurd (by assumption) hc)) <;> (first | with_reducible show STri _ _ _ _ _ _ | (simp -dsimp [hc]; (repeat (simp -dsimp (disch := (first | omega | assumption | (refine Bool.eq_false_iff.1 ?_; assumption))) only [wrap_in, if_pos, if_neg]; (try simp -dsimp [hc]))))))))
  · rename_i h1 _ _ h2 _ _ h3
    exact new_bad (by simp only [allIn, List.all_cons, List.all_nil, Bool.and_true] at hc; simp [fcB, hc])
  · rename_i h1 _ _ h2 _ _ h3
    have hsp : spanB (-3600) 3600 f.lo f.hi = true := by assumption
    have hl4 : f.links.length ≤ 4 := by omega
    have hw : inB (-10000) 10000 f.weight = true := by
      have : allIn (-10000) 10000 [f.weight] = true := by assumption
      simpa [allIn] using this
    have hf : inB 0 10000 f.friction = true := by
      have : allIn 0 10000 [f.friction] = true := by assumption
      simpa [allIn] using this
    clear h1 h2 h3
    refine st_for [1, 2] f.links.length (fun k T H => LkTo f.links k ∧ T = [(1, .ptr 1 0), (2, .ptr 2 0), (4, .c (I (denK f.links k))), (36, .c (.sl 3 (f.links.map rowL))), (37, .c (I f.links.length)), (38, .c (I k))] ∧
      H = [(1, .box 59 [.c (I f.lo), .c (I f.hi), .c (.sl 3 (f.links.map rowL)), .c (I f.weight), .c (I f.friction)]), (2, .box 107 [.c (I 0), .c (I 0), .c (.val (.slice none 0 0)), .c (I 0), .c (I 0), .c (I 0)])]) (by simp) ⟨by simp [LkTo], by simp [denK], by simp⟩ ?_
    rintro k T H hk ⟨ht, rfl, rfl⟩
    by_cases hlt : k < f.links.length
    · by_cases hv : lkB f.links[k] = true
      · obtain ⟨d1, d2⟩ := den_le (by omega) hk ht
        obtain ⟨_, ⟨n1, n2⟩, _⟩ := lk_spec hv
        obtain ⟨s1, s2, s3, s4⟩ := stepD_le d1 d2 n1 n2
        have hg := gcd_pos' (d := denK f.links k) n1
        have hne : ¬ (Int.gcd (denK f.links k) f.links[k].num : Int) = 0 := by omega
        have hw1 : IntKind.i64.wrap ((denK f.links k).tdiv (Int.gcd (denK f.links k) f.links[k].num)) = (denK f.links k).tdiv (Int.gcd (denK f.links k) f.links[k].num) := wrap_in _ (by omega) (by omega)
        have hw2 : IntKind.i64.wrap ((denK f.links k).tdiv (Int.gcd (denK f.links k) f.links[k].num) * f.links[k].num) = stepD (denK f.links k) f.links[k] := wrap_in _ (by unfold stepD at s1; omega) (by unfold stepD at s2; omega)
        (repeat' (first | ((first | with_reducible refine st_skip ?_ | with_reducible refine st_exit ?_); (try simp only [seqQ, blockQ, loopQ, forQ, whileQ, reduceIte, Nat.reduceEqDiff])) | (with_reducible refine st_ret ?_; ((try simp only [seqQ, blockQ, loopQ, forQ, whileQ]); first | (with_reducible refine retM_ret ?_) | refine retQ_ret ?_; simp [hlt, hv, hne, hw1, hw2])) | refine st_seq ?_ | refine st_block ?_ | ((with_reducible show (STri _ _ _ _ _) ∧ (STri _ _ _ _ _)); refine And.intro ?_ ?_) | ((first | refine st_reg ?_ | refine buildP_own ?_ | refine appP_own ?_ | refine callP_b (sIsLink f.links[k]) rfl ?_ | refine callP_b (sGcd (denK f.links k) f.links[k].num (by omega) (by omega)) rfl ?_) <;> (simp -dsimp [hlt, hv, hne, hw1, hw2]; (repeat (simp -dsimp (disch := (first | omega | assumption | (refine Bool.eq_false_iff.1 ?_; assumption))) only [wrap_in, if_pos, if_neg]; (try simp -dsimp [hlt, hv, hne, hw1, hw2]))))) | ((first | refine guardP_of (fun hc => ?_) (fun hc => ?_) | refine st_cond rfl (fun hc => ?_) (fun hc => ?_)) <;> (try simp only [lqA, lqB, lqC, lqD, lqE, lqF, lqG, lqH, lqI, lqJ, lqK, lqL, lqM, lqN, lqO] at hc) <;> (try (exfalso; first | omega | exact bool_tf hc (by assumption) | exact bool_ft hc (by assumption) | exact absurd (by assumption) hc)) <;> (first | with_reducible show STri _ _ _ _ _ _ | (simp -dsimp [hlt, hv, hne, hw1, hw2, hc]; (repeat (simp -dsimp (disch := (first | omega | assumption | (refine Bool.eq_false_iff.1 ?_; assumption))) only [wrap_in, if_pos, if_neg]; (try simp -dsimp [hlt, hv, hne, hw1, hw2, hc]))))))))
        exact ⟨hlt, by simp, lk_succ hlt ht hv, by rw [denK_succ hlt]; simp, by simp⟩
      · (repeat' (first | ((first | with_reducible refine st_skip ?_ | with_reducible refine st_exit ?_); (try simp only [seqQ, blockQ, loopQ, forQ, whileQ, reduceIte, Nat.reduceEqDiff])) | (with_reducible refine st_ret ?_; ((try simp only [seqQ, blockQ, loopQ, forQ, whileQ]); first | (with_reducible refine retM_ret ?_) | refine retQ_ret ?_; simp [hlt, hv])) | refine st_seq ?_ | refine st_block ?_ | ((with_reducible show (STri _ _ _ _ _) ∧ (STri _ _ _ _ _)); refine And.intro ?_ ?_) | ((first | refine st_reg ?_ | refine buildP_own ?_ | refine appP_own ?_ | refine callP_b (sIsLink f.links[k]) rfl ?_) <;> (simp -dsimp [hlt, hv]; (repeat (simp -dsimp (disch := (first | omega | assumption | (refine Bool.eq_false_iff.1 ?_; assumption))) only [wrap_in, if_pos, if_neg]; (try simp -dsimp [hlt, hv]))))) | ((first | refine guardP_of (fun hc => ?_) (fun hc => ?_) | refine st_cond rfl (fun hc => ?_) (fun hc => ?_)) <;> (try simp only [lqA, lqB, lqC, lqD, lqE, lqF, lqG, lqH, lqI, lqJ, lqK, lqL, lqM, lqN, lqO] at hc) <;> (try (exfalso; first | omega | exact bool_tf hc (by assumption) | exact bool_ft hc (by assumption) | exact absurd (by assumption) hc)) <;> (first | with_reducible show STri _ _ _ _ _ _ | (simp -dsimp [hlt, hv, hc]; (repeat (simp -dsimp (disch := (first | omega | assumption | (refine Bool.eq_false_iff.1 ?_; assumption))) only [wrap_in, if_pos, if_neg]; (try simp -dsimp [hlt, hv, hc]))))))))
        refine new_bad ?_
        have : f.links.all lkB = false := by
          rw [Bool.eq_false_iff]
          intro h
          rw [List.all_eq_true] at h
          exact hv (h _ (List.getElem_mem hlt))
        simp [fcB, this]
    · have : k = f.links.length := by omega
      subst this
      obtain ⟨D1, D2⟩ := den_le hl4 (Nat.le_refl _) ht
      (repeat' (first | ((first | with_reducible refine st_skip ?_ | with_reducible refine st_exit ?_); (try simp only [seqQ, blockQ, loopQ, forQ, whileQ, reduceIte, Nat.reduceEqDiff])) | (with_reducible refine st_ret ?_; ((try simp only [seqQ, blockQ, loopQ, forQ, whileQ]); first | (with_reducible refine retM_ret ?_) | refine retQ_ret ?_; simp)) | refine st_seq ?_ | refine st_block ?_ | ((with_reducible show (STri _ _ _ _ _) ∧ (STri _ _ _ _ _)); refine And.intro ?_ ?_) | ((first | refine st_reg ?_ | refine buildP_own ?_ | refine appP_own ?_) <;> (simp -dsimp; (repeat (simp -dsimp (disch := (first | omega | assumption | (refine Bool.eq_false_iff.1 ?_; assumption))) only [wrap_in, if_pos, if_neg]; (try simp -dsimp))))) | ((first | refine guardP_of (fun hc => ?_) (fun hc => ?_) | refine st_cond rfl (fun hc => ?_) (fun hc => ?_)) <;> (try simp only [lqA, lqB, lqC, lqD, lqE, lqF, lqG, lqH, lqI, lqJ, lqK, lqL, lqM, lqN, lqO] at hc) <;> (try (exfalso; first | omega | exact bool_tf hc (by assumption) | exact bool_ft hc (by assumption) | exact absurd (by assumption) hc)) <;> (first | with_reducible show STri _ _ _ _ _ _ | (simp -dsimp [hc]; (repeat (simp -dsimp (disch := (first | omega | assumption | (refine Bool.eq_false_iff.1 ?_; assumption))) only [wrap_in, if_pos, if_neg]; (try simp -dsimp [hc]))))))))
      refine st_for [1, 2] f.links.length (fun k T H => T = [(1, .ptr 1 0), (2, .ptr 2 0), (4, .c (I (denK f.links f.links.length))), (7, .c (I (numK f.links k))), (59, .c (.sl 3 (f.links.map rowL))), (60, .c (I f.links.length)), (61, .c (I k))] ∧
        H = [(1, .box 59 [.c (I f.lo), .c (I f.hi), .c (.sl 3 (f.links.map rowL)), .c (I f.weight), .c (I f.friction)]), (2, .box 107 [.c (I 0), .c (I 0), .c (.val (.slice none 0 0)), .c (I 0), .c (I 0), .c (I 0)])]) (by simp) ⟨by simp [numK], by simp⟩ ?_
      rintro k T H hk ⟨rfl, rfl⟩
      by_cases hlt : k < f.links.length
      · have hv : lkB f.links[k] = true := ht _ (by rw [List.take_length]; exact List.getElem_mem hlt)
        obtain ⟨_, ⟨n1, n2⟩, _⟩ := lk_spec hv
        obtain ⟨⟨p1, p2⟩, ⟨p3, p4⟩, ⟨p5, p6⟩, p7, p8⟩ := part_le D1 D2 hv
        obtain ⟨m1, m2⟩ := numK_le ht D1 D2 hk
        have hne : ¬ f.links[k].num = 0 := by omega
        have hm : (k : Int) ≤ 3 := by omega
        have hw1 : IntKind.i64.wrap (f.links[k].slack * 3600) = f.links[k].slack * 3600 := wrap_in _ (by omega) (by omega)
        have hw2 : IntKind.i64.wrap (f.links[k].slack * 3600 * f.links[k].den) = f.links[k].slack * 3600 * f.links[k].den := wrap_in _ (by omega) (by omega)
        have hw3 : IntKind.i64.wrap ((denK f.links f.links.length).tdiv f.links[k].num) = (denK f.links f.links.length).tdiv f.links[k].num := wrap_in _ (by omega) (by omega)
        have hw4 : IntKind.i64.wrap (f.links[k].slack * 3600 * f.links[k].den * (denK f.links f.links.length).tdiv f.links[k].num) = f.links[k].slack * 3600 * f.links[k].den * (denK f.links f.links.length).tdiv f.links[k].num := wrap_in _ (by omega) (by omega)
        have hw5 : IntKind.i64.wrap (numK f.links k + f.links[k].slack * 3600 * f.links[k].den * (denK f.links f.links.length).tdiv f.links[k].num) = stepN (denK f.links f.links.length) (numK f.links k) f.links[k] := wrap_in _ (by omega) (by omega)
        (repeat' (first | ((first | with_reducible refine st_skip ?_ | with_reducible refine st_exit ?_); (try simp only [seqQ, blockQ, loopQ, forQ, whileQ, reduceIte, Nat.reduceEqDiff])) | (with_reducible refine st_ret ?_; ((try simp only [seqQ, blockQ, loopQ, forQ, whileQ]); first | (with_reducible refine retM_ret ?_) | refine retQ_ret ?_; simp [hlt, hne, hw1, hw2, hw3, hw4, hw5])) | refine st_seq ?_ | refine st_block ?_ | ((with_reducible show (STri _ _ _ _ _) ∧ (STri _ _ _ _ _)); refine And.intro ?_ ?_) | ((first | refine st_reg ?_ | refine buildP_own ?_ | refine appP_own ?_) <;> (simp -dsimp [hlt, hne, hw1, hw2, hw3, hw4, hw5]; (repeat (simp -dsimp (disch := (first | omega | assumption | (refine Bool.eq_false_iff.1 ?_; assumption))) only [wrap_in, if_pos, if_neg]; (try simp -dsimp [hlt, hne, hw1, hw2, hw3, hw4, hw5]))))) | ((first | refine guardP_of (fun hc => ?_) (fun hc => ?_) | refine st_cond rfl (fun hc => ?_) (fun hc => ?_)) <;> (try simp only [lqA, lqB, lqC, lqD, lqE, lqF, lqG, lqH, lqI, lqJ, lqK, lqL, lqM, lqN, lqO] at hc) <;> (try (exfalso; first | omega | exact bool_tf hc (by assumption) | exact bool_ft hc (by assumption) | exact absurd (by assumption) hc)) <;> (first | with_reducible show STri _ _ _ _ _ _ | (simp -dsimp [hlt, hne, hw1, hw2, hw3, hw4, hw5, hc]; (repeat (simp -dsimp (disch := (first | omega | assumption | (refine Bool.eq_false_iff.1 ?_; assumption))) only [wrap_in, if_pos, if_neg]; (try simp -dsimp [hlt, hne, hw1, hw2, hw3, hw4, hw5, hc]))))))))
        exact ⟨hlt, by simp, by rw [numK_succ hlt]; simp, by simp⟩
      · have : k = f.links.length := by omega
        subst this
        obtain ⟨m1, m2⟩ := numK_le ht D1 D2 hk
        have hm : (f.links.length : Int) ≤ 4 := by omega
        (repeat' (first | ((first | with_reducible refine st_skip ?_ | with_reducible refine st_exit ?_); (try simp only [seqQ, blockQ, loopQ, forQ, whileQ, reduceIte, Nat.reduceEqDiff])) | (with_reducible refine st_ret ?_; ((try simp only [seqQ, blockQ, loopQ, forQ, whileQ]); first | (with_reducible refine retM_ret ?_) | refine retQ_ret ?_; simp)) | refine st_seq ?_ | refine st_block ?_ | ((with_reducible show (STri _ _ _ _ _) ∧ (STri _ _ _ _ _)); refine And.intro ?_ ?_) | ((first | refine st_reg ?_ | refine buildP_own ?_ | refine appP_own ?_ | refine callP_b (sOver (numK f.links f.links.length) (1000 * denK f.links f.links.length) (by omega) (by omega) (by omega) (by omega)) rfl ?_) <;> (simp -dsimp; (repeat (simp -dsimp (disch := (first | omega | assumption | (refine Bool.eq_false_iff.1 ?_; assumption))) only [wrap_in, if_pos, if_neg]; (try simp -dsimp))))) | ((first | refine guardP_of (fun hc => ?_) (fun hc => ?_) | refine st_cond rfl (fun hc => ?_) (fun hc => ?_)) <;> (try simp only [lqA, lqB, lqC, lqD, lqE, lqF, lqG, lqH, lqI, lqJ, lqK, lqL, lqM, lqN, lqO] at hc) <;> (try (exfalso; first | omega | exact bool_tf hc (by assumption) | exact bool_ft hc (by assumption) | exact absurd (by assumption) hc)) <;> (first | with_reducible show STri _ _ _ _ _ _ | (simp -dsimp [hc]; (repeat (simp -dsimp (disch := (first | omega | assumption | (refine Bool.eq_false_iff.1 ?_; assumption))) only [wrap_in, if_pos, if_neg]; (try simp -dsimp [hc]))))))))
        refine CLe.of_eq ?_
        have hall := lkto_all ht
        unfold rNew
        rw [if_pos (by simp [fcB, hsp, hw, hf, hall, hl4])]
        rfl
  · exact new_bad (by
      have : allIn (-10000) 10000 [f.weight] = false := by assumption
      simp only [allIn, List.all_cons, List.all_nil, Bool.and_true] at this; simp [fcB, this])
  · exact new_bad (by
      have : ¬ f.links.length ≤ 4 := by omega
      simp [fcB, this])
  · exact new_bad (by
      have : spanB (-3600) 3600 f.lo f.hi = false := by assumption
      simp [fcB, this])
end Go.Proofs.YtlodpljdhdhfmaaGreat
/- Dial, V: works. -/
namespace Go.Proofs.YtlodpljdhdhfmaaGreat
open Go.RowKit
def fcOK (f : Fc) : Bool := fcB f && decide (slackI f.links ≤ 3600)
theorem sNewOk {f : Fc} (hl : f.links.length ≤ 1000000) (h : fcB f = true) : SC Tryz.prog 97 [cF f] (.tup [cX f (slackI f.links), B (decide (slackI f.links ≤ 3600))]) := by
  have := sNewFace f hl
  unfold rNew at this
  rwa [if_pos h] at this
theorem sNewNo {f : Fc} (hl : f.links.length ≤ 1000000) (h : ¬ fcB f = true) : SC Tryz.prog 97 [cF f] (.tup [cX .zero 0, B false]) := by
  have := sNewFace f hl
  unfold rNew at this
  rwa [if_neg h] at this
def slX (xs : List Fc) : CV := .sl 6 (xs.map fun f => rowX f (slackI f.links))
def cWorks (w : Dw) : CV := .agg [I w.jump, I w.elo, I w.ehi, slF w.faces, slX w.faces]
attribute [simp] slX cWorks
def Dw.zero : Dw := ⟨0, 0, 0, []⟩
def dwB (w : Dw) : Bool := inB 1 3600 w.jump && (3600 % w.jump == 0) && spanB (-3600) 3600 w.elo w.ehi && inB 1 8 w.faces.length && w.faces.all fcOK
def rWorks (w : Dw) : CV := if dwB w then .tup [cWorks w, I 0] else .tup [cWorks .zero, I 2]
theorem works_bad {w : Dw} (h : dwB w = false) : CLe (.tup [.agg [I 0, I 0, I 0, .val (.slice none 0 0), .val (.slice none 0 0)], I 2]) (rWorks w) := by
  unfold rWorks; rw [if_neg (by simp [h])]
  exact .tup _ _ (.cons _ _ _ _ (.agg _ _ (.cons _ _ _ _ (.refl _) (.cons _ _ _ _ (.refl _) (.cons _ _ _ _ (.refl _) (.cons _ _ _ _ (.nil 5) (.cons _ _ _ _ (.nil 6) .nil)))))) (.cons _ _ _ _ (.refl _) .nil))
def FcTo (fs : List Fc) (k : Nat) : Prop := ∀ f ∈ fs.take k, fcOK f = true
theorem fc_succ {fs : List Fc} {k : Nat} (hlt : k < fs.length) (h : FcTo fs k) (hc : fcOK fs[k] = true) : FcTo fs (k + 1) := fun x hx => by
  rw [List.take_succ_eq_append_getElem hlt, List.mem_append] at hx
  rcases hx with hx | hx
  · exact h x hx
  · simp at hx; rw [hx]; exact hc
structure DwLen (w : Dw) : Prop where
  n : w.faces.length ≤ 1000000
  l : ∀ f ∈ w.faces, f.links.length ≤ 1000000
def rowsX (fs : List Fc) (k : Nat) : List (List CV) := (fs.take k).map fun f => rowX f (slackI f.links)
theorem not_allOK {fs : List Fc} {k : Nat} (hlt : k < fs.length) (h : fcOK fs[k] = false) : fs.all fcOK = false := by
  rw [Bool.eq_false_iff]
  intro h2
  rw [List.all_eq_true] at h2
  rw [h2 _ (List.getElem_mem hlt)] at h; cases h
theorem allIn1 (a b n : Int) : allIn a b [n] = inB a b n := by simp [allIn]
theorem rowsX_len {fs : List Fc} {k : Nat} (h : k ≤ fs.length) : (rowsX fs k).length = k := by simp [rowsX]; omega
theorem rowsX_succ {fs : List Fc} {k : Nat} (h : k < fs.length) : rowsX fs (k + 1) = rowsX fs k ++ [rowX fs[k] (slackI fs[k].links)] := by
  unfold rowsX; rw [List.take_succ_eq_append_getElem h, List.map_append]; rfl
theorem sNewWorks (w : Dw) (hw : DwLen w) : SC Tryz.prog 65 [cDw w] (rWorks w) := by
  refine law_dial_newWorks _ _ (by simp) ?_
  have hn := hw.n
  by_cases hj : inB 1 3600 w.jump = true
  · have hj2 := hj
    simp only [inB, Bool.and_eq_true, decide_eq_true_eq] at hj2
    obtain ⟨j1, j2⟩ := hj2
    have hne : ¬ w.jump = 0 := by omega
    have ht : (3600 : Int).tmod w.jump = 3600 % w.jump := Int.tmod_eq_emod_of_nonneg (by omega)
    (repeat' (first | ((first | with_reducible refine st_skip ?_ | with_reducible refine st_exit ?_); (try simp only [seqQ, blockQ, loopQ, forQ, whileQ, reduceIte, Nat.reduceEqDiff])) | (with_reducible refine st_ret ?_; ((try simp only [seqQ, blockQ, loopQ, forQ, whileQ]); first | (with_reducible refine retM_ret ?_) | refine retQ_ret ?_; simp [hne, ht, hj, allIn1])) | refine st_seq ?_ | refine st_block ?_ | ((with_reducible show (STri _ _ _ _ _) ∧ (STri _ _ _ _ _)); refine And.intro ?_ ?_) | ((first | refine st_reg ?_ | refine buildP_own ?_ | refine appP_own ?_ | refine callP_b (sWithin 1 3600 [w.jump] (by simp)) rfl ?_ | refine callP_b (sIsSpan w.elo w.ehi (-3600) 3600) rfl ?_ | refine callP_b (sWithin 1 8 [(w.faces.length : Int)] (by simp)) rfl ?_) <;> (simp -dsimp [hne, ht, hj, allIn1]; (repeat (simp -dsimp (disch := (first | omega | assumption | (refine Bool.eq_false_iff.1 ?_; assumption))) only [wrap_in, if_pos, if_neg]; (try simp -dsimp [hne, ht, hj, allIn1]))))) | ((first | refine guardP_of (fun hc => ?_) (fun hc => ?_) | refine st_cond rfl (fun hc => ?_) (fun hc => ?_)) <;> (try simp only [lqA, lqB, lqC, lqD, lqE, lqF, lqG, lqH, lqI, lqJ, lqK, lqL, lqM, lqN, lqO] at hc) <;> (try (exfalso; first | omega | exact bool_tf hc (by assumption) | exact bool_ft hc (by assumption) | exact absurd (by assumption) hc)) <;> (first | with_reducible show STri _ _ _ _ _ _ | (simp -dsimp [hne, ht, hj, allIn1, hc]; (repeat (simp -dsimp (disch := (first | omega | assumption | (refine Bool.eq_false_iff.1 ?_; assumption))) only [wrap_in, if_pos, if_neg]; (try simp -dsimp [hne, ht, hj, allIn1, hc]))))))))
    · exact works_bad (by simp [dwB, *])
    · rename_i hd _ hs _ _
      have hsp : spanB (-3600) 3600 w.elo w.ehi = true := by assumption
      have hdv : 3600 % w.jump = 0 := by assumption
      refine st_nilB 2 4 200 107 6 rfl (by simp) rfl (by simp [newOK]) ?_
      refine st_for [2, 200] w.faces.length (fun k T H => FcTo w.faces k ∧ T = [(2, .ptr 2 0), (37, .c (.sl 5 (w.faces.map rowF))), (38, .c (I w.faces.length)), (39, .c (I k))] ∧
        H = [(2, .box 105 [.c (I w.jump), .c (I w.elo), .c (I w.ehi), .c (.sl 5 (w.faces.map rowF)), .own 200 k]), (200, .arr 107 6 (rowsX w.faces k))]) (by simp) ⟨by simp [FcTo], by simp, by simp [rowsX]⟩ ?_
      rintro k T H hk ⟨hto, rfl, rfl⟩
      have hlen := rowsX_len hk
      have hA : k + 1 ≤ 9223372036854775807 := by omega
      have hB : (k + 1) * 64 ≤ 140737488355328 := by omega
      by_cases hlt : k < w.faces.length
      · have hll := hw.l w.faces[k] (List.getElem_mem hlt)
        by_cases hv : fcB w.faces[k] = true
        · by_cases hs : slackI w.faces[k].links ≤ 3600
          · (repeat' (first | ((first | with_reducible refine st_skip ?_ | with_reducible refine st_exit ?_); (try simp only [seqQ, blockQ, loopQ, forQ, whileQ, reduceIte, Nat.reduceEqDiff])) | (with_reducible refine st_ret ?_; ((try simp only [seqQ, blockQ, loopQ, forQ, whileQ]); first | (with_reducible refine retM_ret ?_) | refine retQ_ret ?_; simp [hlt, hs, hlen, hA, hB])) | refine st_seq ?_ | refine st_block ?_ | ((with_reducible show (STri _ _ _ _ _) ∧ (STri _ _ _ _ _)); refine And.intro ?_ ?_) | ((first | refine st_reg ?_ | refine buildP_own ?_ | refine appP_own ?_ | refine callP_b (sNewOk hll hv) rfl ?_) <;> (simp -dsimp [hlt, hs, hlen, hA, hB]; (repeat (simp -dsimp (disch := (first | omega | assumption | (refine Bool.eq_false_iff.1 ?_; assumption))) only [wrap_in, if_pos, if_neg]; (try simp -dsimp [hlt, hs, hlen, hA, hB]))))) | ((first | refine guardP_of (fun hc => ?_) (fun hc => ?_) | refine st_cond rfl (fun hc => ?_) (fun hc => ?_)) <;> (try simp only [lqA, lqB, lqC, lqD, lqE, lqF, lqG, lqH, lqI, lqJ, lqK, lqL, lqM, lqN, lqO] at hc) <;> (try (exfalso; first | omega | exact bool_tf hc (by assumption) | exact bool_ft hc (by assumption) | exact absurd (by assumption) hc)) <;> (first | with_reducible show STri _ _ _ _ _ _ | (simp -dsimp [hlt, hs, hlen, hA, hB, hc]; (repeat (simp -dsimp (disch := (first | omega | assumption | (refine Bool.eq_false_iff.1 ?_; assumption))) only [wrap_in, if_pos, if_neg]; (try simp -dsimp [hlt, hs, hlen, hA, hB, hc]))))))))
            exact ⟨hlt, by simp, fc_succ hlt hto (by simp [fcOK, hv, hs]), by simp, by rw [rowsX_succ hlt]; simp⟩
          · (repeat' (first | ((first | with_reducible refine st_skip ?_ | with_reducible refine st_exit ?_); (try simp only [seqQ, blockQ, loopQ, forQ, whileQ, reduceIte, Nat.reduceEqDiff])) | (with_reducible refine st_ret ?_; ((try simp only [seqQ, blockQ, loopQ, forQ, whileQ]); first | (with_reducible refine retM_ret ?_) | refine retQ_ret ?_; simp [hlt, hs, hlen, hA, hB])) | refine st_seq ?_ | refine st_block ?_ | ((with_reducible show (STri _ _ _ _ _) ∧ (STri _ _ _ _ _)); refine And.intro ?_ ?_) | ((first | refine st_reg ?_ | refine buildP_own ?_ | refine appP_own ?_ | refine callP_b (sNewOk hll hv) rfl ?_) <;> (simp -dsimp [hlt, hs, hlen, hA, hB]; (repeat (simp -dsimp (disch := (first | omega | assumption | (refine Bool.eq_false_iff.1 ?_; assumption))) only [wrap_in, if_pos, if_neg]; (try simp -dsimp [hlt, hs, hlen, hA, hB]))))) | ((first | refine guardP_of (fun hc => ?_) (fun hc => ?_) | refine st_cond rfl (fun hc => ?_) (fun hc => ?_)) <;> (try simp only [lqA, lqB, lqC, lqD, lqE, lqF, lqG, lqH, lqI, lqJ, lqK, lqL, lqM, lqN, lqO] at hc) <;> (try (exfalso; first | omega | exact bool_tf hc (by assumption) | exact bool_ft hc (by assumption) | exact absurd (by assumption) hc)) <;> (first | with_reducible show STri _ _ _ _ _ _ | (simp -dsimp [hlt, hs, hlen, hA, hB, hc]; (repeat (simp -dsimp (disch := (first | omega | assumption | (refine Bool.eq_false_iff.1 ?_; assumption))) only [wrap_in, if_pos, if_neg]; (try simp -dsimp [hlt, hs, hlen, hA, hB, hc]))))))))
            refine works_bad ?_
            have := not_allOK hlt (show fcOK w.faces[k] = false by simp [fcOK, hs])
            simp [dwB, this]
        · (repeat' (first | ((first | with_reducible refine st_skip ?_ | with_reducible refine st_exit ?_); (try simp only [seqQ, blockQ, loopQ, forQ, whileQ, reduceIte, Nat.reduceEqDiff])) | (with_reducible refine st_ret ?_; ((try simp only [seqQ, blockQ, loopQ, forQ, whileQ]); first | (with_reducible refine retM_ret ?_) | refine retQ_ret ?_; simp [hlt, hlen, hA, hB])) | refine st_seq ?_ | refine st_block ?_ | ((with_reducible show (STri _ _ _ _ _) ∧ (STri _ _ _ _ _)); refine And.intro ?_ ?_) | ((first | refine st_reg ?_ | refine buildP_own ?_ | refine appP_own ?_ | refine callP_b (sNewNo hll hv) rfl ?_) <;> (simp -dsimp [hlt, hlen, hA, hB]; (repeat (simp -dsimp (disch := (first | omega | assumption | (refine Bool.eq_false_iff.1 ?_; assumption))) only [wrap_in, if_pos, if_neg]; (try simp -dsimp [hlt, hlen, hA, hB]))))) | ((first | refine guardP_of (fun hc => ?_) (fun hc => ?_) | refine st_cond rfl (fun hc => ?_) (fun hc => ?_)) <;> (try simp only [lqA, lqB, lqC, lqD, lqE, lqF, lqG, lqH, lqI, lqJ, lqK, lqL, lqM, lqN, lqO] at hc) <;> (try (exfalso; first | omega | exact bool_tf hc (by assumption) | exact bool_ft hc (by assumption) | exact absurd (by assumption) hc)) <;> (first | with_reducible show STri _ _ _ _ _ _ | (simp -dsimp [hlt, hlen, hA, hB, hc]; (repeat (simp -dsimp (disch := (first | omega | assumption | (refine Bool.eq_false_iff.1 ?_; assumption))) only [wrap_in, if_pos, if_neg]; (try simp -dsimp [hlt, hlen, hA, hB, hc]))))))))
          refine works_bad ?_
          have := not_allOK hlt (show fcOK w.faces[k] = false by simp [fcOK, hv])
          simp [dwB, this]
      · have : k = w.faces.length := by omega
        subst this
        (repeat' (first | ((first | with_reducible refine st_skip ?_ | with_reducible refine st_exit ?_); (try simp only [seqQ, blockQ, loopQ, forQ, whileQ, reduceIte, Nat.reduceEqDiff])) | (with_reducible refine st_ret ?_; ((try simp only [seqQ, blockQ, loopQ, forQ, whileQ]); first | (with_reducible refine retM_ret ?_) | refine retQ_ret ?_; simp [hlen])) | refine st_seq ?_ | refine st_block ?_ | ((with_reducible show (STri _ _ _ _ _) ∧ (STri _ _ _ _ _)); refine And.intro ?_ ?_) | ((first | refine st_reg ?_ | refine buildP_own ?_ | refine appP_own ?_) <;> (simp -dsimp [hlen]; (repeat (simp -dsimp (disch := (first | omega | assumption | (refine Bool.eq_false_iff.1 ?_; assumption))) only [wrap_in, if_pos, if_neg]; (try simp -dsimp [hlen]))))) | ((first | refine guardP_of (fun hc => ?_) (fun hc => ?_) | refine st_cond rfl (fun hc => ?_) (fun hc => ?_)) <;> (try simp only [lqA, lqB, lqC, lqD, lqE, lqF, lqG, lqH, lqI, lqJ, lqK, lqL, lqM, lqN, lqO] at hc) <;> (try (exfalso; first | omega | exact bool_tf hc (by assumption) | exact bool_ft hc (by assumption) | exact absurd (by assumption) hc)) <;> (first | with_reducible show STri _ _ _ _ _ _ | (simp -dsimp [hlen, hc]; (repeat (simp -dsimp (disch := (first | omega | assumption | (refine Bool.eq_false_iff.1 ?_; assumption))) only [wrap_in, if_pos, if_neg]; (try simp -dsimp [hlen, hc]))))))))
        refine CLe.of_eq ?_
        have hall : w.faces.all fcOK = true := by
          rw [List.all_eq_true]
          intro x hx
          exact hto x (by rw [List.take_length]; exact hx)
        have h8 : inB 1 8 w.faces.length = true := by assumption
        unfold rWorks
        rw [if_pos (by simp [dwB, hj, hsp, hdv, h8, hall])]
        simp [rowsX]
    · exact works_bad (by simp [dwB, *])
    · exact works_bad (by simp [dwB, *])
  · (repeat' (first | ((first | with_reducible refine st_skip ?_ | with_reducible refine st_exit ?_); (try simp only [seqQ, blockQ, loopQ, forQ, whileQ, reduceIte, Nat.reduceEqDiff])) | (with_reducible refine st_ret ?_; ((try simp only [seqQ, blockQ, loopQ, forQ, whileQ]); first | (with_reducible refine retM_ret ?_) | refine retQ_ret ?_; simp [hj, allIn1])) | refine st_seq ?_ | refine st_block ?_ | ((with_reducible show (STri _ _ _ _ _) ∧ (STri _ _ _ _ _)); refine And.intro ?_ ?_) | ((first | refine st_reg ?_ | refine buildP_own ?_ | refine appP_own ?_ | refine callP_b (sWithin 1 3600 [w.jump] (by simp)) rfl ?_) <;> (simp -dsimp [hj, allIn1]; (repeat (simp -dsimp (disch := (first | omega | assumption | (refine Bool.eq_false_iff.1 ?_; assumption))) only [wrap_in, if_pos, if_neg]; (try simp -dsimp [hj, allIn1]))))) | ((first | refine guardP_of (fun hc => ?_) (fun hc => ?_) | refine st_cond rfl (fun hc => ?_) (fun hc => ?_)) <;> (try simp only [lqA, lqB, lqC, lqD, lqE, lqF, lqG, lqH, lqI, lqJ, lqK, lqL, lqM, lqN, lqO] at hc) <;> (try (exfalso; first | omega | exact bool_tf hc (by assumption) | exact bool_ft hc (by assumption) | exact absurd (by assumption) hc)) <;> (first | with_reducible show STri _ _ _ _ _ _ | (simp -dsimp [hj, allIn1, hc]; (repeat (simp -dsimp (disch := (first | omega | assumption | (refine Bool.eq_false_iff.1 ?_; assumption))) only [wrap_in, if_pos, if_neg]; (try simp -dsimp [hj, allIn1, hc]))))))))
    exact works_bad (by simp [dwB, *])
theorem sWorksOk {w : Dw} (hw : DwLen w) (h : dwB w = true) : SC Tryz.prog 65 [cDw w] (.tup [cWorks w, I 0]) := by
  have := sNewWorks w hw
  unfold rWorks at this
  rwa [if_pos h] at this
theorem sWorksNo {w : Dw} (hw : DwLen w) (h : ¬ dwB w = true) : SC Tryz.prog 65 [cDw w] (.tup [cWorks .zero, I 2]) := by
  have := sNewWorks w hw
  unfold rWorks at this
  rwa [if_neg h] at this
end Go.Proofs.YtlodpljdhdhfmaaGreat
/- Dial, VI: looks; where hands are driven to. -/
namespace Go.Proofs.YtlodpljdhdhfmaaGreat
open Go.RowKit
def rowW (w : Dw) : List CV := [I w.jump, I w.elo, I w.ehi, slF w.faces, slX w.faces]
attribute [simp] rowW
theorem sDriven (w : Dw) (lo hi : Int) : SC Tryz.prog 72 [cWorks w, cS lo hi] (.fn 99 [] [.ref [I lo, I hi], .ref (rowW w)]) := by
  refine law_dial_works_driven _ _ (by simp) ?_
  (repeat' (first | ((first | with_reducible refine st_skip ?_ | with_reducible refine st_exit ?_); (try simp only [seqQ, blockQ, loopQ, forQ, whileQ, reduceIte, Nat.reduceEqDiff])) | (with_reducible refine st_ret ?_; ((try simp only [seqQ, blockQ, loopQ, forQ, whileQ]); first | (with_reducible refine retM_ret ?_) | refine retQ_ret ?_; simp)) | refine st_seq ?_ | refine st_block ?_ | ((with_reducible show (STri _ _ _ _ _) ∧ (STri _ _ _ _ _)); refine And.intro ?_ ?_) | ((first | refine st_reg ?_ | refine buildP_own ?_ | refine appP_own ?_) <;> (simp -dsimp; (repeat (simp -dsimp (disch := (first | omega | assumption | (refine Bool.eq_false_iff.1 ?_; assumption))) only [wrap_in, if_pos, if_neg]; (try simp -dsimp))))) | ((first | refine guardP_of (fun hc => ?_) (fun hc => ?_) | refine st_cond rfl (fun hc => ?_) (fun hc => ?_)) <;> (try simp only [lqA, lqB, lqC, lqD, lqE, lqF, lqG, lqH, lqI, lqJ, lqK, lqL, lqM, lqN, lqO] at hc) <;> (try (exfalso; first | omega | exact bool_tf hc (by assumption) | exact bool_ft hc (by assumption) | exact absurd (by assumption) hc)) <;> (first | with_reducible show STri _ _ _ _ _ _ | (simp -dsimp [hc]; (repeat (simp -dsimp (disch := (first | omega | assumption | (refine Bool.eq_false_iff.1 ?_; assumption))) only [wrap_in, if_pos, if_neg]; (try simp -dsimp [hc]))))))))
  exact .refl _
def drAt (w : Dw) (lo : Int) (k : Nat) : Int := downI (lo + w.elo) w.jump + k * w.jump
def drN (w : Dw) (lo hi : Int) : Nat := ((hi + w.ehi - downI (lo + w.elo) w.jump) / w.jump + 1).toNat
def drL (w : Dw) (lo hi : Int) : List Int := (List.range (drN w lo hi)).map (drAt w lo)
theorem dr_lt {w : Dw} {lo hi : Int} {k : Nat} (h : 0 < w.jump) : k < drN w lo hi ↔ drAt w lo k ≤ hi + w.ehi := by
  unfold drN drAt
  have := Int.le_ediv_iff_mul_le (a := (k : Int)) (b := hi + w.ehi - downI (lo + w.elo) w.jump) h
  constructor
  · intro h1
    have := this.1 (by omega)
    omega
  · intro h1
    have := this.2 (by omega)
    omega
theorem dr_succ {w : Dw} {lo : Int} {k : Nat} : drAt w lo (k + 1) = drAt w lo k + w.jump := by
  unfold drAt
  rw [Int.natCast_add, Int.add_mul]; omega
structure DwSm (w : Dw) : Prop where
  a : 1 ≤ w.jump
  b : w.jump ≤ 3600
  c : -3600 ≤ w.elo
  d : w.elo ≤ 3600
  e : -3600 ≤ w.ehi
  f : w.ehi ≤ 3600
  g : w.elo ≤ w.ehi
theorem down_le {n b : Int} (h : 0 < b) : n - b < downI n b ∧ downI n b ≤ n := by
  unfold downI
  have h5 := Int.emod_nonneg n (show b ≠ 0 by omega)
  have h6 := Int.emod_lt_of_pos n h
  omega
theorem iDriven (w : Dw) (lo hi : Int) (hw : DwSm w) (h1 : -10000000000 ≤ lo) (h2 : lo ≤ 10000000000) (h3 : -10000000000 ≤ hi) (h4 : hi ≤ 10000000000) :
    IterL Tryz.prog 99 2000 [] [.ref [I lo, I hi], .ref (rowW w)] ((drL w lo hi).map rowI) := by
  have j1 := hw.a
  have j2 := hw.b
  have e1 := hw.c
  have e2 := hw.d
  have e3 := hw.e
  have e4 := hw.f
  obtain ⟨d1, d2⟩ := down_le (n := lo + w.elo) (b := w.jump) (by omega)
  refine ilaw_dial_works_driven_1 2000 _ _ _ (by omega) (by simp) (fun Iv A G id hG hY => ?_)
  have hlen : ((drL w lo hi).map rowI).length = drN w lo hi := by simp [drL]
  (repeat' (first | ((first | with_reducible refine st_skip ?_ | with_reducible refine st_exit ?_); (try simp only [seqQ, blockQ, loopQ, forQ, whileQ, reduceIte, Nat.reduceEqDiff])) | (with_reducible refine st_ret ?_; ((try simp only [seqQ, blockQ, loopQ, forQ, whileQ]); first | (with_reducible refine retM_ret ?_) | refine retQ_ret ?_; simp)) | refine st_seq ?_ | refine st_block ?_ | ((with_reducible show (STri _ _ _ _ _) ∧ (STri _ _ _ _ _)); refine And.intro ?_ ?_) | ((first | refine st_reg ?_ | refine buildP_own ?_ | refine appP_own ?_ | refine callP_b (sDown (lo + w.elo) w.jump (by omega) (by omega) (by omega) (by omega)) rfl ?_) <;> (simp -dsimp; (repeat (simp -dsimp (disch := (first | omega | assumption | (refine Bool.eq_false_iff.1 ?_; assumption))) only [wrap_in, if_pos, if_neg]; (try simp -dsimp))))) | ((first | refine guardP_of (fun hc => ?_) (fun hc => ?_) | refine st_cond rfl (fun hc => ?_) (fun hc => ?_)) <;> (try simp only [lqA, lqB, lqC, lqD, lqE, lqF, lqG, lqH, lqI, lqJ, lqK, lqL, lqM, lqN, lqO] at hc) <;> (try (exfalso; first | omega | exact bool_tf hc (by assumption) | exact bool_ft hc (by assumption) | exact absurd (by assumption) hc)) <;> (first | with_reducible show STri _ _ _ _ _ _ | (simp -dsimp [hc]; (repeat (simp -dsimp (disch := (first | omega | assumption | (refine Bool.eq_false_iff.1 ?_; assumption))) only [wrap_in, if_pos, if_neg]; (try simp -dsimp [hc]))))))))
  refine st_for [1000002000] (drN w lo hi) (fun k T H => drAt w lo k ≤ 20000000000 ∧ -20000000000 ≤ drAt w lo k ∧ T = [(0, .yl id), (1, .c (.ref [I lo, I hi])), (2, .c (.ref (rowW w))), (4, .c (I (drAt w lo k)))] ∧ H = [(1000002000, .gh k false)]) (by simp) ⟨by simp [drAt]; omega, by simp [drAt]; omega, by simp [drAt], by simp⟩ ?_
  rintro k T H hk ⟨b1, b2, rfl, rfl⟩
  by_cases hlt : k < drN w lo hi
  · have hle := (dr_lt (by omega)).1 hlt
    have hrow : ((drL w lo hi).map rowI)[k]? = some [I (drAt w lo k)] := by simp [drL, hlt]
    (repeat' (first | ((first | with_reducible refine st_skip ?_ | with_reducible refine st_exit ?_); (try simp only [seqQ, blockQ, loopQ, forQ, whileQ, reduceIte, Nat.reduceEqDiff])) | (with_reducible refine st_ret ?_; ((try simp only [seqQ, blockQ, loopQ, forQ, whileQ]); first | (with_reducible refine retM_ret ?_) | refine retQ_ret ?_; simp [hle])) | refine st_seq ?_ | refine st_block ?_ | ((with_reducible show (STri _ _ _ _ _) ∧ (STri _ _ _ _ _)); refine And.intro ?_ ?_) | ((first | refine st_reg ?_ | ((with_reducible show callVP _ _ _ _ _ _ _); refine callV_yl (hY k _ hrow) [] (by first | rfl | simp) (fun j hj => by cases hj) rfl ?_ ?_) | refine buildP_own ?_ | refine appP_own ?_) <;> (simp -dsimp [hle]; (repeat (simp -dsimp (disch := (first | omega | assumption | (refine Bool.eq_false_iff.1 ?_; assumption))) only [wrap_in, if_pos, if_neg]; (try simp -dsimp [hle]))))) | ((first | refine guardP_of (fun hc => ?_) (fun hc => ?_) | refine st_cond rfl (fun hc => ?_) (fun hc => ?_)) <;> (try simp only [lqA, lqB, lqC, lqD, lqE, lqF, lqG, lqH, lqI, lqJ, lqK, lqL, lqM, lqN, lqO] at hc) <;> (try (exfalso; first | omega | exact bool_tf hc (by assumption) | exact bool_ft hc (by assumption) | exact absurd (by assumption) hc)) <;> (first | with_reducible show STri _ _ _ _ _ _ | (simp -dsimp [hle, hc]; (repeat (simp -dsimp (disch := (first | omega | assumption | (refine Bool.eq_false_iff.1 ?_; assumption))) only [wrap_in, if_pos, if_neg]; (try simp -dsimp [hle, hc]))))))))
    · exact ⟨hlt, by simp, by rw [dr_succ]; omega, by rw [dr_succ]; omega, by rw [dr_succ], by simp⟩
    · exact st_ret ⟨.inr rfl, k + 1, true, rfl, fun h => by cases h⟩
  · have hle : ¬ drAt w lo k ≤ hi + w.ehi := fun h => hlt ((dr_lt (by omega)).2 h)
    (repeat' (first | ((first | with_reducible refine st_skip ?_ | with_reducible refine st_exit ?_); (try simp only [seqQ, blockQ, loopQ, forQ, whileQ, reduceIte, Nat.reduceEqDiff])) | (with_reducible refine st_ret ?_; ((try simp only [seqQ, blockQ, loopQ, forQ, whileQ]); first | (with_reducible refine retM_ret ?_) | refine retQ_ret ?_; simp [hle])) | refine st_seq ?_ | refine st_block ?_ | ((with_reducible show (STri _ _ _ _ _) ∧ (STri _ _ _ _ _)); refine And.intro ?_ ?_) | ((first | refine st_reg ?_ | refine buildP_own ?_ | refine appP_own ?_) <;> (simp -dsimp [hle]; (repeat (simp -dsimp (disch := (first | omega | assumption | (refine Bool.eq_false_iff.1 ?_; assumption))) only [wrap_in, if_pos, if_neg]; (try simp -dsimp [hle]))))) | ((first | refine guardP_of (fun hc => ?_) (fun hc => ?_) | refine st_cond rfl (fun hc => ?_) (fun hc => ?_)) <;> (try simp only [lqA, lqB, lqC, lqD, lqE, lqF, lqG, lqH, lqI, lqJ, lqK, lqL, lqM, lqN, lqO] at hc) <;> (try (exfalso; first | omega | exact bool_tf hc (by assumption) | exact bool_ft hc (by assumption) | exact absurd (by assumption) hc)) <;> (first | with_reducible show STri _ _ _ _ _ _ | (simp -dsimp [hle, hc]; (repeat (simp -dsimp (disch := (first | omega | assumption | (refine Bool.eq_false_iff.1 ?_; assumption))) only [wrap_in, if_pos, if_neg]; (try simp -dsimp [hle, hc]))))))))
    exact ⟨.inl rfl, k, false, rfl, fun _ => by simp [drL]; omega⟩
structure Lo where
  (w : Dw) (f : Fc) (at' wlo whi : Int)
def cLook (k : Lo) : CV := .agg [I k.w.jump, I k.w.elo, I k.w.ehi, slF k.w.faces, slX k.w.faces, I k.f.lo, I k.f.hi, slLd k.f.links, I k.f.weight, I k.f.friction, I (slackI k.f.links), I k.at', I k.wlo, I k.whi]
attribute [simp] cLook
def haL (k : Lo) : List (Int × Int) := (drL k.w k.at' k.at').map fun d => (handLo k.f (slackI k.f.links) d k.wlo, handHi k.f (slackI k.f.links) d k.wlo k.whi)
def rowPd (x : Int × Int) : List CV := [cS x.1 x.2]
structure LoSm (k : Lo) : Prop where
  w : DwSm k.w
  f : FcSm k.f (slackI k.f.links)
  a : 0 ≤ k.at'
  b : k.at' ≤ 3155760000
  c : -10000 ≤ k.wlo
  d : k.wlo ≤ 10000
  e : -10000 ≤ k.whi
  g : k.whi ≤ 10000
theorem dr_bd {w : Dw} {lo hi : Int} (hw : DwSm w) {j : Nat} {d : Int} (h : (drL w lo hi)[j]? = some d) : lo - 7200 ≤ d ∧ d ≤ hi + 3600 := by
  unfold drL at h
  rw [List.getElem?_map, Option.map_eq_some_iff] at h
  obtain ⟨i, h1, rfl⟩ := h
  have hi := List.mem_range.1 (List.mem_of_getElem? h1)
  have j1 := hw.a
  have j2 := hw.b
  have e1 := hw.c
  have e4 := hw.f
  have h2 := (dr_lt (by omega)).1 hi
  obtain ⟨d1, d2⟩ := down_le (n := lo + w.elo) (b := w.jump) (by omega)
  have h3 : 0 ≤ (i : Int) * w.jump := Int.mul_nonneg (by omega) (by omega)
  unfold drAt at *
  omega
theorem iAllD (k : Lo) (hk : LoSm k) : IterL Tryz.prog 37 1000 [cLook k] [] ((haL k).map rowPd) := by
  refine ilaw_dial_look_all 1000 _ _ _ (by omega) (by simp) (fun Iv A G id hG hY => ?_)
  have hlen : ((haL k).map rowPd).length = ((drL k.w k.at' k.at').map rowI).length := by simp [haL]
  (repeat' (first | ((first | with_reducible refine st_skip ?_ | with_reducible refine st_exit ?_); (try simp only [seqQ, blockQ, loopQ, forQ, whileQ, reduceIte, Nat.reduceEqDiff])) | (with_reducible refine st_ret ?_; ((try simp only [seqQ, blockQ, loopQ, forQ, whileQ]); first | (with_reducible refine retM_ret ?_) | refine retQ_ret ?_; simp)) | refine st_seq ?_ | refine st_block ?_ | ((with_reducible show (STri _ _ _ _ _) ∧ (STri _ _ _ _ _)); refine And.intro ?_ ?_) | ((first | refine st_reg ?_ | refine buildP_own ?_ | refine appP_own ?_ | refine callP_b (sDriven k.w k.at' k.at') rfl ?_) <;> (simp -dsimp; (repeat (simp -dsimp (disch := (first | omega | assumption | (refine Bool.eq_false_iff.1 ?_; assumption))) only [wrap_in, if_pos, if_neg]; (try simp -dsimp))))) | ((first | refine guardP_of (fun hc => ?_) (fun hc => ?_) | refine st_cond rfl (fun hc => ?_) (fun hc => ?_)) <;> (try simp only [lqA, lqB, lqC, lqD, lqE, lqF, lqG, lqH, lqI, lqJ, lqK, lqL, lqM, lqN, lqO] at hc) <;> (try (exfalso; first | omega | exact bool_tf hc (by assumption) | exact bool_ft hc (by assumption) | exact absurd (by assumption) hc)) <;> (first | with_reducible show STri _ _ _ _ _ _ | (simp -dsimp [hc]; (repeat (simp -dsimp (disch := (first | omega | assumption | (refine Bool.eq_false_iff.1 ?_; assumption))) only [wrap_in, if_pos, if_neg]; (try simp -dsimp [hc]))))))))
  have w1 := hk.a
  have w2 := hk.b
  refine st_range (iDriven k.w k.at' k.at' hk.w (by omega) (by omega) (by omega) (by omega)) [1000001000, 1002, 1003] [id] (fun j R => R = [(1000001000, .gh j false), (1002, .box 109 ([I k.w.jump, I k.w.elo, I k.w.ehi, slF k.w.faces, slX k.w.faces, I k.f.lo, I k.f.hi, slLd k.f.links, I k.f.weight, I k.f.friction, I (slackI k.f.links), I k.at', I k.wlo, I k.whi].map .c)), (1003, .box 147 [.yl id])])
    rfl rfl rfl (by kernel_rfl) (by show (1000 : Nat) + 1000 ≤ 2000; decide) (fun j hj => by simp at hj; subst hj; exact hG) (by simp) (by simp) (by simp) (by simp) ?_ ?_
  · rintro j row R rfl hrow Iv1 G1 hGG hin
    obtain ⟨d, hd, rfl⟩ : ∃ d, (drL k.w k.at' k.at')[j]? = some d ∧ row = [I d] := by
      rw [List.getElem?_map, Option.map_eq_some_iff] at hrow
      obtain ⟨d, h1, h2⟩ := hrow
      exact ⟨d, h1, h2.symm⟩
    obtain ⟨b1, b2⟩ := dr_bd hk.w hd
    have hrow2 : ((haL k).map rowPd)[j]? = some [cS (handLo k.f (slackI k.f.links) d k.wlo) (handHi k.f (slackI k.f.links) d k.wlo k.whi)] := by simp [haL, hd, rowPd]
    have c1 := hk.c
    have c2 := hk.d
    have c3 := hk.e
    have c4 := hk.g
    (repeat' (first | ((first | with_reducible refine st_skip ?_ | with_reducible refine st_exit ?_); (try simp only [seqQ, blockQ, loopQ, forQ, whileQ, reduceIte, Nat.reduceEqDiff])) | (with_reducible refine st_ret ?_; ((try simp only [seqQ, blockQ, loopQ, forQ, whileQ]); first | (with_reducible refine retM_ret ?_) | refine retQ_ret ?_; simp)) | refine st_seq ?_ | refine st_block ?_ | ((with_reducible show (STri _ _ _ _ _) ∧ (STri _ _ _ _ _)); refine And.intro ?_ ?_) | ((first | refine st_reg ?_ | refine buildP_own ?_ | refine appP_own ?_) <;> (simp -dsimp; (repeat (simp -dsimp (disch := (first | omega | assumption | (refine Bool.eq_false_iff.1 ?_; assumption))) only [wrap_in, if_pos, if_neg]; (try simp -dsimp))))) | ((first | refine guardP_of (fun hc => ?_) (fun hc => ?_) | refine st_cond rfl (fun hc => ?_) (fun hc => ?_)) <;> (try simp only [lqA, lqB, lqC, lqD, lqE, lqF, lqG, lqH, lqI, lqJ, lqK, lqL, lqM, lqN, lqO] at hc) <;> (try (exfalso; first | omega | exact bool_tf hc (by assumption) | exact bool_ft hc (by assumption) | exact absurd (by assumption) hc)) <;> (first | with_reducible show STri _ _ _ _ _ _ | (simp -dsimp [hc]; (repeat (simp -dsimp (disch := (first | omega | assumption | (refine Bool.eq_false_iff.1 ?_; assumption))) only [wrap_in, if_pos, if_neg]; (try simp -dsimp [hc]))))))))
    refine ⟨rfl, fun Iv2 hin2 => ?_⟩
    (repeat' (first | ((first | with_reducible refine st_skip ?_ | with_reducible refine st_exit ?_); (try simp only [seqQ, blockQ, loopQ, forQ, whileQ, reduceIte, Nat.reduceEqDiff])) | (with_reducible refine st_ret ?_; ((try simp only [seqQ, blockQ, loopQ, forQ, whileQ]); first | (with_reducible refine retM_ret ?_) | refine retQ_ret ?_; simp)) | refine st_seq ?_ | refine st_block ?_ | ((with_reducible show (STri _ _ _ _ _) ∧ (STri _ _ _ _ _)); refine And.intro ?_ ?_) | ((first | refine st_reg ?_ | ((with_reducible show callVP _ _ _ _ _ _ _); refine callV_yl (hin2 id j _ hG (hY j _ hrow2) )  [id]  (by first | rfl | simp) ( fun i hi => by (simp at hi; subst hi; exact hG.imp fun v h => hGG _ _ h)) rfl ?_ ?_) | refine buildP_own ?_ | refine appP_own ?_ | refine callP_b (sHands k.f (slackI k.f.links) d k.wlo k.whi hk.f (by omega) (by omega) (by omega) (by omega) (by omega) (by omega)) rfl ?_) <;> (simp -dsimp; (repeat (simp -dsimp (disch := (first | omega | assumption | (refine Bool.eq_false_iff.1 ?_; assumption))) only [wrap_in, if_pos, if_neg]; (try simp -dsimp))))) | ((first | refine guardP_of (fun hc => ?_) (fun hc => ?_) | refine st_cond rfl (fun hc => ?_) (fun hc => ?_)) <;> (try simp only [lqA, lqB, lqC, lqD, lqE, lqF, lqG, lqH, lqI, lqJ, lqK, lqL, lqM, lqN, lqO] at hc) <;> (try (exfalso; first | omega | exact bool_tf hc (by assumption) | exact bool_ft hc (by assumption) | exact absurd (by assumption) hc)) <;> (first | with_reducible show STri _ _ _ _ _ _ | (simp -dsimp [hc]; (repeat (simp -dsimp (disch := (first | omega | assumption | (refine Bool.eq_false_iff.1 ?_; assumption))) only [wrap_in, if_pos, if_neg]; (try simp -dsimp [hc]))))))))
    · exact ⟨by simp, by simp, by simp⟩
    · exact st_ret ⟨by simp, by simp, .inr rfl, j + 1, true, rfl, fun h => by cases h⟩
  · rintro R rfl
    exact ⟨.inl rfl, _, false, rfl, fun _ => hlen.symm⟩
end Go.Proofs.YtlodpljdhdhfmaaGreat
/- Dial, VII: the least and the greatest; how far a dial is off. -/
namespace Go.Proofs.YtlodpljdhdhfmaaGreat
open Go.RowKit
def rowSd (x : Int × Int) : List CV := [I x.1, I x.2]
def slS (l : List (Int × Int)) : CV := .sl 2 (l.map rowSd)
attribute [simp] rowSd slS rowPd
def selK (b : Int × Int → Int × Int → Bool) (l : List (Int × Int)) (k : Nat) : Int × Int := ((l.take k).drop 1).foldl (fun m x => if b x m then x else m) (l.headD (0, 0))
theorem selK_one (b : Int × Int → Int × Int → Bool) {l : List (Int × Int)} (h : 0 < l.length) : selK b l 1 = l[0] := by
  cases l with
  | nil => simp at h
  | cons x xs => simp [selK]
theorem selK_succ (b : Int × Int → Int × Int → Bool) {l : List (Int × Int)} {k : Nat} (h1 : 1 ≤ k) (h : k < l.length) : selK b l (k + 1) = if b l[k] (selK b l k) then l[k] else selK b l k := by
  unfold selK
  rw [List.take_succ_eq_append_getElem h, List.drop_append_of_le_length (by simp; omega), List.foldl_append]
  rfl
theorem selK_mem (b : Int × Int → Int × Int → Bool) {l : List (Int × Int)} (h : 0 < l.length) : ∀ {k : Nat}, 1 ≤ k → k ≤ l.length → selK b l k ∈ l
  | 1, _, _ => by rw [selK_one b h]; exact List.getElem_mem _
  | k + 2, _, hk => by
    rw [selK_succ b (by omega) (by omega)]
    split
    · exact List.getElem_mem _
    · exact selK_mem b h (by omega) (by omega)
def minB (c : Int × Int → Int × Int → Int) (x m : Int × Int) : Bool := decide (c x m < 0)
def maxB (c : Int × Int → Int × Int → Int) (x m : Int × Int) : Bool := decide (c x m > 0)
theorem sMinFunc (l : List (Int × Int)) (f : FuncId) (fs cs : List CV) (c : Int × Int → Int × Int → Int) (h0 : 0 < l.length) (hl : l.length ≤ 1000000000) (he : Ent Tryz.prog f) (hp : ∀ x ∈ l, ∀ y ∈ l, SC Tryz.prog f (fs ++ [cS x.1 x.2, cS y.1 y.2] ++ cs) (I (c x y))) :
    SC Tryz.prog 68 [slS l, .fn f fs cs] (cS (selK (minB c) l l.length).1 (selK (minB c) l l.length).2) := by
  refine law_slices_MinFunc_api_Span_api_Span _ _ (by simp) ?_
  unfold slS
  (repeat' (first | ((first | with_reducible refine st_skip ?_ | with_reducible refine st_exit ?_); (try simp only [seqQ, blockQ, loopQ, forQ, whileQ, reduceIte, Nat.reduceEqDiff])) | (with_reducible refine st_ret ?_; ((try simp only [seqQ, blockQ, loopQ, forQ, whileQ]); first | (with_reducible refine retM_ret ?_) | refine retQ_ret ?_; simp [h0])) | refine st_seq ?_ | refine st_block ?_ | ((with_reducible show (STri _ _ _ _ _) ∧ (STri _ _ _ _ _)); refine And.intro ?_ ?_) | ((first | refine st_reg ?_ | refine buildP_own ?_ | refine appP_own ?_) <;> (simp -dsimp [h0]; (repeat (simp -dsimp (disch := (first | omega | assumption | (refine Bool.eq_false_iff.1 ?_; assumption))) only [wrap_in, if_pos, if_neg]; (try simp -dsimp [h0]))))) | ((first | refine guardP_of (fun hc => ?_) (fun hc => ?_) | refine st_cond rfl (fun hc => ?_) (fun hc => ?_)) <;> (try simp only [lqA, lqB, lqC, lqD, lqE, lqF, lqG, lqH, lqI, lqJ, lqK, lqL, lqM, lqN, lqO] at hc) <;> (try (exfalso; first | omega | exact bool_tf hc (by assumption) | exact bool_ft hc (by assumption) | exact absurd (by assumption) hc)) <;> (first | with_reducible show STri _ _ _ _ _ _ | (simp -dsimp [h0, hc]; (repeat (simp -dsimp (disch := (first | omega | assumption | (refine Bool.eq_false_iff.1 ?_; assumption))) only [wrap_in, if_pos, if_neg]; (try simp -dsimp [h0, hc]))))))))
  refine st_for [4, 5] l.length (fun k T H => k + 1 ≤ l.length ∧ T = [(0, .c (.sl 2 (l.map rowSd))), (1, .c (.fn f fs cs)), (4, .ptr 4 0), (5, .ptr 5 0), (6, .c (I (k + 1)))] ∧ H = [(4, .box 34 [.c (I 0), .c (I 0)]), (5, .box 34 [.c (I (selK (minB c) l (k + 1)).1), .c (I (selK (minB c) l (k + 1)).2)])])
    (by simp) ⟨by omega, by simp, by simp [selK_one (minB c) h0]⟩ ?_
  rintro k T H hk ⟨hk1, rfl, rfl⟩
  by_cases hlt : k + 1 < l.length
  · have hlt2 : ((k : Int) + 1) < l.length := by omega
    have hm := selK_mem (minB c) h0 (k := k + 1) (by omega) (by omega)
    have hx : l[k + 1] ∈ l := List.getElem_mem hlt
    have hs := selK_succ (minB c) (k := k + 1) (by omega) hlt
    have htn : ((k : Int) + 1).toNat = k + 1 := by omega
    (repeat' (first | ((first | with_reducible refine st_skip ?_ | with_reducible refine st_exit ?_); (try simp only [seqQ, blockQ, loopQ, forQ, whileQ, reduceIte, Nat.reduceEqDiff])) | (with_reducible refine st_ret ?_; ((try simp only [seqQ, blockQ, loopQ, forQ, whileQ]); first | (with_reducible refine retM_ret ?_) | refine retQ_ret ?_; simp [hlt, hlt2, htn])) | refine st_seq ?_ | refine st_block ?_ | ((with_reducible show (STri _ _ _ _ _) ∧ (STri _ _ _ _ _)); refine And.intro ?_ ?_) | ((first | refine st_reg ?_ | ((with_reducible show callVP _ _ _ _ _ _ _); refine callV_b (by first | exact Ent.h (by assumption) | kernel_rfl) (hp _ hx _ hm) rfl ?_) | refine buildP_own ?_ | refine appP_own ?_) <;> (simp -dsimp [hlt, hlt2, htn]; (repeat (simp -dsimp (disch := (first | omega | assumption | (refine Bool.eq_false_iff.1 ?_; assumption))) only [wrap_in, if_pos, if_neg]; (try simp -dsimp [hlt, hlt2, htn]))))) | ((first | refine guardP_of (fun hc => ?_) (fun hc => ?_) | refine st_cond rfl (fun hc => ?_) (fun hc => ?_)) <;> (try simp only [lqA, lqB, lqC, lqD, lqE, lqF, lqG, lqH, lqI, lqJ, lqK, lqL, lqM, lqN, lqO] at hc) <;> (try (exfalso; first | omega | exact bool_tf hc (by assumption) | exact bool_ft hc (by assumption) | exact absurd (by assumption) hc)) <;> (first | with_reducible show STri _ _ _ _ _ _ | (simp -dsimp [hlt, hlt2, htn, hc]; (repeat (simp -dsimp (disch := (first | omega | assumption | (refine Bool.eq_false_iff.1 ?_; assumption))) only [wrap_in, if_pos, if_neg]; (try simp -dsimp [hlt, hlt2, htn, hc]))))))))
    · rw [if_pos (by simpa [minB] using hc)] at hs
      exact ⟨by omega, by simp, by omega, by simp, by rw [hs]; simp⟩
    · rw [if_neg (by simpa [minB] using hc)] at hs
      exact ⟨by omega, by simp, by omega, by simp, by rw [hs]; simp⟩
  · have : k + 1 = l.length := by omega
    have h2 : ¬ ((k : Int) + 1 < l.length) := by omega
    (repeat' (first | ((first | with_reducible refine st_skip ?_ | with_reducible refine st_exit ?_); (try simp only [seqQ, blockQ, loopQ, forQ, whileQ, reduceIte, Nat.reduceEqDiff])) | (with_reducible refine st_ret ?_; ((try simp only [seqQ, blockQ, loopQ, forQ, whileQ]); first | (with_reducible refine retM_ret ?_) | refine retQ_ret ?_; simp [h2])) | refine st_seq ?_ | refine st_block ?_ | ((with_reducible show (STri _ _ _ _ _) ∧ (STri _ _ _ _ _)); refine And.intro ?_ ?_) | ((first | refine st_reg ?_ | refine buildP_own ?_ | refine appP_own ?_) <;> (simp -dsimp [h2]; (repeat (simp -dsimp (disch := (first | omega | assumption | (refine Bool.eq_false_iff.1 ?_; assumption))) only [wrap_in, if_pos, if_neg]; (try simp -dsimp [h2]))))) | ((first | refine guardP_of (fun hc => ?_) (fun hc => ?_) | refine st_cond rfl (fun hc => ?_) (fun hc => ?_)) <;> (try simp only [lqA, lqB, lqC, lqD, lqE, lqF, lqG, lqH, lqI, lqJ, lqK, lqL, lqM, lqN, lqO] at hc) <;> (try (exfalso; first | omega | exact bool_tf hc (by assumption) | exact bool_ft hc (by assumption) | exact absurd (by assumption) hc)) <;> (first | with_reducible show STri _ _ _ _ _ _ | (simp -dsimp [h2, hc]; (repeat (simp -dsimp (disch := (first | omega | assumption | (refine Bool.eq_false_iff.1 ?_; assumption))) only [wrap_in, if_pos, if_neg]; (try simp -dsimp [h2, hc]))))))))
    rw [this]; exact .refl _
theorem sMaxFunc (l : List (Int × Int)) (f : FuncId) (fs cs : List CV) (c : Int × Int → Int × Int → Int) (h0 : 0 < l.length) (hl : l.length ≤ 1000000000) (he : Ent Tryz.prog f) (hp : ∀ x ∈ l, ∀ y ∈ l, SC Tryz.prog f (fs ++ [cS x.1 x.2, cS y.1 y.2] ++ cs) (I (c x y))) :
    SC Tryz.prog 70 [slS l, .fn f fs cs] (cS (selK (maxB c) l l.length).1 (selK (maxB c) l l.length).2) := by
  refine law_slices_MaxFunc_api_Span_api_Span _ _ (by simp) ?_
  unfold slS
  (repeat' (first | ((first | with_reducible refine st_skip ?_ | with_reducible refine st_exit ?_); (try simp only [seqQ, blockQ, loopQ, forQ, whileQ, reduceIte, Nat.reduceEqDiff])) | (with_reducible refine st_ret ?_; ((try simp only [seqQ, blockQ, loopQ, forQ, whileQ]); first | (with_reducible refine retM_ret ?_) | refine retQ_ret ?_; simp [h0])) | refine st_seq ?_ | refine st_block ?_ | ((with_reducible show (STri _ _ _ _ _) ∧ (STri _ _ _ _ _)); refine And.intro ?_ ?_) | ((first | refine st_reg ?_ | refine buildP_own ?_ | refine appP_own ?_) <;> (simp -dsimp [h0]; (repeat (simp -dsimp (disch := (first | omega | assumption | (refine Bool.eq_false_iff.1 ?_; assumption))) only [wrap_in, if_pos, if_neg]; (try simp -dsimp [h0]))))) | ((first | refine guardP_of (fun hc => ?_) (fun hc => ?_) | refine st_cond rfl (fun hc => ?_) (fun hc => ?_)) <;> (try simp only [lqA, lqB, lqC, lqD, lqE, lqF, lqG, lqH, lqI, lqJ, lqK, lqL, lqM, lqN, lqO] at hc) <;> (try (exfalso; first | omega | exact bool_tf hc (by assumption) | exact bool_ft hc (by assumption) | exact absurd (by assumption) hc)) <;> (first | with_reducible show STri _ _ _ _ _ _ | (simp -dsimp [h0, hc]; (repeat (simp -dsimp (disch := (first | omega | assumption | (refine Bool.eq_false_iff.1 ?_; assumption))) only [wrap_in, if_pos, if_neg]; (try simp -dsimp [h0, hc]))))))))
  refine st_for [4, 5] l.length (fun k T H => k + 1 ≤ l.length ∧ T = [(0, .c (.sl 2 (l.map rowSd))), (1, .c (.fn f fs cs)), (4, .ptr 4 0), (5, .ptr 5 0), (6, .c (I (k + 1)))] ∧ H = [(4, .box 34 [.c (I 0), .c (I 0)]), (5, .box 34 [.c (I (selK (maxB c) l (k + 1)).1), .c (I (selK (maxB c) l (k + 1)).2)])])
    (by simp) ⟨by omega, by simp, by simp [selK_one (maxB c) h0]⟩ ?_
  rintro k T H hk ⟨hk1, rfl, rfl⟩
  by_cases hlt : k + 1 < l.length
  · have hlt2 : ((k : Int) + 1) < l.length := by omega
    have hm := selK_mem (maxB c) h0 (k := k + 1) (by omega) (by omega)
    have hx : l[k + 1] ∈ l := List.getElem_mem hlt
    have hs := selK_succ (maxB c) (k := k + 1) (by omega) hlt
    have htn : ((k : Int) + 1).toNat = k + 1 := by omega
    (repeat' (first | ((first | with_reducible refine st_skip ?_ | with_reducible refine st_exit ?_); (try simp only [seqQ, blockQ, loopQ, forQ, whileQ, reduceIte, Nat.reduceEqDiff])) | (with_reducible refine st_ret ?_; ((try simp only [seqQ, blockQ, loopQ, forQ, whileQ]); first | (with_reducible refine retM_ret ?_) | refine retQ_ret ?_; simp [hlt, hlt2, htn])) | refine st_seq ?_ | refine st_block ?_ | ((with_reducible show (STri _ _ _ _ _) ∧ (STri _ _ _ _ _)); refine And.intro ?_ ?_) | ((first | refine st_reg ?_ | ((with_reducible show callVP _ _ _ _ _ _ _); refine callV_b (by first | exact Ent.h (by assumption) | kernel_rfl) (hp _ hx _ hm) rfl ?_) | refine buildP_own ?_ | refine appP_own ?_) <;> (simp -dsimp [hlt, hlt2, htn]; (repeat (simp -dsimp (disch := (first | omega | assumption | (refine Bool.eq_false_iff.1 ?_; assumption))) only [wrap_in, if_pos, if_neg]; (try simp -dsimp [hlt, hlt2, htn]))))) | ((first | refine guardP_of (fun hc => ?_) (fun hc => ?_) | refine st_cond rfl (fun hc => ?_) (fun hc => ?_)) <;> (try simp only [lqA, lqB, lqC, lqD, lqE, lqF, lqG, lqH, lqI, lqJ, lqK, lqL, lqM, lqN, lqO] at hc) <;> (try (exfalso; first | omega | exact bool_tf hc (by assumption) | exact bool_ft hc (by assumption) | exact absurd (by assumption) hc)) <;> (first | with_reducible show STri _ _ _ _ _ _ | (simp -dsimp [hlt, hlt2, htn, hc]; (repeat (simp -dsimp (disch := (first | omega | assumption | (refine Bool.eq_false_iff.1 ?_; assumption))) only [wrap_in, if_pos, if_neg]; (try simp -dsimp [hlt, hlt2, htn, hc]))))))))
    · rw [if_pos (by simpa [maxB] using hc)] at hs
      exact ⟨by omega, by simp, by omega, by simp, by rw [hs]; simp⟩
    · rw [if_neg (by simpa [maxB] using hc)] at hs
      exact ⟨by omega, by simp, by omega, by simp, by rw [hs]; simp⟩
  · have : k + 1 = l.length := by omega
    have h2 : ¬ ((k : Int) + 1 < l.length) := by omega
    (repeat' (first | ((first | with_reducible refine st_skip ?_ | with_reducible refine st_exit ?_); (try simp only [seqQ, blockQ, loopQ, forQ, whileQ, reduceIte, Nat.reduceEqDiff])) | (with_reducible refine st_ret ?_; ((try simp only [seqQ, blockQ, loopQ, forQ, whileQ]); first | (with_reducible refine retM_ret ?_) | refine retQ_ret ?_; simp [h2])) | refine st_seq ?_ | refine st_block ?_ | ((with_reducible show (STri _ _ _ _ _) ∧ (STri _ _ _ _ _)); refine And.intro ?_ ?_) | ((first | refine st_reg ?_ | refine buildP_own ?_ | refine appP_own ?_) <;> (simp -dsimp [h2]; (repeat (simp -dsimp (disch := (first | omega | assumption | (refine Bool.eq_false_iff.1 ?_; assumption))) only [wrap_in, if_pos, if_neg]; (try simp -dsimp [h2]))))) | ((first | refine guardP_of (fun hc => ?_) (fun hc => ?_) | refine st_cond rfl (fun hc => ?_) (fun hc => ?_)) <;> (try simp only [lqA, lqB, lqC, lqD, lqE, lqF, lqG, lqH, lqI, lqJ, lqK, lqL, lqM, lqN, lqO] at hc) <;> (try (exfalso; first | omega | exact bool_tf hc (by assumption) | exact bool_ft hc (by assumption) | exact absurd (by assumption) hc)) <;> (first | with_reducible show STri _ _ _ _ _ _ | (simp -dsimp [h2, hc]; (repeat (simp -dsimp (disch := (first | omega | assumption | (refine Bool.eq_false_iff.1 ?_; assumption))) only [wrap_in, if_pos, if_neg]; (try simp -dsimp [h2, hc]))))))))
    rw [this]; exact .refl _
theorem sOff1 (x y : Int × Int) (h1 : -1000000000000 ≤ x.1) (h2 : x.1 ≤ 1000000000000) (h3 : -1000000000000 ≤ y.1) (h4 : y.1 ≤ 1000000000000) : SC Tryz.prog 69 [cS x.1 x.2, cS y.1 y.2] (I (x.1 - y.1)) := by
  refine law_dial_look_off_1 _ _ (by simp) ?_
  (repeat' (first | ((first | with_reducible refine st_skip ?_ | with_reducible refine st_exit ?_); (try simp only [seqQ, blockQ, loopQ, forQ, whileQ, reduceIte, Nat.reduceEqDiff])) | (with_reducible refine st_ret ?_; ((try simp only [seqQ, blockQ, loopQ, forQ, whileQ]); first | (with_reducible refine retM_ret ?_) | refine retQ_ret ?_; simp)) | refine st_seq ?_ | refine st_block ?_ | ((with_reducible show (STri _ _ _ _ _) ∧ (STri _ _ _ _ _)); refine And.intro ?_ ?_) | ((first | refine st_reg ?_ | refine buildP_own ?_ | refine appP_own ?_) <;> (simp -dsimp; (repeat (simp -dsimp (disch := (first | omega | assumption | (refine Bool.eq_false_iff.1 ?_; assumption))) only [wrap_in, if_pos, if_neg]; (try simp -dsimp))))) | ((first | refine guardP_of (fun hc => ?_) (fun hc => ?_) | refine st_cond rfl (fun hc => ?_) (fun hc => ?_)) <;> (try simp only [lqA, lqB, lqC, lqD, lqE, lqF, lqG, lqH, lqI, lqJ, lqK, lqL, lqM, lqN, lqO] at hc) <;> (try (exfalso; first | omega | exact bool_tf hc (by assumption) | exact bool_ft hc (by assumption) | exact absurd (by assumption) hc)) <;> (first | with_reducible show STri _ _ _ _ _ _ | (simp -dsimp [hc]; (repeat (simp -dsimp (disch := (first | omega | assumption | (refine Bool.eq_false_iff.1 ?_; assumption))) only [wrap_in, if_pos, if_neg]; (try simp -dsimp [hc]))))))))
  exact .refl _
theorem sOff2 (x y : Int × Int) (h1 : -1000000000000 ≤ x.2) (h2 : x.2 ≤ 1000000000000) (h3 : -1000000000000 ≤ y.2) (h4 : y.2 ≤ 1000000000000) : SC Tryz.prog 71 [cS x.1 x.2, cS y.1 y.2] (I (x.2 - y.2)) := by
  refine law_dial_look_off_2 _ _ (by simp) ?_
  (repeat' (first | ((first | with_reducible refine st_skip ?_ | with_reducible refine st_exit ?_); (try simp only [seqQ, blockQ, loopQ, forQ, whileQ, reduceIte, Nat.reduceEqDiff])) | (with_reducible refine st_ret ?_; ((try simp only [seqQ, blockQ, loopQ, forQ, whileQ]); first | (with_reducible refine retM_ret ?_) | refine retQ_ret ?_; simp)) | refine st_seq ?_ | refine st_block ?_ | ((with_reducible show (STri _ _ _ _ _) ∧ (STri _ _ _ _ _)); refine And.intro ?_ ?_) | ((first | refine st_reg ?_ | refine buildP_own ?_ | refine appP_own ?_) <;> (simp -dsimp; (repeat (simp -dsimp (disch := (first | omega | assumption | (refine Bool.eq_false_iff.1 ?_; assumption))) only [wrap_in, if_pos, if_neg]; (try simp -dsimp))))) | ((first | refine guardP_of (fun hc => ?_) (fun hc => ?_) | refine st_cond rfl (fun hc => ?_) (fun hc => ?_)) <;> (try simp only [lqA, lqB, lqC, lqD, lqE, lqF, lqG, lqH, lqI, lqJ, lqK, lqL, lqM, lqN, lqO] at hc) <;> (try (exfalso; first | omega | exact bool_tf hc (by assumption) | exact bool_ft hc (by assumption) | exact absurd (by assumption) hc)) <;> (first | with_reducible show STri _ _ _ _ _ _ | (simp -dsimp [hc]; (repeat (simp -dsimp (disch := (first | omega | assumption | (refine Bool.eq_false_iff.1 ?_; assumption))) only [wrap_in, if_pos, if_neg]; (try simp -dsimp [hc]))))))))
  exact .refl _
def offLo (k : Lo) : Int := (selK (minB fun x y => x.1 - y.1) (haL k) (haL k).length).1 - k.at'
def offHi (k : Lo) : Int := (selK (maxB fun x y => x.2 - y.2) (haL k) (haL k).length).2 - k.at'
def rowsS (l : List (Int × Int)) (k : Nat) : List (List CV) := (l.take k).map rowSd
theorem rowsS_len {l : List (Int × Int)} {k : Nat} (h : k ≤ l.length) : (rowsS l k).length = k := by simp [rowsS]; omega
theorem rowsS_succ {l : List (Int × Int)} {k : Nat} {x : Int × Int} (h : l[k]? = some x) : rowsS l (k + 1) = rowsS l k ++ [rowSd x] := by
  obtain ⟨h1, h2⟩ := List.getElem?_eq_some_iff.1 h
  unfold rowsS; rw [List.take_succ_eq_append_getElem h1, List.map_append, h2]; rfl
theorem rowsS_all (l : List (Int × Int)) : rowsS l l.length = l.map rowSd := by simp [rowsS]
theorem haL_len {k : Lo} (hk : LoSm k) : 0 < (haL k).length ∧ (haL k).length ≤ 20000 := by
  have j1 := hk.w.a
  have j2 := hk.w.b
  have e1 := hk.w.c
  have e4 := hk.w.f
  have e5 := hk.w.g
  obtain ⟨d1, d2⟩ := down_le (n := k.at' + k.w.elo) (b := k.w.jump) (by omega)
  have hl : (haL k).length = drN k.w k.at' k.at' := by simp [haL, drL]
  rw [hl]
  constructor
  · rw [dr_lt (by omega)]
    unfold drAt; simp; omega
  · unfold drN
    have : (k.at' + k.w.ehi - downI (k.at' + k.w.elo) k.w.jump) / k.w.jump ≤ k.at' + k.w.ehi - downI (k.at' + k.w.elo) k.w.jump := Int.ediv_le_self _ (by omega)
    omega
theorem haL_bd {k : Lo} (hk : LoSm k) {x : Int × Int} (hx : x ∈ haL k) : (-100000000000 ≤ x.1 ∧ x.1 ≤ 100000000000) ∧ (-100000000000 ≤ x.2 ∧ x.2 ≤ 100000000000) := by
  unfold haL at hx
  obtain ⟨d, hd, rfl⟩ := List.mem_map.1 hx
  obtain ⟨j, hj⟩ := List.mem_iff_getElem?.1 hd
  obtain ⟨b1, b2⟩ := dr_bd hk.w hj
  have h1 := hk.a
  have h2 := hk.b
  obtain ⟨g1, g2, g3, g4⟩ := lag_le k.f (slackI k.f.links) d k.wlo k.whi hk.f.j
  have f1 := hk.f.a
  have f2 := hk.f.b
  have f3 := hk.f.c
  have f4 := hk.f.d
  have f5 := hk.f.k
  simp only [handLo, handHi]
  omega
theorem sOffL (k : Lo) (hk : LoSm k) : SC Tryz.prog 36 [cLook k] (cS (offLo k) (offHi k)) := by
  obtain ⟨l1, l2⟩ := haL_len hk
  have a1 := hk.a
  have a2 := hk.b
  refine law_dial_look_off _ _ (by simp) ?_
  (repeat' (first | ((first | with_reducible refine st_skip ?_ | with_reducible refine st_exit ?_); (try simp only [seqQ, blockQ, loopQ, forQ, whileQ, reduceIte, Nat.reduceEqDiff])) | (with_reducible refine st_ret ?_; ((try simp only [seqQ, blockQ, loopQ, forQ, whileQ]); first | (with_reducible refine retM_ret ?_) | refine retQ_ret ?_; simp)) | refine st_seq ?_ | refine st_block ?_ | ((with_reducible show (STri _ _ _ _ _) ∧ (STri _ _ _ _ _)); refine And.intro ?_ ?_) | ((first | refine st_reg ?_ | refine buildP_own ?_ | refine appP_own ?_) <;> (simp -dsimp; (repeat (simp -dsimp (disch := (first | omega | assumption | (refine Bool.eq_false_iff.1 ?_; assumption))) only [wrap_in, if_pos, if_neg]; (try simp -dsimp))))) | ((first | refine guardP_of (fun hc => ?_) (fun hc => ?_) | refine st_cond rfl (fun hc => ?_) (fun hc => ?_)) <;> (try simp only [lqA, lqB, lqC, lqD, lqE, lqF, lqG, lqH, lqI, lqJ, lqK, lqL, lqM, lqN, lqO] at hc) <;> (try (exfalso; first | omega | exact bool_tf hc (by assumption) | exact bool_ft hc (by assumption) | exact absurd (by assumption) hc)) <;> (first | with_reducible show STri _ _ _ _ _ _ | (simp -dsimp [hc]; (repeat (simp -dsimp (disch := (first | omega | assumption | (refine Bool.eq_false_iff.1 ?_; assumption))) only [wrap_in, if_pos, if_neg]; (try simp -dsimp [hc]))))))))
  refine st_nilB 3 0 200 34 2 rfl (by simp) rfl (by simp [newOK]) ?_
  refine st_range (iAllD k hk) [1, 2, 3, 200] [] (fun j R => R = [(1, .box 109 ([I k.w.jump, I k.w.elo, I k.w.ehi, slF k.w.faces, slX k.w.faces, I k.f.lo, I k.f.hi, slLd k.f.links, I k.f.weight, I k.f.friction, I (slackI k.f.links), I k.at', I k.wlo, I k.whi].map .c)), (2, .box 34 [.c (I 0), .c (I 0)]),
      (3, .box 65 [.own 200 j]), (200, .arr 34 2 (rowsS (haL k) j))])
    rfl rfl rfl (by kernel_rfl) (by show (0 : Nat) + 1000 ≤ 1000; decide) (fun j hj => by cases hj) (fun row hrow => by obtain ⟨x, _, rfl⟩ := List.mem_map.1 hrow; rfl) (by simp) (by simp) (by simp [rowsS]) ?_ ?_
  · rintro j row R rfl hrow Iv1 G1 hGG hin
    obtain ⟨x, hx, rfl⟩ : ∃ x, (haL k)[j]? = some x ∧ row = rowPd x := by
      rw [List.getElem?_map, Option.map_eq_some_iff] at hrow
      obtain ⟨d, h1, h2⟩ := hrow
      exact ⟨d, h1, h2.symm⟩
    have hj : j < (haL k).length := (List.getElem?_eq_some_iff.1 hx).1
    have hlen := rowsS_len (l := haL k) (k := j) (by omega)
    have hA : j + 1 ≤ 9223372036854775807 := by omega
    have hB : (j + 1) * 16 ≤ 140737488355328 := by omega
    (repeat' (first | ((first | with_reducible refine st_skip ?_ | with_reducible refine st_exit ?_); (try simp only [seqQ, blockQ, loopQ, forQ, whileQ, reduceIte, Nat.reduceEqDiff])) | (with_reducible refine st_ret ?_; ((try simp only [seqQ, blockQ, loopQ, forQ, whileQ]); first | (with_reducible refine retM_ret ?_) | refine retQ_ret ?_; simp)) | refine st_seq ?_ | refine st_block ?_ | ((with_reducible show (STri _ _ _ _ _) ∧ (STri _ _ _ _ _)); refine And.intro ?_ ?_) | ((first | refine st_reg ?_ | refine buildP_own ?_ | refine appP_own ?_) <;> (simp -dsimp; (repeat (simp -dsimp (disch := (first | omega | assumption | (refine Bool.eq_false_iff.1 ?_; assumption))) only [wrap_in, if_pos, if_neg]; (try simp -dsimp))))) | ((first | refine guardP_of (fun hc => ?_) (fun hc => ?_) | refine st_cond rfl (fun hc => ?_) (fun hc => ?_)) <;> (try simp only [lqA, lqB, lqC, lqD, lqE, lqF, lqG, lqH, lqI, lqJ, lqK, lqL, lqM, lqN, lqO] at hc) <;> (try (exfalso; first | omega | exact bool_tf hc (by assumption) | exact bool_ft hc (by assumption) | exact absurd (by assumption) hc)) <;> (first | with_reducible show STri _ _ _ _ _ _ | (simp -dsimp [hc]; (repeat (simp -dsimp (disch := (first | omega | assumption | (refine Bool.eq_false_iff.1 ?_; assumption))) only [wrap_in, if_pos, if_neg]; (try simp -dsimp [hc]))))))))
    refine ⟨rfl, fun Iv2 hin2 => ?_⟩
    (repeat' (first | ((first | with_reducible refine st_skip ?_ | with_reducible refine st_exit ?_); (try simp only [seqQ, blockQ, loopQ, forQ, whileQ, reduceIte, Nat.reduceEqDiff])) | (with_reducible refine st_ret ?_; ((try simp only [seqQ, blockQ, loopQ, forQ, whileQ]); first | (with_reducible refine retM_ret ?_) | refine retQ_ret ?_; simp [hlen, hA, hB])) | refine st_seq ?_ | refine st_block ?_ | ((with_reducible show (STri _ _ _ _ _) ∧ (STri _ _ _ _ _)); refine And.intro ?_ ?_) | ((first | refine st_reg ?_ | refine buildP_own ?_ | refine appP_own ?_) <;> (simp -dsimp [hlen, hA, hB]; (repeat (simp -dsimp (disch := (first | omega | assumption | (refine Bool.eq_false_iff.1 ?_; assumption))) only [wrap_in, if_pos, if_neg]; (try simp -dsimp [hlen, hA, hB]))))) | ((first | refine guardP_of (fun hc => ?_) (fun hc => ?_) | refine st_cond rfl (fun hc => ?_) (fun hc => ?_)) <;> (try simp only [lqA, lqB, lqC, lqD, lqE, lqF, lqG, lqH, lqI, lqJ, lqK, lqL, lqM, lqN, lqO] at hc) <;> (try (exfalso; first | omega | exact bool_tf hc (by assumption) | exact bool_ft hc (by assumption) | exact absurd (by assumption) hc)) <;> (first | with_reducible show STri _ _ _ _ _ _ | (simp -dsimp [hlen, hA, hB, hc]; (repeat (simp -dsimp (disch := (first | omega | assumption | (refine Bool.eq_false_iff.1 ?_; assumption))) only [wrap_in, if_pos, if_neg]; (try simp -dsimp [hlen, hA, hB, hc]))))))))
    exact ⟨by simp, by simp, by simp [rowsS_succ hx]⟩
  · rintro R rfl
    rw [List.length_map]
    rw [rowsS_all]
    obtain ⟨⟨m1, m2⟩, _⟩ := haL_bd hk (selK_mem (minB fun x y => x.1 - y.1) l1 (k := (haL k).length) (by omega) (Nat.le_refl _))
    obtain ⟨_, m3, m4⟩ := haL_bd hk (selK_mem (maxB fun x y => x.2 - y.2) l1 (k := (haL k).length) (by omega) (Nat.le_refl _))
    have s1 := sMinFunc (haL k) 69 [] [] (fun x y => x.1 - y.1) l1 (by omega) ⟨by kernel_rfl⟩ (fun x hx y hy => sOff1 x y (by have := (haL_bd hk hx).1; omega) (by have := (haL_bd hk hx).1; omega) (by have := (haL_bd hk hy).1; omega) (by have := (haL_bd hk hy).1; omega))
    have s2 := sMaxFunc (haL k) 71 [] [] (fun x y => x.2 - y.2) l1 (by omega) ⟨by kernel_rfl⟩ (fun x hx y hy => sOff2 x y (by have := (haL_bd hk hx).2; omega) (by have := (haL_bd hk hx).2; omega) (by have := (haL_bd hk hy).2; omega) (by have := (haL_bd hk hy).2; omega))
    simp only [blockQ, seqQ]
    (repeat' (first | ((first | with_reducible refine st_skip ?_ | with_reducible refine st_exit ?_); (try simp only [seqQ, blockQ, loopQ, forQ, whileQ, reduceIte, Nat.reduceEqDiff])) | (with_reducible refine st_ret ?_; ((try simp only [seqQ, blockQ, loopQ, forQ, whileQ]); first | (with_reducible refine retM_ret ?_) | refine retQ_ret ?_; simp)) | refine st_seq ?_ | refine st_block ?_ | ((with_reducible show (STri _ _ _ _ _) ∧ (STri _ _ _ _ _)); refine And.intro ?_ ?_) | ((first | refine st_reg ?_ | refine buildP_own ?_ | refine appP_own ?_ | refine callP_b (s1) rfl ?_ | refine callP_b (s2) rfl ?_) <;> (simp -dsimp; (repeat (simp -dsimp (disch := (first | omega | assumption | (refine Bool.eq_false_iff.1 ?_; assumption))) only [wrap_in, if_pos, if_neg]; (try simp -dsimp))))) | ((first | refine guardP_of (fun hc => ?_) (fun hc => ?_) | refine st_cond rfl (fun hc => ?_) (fun hc => ?_)) <;> (try simp only [lqA, lqB, lqC, lqD, lqE, lqF, lqG, lqH, lqI, lqJ, lqK, lqL, lqM, lqN, lqO] at hc) <;> (try (exfalso; first | omega | exact bool_tf hc (by assumption) | exact bool_ft hc (by assumption) | exact absurd (by assumption) hc)) <;> (first | with_reducible show STri _ _ _ _ _ _ | (simp -dsimp [hc]; (repeat (simp -dsimp (disch := (first | omega | assumption | (refine Bool.eq_false_iff.1 ?_; assumption))) only [wrap_in, if_pos, if_neg]; (try simp -dsimp [hc]))))))))
    all_goals (refine CLe.of_eq ?_; rfl)
end Go.Proofs.YtlodpljdhdhfmaaGreat
/- slices.SortFunc at a slice of the call's own: it holds the same elements, in order. -/
namespace Go.Proofs.YtlodpljdhdhfmaaGreat
open Go.RowKit Go.Sort Go.Shelf
theorem heap_lt' {w : World} {B : Nat} {o : Obj} (h : w.heap[B]? = some o) : B < w.heap.size := by
  rcases Nat.lt_or_ge B w.heap.size with h' | h'
  · exact h'
  · rw [Array.getElem?_eq_none h'] at h; cases h
theorem free_of {w : World} {B : Nat} {cs : Array Value} {t : TypeId} (h : w.heap[B]? = some (.cells cs t (0, 0))) (i : Nat) : w.frozen? ⟨B, i, none⟩ = false := by
  simp [World.frozen?, h]
theorem flatK_get {α : Type} [Inhabited α] {k : Nat} (hk0 : 0 < k) {enc : α → List Value} (hk : ∀ x, (enc x).length = k) (xs : List α) (t : Nat) (ht : t < xs.length * k) : (xs.flatMap enc)[t]? = some (flatK enc k xs.toArray)[t]! := by
  have hq : t / k < xs.length := Nat.div_lt_of_lt_mul (by rw [Nat.mul_comm]; exact ht)
  have hr : t % k < k := Nat.mod_lt _ hk0
  have hd : t / k * k + t % k = t := by rw [Nat.mul_comm]; exact Nat.div_add_mod t k
  rw [get_flatK enc k _ t (by simpa using ht)]
  have h := flat_get hk xs (t / k) hq (t % k) hr
  rw [hd] at h
  rw [h]
  have hl : t % k < (enc xs[t / k]).length := by rw [hk]; exact hr
  rw [List.getElem?_eq_getElem hl]
  have : xs.toArray[t / k]! = xs[t / k] := by simp [hq]
  rw [this, getElem!_pos (enc xs[t / k]) (t % k) hl]
theorem holdsK_of {α : Type} [Inhabited α] {k : Nat} (hk0 : 0 < k) {enc : α → List Value} (hk : ∀ x, (enc x).length = k) {w : World} {g : Nat} {cur : Array Value} {e : TypeId} {xs : List α}
    (hb : w.heap[g]? = some (.cells cur e (0, 0))) (ht : cur.toList.take (xs.length * k) = xs.flatMap enc) : HoldsK enc k w g 0 xs.toArray := by
  intro j hj
  have hj' : j < xs.length * k := by simpa using hj
  refine ⟨?_, ?_⟩
  · rw [Nat.zero_add, cell_of_row w g j cur e (0, 0) hb]
    have h := flatK_get hk0 hk xs j hj'
    rw [← ht, List.getElem?_take_of_lt hj'] at h
    simpa using h
  · exact free_of hb _
theorem take_putCells_flat {α : Type} [Inhabited α] {k : Nat} (hk0 : 0 < k) {enc : α → List Value} (hk : ∀ x, (enc x).length = k) (cur : Array Value) (ys : List α) (h : ys.length * k ≤ cur.size) :
    (putCells id 0 (flatK enc k ys.toArray) cur).toList.take (ys.length * k) = ys.flatMap enc := by
  apply List.ext_getElem?
  intro j
  by_cases hj : j < ys.length * k
  · rw [List.getElem?_take_of_lt hj, Array.getElem?_toList, flatK_get hk0 hk ys j hj]
    simp [putCells, hj, show j < cur.size by omega]
  · rw [List.getElem?_take_eq_none (by omega), List.getElem?_eq_none (by rw [flat_len hk]; omega)]
theorem heap_sortedK {w : World} {g n : Nat} {os : Array Obj} {cur : Array Value} {e : TypeId} {fr : Nat × Nat} (D : Array Value) (hb : w.heap[g]? = some (.cells cur e fr)) :
    (grow (putRow id (Sort.ahead w n) g 0 D) os).heap[g]? = some (.cells (putCells id 0 D cur) e fr) := by
  have hg : g < w.heap.size := (Array.getElem?_eq_some_iff.1 hb).1
  rw [heap_grow_old _ _ (by simpa using hg)]
  simp [putRow, mapBlock, Sort.ahead, Array.getElem?_modify, hb, onCells]
theorem grew_sortedK {w : World} {g n m c : Nat} {os : Array Obj} (D : Array Value) : Grew w (.slice (some ⟨g, 0, none⟩) m c) (grow (putRow id (Sort.ahead w n) g 0 D) os) (.slice (some ⟨g, 0, none⟩) m c) := by
  refine ⟨rfl, rfl, rfl, by simp, fun k hk hne => ?_, .inl rfl⟩
  rw [heap_grow_old _ _ (by simpa using hk)]
  have : g ≠ k := fun e => hne (by simp [Value.ownBlock, e])
  simp [putRow, mapBlock, Sort.ahead, Array.getElem?_modify, this]
theorem perm_of_permIn {α : Type} [Inhabited α] {d d' : Array α} (h : PermIn 0 d.size d d') : d'.toList.Perm d.toList := by
  obtain ⟨h1, _, h3⟩ := h
  have e1 : d'.extract 0 d.size = d' := by rw [← h1]; simp
  have e2 : d.extract 0 d.size = d := by simp
  rw [e1, e2] at h3
  exact h3
theorem pairwise_of_sortedIn {α : Type} [Inhabited α] {lt : α → α → Bool} {d' : Array α} (h : SortedIn lt 0 d'.size d') : d'.toList.Pairwise fun x y => lt y x = false := by
  rw [List.pairwise_iff_getElem]
  intro i j hi hj hij
  have hi' : i < d'.size := by simpa using hi
  have hj' : j < d'.size := by simpa using hj
  have := h i j (Nat.zero_le _) hij hj'
  simpa [getElem!_pos, hi', hj'] using this
structure SortLaw {α : Type} [Inhabited α] (P : Program) (F g : Nat) (cb : Array Value) (enc : α → List Value) (k : Nat) (cf : α → α → Int) : Prop where
  row : ∀ (blk cap : Nat) (d : Array α) (w : World), CmpLays P g cb enc k cf blk 0 d.size w → HoldsK enc k w blk 0 d → blk < w.heap.size → d.size < 4611686018427387904 →
    Calls P F #[.slice (some ⟨blk, 0, none⟩) d.size cap, .func (.func g) #[] cb] w fun e w' => e = .returned (.tuple #[]) ∧ ∃ d' n os, PermIn 0 d.size d d' ∧ SortedIn (ltOf cf) 0 d.size d' ∧ w' = sortWorldK enc k w blk 0 n d' os
  none : ∀ w, Calls P F #[.slice none 0 0, .func (.func g) #[] cb] w fun e w' => e = .returned (.tuple #[]) ∧ w' = w
theorem sortLaw_n6 {α : Type} [Inhabited α] {P : Program} {ρ : Ren} (L : SlLaysF0.n6 P ρ) (k : Nat) (aE : ∀ w, (isAgg (ρ.t 24)).run P w = .ok true w) (zE : ∀ w, (Go.sizeOf (ρ.t 24)).run P w = .ok k w) (enc : α → List Value) (hk : ∀ x, (enc x).length = k)
    (h1 : ∀ x, ∀ v ∈ enc x, v.oneCell' = true) (cf : α → α → Int) (hO : SWO (ltOf cf)) (g : Nat) (cb : Array Value) (eg : ∀ args w, (callFunc g args).run P w = .ok (.enter g args) w) : SortLaw P (ρ.f 6) g cb enc k cf :=
  ⟨fun blk cap d w hcmp hH hb hd => AnyQ.slices_SortFunc L k aE zE enc hk h1 cf hO g cb blk 0 cap d w eg hcmp hH hb hd, fun w => AnyF.slices_SortFunc_none L none 0 _ w⟩
theorem sortFunc_own {α : Type} [Inhabited α] {P : Program} {F : Nat} (k : Nat) (hk0 : 0 < k) (enc : α → List Value) (hk : ∀ x, (enc x).length = k)
    (cf : α → α → Int) (g : Nat) (cb : Array Value) (L : SortLaw P F g cb enc k cf)
    (e : TypeId) (v : Value) (xs : List α) (w : World) (hcmp : ∀ blk, CmpLays P g cb enc k cf blk 0 xs.length w) (hown : OwnL k enc e w v xs) (hsz : xs.length ≤ 1000000000) :
    Calls P F #[v, .func (.func g) #[] cb] w fun e2 w' => e2 = .returned (.tuple #[]) ∧ ∃ ys, ys.Perm xs ∧ ys.Pairwise (fun x y => ltOf cf y x = false) ∧ OwnL k enc e w' v ys ∧ Grew w v w' v := by
  obtain ⟨hl, h2⟩ := id hown
  rcases h2 with ⟨rfl, h0⟩ | ⟨b, cap, cur, rfl, _, hg, hcap, hmax, hsize, htk⟩
  · have : xs = [] := List.length_eq_zero_iff.1 h0
    subst this
    refine (L.none w).mono ?_
    rintro e2 w' ⟨rfl, rfl⟩
    exact ⟨rfl, [], List.Perm.refl _, List.Pairwise.nil, hown, Grew.refl _ _⟩
  · have hH := holdsK_of hk0 hk hg htk
    have hc := L.row b cap xs.toArray w (by simpa using hcmp b) hH (heap_lt' hg) (by simp; omega)
    refine Calls.mono (show Calls P F #[.slice (some ⟨b, 0, none⟩) xs.length cap, .func (.func g) #[] cb] w _ from hc) ?_
    rintro e2 w' ⟨rfl, d', n, os, hp, hs, rfl⟩
    have hp' : PermIn 0 xs.toArray.size xs.toArray d' := hp
    have hsz' : d'.size = xs.length := by simpa using hp'.1
    have hperm := perm_of_permIn hp'
    refine ⟨rfl, d'.toList, by simpa using hperm, pairwise_of_sortedIn (by rw [hsz']; simpa using hs), ?_, grew_sortedK _⟩
    have hlen : d'.toList.length = xs.length := by simpa using hsz'
    refine ⟨by rw [flat_len hk], .inr ⟨b, cap, _, by rw [hlen], Nat.zero_le _, heap_sortedK _ hg, by rw [hlen]; exact hcap, hmax, by simpa [putCells] using hsize, ?_⟩⟩
    have := take_putCells_flat hk0 hk cur d'.toList (by rw [hlen, hsize]; exact Nat.mul_le_mul_right _ hcap)
    simpa using this
theorem own_pairs {w : World} {NA : Nat → Prop} {p : Option Nat} {t : TypeId} {xs : List (Int × Int)} {v0 : Value} (hB : RepB w NA (fun _ => p) (one1 t 2 (xs.map rowSd)) 900 (.arr t 2 (xs.map rowSd))) (ho : OwnV w p 2 (xs.map rowSd).length v0) : OwnL 2 encP t w v0 xs := by
  refine ⟨by rw [flat_len encP_len], ?_⟩
  rw [List.length_map] at ho
  rcases ho with ⟨h1, h2, h3⟩ | ⟨b, cap, cs, t', h1, h2, h3, h4, h5, h6⟩
  · exact .inl ⟨h3, h2⟩
  · rcases hB with ⟨g1, _⟩ | ⟨b', cs', cap', g1, g2, g3, g4, g5, g6, g7⟩
    · have g1 : p = none := g1
      rw [g1] at h1; cases h1
    · have g1 : p = some b' := g1
      rw [g1] at h1
      have e := Option.some.inj h1
      subst e
      rw [g2] at h3; cases h3
      refine .inr ⟨b', cap, cs, h2, Nat.zero_le _, g2, h5, h6, h4, ?_⟩
      have hsz : xs.length * 2 ≤ cs.toList.length := by simp [h4]; omega
      apply List.ext_getElem?
      intro m
      by_cases hm : m < xs.length * 2
      · rw [List.getElem?_take_of_lt hm]
        have hj : m / 2 < xs.length := by omega
        have em : m / 2 * 2 + m % 2 = m := by omega
        have hf := flat_get encP_len xs (m / 2) hj (m % 2) (Nat.mod_lt _ (by decide))
        rw [em] at hf
        rw [hf]
        have hrow : (xs.map rowSd)[m / 2]? = some (rowSd xs[m / 2]) := by rw [List.getElem?_map, List.getElem?_eq_getElem hj]; rfl
        rcases Nat.mod_two_eq_zero_or_one m with e | e
        · obtain ⟨v, k1, k2⟩ := g7 (m / 2) _ 0 (.val (.int .i64 xs[m / 2].1)) hrow rfl
          cases k2
          rw [e] at em ⊢
          rw [em] at k1
          simpa [encP] using k1
        · obtain ⟨v, k1, k2⟩ := g7 (m / 2) _ 1 (.val (.int .i64 xs[m / 2].2)) hrow rfl
          cases k2
          rw [e] at em ⊢
          rw [em] at k1
          simpa [encP] using k1
      · rw [List.getElem?_take_eq_none (by omega), List.getElem?_eq_none (by rw [flat_len encP_len]; omega)]
theorem pairs_own {w : World} {NA : Nat → Prop} {p : Option Nat} {t : TypeId} {ys : List (Int × Int)} {v0 : Value} (ho : OwnL 2 encP t w v0 ys) (hp : v0.ownBlock = p) : RepB w NA (fun _ => p) (one1 t 2 (ys.map rowSd)) 900 (.arr t 2 (ys.map rowSd)) := by
  obtain ⟨_, h⟩ := ho
  rcases h with ⟨h1, h2⟩ | ⟨b, cap, cs, h1, h2, h3, h4, h5, h6, h7⟩
  · have : ys = [] := List.length_eq_zero_iff.1 h2
    subst this
    subst h1
    exact .inl ⟨hp.symm, .inl rfl⟩
  · subst h1
    refine .inr ⟨b, cs, cap, hp.symm, h3, h6, by simpa using h4, h5, fun j row hr => ?_, fun j row i x hr hx => ?_⟩
    · rw [List.getElem?_map, Option.map_eq_some_iff] at hr
      obtain ⟨y, _, rfl⟩ := hr
      exact ⟨rfl, rfl⟩
    · rw [List.getElem?_map, Option.map_eq_some_iff] at hr
      obtain ⟨y, hy, rfl⟩ := hr
      have hj : j < ys.length := (List.getElem?_eq_some_iff.1 hy).1
      have ey : ys[j] = y := (List.getElem?_eq_some_iff.1 hy).2
      have hi : i < 2 := by have := (List.getElem?_eq_some_iff.1 hx).1; simpa [rowSd] using this
      have hf := flat_get encP_len ys j hj i hi
      rw [← h7, List.getElem?_take_of_lt (by omega), ey] at hf
      rcases (show i = 0 ∨ i = 1 by omega) with rfl | rfl
      · simp [rowSd] at hx; subst hx
        exact ⟨.int .i64 y.1, by simpa [encP] using hf, .val _⟩
      · simp [rowSd] at hx; subst hx
        exact ⟨.int .i64 y.2, by simpa [encP] using hf, .val _⟩
def Sorts (lt : Int × Int → Int × Int → Bool) (xs : List (Int × Int)) (rows : List (List CV)) : Prop := ∃ ys : List (Int × Int), rows = ys.map rowSd ∧ ys.Perm xs ∧ ys.Pairwise fun x y => lt y x = false
def encB (ok : Int × Int → Prop) (x : {x : Int × Int // ok x}) : List Value := encP x.1
theorem attach_flat {ok : Int × Int → Prop} : ∀ (xs : List {x : Int × Int // ok x}), xs.flatMap (encB ok) = (xs.map (·.1)).flatMap encP
  | [] => rfl
  | x :: xs => by rw [List.flatMap_cons, List.map_cons, List.flatMap_cons, attach_flat xs]; rfl
theorem sortFunc_pairs {P : Program} {F : Nat} {ok : Int × Int → Prop} [Inhabited {x : Int × Int // ok x}] (cf : {x : Int × Int // ok x} → {x : Int × Int // ok x} → Int) (lt : Int × Int → Int × Int → Bool) (hlt : ∀ x y, ltOf cf x y = lt x.1 y.1) (g : Nat) (cb : Array Value) (L : SortLaw P F g cb (encB ok) 2 cf) (t : TypeId)
    (xs : List (Int × Int)) (hok : ∀ x ∈ xs, ok x) (hsz : xs.length ≤ 1000000000) (w : World) (hcmp : ∀ blk, CmpLays P g cb (encB ok) 2 cf blk 0 xs.length w) {NA : Nat → Prop} {p : Option Nat} {v0 : Value} (hB : RepB w NA (fun _ => p) (one1 t 2 (xs.map rowSd)) 900 (.arr t 2 (xs.map rowSd))) (ho : OwnV w p 2 (xs.map rowSd).length v0) :
    Calls P F #[v0, .func (.func g) #[] cb] w fun e w' => ∃ rows', e = .returned (.tuple #[]) ∧ Sorts lt xs rows' ∧ rows'.length = (xs.map rowSd).length ∧ RepB w' NA (fun _ => p) (one1 t 2 rows') 900 (.arr t 2 rows') ∧
      (∀ b cs t', p = some b → w.heap[b]? = some (.cells cs t' (0, 0)) → ∃ cs', w'.heap[b]? = some (.cells cs' t' (0, 0)) ∧ cs'.size = cs.size) ∧ w.grownBy w' p := by
  have hL := own_pairs hB ho
  have hp : v0.ownBlock = p := by
    rcases ho with ⟨h1, h2, h3⟩ | ⟨b, cap, cs, t', h1, h2, h3, h4, h5, h6⟩
    · rw [h1, h3]; rfl
    · rw [h1, h2]; rfl
  obtain ⟨zs, hz⟩ : ∃ zs : List {x : Int × Int // ok x}, zs.map (·.1) = xs := ⟨xs.attachWith ok hok, by exact List.attachWith_map_subtype_val hok⟩
  have hzl : zs.length = xs.length := by rw [← hz, List.length_map]
  have hLz : OwnL 2 (encB ok) t w v0 zs := by
    unfold OwnL
    rw [attach_flat, hz, hzl]
    exact hL
  refine (sortFunc_own (α := {x : Int × Int // ok x}) 2 (by decide) (encB ok) (fun _ => rfl) cf g cb L t v0 zs w (fun blk => by rw [hzl]; exact hcmp blk) hLz (by omega)).mono ?_
  rintro e w' ⟨rfl, ys, h1, h2, h3, h4⟩
  have h3' : OwnL 2 encP t w' v0 (ys.map (·.1)) := by
    unfold OwnL at h3 ⊢
    rw [attach_flat] at h3
    rw [List.length_map]
    exact h3
  refine ⟨(ys.map (·.1)).map rowSd, rfl, ⟨ys.map (·.1), rfl, by rw [← hz]; exact h1.map _, ?_⟩, by simp [h1.length_eq, hzl], pairs_own h3' hp, fun b cs t' hb hc => ?_, ⟨h4.os, h4.tape, h4.output, h4.size, fun k hk hne => h4.block k hk (fun e => hne (by rw [← hp, e]))⟩⟩
  · rw [List.pairwise_map]
    exact h2.imp fun {x y} h => by rw [← hlt]; exact h
  obtain ⟨_, q1⟩ := hL
  obtain ⟨_, q2⟩ := h3'
  rcases q1 with ⟨a1, a2⟩ | ⟨b1, cap1, cs1, a1, _, a3, a4, a5, a6, a7⟩
  · rw [hb, a1] at hp; cases hp
  · rcases q2 with ⟨c1, c2⟩ | ⟨b2, cap2, cs2, c1, _, c3, c4, c5, c6, c7⟩
    · rw [a1] at c1; cases c1
    · rw [a1] at c1
      simp only [Value.slice.injEq, Option.some.injEq, Addr.mk.injEq] at c1
      obtain ⟨⟨rfl, -, -⟩, -, rfl⟩ := c1
      have : b = b1 := by rw [hb, a1] at hp; simpa [Value.ownBlock] using hp.symm
      subst this
      rw [a3] at hc; cases hc
      exact ⟨cs2, c3, by rw [c6, a6]⟩
end Go.Proofs.YtlodpljdhdhfmaaGreat
/- The shelf's structures for slices.SortFunc at pairs, and cmp.Compare at ints, laid at this seat (written by a tool of the kit). -/
namespace Go.Proofs.YtlodpljdhdhfmaaGreat
open Go.Shelf
end Go.Proofs.YtlodpljdhdhfmaaGreat
/- The shelf's structures for slices.SortFunc at spans and at pairs, and cmp.Compare at ints, laid at this seat (written by a tool of the kit). -/
namespace Go.Proofs.YtlodpljdhdhfmaaGreat
open Go.Shelf
def Tryz.sortSp_ren : Go.Shelf.Ren := ⟨fun | 6 => 74 | 15 => 103 | 14 => 102 | 28 => 125 | 29 => 126 | 20 => 117 | 21 => 118 | 22 => 119 | 23 => 120 | 24 => 121 | 25 => 122 | 26 => 123 | 27 => 124 | 46 => 141 | 47 => 142 | 48 => 143 | 49 => 144 | 50 => 145 | 57 => 150 | n => n, fun | 22 => 65 | 24 => 34 | 25 => 149 | 3 => 3 | 39 => 164 | 0 => 0 | 53 => 190 | 55 => 192 | 4 => 4 | 46 => 200 | 45 => 199 | 50 => 204 | 5 => 5 | 9 => 9 | 66 => 218 | 70 => 221 | 76 => 226 | 77 => 227 | n => n, fun | n => n⟩
theorem Tryz.sortSp : Go.Proofs.SlLaysF0.n6 Tryz.prog Tryz.sortSp_ren := {
  mixed := by kernel_rfl
  f6 := ⟨Tryz.f74.name, by decide, Tryz.func74.trans (congrArg some (by kernel_rfl))⟩
  f14 := ⟨Tryz.f102.name, by decide, Tryz.func102.trans (congrArg some (by kernel_rfl))⟩
  f15 := Tryz.func103.trans (congrArg some (by kernel_rfl))
  f20 := ⟨Tryz.f117.name, by decide, Tryz.func117.trans (congrArg some (by kernel_rfl))⟩
  f21 := ⟨Tryz.f118.name, by decide, Tryz.func118.trans (congrArg some (by kernel_rfl))⟩
  f22 := ⟨Tryz.f119.name, by decide, Tryz.func119.trans (congrArg some (by kernel_rfl))⟩
  f23 := ⟨Tryz.f120.name, by decide, Tryz.func120.trans (congrArg some (by kernel_rfl))⟩
  f24 := ⟨Tryz.f121.name, by decide, Tryz.func121.trans (congrArg some (by kernel_rfl))⟩
  f25 := ⟨Tryz.f122.name, by decide, Tryz.func122.trans (congrArg some (by kernel_rfl))⟩
  f26 := ⟨Tryz.f123.name, by decide, Tryz.func123.trans (congrArg some (by kernel_rfl))⟩
  f27 := ⟨Tryz.f124.name, by decide, Tryz.func124.trans (congrArg some (by kernel_rfl))⟩
  f28 := Tryz.func125.trans (congrArg some (by kernel_rfl))
  f29 := Tryz.func126.trans (congrArg some (by kernel_rfl))
  f46 := ⟨Tryz.f141.name, by decide, Tryz.func141.trans (congrArg some (by kernel_rfl))⟩
  f47 := Tryz.func142.trans (congrArg some (by kernel_rfl))
  f48 := Tryz.func143.trans (congrArg some (by kernel_rfl))
  f49 := ⟨Tryz.f144.name, by decide, Tryz.func144.trans (congrArg some (by kernel_rfl))⟩
  f50 := ⟨Tryz.f145.name, by decide, Tryz.func145.trans (congrArg some (by kernel_rfl))⟩
  f57 := ⟨Tryz.f150.name, by decide, Tryz.func150.trans (congrArg some (by kernel_rfl))⟩
  t0 := Tryz.underlying0
  a0 := Tryz.isAgg0
  z0 := Tryz.sizeOf0
  v0 := Tryz.zeroValue0
  t3 := Tryz.underlying3
  a3 := Tryz.isAgg3
  z3 := Tryz.sizeOf3
  v3 := Tryz.zeroValue3
  t4 := Tryz.underlying4
  a4 := Tryz.isAgg4
  z4 := Tryz.sizeOf4
  v4 := Tryz.zeroValue4
  t5 := Tryz.underlying5
  a5 := Tryz.isAgg5
  z5 := Tryz.sizeOf5
  v5 := Tryz.zeroValue5
  t9 := Tryz.underlying9
  a9 := Tryz.isAgg9
  z9 := Tryz.sizeOf9
  v9 := Tryz.zeroValue9
  t22 := Tryz.underlying65
  a22 := Tryz.isAgg65
  z22 := Tryz.sizeOf65
  v22 := Tryz.zeroValue65
  t25 := Tryz.underlying149
  a25 := Tryz.isAgg149
  z25 := Tryz.sizeOf149
  v25 := Tryz.zeroValue149
  t39 := Tryz.underlying164
  a39 := Tryz.isAgg164
  z39 := Tryz.sizeOf164
  v39 := Tryz.zeroValue164
  t45 := Tryz.underlying199
  a45 := Tryz.isAgg199
  z45 := Tryz.sizeOf199
  v45 := Tryz.zeroValue199
  t46 := Tryz.underlying200
  a46 := Tryz.isAgg200
  z46 := Tryz.sizeOf200
  v46 := Tryz.zeroValue200
  t50 := Tryz.underlying204
  a50 := Tryz.isAgg204
  z50 := Tryz.sizeOf204
  v50 := Tryz.zeroValue204
  t53 := Tryz.underlying190
  a53 := Tryz.isAgg190
  z53 := Tryz.sizeOf190
  v53 := Tryz.zeroValue190
  t55 := Tryz.underlying192
  a55 := Tryz.isAgg192
  z55 := Tryz.sizeOf192
  v55 := Tryz.zeroValue192
  t66 := Tryz.underlying218
  a66 := Tryz.isAgg218
  z66 := Tryz.sizeOf218
  v66 := Tryz.zeroValue218
  t70 := Tryz.underlying221
  a70 := Tryz.isAgg221
  z70 := Tryz.sizeOf221
  v70 := Tryz.zeroValue221
  t76 := Tryz.underlying226
  a76 := Tryz.isAgg226
  z76 := Tryz.sizeOf226
  v76 := Tryz.zeroValue226
  t77 := Tryz.underlying227
  a77 := Tryz.isAgg227
  z77 := Tryz.sizeOf227
  v77 := Tryz.zeroValue227 }
end Go.Proofs.YtlodpljdhdhfmaaGreat
/- Dial: insertion sort of a few pairs, whatever function compares. -/
namespace Go.Proofs.YtlodpljdhdhfmaaGreat
open Go.RowKit Go.Sort Go.Shelf
def gp (ys : List (Int × Int)) (p : Nat) : Int × Int := ys.getD p (0, 0)
def swp (ys : List (Int × Int)) (j : Nat) : List (Int × Int) := (ys.set (j + 1) (gp ys j)).set j (gp ys (j + 1))
theorem gp_swp {ys : List (Int × Int)} {j : Nat} (h : j + 1 < ys.length) (p : Nat) : gp (swp ys j) p = if p = j then gp ys (j + 1) else if p = j + 1 then gp ys j else gp ys p := by
  unfold gp swp
  simp only [List.getD_eq_getElem?_getD, List.getElem?_set]
  by_cases h1 : p = j
  · subst h1; simp [show p < ys.length by omega, gp]
  · rw [if_neg (Ne.symm h1), if_neg h1]
    by_cases h2 : p = j + 1
    · subst h2; simp [h, gp]
    · rw [if_neg (Ne.symm h2), if_neg h2]
def InO (lt : Int × Int → Int × Int → Bool) (ys : List (Int × Int)) (i : Nat) : Prop := ∀ p q, p < q → q < i → lt (gp ys q) (gp ys p) = false
structure InJ (lt : Int × Int → Int × Int → Bool) (ys : List (Int × Int)) (i j : Nat) : Prop where
  a : ∀ p q, p < q → q ≤ i → p ≠ j → q ≠ j → lt (gp ys q) (gp ys p) = false
  b : ∀ q, j < q → q ≤ i → lt (gp ys j) (gp ys q) = true
theorem InJ.stop {lt : Int × Int → Int × Int → Bool} (hO : SWO lt) {ys : List (Int × Int)} {i j : Nat} (h : InJ lt ys i j) (hj : j = 0 ∨ ∃ m, j = m + 1 ∧ lt (gp ys (m + 1)) (gp ys m) = false) : InO lt ys (i + 1) := fun p q h1 h2 => by
  have asym : ∀ x y, lt x y = true → lt y x = false := fun x y hxy => by
    cases hyx : lt y x with
    | false => rfl
    | true => have := hO.trans x y x hxy hyx; rw [hO.irrefl] at this; cases this
  by_cases hp : p = j
  · subst hp
    exact asym _ _ (h.b q h1 (by omega))
  · by_cases hq : q = j
    · subst hq
      rcases hj with rfl | ⟨m, rfl, hm⟩
      · omega
      · by_cases hpm : p = m
        · subst hpm; exact hm
        · exact hO.ntrans _ _ _ hm (h.a p m (by omega) (by omega) (by omega) (by omega))
    · exact h.a p q h1 (by omega) hp hq
theorem InJ.swap {lt : Int × Int → Int × Int → Bool} {ys : List (Int × Int)} {i m : Nat} (h : InJ lt ys i (m + 1)) (hi : i < ys.length) (hm : m + 1 ≤ i) (hlt : lt (gp ys (m + 1)) (gp ys m) = true) : InJ lt (swp ys m) i m := by
  have hg := gp_swp (ys := ys) (j := m) (by omega)
  refine ⟨fun p q h1 h2 h3 h4 => ?_, fun q h1 h2 => ?_⟩
  · rw [hg, hg, if_neg h3, if_neg h4]
    by_cases hp : p = m + 1
    · subst hp
      rw [if_pos rfl, if_neg (by omega)]
      exact h.a m q (by omega) h2 (by omega) (by omega)
    · rw [if_neg hp]
      by_cases hq : q = m + 1
      · subst hq
        rw [if_pos rfl]
        exact h.a p m (by omega) (by omega) hp (by omega)
      · rw [if_neg hq]
        exact h.a p q h1 h2 hp hq
  · rw [hg, hg, if_pos rfl, if_neg (by omega)]
    by_cases hq : q = m + 1
    · subst hq; rw [if_pos rfl]; exact hlt
    · rw [if_neg hq]
      exact h.b q (by omega) h2
end Go.Proofs.YtlodpljdhdhfmaaGreat
/- Dial: pairs in order; spans sorted. -/
namespace Go.Proofs.YtlodpljdhdhfmaaGreat
open Go.RowKit Go.Sort Go.Shelf
set_option maxRecDepth 100000 in
set_option maxHeartbeats 1000000 in
theorem cmpJ_any (x y : Int × Int) (W : World) :
    Calls Tryz.prog 75 #[.agg #[.int .i64 x.1, .int .i64 x.2], .agg #[.int .i64 y.1, .int .i64 y.2]] W fun e w' => e = .returned (.int .i64 (wrap64 (x.1 - y.1))) ∧ ∃ q os', w' = grow (W.drewN q) os' := by
  go_enter Tryz.func75, Tryz.ntmps75
  go_wp2
  go_ret
  refine ⟨rfl, 0, #[.cells #[.int .i64 x.1, .int .i64 x.2] 34, .cells #[.int .i64 y.1, .int .i64 y.2] 34], ?_⟩
  rfl
def okS (x : Int × Int) : Prop := -1000000000000 ≤ x.1 ∧ x.1 ≤ 1000000000000
def ltS (x y : Int × Int) : Bool := decide (x.1 < y.1)
def cfS (x y : {x : Int × Int // okS x}) : Int := x.1.1 - y.1.1
instance : Inhabited {x : Int × Int // okS x} := ⟨⟨(0, 0), by simp [okS]⟩⟩
theorem sub_lt0 (a b : Int) : decide (a - b < 0) = decide (a < b) := by
  rw [decide_eq_decide]; omega
theorem ltOf_S (x y : {x : Int × Int // okS x}) : ltOf cfS x y = ltS x.1 y.1 := by
  exact sub_lt0 _ _
theorem swoS : SWO (ltOf cfS) where
  irrefl x := by rw [ltOf_S]; simp [ltS]
  trans x y z h1 h2 := by rw [ltOf_S] at *; simp [ltS] at *; omega
  ntrans x y z h1 h2 := by rw [ltOf_S] at *; simp [ltS] at *; omega
theorem sub_ge {a b : Int} (h1 : -1000000000000 ≤ a) (h2 : b ≤ 1000000000000) : -9223372036854775808 ≤ a - b := by omega
theorem sub_le' {a b : Int} (h1 : a ≤ 1000000000000) (h2 : -1000000000000 ≤ b) : a - b ≤ 9223372036854775807 := by omega
theorem lays_S (blk off size : Nat) (w : World) : CmpLays Tryz.prog 75 #[] (encB okS) 2 cfS blk off size w := fun m os dk hs x y => by
  have h := cmpJ_any x.1 y.1 (sortWorldK (encB okS) 2 w blk off m dk os)
  rw [IntWalk.wrap64_in _ ⟨sub_ge x.2.1 y.2.2, sub_le' x.2.2 y.2.1⟩] at h
  exact h
theorem mSortS (xs : List (Int × Int)) (hl : xs.length ≤ 1000000000) (hok : ∀ x ∈ xs, okS x) : MC Tryz.prog 74 34 2 (xs.map rowSd) [.fn 75 [] []] (Sorts ltS xs) (some (.tup [])) := fun w NA p v0 vs hna hnp hB ho1 hov hs hv => by
  match vs, hs with
  | ⟨[v1]⟩, _ =>
  have h1 := hv 0 _ v1 rfl rfl
  cases h1 with
  | fn _ _ _ vf vc a1 a2 =>
  have e1 : vf = #[] := Array.size_eq_zero_iff.1 a1
  have e2 : vc = #[] := Array.size_eq_zero_iff.1 a2
  subst e1; subst e2
  have L : SortLaw Tryz.prog 74 75 #[] (encB okS) 2 cfS :=
    sortLaw_n6 Tryz.sortSp 2 Tryz.isAgg34 Tryz.sizeOf34 (encB okS) (fun _ => rfl) (fun x u hu => encP_one x.1 u hu) cfS swoS 75 #[] (enters_of Tryz.func75 (by kernel_rfl) rfl)
  refine (sortFunc_pairs cfS ltS ltOf_S 75 #[] L 34 xs hok hl w (fun blk => lays_S blk 0 xs.length w) hB hov).mono ?_
  rintro e w' ⟨rows', rfl, h2, h3, h4, h5, h6⟩
  exact ⟨_, rows', rfl, h2, h3, h4, h5, h6, .tup [] #[] rfl (fun i x v hx => by simp at hx)⟩
end Go.Proofs.YtlodpljdhdhfmaaGreat
/- Dial: spans joined. -/
namespace Go.Proofs.YtlodpljdhdhfmaaGreat
open Go.RowKit Go.Sort
def stepJ (o : List (Int × Int)) (s : Int × Int) : List (Int × Int) := match o.getLast? with
  | some l => if s.1 ≤ l.2 + 1 then o.dropLast ++ [(l.1, if s.2 > l.2 then s.2 else l.2)] else o ++ [s]
  | none => [s]
def joinK (ys : List (Int × Int)) (k : Nat) : List (Int × Int) := (ys.take k).foldl stepJ []
theorem joinK_succ {ys : List (Int × Int)} {k : Nat} (h : k < ys.length) : joinK ys (k + 1) = stepJ (joinK ys k) ys[k] := by
  unfold joinK
  rw [List.take_succ_eq_append_getElem h, List.foldl_append]
  rfl
theorem stepJ_len (o : List (Int × Int)) (s : Int × Int) : (stepJ o s).length ≤ o.length + 1 := by
  unfold stepJ
  split
  · split
    · simp
    · simp
  · simp
theorem joinK_len (ys : List (Int × Int)) : ∀ k, (joinK ys k).length ≤ k := by
  intro k
  induction k with
  | zero => simp [joinK]
  | succ k ih =>
    by_cases h : k < ys.length
    · rw [joinK_succ h]; have := stepJ_len (joinK ys k) ys[k]; omega
    · have : joinK ys (k + 1) = joinK ys k := by unfold joinK; rw [List.take_of_length_le (by omega), List.take_of_length_le (by omega)]
      rw [this]; omega
def SmS (l : List (Int × Int)) : Prop := ∀ x ∈ l, (-1000000000000 ≤ x.1 ∧ x.1 ≤ 1000000000000) ∧ -1000000000000 ≤ x.2 ∧ x.2 ≤ 1000000000000
theorem stepJ_sm {o : List (Int × Int)} {s : Int × Int} (h : SmS o) (hs : SmS [s]) : SmS (stepJ o s) := by
  have hs := hs s (by simp)
  unfold stepJ
  split
  · rename_i l hl
    have hl' := h l (List.mem_of_getLast? hl)
    split
    · intro x hx
      rcases List.mem_append.1 hx with hx | hx
      · exact h x ((List.dropLast_sublist o).mem hx)
      · simp at hx; subst hx
        refine ⟨hl'.1, ?_⟩
        by_cases hc : s.2 > l.2
        · rw [if_pos hc]; exact hs.2
        · rw [if_neg hc]; exact hl'.2
    · intro x hx
      rcases List.mem_append.1 hx with hx | hx
      · exact h x hx
      · simp at hx; subst hx; exact hs
  · intro x hx; simp at hx; subst hx; exact hs
theorem joinK_sm {ys : List (Int × Int)} (h : SmS ys) : ∀ {k : Nat}, k ≤ ys.length → SmS (joinK ys k) := by
  intro k
  induction k with
  | zero => intro _ x hx; simp [joinK] at hx
  | succ k ih =>
    intro hk
    rw [joinK_succ (by omega)]
    exact stepJ_sm (ih (by omega)) fun x hx => by simp at hx; subst hx; exact h _ (List.getElem_mem _)
theorem last_get (o : List (Int × Int)) (l : List CV) : (List.map rowSd o ++ [l])[o.length]? = some l := by
  rw [List.getElem?_append_right (by simp)]; simp
theorem last_set (o : List (Int × Int)) (l c : List CV) : (List.map rowSd o ++ [l]).set o.length c = List.map rowSd o ++ [c] := by
  rw [List.set_append_right _ _ (by simp)]; simp
def joI (ys : List (Int × Int)) (k : Nat) (T : TL) (H : HL) : Prop := T = [(2, .own 200 (joinK ys k).length), (8, .own 900 ys.length), (9, .c (I ys.length)), (10, .c (I k))] ∧ H = [(900, .arr 34 2 (ys.map rowSd)), (200, .arr 34 2 ((joinK ys k).map rowSd))]
set_option maxHeartbeats 2000000 in
theorem mJoined (xs r : List (Int × Int)) (hl : xs.length ≤ 1000000) (hs : SmS xs) (hr : ∀ ys, ys.Perm xs → ys.Pairwise (fun x y => ltS y x = false) → joinK ys ys.length = r) :
    MC Tryz.prog 39 34 2 (xs.map rowSd) [] (Sorts ltS xs) (some (slS r)) := by
  refine mlaw_dial_joined _ _ _ _ _ _ (by simp) ?_
  have hm := mSortS xs (by omega) (fun x hx => (hs x hx).1)
  (repeat' (first | ((first | with_reducible refine st_skip ?_ | with_reducible refine st_exit ?_); (try simp only [seqQ, blockQ, loopQ, forQ, whileQ, reduceIte, Nat.reduceEqDiff])) | (with_reducible refine st_ret ?_; ((try simp only [seqQ, blockQ, loopQ, forQ, whileQ]); first | (with_reducible refine retM_ret ?_) | refine retQ_ret ?_; simp)) | refine st_seq ?_ | refine st_block ?_ | ((with_reducible show (STri _ _ _ _ _) ∧ (STri _ _ _ _ _)); refine And.intro ?_ ?_) | ((first | refine st_reg ?_ | ((with_reducible show callMP _ _ _ _ _ _); refine callM_of (hm ) (by decide) (by first | rfl | simp) (by first | rfl | simp) (by first | rfl | simp) (by first | rfl | simp) (fun rows2 hR2 hl2 => ?_);  obtain ⟨ys, rfl, h1, h2⟩ := hR2; have hlen := h1.length_eq; simp only [← hlen]) | refine buildP_own ?_ | refine appP_own ?_) <;> (simp -dsimp; (repeat (simp -dsimp (disch := (first | omega | assumption | (refine Bool.eq_false_iff.1 ?_; assumption))) only [wrap_in, if_pos, if_neg]; (try simp -dsimp))))) | ((first | refine guardP_of (fun hc => ?_) (fun hc => ?_) | refine st_cond rfl (fun hc => ?_) (fun hc => ?_)) <;> (try simp only [lqA, lqB, lqC, lqD, lqE, lqF, lqG, lqH, lqI, lqJ, lqK, lqL, lqM, lqN, lqO] at hc) <;> (try (exfalso; first | omega | exact bool_tf hc (by assumption) | exact bool_ft hc (by assumption) | exact absurd (by assumption) hc)) <;> (first | with_reducible show STri _ _ _ _ _ _ | (simp -dsimp [hc]; (repeat (simp -dsimp (disch := (first | omega | assumption | (refine Bool.eq_false_iff.1 ?_; assumption))) only [wrap_in, if_pos, if_neg]; (try simp -dsimp [hc]))))))))
  refine st_nil 2 200 34 2 rfl (by simp [newOK]) ?_
  refine st_less [(2, .own 200 0), (8, .own 900 ys.length), (9, .c (I ys.length)), (10, .c (I 0))] [(900, .arr 34 2 (ys.map rowSd)), (200, .arr 34 2 [])] (by simp [dropOK]) ?_
  refine st_for [900, 200] ys.length (fun k T H => joI ys k T H) (by simp) ⟨by simp [joinK], by simp [joinK]⟩ ?_
  rintro k T H hk ⟨rfl, rfl⟩
  have hys : SmS ys := fun x hx => hs x (h1.subset hx)
  have hsm := joinK_sm hys hk
  have hjl := joinK_len ys k
  by_cases hlt : k < ys.length
  · have hsk := joinK_succ hlt
    have hyk := hys _ (List.getElem_mem hlt)
    rcases List.eq_nil_or_concat (joinK ys k) with e | ⟨o, l, e⟩
    · rw [e] at hsk hsm hjl ⊢
      (repeat' (first | ((first | with_reducible refine st_skip ?_ | with_reducible refine st_exit ?_); (try simp only [seqQ, blockQ, loopQ, forQ, whileQ, reduceIte, Nat.reduceEqDiff])) | (with_reducible refine st_ret ?_; ((try simp only [seqQ, blockQ, loopQ, forQ, whileQ]); first | (with_reducible refine retM_ret ?_) | refine retQ_ret ?_; simp [hlt])) | refine st_seq ?_ | refine st_block ?_ | ((with_reducible show (STri _ _ _ _ _) ∧ (STri _ _ _ _ _)); refine And.intro ?_ ?_) | ((first | refine st_reg ?_ | refine buildP_own ?_ | refine appP_own ?_) <;> (simp -dsimp [hlt]; (repeat (simp -dsimp (disch := (first | omega | assumption | (refine Bool.eq_false_iff.1 ?_; assumption))) only [wrap_in, if_pos, if_neg]; (try simp -dsimp [hlt]))))) | ((first | refine guardP_of (fun hc => ?_) (fun hc => ?_) | refine st_cond rfl (fun hc => ?_) (fun hc => ?_)) <;> (try simp only [lqA, lqB, lqC, lqD, lqE, lqF, lqG, lqH, lqI, lqJ, lqK, lqL, lqM, lqN, lqO] at hc) <;> (try (exfalso; first | omega | exact bool_tf hc (by assumption) | exact bool_ft hc (by assumption) | exact absurd (by assumption) hc)) <;> (first | with_reducible show STri _ _ _ _ _ _ | (simp -dsimp [hlt, hc]; (repeat (simp -dsimp (disch := (first | omega | assumption | (refine Bool.eq_false_iff.1 ?_; assumption))) only [wrap_in, if_pos, if_neg]; (try simp -dsimp [hlt, hc]))))))))
      exact ⟨by omega, by simp, by rw [hsk]; simp [stepJ], by rw [hsk]; simp [stepJ]⟩
    · rw [List.concat_eq_append] at e
      rw [e] at hsk hsm hjl ⊢
      have hll := hsm l (by simp)
      have ho : o.length + 1 ≤ k := by simpa using hjl
      have hg := last_get o [I l.1, I l.2]
      have hst := last_set o [I l.1, I l.2]
      (repeat' (first | ((first | with_reducible refine st_skip ?_ | with_reducible refine st_exit ?_); (try simp only [seqQ, blockQ, loopQ, forQ, whileQ, reduceIte, Nat.reduceEqDiff])) | (with_reducible refine st_ret ?_; ((try simp only [seqQ, blockQ, loopQ, forQ, whileQ]); first | (with_reducible refine retM_ret ?_) | refine retQ_ret ?_; simp [hlt, hg, hst])) | refine st_seq ?_ | refine st_block ?_ | ((with_reducible show (STri _ _ _ _ _) ∧ (STri _ _ _ _ _)); refine And.intro ?_ ?_) | ((first | refine st_reg ?_ | refine buildP_own ?_ | refine appP_own ?_) <;> (simp -dsimp [hlt, hg, hst]; (repeat (simp -dsimp (disch := (first | omega | assumption | (refine Bool.eq_false_iff.1 ?_; assumption))) only [wrap_in, if_pos, if_neg]; (try simp -dsimp [hlt, hg, hst]))))) | ((first | refine guardP_of (fun hc => ?_) (fun hc => ?_) | refine st_cond rfl (fun hc => ?_) (fun hc => ?_)) <;> (try simp only [lqA, lqB, lqC, lqD, lqE, lqF, lqG, lqH, lqI, lqJ, lqK, lqL, lqM, lqN, lqO] at hc) <;> (try (exfalso; first | omega | exact bool_tf hc (by assumption) | exact bool_ft hc (by assumption) | exact absurd (by assumption) hc)) <;> (first | with_reducible show STri _ _ _ _ _ _ | (simp -dsimp [hlt, hg, hst, hc]; (repeat (simp -dsimp (disch := (first | omega | assumption | (refine Bool.eq_false_iff.1 ?_; assumption))) only [wrap_in, if_pos, if_neg]; (try simp -dsimp [hlt, hg, hst, hc]))))))))
      · exact ⟨by omega, by simp, by rw [hsk]; simp [stepJ, hc], by rw [hsk]; simp [stepJ, hc]⟩
      · exact ⟨by omega, by simp, by rw [hsk]; simp [stepJ, hc], by rw [hsk]; simp [stepJ, hc]⟩
  · (repeat' (first | ((first | with_reducible refine st_skip ?_ | with_reducible refine st_exit ?_); (try simp only [seqQ, blockQ, loopQ, forQ, whileQ, reduceIte, Nat.reduceEqDiff])) | (with_reducible refine st_ret ?_; ((try simp only [seqQ, blockQ, loopQ, forQ, whileQ]); first | (with_reducible refine retM_ret ?_) | refine retQ_ret ?_; simp [hlt])) | refine st_seq ?_ | refine st_block ?_ | ((with_reducible show (STri _ _ _ _ _) ∧ (STri _ _ _ _ _)); refine And.intro ?_ ?_) | ((first | refine st_reg ?_ | refine buildP_own ?_ | refine appP_own ?_) <;> (simp -dsimp [hlt]; (repeat (simp -dsimp (disch := (first | omega | assumption | (refine Bool.eq_false_iff.1 ?_; assumption))) only [wrap_in, if_pos, if_neg]; (try simp -dsimp [hlt]))))) | ((first | refine guardP_of (fun hc => ?_) (fun hc => ?_) | refine st_cond rfl (fun hc => ?_) (fun hc => ?_)) <;> (try simp only [lqA, lqB, lqC, lqD, lqE, lqF, lqG, lqH, lqI, lqJ, lqK, lqL, lqM, lqN, lqO] at hc) <;> (try (exfalso; first | omega | exact bool_tf hc (by assumption) | exact bool_ft hc (by assumption) | exact absurd (by assumption) hc)) <;> (first | with_reducible show STri _ _ _ _ _ _ | (simp -dsimp [hlt, hc]; (repeat (simp -dsimp (disch := (first | omega | assumption | (refine Bool.eq_false_iff.1 ?_; assumption))) only [wrap_in, if_pos, if_neg]; (try simp -dsimp [hlt, hc]))))))))
    have hke : k = ys.length := by omega
    subst hke
    exact ⟨_, rfl, ⟨ys, rfl, h1, h2⟩, hl2, [slS (joinK ys ys.length)], by simp, by rw [hr ys h1 h2]; exact .refl _⟩
end Go.Proofs.YtlodpljdhdhfmaaGreat
/- Dial, VIII: looks; Off. -/
namespace Go.Proofs.YtlodpljdhdhfmaaGreat
open Go.RowKit
def lookOf (w : Dw) (n at' wlo whi : Int) : Lo := ⟨w, w.faces.getD n.toNat .zero, at', wlo, whi⟩
def Lo.zero : Lo := ⟨.zero, .zero, 0, 0, 0⟩
def lookErr (w : Dw) (n at' wlo whi : Int) : Int := if dwB w = false then 2 else if inB 0 (w.faces.length - 1) n = false then 7 else if inB 0 3155760000 at' = false then 3 else if spanB (-10000) 10000 wlo whi = false then 2 else 0
def rLook (w : Dw) (n at' wlo whi : Int) : CV := if lookErr w n at' wlo whi = 0 then .tup [cLook (lookOf w n at' wlo whi), I 0] else .tup [cLook .zero, I (lookErr w n at' wlo whi)]
theorem look_bad {w : Dw} {n at' wlo whi e : Int} (h : lookErr w n at' wlo whi = e) (he : e ≠ 0) : CLe (.tup [.agg [I 0, I 0, I 0, .val (.slice none 0 0), .val (.slice none 0 0), I 0, I 0, .val (.slice none 0 0), I 0, I 0, I 0, I 0, I 0, I 0], I e]) (rLook w n at' wlo whi) := by
  unfold rLook; rw [if_neg (by rw [h]; exact he), h]
  exact .tup _ _ (.cons _ _ _ _ (.agg _ _ (.cons _ _ _ _ (.refl _) (.cons _ _ _ _ (.refl _) (.cons _ _ _ _ (.refl _) (.cons _ _ _ _ (.nil 5) (.cons _ _ _ _ (.nil 6) (.cons _ _ _ _ (.refl _) (.cons _ _ _ _ (.refl _) (.cons _ _ _ _ (.nil 3) (.cons _ _ _ _ (.refl _) (.cons _ _ _ _ (.refl _) (.cons _ _ _ _ (.refl _) (.cons _ _ _ _ (.refl _)
    (.cons _ _ _ _ (.refl _) (.cons _ _ _ _ (.refl _) .nil))))))))))))))) (.cons _ _ _ _ (.refl _) .nil))
theorem sNewLook (w : Dw) (hw : DwLen w) (n at' wlo whi : Int) : SC Tryz.prog 35 [cDw w, I n, I at', cS wlo whi] (rLook w n at' wlo whi) := by
  refine law_dial_newLook _ _ (by simp) ?_
  have hn := hw.n
  by_cases hd : dwB w = true
  · by_cases hf : inB 0 (w.faces.length - 1) n = true
    · have hf2 := hf
      simp only [inB, Bool.and_eq_true, decide_eq_true_eq] at hf2
      obtain ⟨n1, n2⟩ := hf2
      have hlt : n.toNat < w.faces.length := by omega
      have hlt2 : n < w.faces.length := by omega
      (repeat' (first | ((first | with_reducible refine st_skip ?_ | with_reducible refine st_exit ?_); (try simp only [seqQ, blockQ, loopQ, forQ, whileQ, reduceIte, Nat.reduceEqDiff])) | (with_reducible refine st_ret ?_; ((try simp only [seqQ, blockQ, loopQ, forQ, whileQ]); first | (with_reducible refine retM_ret ?_) | refine retQ_ret ?_; simp [hf, hlt, hlt2, n1, allIn1])) | refine st_seq ?_ | refine st_block ?_ | ((with_reducible show (STri _ _ _ _ _) ∧ (STri _ _ _ _ _)); refine And.intro ?_ ?_) | ((first | refine st_reg ?_ | refine buildP_own ?_ | refine appP_own ?_ | refine callP_b (sWorksOk hw hd) rfl ?_ | refine callP_b (sWithin 0 (w.faces.length - 1) [n] (by simp)) rfl ?_ | refine callP_b (sWithin 0 3155760000 [at'] (by simp)) rfl ?_ | refine callP_b (sIsWind wlo whi) rfl ?_) <;> (simp -dsimp [hf, hlt, hlt2, n1, allIn1]; (repeat (simp -dsimp (disch := (first | omega | assumption | (refine Bool.eq_false_iff.1 ?_; assumption))) only [wrap_in, if_pos, if_neg]; (try simp -dsimp [hf, hlt, hlt2, n1, allIn1]))))) | ((first | refine guardP_of (fun hc => ?_) (fun hc => ?_) | refine st_cond rfl (fun hc => ?_) (fun hc => ?_)) <;> (try simp only [lqA, lqB, lqC, lqD, lqE, lqF, lqG, lqH, lqI, lqJ, lqK, lqL, lqM, lqN, lqO] at hc) <;> (try (exfalso; first | omega | exact bool_tf hc (by assumption) | exact bool_ft hc (by assumption) | exact absurd (by assumption) hc)) <;> (first | with_reducible show STri _ _ _ _ _ _ | (simp -dsimp [hf, hlt, hlt2, n1, allIn1, hc]; (repeat (simp -dsimp (disch := (first | omega | assumption | (refine Bool.eq_false_iff.1 ?_; assumption))) only [wrap_in, if_pos, if_neg]; (try simp -dsimp [hf, hlt, hlt2, n1, allIn1, hc]))))))))
      · exact look_bad (by simp [lookErr, hd, hf, hc]) (by decide)
      · exact look_bad (by simp [lookErr, *]) (by decide)
      · have h0 : lookErr w n at' wlo whi = 0 := by simp [lookErr, *]
        refine CLe.of_eq ?_
        unfold rLook
        rw [if_pos h0]
        simp [lookOf, hlt]
    · (repeat' (first | ((first | with_reducible refine st_skip ?_ | with_reducible refine st_exit ?_); (try simp only [seqQ, blockQ, loopQ, forQ, whileQ, reduceIte, Nat.reduceEqDiff])) | (with_reducible refine st_ret ?_; ((try simp only [seqQ, blockQ, loopQ, forQ, whileQ]); first | (with_reducible refine retM_ret ?_) | refine retQ_ret ?_; simp [hf, allIn1])) | refine st_seq ?_ | refine st_block ?_ | ((with_reducible show (STri _ _ _ _ _) ∧ (STri _ _ _ _ _)); refine And.intro ?_ ?_) | ((first | refine st_reg ?_ | refine buildP_own ?_ | refine appP_own ?_ | refine callP_b (sWorksOk hw hd) rfl ?_ | refine callP_b (sWithin 0 (w.faces.length - 1) [n] (by simp)) rfl ?_) <;> (simp -dsimp [hf, allIn1]; (repeat (simp -dsimp (disch := (first | omega | assumption | (refine Bool.eq_false_iff.1 ?_; assumption))) only [wrap_in, if_pos, if_neg]; (try simp -dsimp [hf, allIn1]))))) | ((first | refine guardP_of (fun hc => ?_) (fun hc => ?_) | refine st_cond rfl (fun hc => ?_) (fun hc => ?_)) <;> (try simp only [lqA, lqB, lqC, lqD, lqE, lqF, lqG, lqH, lqI, lqJ, lqK, lqL, lqM, lqN, lqO] at hc) <;> (try (exfalso; first | omega | exact bool_tf hc (by assumption) | exact bool_ft hc (by assumption) | exact absurd (by assumption) hc)) <;> (first | with_reducible show STri _ _ _ _ _ _ | (simp -dsimp [hf, allIn1, hc]; (repeat (simp -dsimp (disch := (first | omega | assumption | (refine Bool.eq_false_iff.1 ?_; assumption))) only [wrap_in, if_pos, if_neg]; (try simp -dsimp [hf, allIn1, hc]))))))))
      exact look_bad (by simp [lookErr, *]) (by decide)
  · (repeat' (first | ((first | with_reducible refine st_skip ?_ | with_reducible refine st_exit ?_); (try simp only [seqQ, blockQ, loopQ, forQ, whileQ, reduceIte, Nat.reduceEqDiff])) | (with_reducible refine st_ret ?_; ((try simp only [seqQ, blockQ, loopQ, forQ, whileQ]); first | (with_reducible refine retM_ret ?_) | refine retQ_ret ?_; simp)) | refine st_seq ?_ | refine st_block ?_ | ((with_reducible show (STri _ _ _ _ _) ∧ (STri _ _ _ _ _)); refine And.intro ?_ ?_) | ((first | refine st_reg ?_ | refine buildP_own ?_ | refine appP_own ?_ | refine callP_b (sWorksNo hw hd) rfl ?_) <;> (simp -dsimp; (repeat (simp -dsimp (disch := (first | omega | assumption | (refine Bool.eq_false_iff.1 ?_; assumption))) only [wrap_in, if_pos, if_neg]; (try simp -dsimp))))) | ((first | refine guardP_of (fun hc => ?_) (fun hc => ?_) | refine st_cond rfl (fun hc => ?_) (fun hc => ?_)) <;> (try simp only [lqA, lqB, lqC, lqD, lqE, lqF, lqG, lqH, lqI, lqJ, lqK, lqL, lqM, lqN, lqO] at hc) <;> (try (exfalso; first | omega | exact bool_tf hc (by assumption) | exact bool_ft hc (by assumption) | exact absurd (by assumption) hc)) <;> (first | with_reducible show STri _ _ _ _ _ _ | (simp -dsimp [hc]; (repeat (simp -dsimp (disch := (first | omega | assumption | (refine Bool.eq_false_iff.1 ?_; assumption))) only [wrap_in, if_pos, if_neg]; (try simp -dsimp [hc]))))))))
    exact look_bad (by simp [lookErr, *]) (by decide)
theorem slack_nonneg {f : Fc} (h : fcB f = true) : 0 ≤ slackI f.links := by
  unfold fcB at h
  simp only [Bool.and_eq_true, decide_eq_true_eq] at h
  obtain ⟨⟨⟨⟨_, h4⟩, _⟩, _⟩, hl⟩ := h
  have ht : LkTo f.links f.links.length := fun x hx => by
    rw [List.take_length] at hx
    exact List.all_eq_true.1 hl x hx
  obtain ⟨D1, D2⟩ := den_le h4 (Nat.le_refl _) ht
  obtain ⟨m1, m2⟩ := numK_le ht D1 D2 (Nat.le_refl _)
  unfold slackI overI
  exact Int.tdiv_nonneg (by omega) (by omega)
theorem fc_sm {f : Fc} (h : fcOK f = true) : FcSm f (slackI f.links) := by
  unfold fcOK at h
  rw [Bool.and_eq_true, decide_eq_true_eq] at h
  have hs := slack_nonneg h.1
  have h1 := h.1
  unfold fcB spanB inB at h1
  simp only [Bool.and_eq_true, decide_eq_true_eq] at h1
  obtain ⟨⟨⟨⟨⟨⟨a, b⟩, c⟩, _⟩, ⟨d, e⟩⟩, ⟨g, i⟩⟩, _⟩ := h1
  exact ⟨by omega, by omega, by omega, by omega, d, e, g, i, hs, h.2⟩
theorem dw_sm {w : Dw} (h : dwB w = true) : DwSm w := by
  unfold dwB spanB inB at h
  simp only [Bool.and_eq_true, decide_eq_true_eq] at h
  obtain ⟨⟨⟨⟨⟨a, b⟩, _⟩, ⟨c, d⟩, e⟩, _⟩, _⟩ := h
  exact ⟨a, b, by omega, by omega, by omega, by omega, by omega⟩
theorem dw_face {w : Dw} (h : dwB w = true) {f : Fc} (hf : f ∈ w.faces) : fcOK f = true := by
  unfold dwB at h
  simp only [Bool.and_eq_true] at h
  exact List.all_eq_true.1 h.2 f hf
theorem look_ok {w : Dw} {n at' wlo whi : Int} (h : lookErr w n at' wlo whi = 0) : dwB w = true ∧ (0 ≤ n ∧ n.toNat < w.faces.length) ∧ (0 ≤ at' ∧ at' ≤ 3155760000) ∧ spanB (-10000) 10000 wlo whi = true := by
  unfold lookErr at h
  split at h
  · cases h
  · rename_i h1
    split at h
    · cases h
    · rename_i h2
      split at h
      · cases h
      · rename_i h3
        split at h
        · cases h
        · rename_i h4
          simp only [Bool.not_eq_false, inB, Bool.and_eq_true, decide_eq_true_eq] at h1 h2 h3 h4
          exact ⟨h1, ⟨h2.1, by omega⟩, h3, h4⟩
theorem look_sm {w : Dw} {n at' wlo whi : Int} (h : lookErr w n at' wlo whi = 0) : LoSm (lookOf w n at' wlo whi) := by
  obtain ⟨h1, ⟨h2, h3⟩, ⟨h4, h5⟩, h6⟩ := look_ok h
  have hf : (lookOf w n at' wlo whi).f ∈ w.faces := by
    show w.faces.getD n.toNat .zero ∈ w.faces
    rw [List.getD_eq_getElem?_getD, List.getElem?_eq_getElem h3]
    exact List.getElem_mem h3
  unfold spanB at h6
  simp only [Bool.and_eq_true, decide_eq_true_eq] at h6
  obtain ⟨⟨a, b⟩, c⟩ := h6
  have e1 : (lookOf w n at' wlo whi).wlo = wlo := rfl
  have e2 : (lookOf w n at' wlo whi).whi = whi := rfl
  exact ⟨dw_sm h1, fc_sm (dw_face h1 hf), h4, h5, by rw [e1]; omega, by rw [e1]; omega, by rw [e2]; omega, by rw [e2]; omega⟩
theorem sLookOk {w : Dw} (hw : DwLen w) {n at' wlo whi : Int} (h : lookErr w n at' wlo whi = 0) : SC Tryz.prog 35 [cDw w, I n, I at', cS wlo whi] (.tup [cLook (lookOf w n at' wlo whi), I 0]) := by
  have := sNewLook w hw n at' wlo whi
  unfold rLook at this
  rwa [if_pos h] at this
theorem sLookNo {w : Dw} (hw : DwLen w) {n at' wlo whi : Int} (h : ¬ lookErr w n at' wlo whi = 0) : SC Tryz.prog 35 [cDw w, I n, I at', cS wlo whi] (.tup [cLook .zero, I (lookErr w n at' wlo whi)]) := by
  have := sNewLook w hw n at' wlo whi
  unfold rLook at this
  rwa [if_neg h] at this
def rOff (w : Dw) (n at' wlo whi : Int) : CV := if lookErr w n at' wlo whi = 0 then .tup [cS (offLo (lookOf w n at' wlo whi)) (offHi (lookOf w n at' wlo whi)), I 0] else .tup [cS 0 0, I (lookErr w n at' wlo whi)]
theorem sOff (w : Dw) (hw : DwLen w) (n at' wlo whi : Int) : SC Tryz.prog 18 [cDw w, I n, I at', cS wlo whi] (rOff w n at' wlo whi) := by
  refine law_dial_Off _ _ (by simp) ?_
  by_cases h : lookErr w n at' wlo whi = 0
  · (repeat' (first | ((first | with_reducible refine st_skip ?_ | with_reducible refine st_exit ?_); (try simp only [seqQ, blockQ, loopQ, forQ, whileQ, reduceIte, Nat.reduceEqDiff])) | (with_reducible refine st_ret ?_; ((try simp only [seqQ, blockQ, loopQ, forQ, whileQ]); first | (with_reducible refine retM_ret ?_) | refine retQ_ret ?_; simp)) | refine st_seq ?_ | refine st_block ?_ | ((with_reducible show (STri _ _ _ _ _) ∧ (STri _ _ _ _ _)); refine And.intro ?_ ?_) | ((first | refine st_reg ?_ | refine buildP_own ?_ | refine appP_own ?_ | refine callP_b (sLookOk hw h) rfl ?_ | refine callP_b (sOffL _ (look_sm h)) rfl ?_) <;> (simp -dsimp; (repeat (simp -dsimp (disch := (first | omega | assumption | (refine Bool.eq_false_iff.1 ?_; assumption))) only [wrap_in, if_pos, if_neg]; (try simp -dsimp))))) | ((first | refine guardP_of (fun hc => ?_) (fun hc => ?_) | refine st_cond rfl (fun hc => ?_) (fun hc => ?_)) <;> (try simp only [lqA, lqB, lqC, lqD, lqE, lqF, lqG, lqH, lqI, lqJ, lqK, lqL, lqM, lqN, lqO] at hc) <;> (try (exfalso; first | omega | exact bool_tf hc (by assumption) | exact bool_ft hc (by assumption) | exact absurd (by assumption) hc)) <;> (first | with_reducible show STri _ _ _ _ _ _ | (simp -dsimp [hc]; (repeat (simp -dsimp (disch := (first | omega | assumption | (refine Bool.eq_false_iff.1 ?_; assumption))) only [wrap_in, if_pos, if_neg]; (try simp -dsimp [hc]))))))))
    all_goals (refine CLe.of_eq ?_; unfold rOff; rw [if_pos h]; rfl)
  · (repeat' (first | ((first | with_reducible refine st_skip ?_ | with_reducible refine st_exit ?_); (try simp only [seqQ, blockQ, loopQ, forQ, whileQ, reduceIte, Nat.reduceEqDiff])) | (with_reducible refine st_ret ?_; ((try simp only [seqQ, blockQ, loopQ, forQ, whileQ]); first | (with_reducible refine retM_ret ?_) | refine retQ_ret ?_; simp [h])) | refine st_seq ?_ | refine st_block ?_ | ((with_reducible show (STri _ _ _ _ _) ∧ (STri _ _ _ _ _)); refine And.intro ?_ ?_) | ((first | refine st_reg ?_ | refine buildP_own ?_ | refine appP_own ?_ | refine callP_b (sLookNo hw h) rfl ?_) <;> (simp -dsimp [h]; (repeat (simp -dsimp (disch := (first | omega | assumption | (refine Bool.eq_false_iff.1 ?_; assumption))) only [wrap_in, if_pos, if_neg]; (try simp -dsimp [h]))))) | ((first | refine guardP_of (fun hc => ?_) (fun hc => ?_) | refine st_cond rfl (fun hc => ?_) (fun hc => ?_)) <;> (try simp only [lqA, lqB, lqC, lqD, lqE, lqF, lqG, lqH, lqI, lqJ, lqK, lqL, lqM, lqN, lqO] at hc) <;> (try (exfalso; first | omega | exact bool_tf hc (by assumption) | exact bool_ft hc (by assumption) | exact absurd (by assumption) hc)) <;> (first | with_reducible show STri _ _ _ _ _ _ | (simp -dsimp [h, hc]; (repeat (simp -dsimp (disch := (first | omega | assumption | (refine Bool.eq_false_iff.1 ?_; assumption))) only [wrap_in, if_pos, if_neg]; (try simp -dsimp [h, hc]))))))))
    all_goals (refine CLe.of_eq ?_; unfold rOff; rw [if_neg h]; rfl)
end Go.Proofs.YtlodpljdhdhfmaaGreat
