/- Part 4 of a proof: CodeM, CodeK, Da, Db, Dc, Dd, De, Df, Dg, Dh, Di. -/
import Derived.Test.YtnfggkopledpcaaGreatK3
set_option linter.unusedSimpArgs false
set_option linter.unusedVariables false
/- The shadow code of functions that turn slices, or call such. -/
namespace Go.Proofs.YtnfggkopledpcaaGreat
open Go.RowKit
def turners : List FuncId := [52, 31, 34, 54, 71, 86]
def m_dial_joined_0 : SCode := .reg [⟨(some 2), none, .mov (.const (.slice none 0 0)), [], false⟩] [0, 2]
def m_dial_joined_1 : SCode := .reg [⟨(some 6), none, .mov (.tmp 0), [], false⟩,
  ⟨(some 7), none, .callM 52 [(.tmp 6), (.func 53)], [], false⟩] [0, 2]
def m_dial_joined_2 : SCode := .reg [⟨(some 8), none, .mov (.tmp 0), [], false⟩,
  ⟨(some 9), none, .len (.tmp 8), [], false⟩,
  ⟨(some 10), none, .mov (.const (.int .i64 0)), [], false⟩] [2, 8, 9, 10]
def m_dial_joined_3 : SCode := .reg [⟨(some 11), none, .bin .lss (.tmp 10) (.tmp 9), [], false⟩] [2, 8, 9, 10, 11]
def m_dial_joined_4 : SCode := .cond (.tmp 11) .skip (.exit 0)
def m_dial_joined_5 : SCode := .reg [⟨(some 12), none, .idxS 2 (.tmp 8) (.tmp 10), [], false⟩,
  ⟨(some 13), none, .load true 2 (.tmp 12), [], false⟩,
  ⟨(some 4), none, .alloc 23 [(.int .i64 0), (.int .i64 0)], [], false⟩,
  ⟨none, none, .store 2 (.tmp 4) (.tmp 13), [], false⟩] [2, 4, 8, 9, 10]
def m_dial_joined_6 : SCode := .reg [⟨(some 14), none, .mov (.tmp 2), [], false⟩,
  ⟨(some 15), none, .len (.tmp 14), [], false⟩,
  ⟨(some 16), none, .bin .sub (.tmp 15) (.const (.int .i64 1)), [], false⟩,
  ⟨(some 5), none, .mov (.tmp 16), [], false⟩] [2, 4, 5, 8, 9, 10]
def m_dial_joined_7 : SCode := .reg [⟨(some 17), none, .mov (.tmp 5), [], false⟩,
  ⟨(some 18), none, .bin .geq (.tmp 17) (.const (.int .i64 0)), [], false⟩,
  ⟨(some 19), none, .mov (.tmp 18), [], false⟩,
  ⟨(some 20), (some (19, true)), .fld 0 (.tmp 4), [], false⟩,
  ⟨(some 21), (some (19, true)), .load false 1 (.tmp 20), [], false⟩,
  ⟨(some 22), (some (19, true)), .mov (.tmp 2), [], false⟩,
  ⟨(some 23), (some (19, true)), .mov (.tmp 5), [], false⟩,
  ⟨(some 24), (some (19, true)), .idxS 2 (.tmp 22) (.tmp 23), [], false⟩,
  ⟨(some 25), (some (19, true)), .fld 1 (.tmp 24), [], false⟩,
  ⟨(some 26), (some (19, true)), .load false 1 (.tmp 25), [], false⟩,
  ⟨(some 27), (some (19, true)), .bin .add (.tmp 26) (.const (.int .i64 1)), [], false⟩,
  ⟨(some 28), (some (19, true)), .bin .leq (.tmp 21) (.tmp 27), [], false⟩,
  ⟨(some 29), none, .pick (.tmp 19) (.tmp 28) (.const (.bool false)), [], false⟩] [2, 4, 5, 8, 9, 10, 29]
def m_dial_joined_8 : SCode := .reg [⟨(some 30), none, .mov (.tmp 2), [], false⟩,
  ⟨(some 31), none, .mov (.tmp 5), [], false⟩,
  ⟨(some 32), none, .mov (.tmp 2), [], false⟩,
  ⟨(some 33), none, .mov (.tmp 5), [], false⟩,
  ⟨(some 34), none, .idxS 2 (.tmp 32) (.tmp 33), [], false⟩,
  ⟨(some 35), none, .fld 1 (.tmp 34), [], false⟩,
  ⟨(some 36), none, .load false 1 (.tmp 35), [], false⟩,
  ⟨(some 37), none, .fld 1 (.tmp 4), [], false⟩,
  ⟨(some 38), none, .load false 1 (.tmp 37), [], false⟩,
  ⟨(some 39), none, .max [(.tmp 36), (.tmp 38)], [], false⟩,
  ⟨(some 40), none, .idxS 2 (.tmp 30) (.tmp 31), [], false⟩,
  ⟨(some 41), none, .fld 1 (.tmp 40), [], false⟩,
  ⟨none, none, .store 1 (.tmp 41) (.tmp 39), [], false⟩] [2, 8, 9, 10]
def m_dial_joined_9 : SCode := .reg [⟨(some 42), none, .mov (.tmp 2), [], false⟩,
  ⟨(some 43), none, .load true 2 (.tmp 4), [], false⟩,
  ⟨(some 44), none, .buildSl 23 2 [(.int .i64 0), (.int .i64 0)] 1 [(0, (.tmp 43))], [], false⟩,
  ⟨(some 45), none, .append 23 2 16 (.tmp 42) (.tmp 44), [], false⟩,
  ⟨(some 2), none, .mov (.tmp 45), [], false⟩] [2, 8, 9, 10]
def m_dial_joined_10 : SCode := .cond (.tmp 29) m_dial_joined_8 m_dial_joined_9
def m_dial_joined_11 : SCode := .seq m_dial_joined_7 m_dial_joined_10
def m_dial_joined_12 : SCode := .seq m_dial_joined_6 m_dial_joined_11
def m_dial_joined_13 : SCode := .seq m_dial_joined_5 m_dial_joined_12
def m_dial_joined_14 : SCode := .block 1 m_dial_joined_13
def m_dial_joined_15 : SCode := .reg [⟨(some 46), none, .bin .add (.tmp 10) (.const (.int .i64 1)), [], false⟩,
  ⟨(some 10), none, .mov (.tmp 46), [], false⟩] [2, 8, 9, 10]
def m_dial_joined_16 : SCode := .seq m_dial_joined_14 m_dial_joined_15
def m_dial_joined_17 : SCode := .seq m_dial_joined_4 m_dial_joined_16
def m_dial_joined_18 : SCode := .seq m_dial_joined_3 m_dial_joined_17
def m_dial_joined_19 : SCode := .loop m_dial_joined_18
def m_dial_joined_20 : SCode := .block 0 m_dial_joined_19
def m_dial_joined_21 : SCode := .seq m_dial_joined_2 m_dial_joined_20
def m_dial_joined_22 : SCode := .reg [⟨(some 47), none, .mov (.tmp 2), [], false⟩,
  ⟨(some 2), none, .mov (.tmp 47), [], false⟩] [2]
def m_dial_joined_23 : SCode := .seq m_dial_joined_22 .ret
def m_dial_joined_24 : SCode := .seq m_dial_joined_21 m_dial_joined_23
def m_dial_joined_25 : SCode := .seq m_dial_joined_1 m_dial_joined_24
def m_dial_joined_26 : SCode := .seq m_dial_joined_0 m_dial_joined_25
theorem mlaw_dial_joined (t : TypeId) (k : Nat) (rows : List (List CV)) (cs : List CV) (R : List (List CV) → Prop) (r : CV) (hl : cs.length + 1 ≤ 48) (h : STri (cfM Tryz.prog turners 48) m_dial_joined_26 (initM rows.length cs) [(900, .arr t k rows)] (retM rs_dial_joined t k rows.length R r)) : MC Tryz.prog 31 t k rows cs R (some r) :=
  mc_of turners follows Tryz.func31 rfl Tryz.ntmps31 (by decide) (by kernel_rfl) (by kernel_rfl) hl h
def m_dial_Shows_0 : SCode := .reg [⟨(some 4), none, .box 26 (.tmp 0), [], false⟩,
  ⟨(some 7), none, .box 23 (.tmp 3), [], false⟩,
  ⟨(some 8), none, .mov (.const (.slice none 0 0)), [], false⟩,
  ⟨(some 9), none, .mov (.const (.int .i64 0)), [], false⟩] [1, 2, 4, 7, 8, 9]
def m_dial_Shows_1 : SCode := .reg [⟨(some 18), none, .load true 4 (.tmp 4), [], false⟩,
  ⟨(some 19), none, .mov (.tmp 1), [], false⟩,
  ⟨(some 20), none, .mov (.tmp 2), [], false⟩,
  ⟨(some 21), none, .load true 2 (.tmp 7), [], false⟩,
  ⟨(some 22), none, .call 37 [(.tmp 18), (.tmp 19), (.tmp 20), (.tmp 21)], [], false⟩,
  ⟨(some 17), none, .mov (.tmp 22), [], false⟩,
  ⟨(some 23), none, .ext (.tmp 17) 0, [], false⟩,
  ⟨(some 24), none, .ext (.tmp 17) 1, [], false⟩,
  ⟨(some 10), none, .alloc 98 [(.int .i64 0), (.int .i64 0), (.int .i64 0), (.slice none 0 0), (.slice none 0 0), (.int .i64 0), (.int .i64 0), (.slice none 0 0), (.int .i64 0), (.int .i64 0), (.int .i64 0), (.int .i64 0), (.int .i64 0), (.int .i64 0)], [], false⟩,
  ⟨none, none, .store 14 (.tmp 10) (.tmp 23), [], false⟩,
  ⟨(some 11), none, .mov (.tmp 24), [], false⟩] [8, 9, 10, 11]
def m_dial_Shows_2 : SCode := .reg [⟨(some 25), none, .mov (.tmp 11), [], false⟩,
  ⟨(some 26), none, .bin .neq (.tmp 25) (.const (.int .i64 0)), [], false⟩] [8, 9, 10, 11, 26]
def m_dial_Shows_3 : SCode := .reg [⟨(some 27), none, .mov (.tmp 11), [], false⟩,
  ⟨(some 8), none, .mov (.const (.slice none 0 0)), [], false⟩,
  ⟨(some 9), none, .mov (.tmp 27), [], false⟩] [8, 9]
def m_dial_Shows_4 : SCode := .seq m_dial_Shows_3 .ret
def m_dial_Shows_5 : SCode := .cond (.tmp 26) m_dial_Shows_4 .skip
def m_dial_Shows_6 : SCode := .seq m_dial_Shows_2 m_dial_Shows_5
def m_dial_Shows_7 : SCode := .reg [⟨(some 12), none, .alloc 36 [(.slice none 0 0)], [], false⟩] [8, 9, 10, 12]
def m_dial_Shows_8 : SCode := .reg [⟨(some 28), none, .load true 14 (.tmp 10), [], false⟩,
  ⟨(some 29), none, .mkFn 44 [(.tmp 28)] [], [], false⟩] [8, 9, 12, 29]
def m_dial_Shows_9 : SCode := .reg [⟨(some 13), none, .alloc 23 [(.int .i64 0), (.int .i64 0)], [], false⟩,
  ⟨none, none, .store 2 (.tmp 13) (.tmp 30), [], false⟩] [12, 13]
def m_dial_Shows_10 : SCode := .reg [⟨(some 31), none, .fld 0 (.tmp 13), [], false⟩,
  ⟨(some 32), none, .load false 1 (.tmp 31), [], false⟩,
  ⟨(some 33), none, .call 45 [(.tmp 32), (.const (.int .i64 43200))], [], false⟩,
  ⟨(some 34), none, .fld 1 (.tmp 13), [], false⟩,
  ⟨(some 35), none, .load false 1 (.tmp 34), [], false⟩,
  ⟨(some 36), none, .fld 0 (.tmp 13), [], false⟩,
  ⟨(some 37), none, .load false 1 (.tmp 36), [], false⟩,
  ⟨(some 38), none, .bin .sub (.tmp 35) (.tmp 37), [], false⟩,
  ⟨(some 14), none, .mov (.tmp 33), [], false⟩,
  ⟨(some 15), none, .mov (.tmp 38), [], false⟩] [12, 14, 15]
def m_dial_Shows_11 : SCode := .reg [⟨(some 39), none, .load false 1 (.tmp 12), [], false⟩,
  ⟨(some 40), none, .mov (.tmp 14), [], false⟩,
  ⟨(some 41), none, .mov (.tmp 14), [], false⟩,
  ⟨(some 42), none, .mov (.tmp 15), [], false⟩,
  ⟨(some 43), none, .bin .add (.tmp 41) (.tmp 42), [], false⟩,
  ⟨(some 44), none, .min [(.const (.int .i64 43199)), (.tmp 43)], [], false⟩,
  ⟨(some 45), none, .build [(.int .i64 0), (.int .i64 0)] [(0, 1, (.tmp 40)), (1, 1, (.tmp 44))], [], false⟩,
  ⟨(some 46), none, .buildSl 23 2 [(.int .i64 0), (.int .i64 0)] 1 [(0, (.tmp 45))], [], false⟩,
  ⟨(some 47), none, .append 23 2 16 (.tmp 39) (.tmp 46), [], false⟩,
  ⟨none, none, .store 1 (.tmp 12) (.tmp 47), [], false⟩] [12, 14, 15]
def m_dial_Shows_12 : SCode := .reg [⟨(some 48), none, .mov (.tmp 14), [], false⟩,
  ⟨(some 49), none, .mov (.tmp 15), [], false⟩,
  ⟨(some 50), none, .bin .add (.tmp 48) (.tmp 49), [], false⟩,
  ⟨(some 51), none, .bin .sub (.tmp 50) (.const (.int .i64 43200)), [], false⟩,
  ⟨(some 16), none, .mov (.tmp 51), [], false⟩] [12, 16]
def m_dial_Shows_13 : SCode := .reg [⟨(some 52), none, .mov (.tmp 16), [], false⟩,
  ⟨(some 53), none, .bin .geq (.tmp 52) (.const (.int .i64 0)), [], false⟩] [12, 16, 53]
def m_dial_Shows_14 : SCode := .reg [⟨(some 54), none, .load false 1 (.tmp 12), [], false⟩,
  ⟨(some 55), none, .mov (.tmp 16), [], false⟩,
  ⟨(some 56), none, .build [(.int .i64 0), (.int .i64 0)] [(1, 1, (.tmp 55))], [], false⟩,
  ⟨(some 57), none, .buildSl 23 2 [(.int .i64 0), (.int .i64 0)] 1 [(0, (.tmp 56))], [], false⟩,
  ⟨(some 58), none, .append 23 2 16 (.tmp 54) (.tmp 57), [], false⟩,
  ⟨none, none, .store 1 (.tmp 12) (.tmp 58), [], false⟩] []
def m_dial_Shows_15 : SCode := .cond (.tmp 53) m_dial_Shows_14 .skip
def m_dial_Shows_16 : SCode := .seq m_dial_Shows_13 m_dial_Shows_15
def m_dial_Shows_17 : SCode := .seq m_dial_Shows_12 m_dial_Shows_16
def m_dial_Shows_18 : SCode := .seq m_dial_Shows_11 m_dial_Shows_17
def m_dial_Shows_19 : SCode := .seq m_dial_Shows_10 m_dial_Shows_18
def m_dial_Shows_20 : SCode := .block 1 m_dial_Shows_19
def m_dial_Shows_21 : SCode := .range (.tmp 29) [30] m_dial_Shows_9 m_dial_Shows_20
def m_dial_Shows_22 : SCode := .block 0 m_dial_Shows_21
def m_dial_Shows_23 : SCode := .seq m_dial_Shows_8 m_dial_Shows_22
def m_dial_Shows_24 : SCode := .reg [⟨(some 59), none, .load false 1 (.tmp 12), [], false⟩,
  ⟨(some 60), none, .callM 31 [(.tmp 59)], [], false⟩,
  ⟨(some 8), none, .mov (.tmp 60), [], false⟩,
  ⟨(some 9), none, .mov (.const (.int .i64 0)), [], false⟩] [8, 9]
def m_dial_Shows_25 : SCode := .seq m_dial_Shows_24 .ret
def m_dial_Shows_26 : SCode := .seq m_dial_Shows_23 m_dial_Shows_25
def m_dial_Shows_27 : SCode := .seq m_dial_Shows_7 m_dial_Shows_26
def m_dial_Shows_28 : SCode := .seq m_dial_Shows_6 m_dial_Shows_27
def m_dial_Shows_29 : SCode := .seq m_dial_Shows_1 m_dial_Shows_28
def m_dial_Shows_30 : SCode := .seq m_dial_Shows_0 m_dial_Shows_29
theorem mlaw_dial_Shows (cs : List CV) (r : CV) (hl : cs.length ≤ 61) (h : STri (cfF Tryz.prog turners 61) m_dial_Shows_30 (initT 0 cs) [] (retQ rs_dial_Shows r)) : SC Tryz.prog 21 cs r :=
  sc_of turners follows Tryz.func21 rfl Tryz.ntmps21 (by decide) (by kernel_rfl) (by kernel_rfl) hl h
def m_dial_Times_0 : SCode := .reg [⟨(some 4), none, .box 26 (.tmp 0), [], false⟩,
  ⟨(some 5), none, .box 27 (.tmp 1), [], false⟩,
  ⟨(some 6), none, .box 23 (.tmp 2), [], false⟩,
  ⟨(some 7), none, .box 23 (.tmp 3), [], false⟩,
  ⟨(some 8), none, .mov (.const (.slice none 0 0)), [], false⟩,
  ⟨(some 9), none, .mov (.const (.int .i64 0)), [], false⟩] [4, 5, 6, 7, 8, 9]
def m_dial_Times_1 : SCode := .reg [⟨(some 18), none, .load true 4 (.tmp 4), [], false⟩,
  ⟨(some 19), none, .load false 1 (.tmp 5), [], false⟩,
  ⟨(some 20), none, .load true 2 (.tmp 6), [], false⟩,
  ⟨(some 21), none, .load true 2 (.tmp 7), [], false⟩,
  ⟨(some 22), none, .call 28 [(.tmp 18), (.tmp 19), (.tmp 20), (.tmp 21)], [], false⟩,
  ⟨(some 17), none, .mov (.tmp 22), [], false⟩,
  ⟨(some 23), none, .ext (.tmp 17) 0, [], false⟩,
  ⟨(some 24), none, .ext (.tmp 17) 1, [], false⟩,
  ⟨(some 10), none, .alloc 80 [(.int .i64 0), (.int .i64 0), (.int .i64 0), (.slice none 0 0), (.slice none 0 0), (.slice none 0 0), (.int .i64 0), (.int .i64 0), (.int .i64 0), (.int .i64 0)], [], false⟩,
  ⟨none, none, .store 10 (.tmp 10) (.tmp 23), [], false⟩,
  ⟨(some 11), none, .mov (.tmp 24), [], false⟩] [5, 6, 8, 9, 10, 11]
def m_dial_Times_2 : SCode := .reg [⟨(some 25), none, .mov (.tmp 11), [], false⟩,
  ⟨(some 26), none, .bin .neq (.tmp 25) (.const (.int .i64 0)), [], false⟩] [5, 6, 8, 9, 10, 11, 26]
def m_dial_Times_3 : SCode := .reg [⟨(some 27), none, .mov (.tmp 11), [], false⟩,
  ⟨(some 8), none, .mov (.const (.slice none 0 0)), [], false⟩,
  ⟨(some 9), none, .mov (.tmp 27), [], false⟩] [8, 9]
def m_dial_Times_4 : SCode := .seq m_dial_Times_3 .ret
def m_dial_Times_5 : SCode := .cond (.tmp 26) m_dial_Times_4 .skip
def m_dial_Times_6 : SCode := .seq m_dial_Times_2 m_dial_Times_5
def m_dial_Times_7 : SCode := .reg [⟨(some 12), none, .alloc 36 [(.slice none 0 0)], [], false⟩] [5, 6, 8, 9, 10, 12]
def m_dial_Times_8 : SCode := .reg [⟨(some 28), none, .fld 0 (.tmp 10), [], false⟩,
  ⟨(some 29), none, .load true 5 (.tmp 28), [], false⟩,
  ⟨(some 30), none, .load true 2 (.tmp 6), [], false⟩,
  ⟨(some 31), none, .call 29 [(.tmp 29), (.tmp 30)], [], false⟩] [5, 6, 8, 9, 10, 12, 31]
def m_dial_Times_9 : SCode := .reg [⟨(some 13), none, .mov (.tmp 32), [], false⟩] [5, 6, 10, 12, 13]
def m_dial_Times_10 : SCode := .reg [⟨(some 33), none, .load false 1 (.tmp 5), [], false⟩,
  ⟨(some 34), none, .len (.tmp 33), [], false⟩,
  ⟨(some 35), none, .mov (.const (.int .i64 0)), [], false⟩] [6, 10, 12, 13, 33, 34, 35]
def m_dial_Times_11 : SCode := .reg [⟨(some 36), none, .bin .lss (.tmp 35) (.tmp 34), [], false⟩] [6, 10, 12, 13, 33, 34, 35, 36]
def m_dial_Times_12 : SCode := .cond (.tmp 36) .skip (.exit 2)
def m_dial_Times_13 : SCode := .reg [⟨(some 37), none, .idxS 2 (.tmp 33) (.tmp 35), [], false⟩,
  ⟨(some 38), none, .load true 2 (.tmp 37), [], false⟩,
  ⟨(some 15), none, .alloc 44 [(.int .i64 0), (.int .i64 0)], [], false⟩,
  ⟨none, none, .store 2 (.tmp 15) (.tmp 38), [], false⟩] [6, 10, 12, 13, 15, 33, 34, 35]
def m_dial_Times_14 : SCode := .reg [⟨(some 39), none, .load true 10 (.tmp 10), [], false⟩,
  ⟨(some 40), none, .load true 2 (.tmp 15), [], false⟩,
  ⟨(some 41), none, .mov (.tmp 13), [], false⟩,
  ⟨(some 42), none, .call 30 [(.tmp 39), (.tmp 40), (.tmp 41)], [], false⟩,
  ⟨(some 43), none, .un .not (.tmp 42), [], false⟩] [6, 10, 12, 13, 33, 34, 35, 43]
def m_dial_Times_15 : SCode := .cond (.tmp 43) (.exit 1) .skip
def m_dial_Times_16 : SCode := .seq m_dial_Times_14 m_dial_Times_15
def m_dial_Times_17 : SCode := .seq m_dial_Times_13 m_dial_Times_16
def m_dial_Times_18 : SCode := .block 3 m_dial_Times_17
def m_dial_Times_19 : SCode := .reg [⟨(some 44), none, .bin .add (.tmp 35) (.const (.int .i64 1)), [], false⟩,
  ⟨(some 35), none, .mov (.tmp 44), [], false⟩] [6, 10, 12, 13, 33, 34, 35]
def m_dial_Times_20 : SCode := .seq m_dial_Times_18 m_dial_Times_19
def m_dial_Times_21 : SCode := .seq m_dial_Times_12 m_dial_Times_20
def m_dial_Times_22 : SCode := .seq m_dial_Times_11 m_dial_Times_21
def m_dial_Times_23 : SCode := .loop m_dial_Times_22
def m_dial_Times_24 : SCode := .block 2 m_dial_Times_23
def m_dial_Times_25 : SCode := .seq m_dial_Times_10 m_dial_Times_24
def m_dial_Times_26 : SCode := .reg [⟨(some 45), none, .fld 0 (.tmp 6), [], false⟩,
  ⟨(some 46), none, .load false 1 (.tmp 45), [], false⟩,
  ⟨(some 47), none, .mov (.tmp 13), [], false⟩,
  ⟨(some 48), none, .fld 0 (.tmp 10), [], false⟩,
  ⟨(some 49), none, .fld 0 (.tmp 48), [], false⟩,
  ⟨(some 50), none, .fld 1 (.tmp 49), [], false⟩,
  ⟨(some 51), none, .fld 1 (.tmp 50), [], false⟩,
  ⟨(some 52), none, .load false 1 (.tmp 51), [], false⟩,
  ⟨(some 53), none, .bin .sub (.tmp 47) (.tmp 52), [], false⟩,
  ⟨(some 54), none, .max [(.tmp 46), (.tmp 53)], [], false⟩,
  ⟨(some 55), none, .fld 1 (.tmp 6), [], false⟩,
  ⟨(some 56), none, .load false 1 (.tmp 55), [], false⟩,
  ⟨(some 57), none, .mov (.tmp 13), [], false⟩,
  ⟨(some 58), none, .fld 0 (.tmp 10), [], false⟩,
  ⟨(some 59), none, .fld 0 (.tmp 58), [], false⟩,
  ⟨(some 60), none, .fld 0 (.tmp 59), [], false⟩,
  ⟨(some 61), none, .load false 1 (.tmp 60), [], false⟩,
  ⟨(some 62), none, .bin .add (.tmp 57) (.tmp 61), [], false⟩,
  ⟨(some 63), none, .bin .sub (.tmp 62) (.const (.int .i64 1)), [], false⟩,
  ⟨(some 64), none, .fld 0 (.tmp 10), [], false⟩,
  ⟨(some 65), none, .fld 0 (.tmp 64), [], false⟩,
  ⟨(some 66), none, .fld 1 (.tmp 65), [], false⟩,
  ⟨(some 67), none, .fld 0 (.tmp 66), [], false⟩,
  ⟨(some 68), none, .load false 1 (.tmp 67), [], false⟩,
  ⟨(some 69), none, .bin .sub (.tmp 63) (.tmp 68), [], false⟩,
  ⟨(some 70), none, .min [(.tmp 56), (.tmp 69)], [], false⟩,
  ⟨(some 71), none, .build [(.int .i64 0), (.int .i64 0)] [(0, 1, (.tmp 54)), (1, 1, (.tmp 70))], [], false⟩,
  ⟨(some 16), none, .alloc 23 [(.int .i64 0), (.int .i64 0)], [], false⟩,
  ⟨none, none, .store 2 (.tmp 16) (.tmp 71), [], false⟩] [12, 16]
def m_dial_Times_27 : SCode := .reg [⟨(some 72), none, .fld 0 (.tmp 16), [], false⟩,
  ⟨(some 73), none, .load false 1 (.tmp 72), [], false⟩,
  ⟨(some 74), none, .fld 1 (.tmp 16), [], false⟩,
  ⟨(some 75), none, .load false 1 (.tmp 74), [], false⟩,
  ⟨(some 76), none, .bin .leq (.tmp 73) (.tmp 75), [], false⟩] [12, 16, 76]
def m_dial_Times_28 : SCode := .reg [⟨(some 77), none, .load false 1 (.tmp 12), [], false⟩,
  ⟨(some 78), none, .load true 2 (.tmp 16), [], false⟩,
  ⟨(some 79), none, .buildSl 23 2 [(.int .i64 0), (.int .i64 0)] 1 [(0, (.tmp 78))], [], false⟩,
  ⟨(some 80), none, .append 23 2 16 (.tmp 77) (.tmp 79), [], false⟩,
  ⟨none, none, .store 1 (.tmp 12) (.tmp 80), [], false⟩] []
def m_dial_Times_29 : SCode := .cond (.tmp 76) m_dial_Times_28 .skip
def m_dial_Times_30 : SCode := .seq m_dial_Times_27 m_dial_Times_29
def m_dial_Times_31 : SCode := .seq m_dial_Times_26 m_dial_Times_30
def m_dial_Times_32 : SCode := .seq m_dial_Times_25 m_dial_Times_31
def m_dial_Times_33 : SCode := .block 1 m_dial_Times_32
def m_dial_Times_34 : SCode := .range (.tmp 31) [32] m_dial_Times_9 m_dial_Times_33
def m_dial_Times_35 : SCode := .block 0 m_dial_Times_34
def m_dial_Times_36 : SCode := .seq m_dial_Times_8 m_dial_Times_35
def m_dial_Times_37 : SCode := .reg [⟨(some 81), none, .load false 1 (.tmp 12), [], false⟩,
  ⟨(some 82), none, .len (.tmp 81), [], false⟩,
  ⟨(some 83), none, .bin .eql (.tmp 82) (.const (.int .i64 0)), [], false⟩] [12, 83]
def m_dial_Times_38 : SCode := .reg [⟨(some 8), none, .mov (.const (.slice none 0 0)), [], false⟩,
  ⟨(some 9), none, .mov (.const (.int .i64 7)), [], false⟩] [8, 9]
def m_dial_Times_39 : SCode := .seq m_dial_Times_38 .ret
def m_dial_Times_40 : SCode := .cond (.tmp 83) m_dial_Times_39 .skip
def m_dial_Times_41 : SCode := .seq m_dial_Times_37 m_dial_Times_40
def m_dial_Times_42 : SCode := .reg [⟨(some 84), none, .load false 1 (.tmp 12), [], false⟩,
  ⟨(some 85), none, .callM 31 [(.tmp 84)], [], false⟩,
  ⟨(some 8), none, .mov (.tmp 85), [], false⟩,
  ⟨(some 9), none, .mov (.const (.int .i64 0)), [], false⟩] [8, 9]
def m_dial_Times_43 : SCode := .seq m_dial_Times_42 .ret
def m_dial_Times_44 : SCode := .seq m_dial_Times_41 m_dial_Times_43
def m_dial_Times_45 : SCode := .seq m_dial_Times_36 m_dial_Times_44
def m_dial_Times_46 : SCode := .seq .skip m_dial_Times_45
def m_dial_Times_47 : SCode := .seq m_dial_Times_7 m_dial_Times_46
def m_dial_Times_48 : SCode := .seq m_dial_Times_6 m_dial_Times_47
def m_dial_Times_49 : SCode := .seq m_dial_Times_1 m_dial_Times_48
def m_dial_Times_50 : SCode := .scope m_dial_Times_49
def m_dial_Times_51 : SCode := .seq m_dial_Times_0 m_dial_Times_50
theorem mlaw_dial_Times (cs : List CV) (r : CV) (hl : cs.length ≤ 86) (h : STri (cfF Tryz.prog turners 86) m_dial_Times_51 (initT 0 cs) [] (retQ rs_dial_Times r)) : SC Tryz.prog 9 cs r :=
  sc_of turners follows Tryz.func9 rfl Tryz.ntmps9 (by decide) (by kernel_rfl) (by kernel_rfl) hl h
def m_dial_Pairs_0 : SCode := .reg [⟨(some 4), none, .box 26 (.tmp 0), [], false⟩,
  ⟨(some 6), none, .box 23 (.tmp 2), [], false⟩,
  ⟨(some 7), none, .box 23 (.tmp 3), [], false⟩,
  ⟨(some 8), none, .mov (.const (.slice none 0 0)), [], false⟩,
  ⟨(some 9), none, .mov (.const (.int .i64 0)), [], false⟩] [1, 4, 6, 7, 8]
def m_dial_Pairs_1 : SCode := .reg [⟨(some 17), none, .load true 4 (.tmp 4), [], false⟩,
  ⟨(some 18), none, .mov (.tmp 1), [], false⟩,
  ⟨(some 19), none, .load true 2 (.tmp 6), [], false⟩,
  ⟨(some 20), none, .load true 2 (.tmp 7), [], false⟩,
  ⟨(some 21), none, .call 28 [(.tmp 17), (.tmp 18), (.tmp 19), (.tmp 20)], [], false⟩,
  ⟨(some 16), none, .mov (.tmp 21), [], false⟩,
  ⟨(some 22), none, .ext (.tmp 16) 0, [], false⟩,
  ⟨(some 23), none, .ext (.tmp 16) 1, [], false⟩,
  ⟨(some 10), none, .alloc 80 [(.int .i64 0), (.int .i64 0), (.int .i64 0), (.slice none 0 0), (.slice none 0 0), (.slice none 0 0), (.int .i64 0), (.int .i64 0), (.int .i64 0), (.int .i64 0)], [], false⟩,
  ⟨none, none, .store 10 (.tmp 10) (.tmp 22), [], false⟩,
  ⟨(some 9), none, .mov (.tmp 23), [], false⟩] [1, 8, 9, 10]
def m_dial_Pairs_2 : SCode := .reg [⟨(some 24), none, .mov (.tmp 9), [], false⟩,
  ⟨(some 25), none, .bin .neq (.tmp 24) (.const (.int .i64 0)), [], false⟩] [1, 8, 9, 10, 25]
def m_dial_Pairs_3 : SCode := .reg [⟨(some 26), none, .mov (.tmp 9), [], false⟩,
  ⟨(some 8), none, .mov (.const (.slice none 0 0)), [], false⟩,
  ⟨(some 9), none, .mov (.tmp 26), [], false⟩] [8, 9]
def m_dial_Pairs_4 : SCode := .seq m_dial_Pairs_3 .ret
def m_dial_Pairs_5 : SCode := .cond (.tmp 25) m_dial_Pairs_4 .skip
def m_dial_Pairs_6 : SCode := .seq m_dial_Pairs_2 m_dial_Pairs_5
def m_dial_Pairs_7 : SCode := .reg [⟨(some 11), none, .mov (.const (.slice none 0 0)), [], false⟩] [1, 8, 10, 11]
def m_dial_Pairs_8 : SCode := .reg [⟨(some 27), none, .mov (.tmp 1), [], false⟩,
  ⟨(some 28), none, .len (.tmp 27), [], false⟩,
  ⟨(some 29), none, .mov (.const (.int .i64 0)), [], false⟩] [1, 8, 10, 11, 27, 28, 29]
def m_dial_Pairs_9 : SCode := .reg [⟨(some 30), none, .bin .lss (.tmp 29) (.tmp 28), [], false⟩] [1, 8, 10, 11, 27, 28, 29, 30]
def m_dial_Pairs_10 : SCode := .cond (.tmp 30) .skip (.exit 0)
def m_dial_Pairs_11 : SCode := .reg [⟨(some 31), none, .idxS 2 (.tmp 27) (.tmp 29), [], false⟩,
  ⟨(some 32), none, .load true 2 (.tmp 31), [], false⟩,
  ⟨(some 13), none, .alloc 44 [(.int .i64 0), (.int .i64 0)], [], false⟩,
  ⟨none, none, .store 2 (.tmp 13) (.tmp 32), [], false⟩] [1, 8, 10, 11, 13, 27, 28, 29]
def m_dial_Pairs_12 : SCode := .reg [⟨(some 33), none, .mov (.tmp 11), [], false⟩,
  ⟨(some 34), none, .load true 10 (.tmp 10), [], false⟩,
  ⟨(some 35), none, .load true 2 (.tmp 13), [], false⟩,
  ⟨(some 36), none, .call 32 [(.tmp 34), (.tmp 35)], [], false⟩,
  ⟨(some 37), none, .buildSl 88 1 [(.map none)] 1 [(0, (.tmp 36))], [], false⟩,
  ⟨(some 38), none, .append 88 1 8 (.tmp 33) (.tmp 37), [], false⟩,
  ⟨(some 11), none, .mov (.tmp 38), [], false⟩] [1, 8, 10, 11, 27, 28, 29]
def m_dial_Pairs_13 : SCode := .seq m_dial_Pairs_11 m_dial_Pairs_12
def m_dial_Pairs_14 : SCode := .block 1 m_dial_Pairs_13
def m_dial_Pairs_15 : SCode := .reg [⟨(some 39), none, .bin .add (.tmp 29) (.const (.int .i64 1)), [], false⟩,
  ⟨(some 29), none, .mov (.tmp 39), [], false⟩] [1, 8, 10, 11, 27, 28, 29]
def m_dial_Pairs_16 : SCode := .seq m_dial_Pairs_14 m_dial_Pairs_15
def m_dial_Pairs_17 : SCode := .seq m_dial_Pairs_10 m_dial_Pairs_16
def m_dial_Pairs_18 : SCode := .seq m_dial_Pairs_9 m_dial_Pairs_17
def m_dial_Pairs_19 : SCode := .loop m_dial_Pairs_18
def m_dial_Pairs_20 : SCode := .block 0 m_dial_Pairs_19
def m_dial_Pairs_21 : SCode := .seq m_dial_Pairs_8 m_dial_Pairs_20
def m_dial_Pairs_22 : SCode := .reg [⟨(some 40), none, .mov (.tmp 1), [], false⟩,
  ⟨(some 41), none, .len (.tmp 40), [], false⟩,
  ⟨(some 42), none, .mov (.const (.int .i64 0)), [], false⟩] [1, 8, 11, 41, 42]
def m_dial_Pairs_23 : SCode := .reg [⟨(some 43), none, .bin .lss (.tmp 42) (.tmp 41), [], false⟩] [1, 8, 11, 41, 42, 43]
def m_dial_Pairs_24 : SCode := .cond (.tmp 43) .skip (.exit 2)
def m_dial_Pairs_25 : SCode := .reg [⟨(some 44), none, .mov (.tmp 42), [], false⟩,
  ⟨(some 14), none, .mov (.tmp 44), [], false⟩] [1, 8, 11, 14, 41, 42]
def m_dial_Pairs_26 : SCode := .reg [⟨(some 45), none, .mov (.tmp 1), [], false⟩,
  ⟨(some 46), none, .mov (.tmp 14), [], false⟩,
  ⟨(some 47), none, .slcS 2 (.tmp 45) none (some (.tmp 46)), [], false⟩,
  ⟨(some 48), none, .len (.tmp 47), [], false⟩,
  ⟨(some 49), none, .mov (.const (.int .i64 0)), [], false⟩] [1, 8, 11, 14, 41, 42, 48, 49]
def m_dial_Pairs_27 : SCode := .reg [⟨(some 50), none, .bin .lss (.tmp 49) (.tmp 48), [], false⟩] [1, 8, 11, 14, 41, 42, 48, 49, 50]
def m_dial_Pairs_28 : SCode := .cond (.tmp 50) .skip (.exit 4)
def m_dial_Pairs_29 : SCode := .reg [⟨(some 51), none, .mov (.tmp 49), [], false⟩,
  ⟨(some 15), none, .mov (.tmp 51), [], false⟩] [1, 8, 11, 14, 15, 41, 42, 48, 49]
def m_dial_Pairs_30 : SCode := .reg [⟨(some 52), none, .mov (.tmp 11), [], false⟩,
  ⟨(some 53), none, .mov (.tmp 15), [], false⟩,
  ⟨(some 54), none, .idxS 1 (.tmp 52) (.tmp 53), [], false⟩,
  ⟨(some 55), none, .load false 1 (.tmp 54), [], false⟩,
  ⟨(some 56), none, .mov (.tmp 11), [], false⟩,
  ⟨(some 57), none, .mov (.tmp 14), [], false⟩,
  ⟨(some 58), none, .idxS 1 (.tmp 56) (.tmp 57), [], false⟩,
  ⟨(some 59), none, .load false 1 (.tmp 58), [], false⟩,
  ⟨(some 60), none, .call 33 [(.tmp 55), (.tmp 59)], [], false⟩,
  ⟨(some 61), none, .un .not (.tmp 60), [], false⟩] [1, 8, 11, 14, 15, 41, 42, 48, 49, 61]
def m_dial_Pairs_31 : SCode := .reg [⟨(some 62), none, .mov (.tmp 8), [], false⟩,
  ⟨(some 63), none, .mov (.tmp 15), [], false⟩,
  ⟨(some 64), none, .mov (.tmp 14), [], false⟩,
  ⟨(some 65), none, .build [(.int .i64 0), (.int .i64 0)] [(0, 1, (.tmp 63)), (1, 1, (.tmp 64))], [], false⟩,
  ⟨(some 66), none, .buildSl 50 2 [(.int .i64 0), (.int .i64 0)] 1 [(0, (.tmp 65))], [], false⟩,
  ⟨(some 67), none, .append 50 2 16 (.tmp 62) (.tmp 66), [], false⟩,
  ⟨(some 8), none, .mov (.tmp 67), [], false⟩] [1, 8, 11, 14, 41, 42, 48, 49]
def m_dial_Pairs_32 : SCode := .cond (.tmp 61) m_dial_Pairs_31 .skip
def m_dial_Pairs_33 : SCode := .seq m_dial_Pairs_30 m_dial_Pairs_32
def m_dial_Pairs_34 : SCode := .seq m_dial_Pairs_29 m_dial_Pairs_33
def m_dial_Pairs_35 : SCode := .block 5 m_dial_Pairs_34
def m_dial_Pairs_36 : SCode := .reg [⟨(some 68), none, .bin .add (.tmp 49) (.const (.int .i64 1)), [], false⟩,
  ⟨(some 49), none, .mov (.tmp 68), [], false⟩] [1, 8, 11, 14, 41, 42, 48, 49]
def m_dial_Pairs_37 : SCode := .seq m_dial_Pairs_35 m_dial_Pairs_36
def m_dial_Pairs_38 : SCode := .seq m_dial_Pairs_28 m_dial_Pairs_37
def m_dial_Pairs_39 : SCode := .seq m_dial_Pairs_27 m_dial_Pairs_38
def m_dial_Pairs_40 : SCode := .loop m_dial_Pairs_39
def m_dial_Pairs_41 : SCode := .block 4 m_dial_Pairs_40
def m_dial_Pairs_42 : SCode := .seq m_dial_Pairs_26 m_dial_Pairs_41
def m_dial_Pairs_43 : SCode := .seq m_dial_Pairs_25 m_dial_Pairs_42
def m_dial_Pairs_44 : SCode := .block 3 m_dial_Pairs_43
def m_dial_Pairs_45 : SCode := .reg [⟨(some 69), none, .bin .add (.tmp 42) (.const (.int .i64 1)), [], false⟩,
  ⟨(some 42), none, .mov (.tmp 69), [], false⟩] [1, 8, 11, 41, 42]
def m_dial_Pairs_46 : SCode := .seq m_dial_Pairs_44 m_dial_Pairs_45
def m_dial_Pairs_47 : SCode := .seq m_dial_Pairs_24 m_dial_Pairs_46
def m_dial_Pairs_48 : SCode := .seq m_dial_Pairs_23 m_dial_Pairs_47
def m_dial_Pairs_49 : SCode := .loop m_dial_Pairs_48
def m_dial_Pairs_50 : SCode := .block 2 m_dial_Pairs_49
def m_dial_Pairs_51 : SCode := .seq m_dial_Pairs_22 m_dial_Pairs_50
def m_dial_Pairs_52 : SCode := .reg [⟨(some 70), none, .mov (.tmp 8), [], false⟩,
  ⟨(some 71), none, .callM 34 [(.tmp 70)], [], false⟩,
  ⟨(some 8), none, .mov (.tmp 71), [], false⟩,
  ⟨(some 9), none, .mov (.const (.int .i64 0)), [], false⟩] [8, 9]
def m_dial_Pairs_53 : SCode := .seq m_dial_Pairs_52 .ret
def m_dial_Pairs_54 : SCode := .seq m_dial_Pairs_51 m_dial_Pairs_53
def m_dial_Pairs_55 : SCode := .seq m_dial_Pairs_21 m_dial_Pairs_54
def m_dial_Pairs_56 : SCode := .seq m_dial_Pairs_7 m_dial_Pairs_55
def m_dial_Pairs_57 : SCode := .seq m_dial_Pairs_6 m_dial_Pairs_56
def m_dial_Pairs_58 : SCode := .seq m_dial_Pairs_1 m_dial_Pairs_57
def m_dial_Pairs_59 : SCode := .seq m_dial_Pairs_0 m_dial_Pairs_58
theorem mlaw_dial_Pairs (cs : List CV) (r : CV) (hl : cs.length ≤ 72) (h : STri (cfF Tryz.prog turners 72) m_dial_Pairs_59 (initT 0 cs) [] (retQ rs_dial_Pairs r)) : SC Tryz.prog 10 cs r :=
  sc_of turners follows Tryz.func10 rfl Tryz.ntmps10 (by decide) (by kernel_rfl) (by kernel_rfl) hl h
def m_slices_SortFunc_dial_pairsInOrder_2_int_0 : SCode := .reg [⟨(some 5), none, .mov (.tmp 0), [], false⟩,
  ⟨(some 6), none, .len (.tmp 5), [], false⟩,
  ⟨(some 4), none, .mov (.tmp 6), [], false⟩] [0, 1, 4]
def m_slices_SortFunc_dial_pairsInOrder_2_int_1 : SCode := .reg [⟨(some 7), none, .mov (.tmp 0), [], false⟩,
  ⟨(some 8), none, .mov (.tmp 4), [], false⟩,
  ⟨(some 9), none, .mov (.tmp 4), [], false⟩,
  ⟨(some 10), none, .conv .u64 (.tmp 9), [], false⟩,
  ⟨(some 11), none, .call 70 [(.tmp 10)], [], false⟩,
  ⟨(some 12), none, .mov (.tmp 1), [], false⟩,
  ⟨(some 13), none, .callM 71 [(.tmp 7), (.const (.int .i64 0)), (.tmp 8), (.tmp 11), (.tmp 12)], [], false⟩] []
def m_slices_SortFunc_dial_pairsInOrder_2_int_2 : SCode := .seq m_slices_SortFunc_dial_pairsInOrder_2_int_0 m_slices_SortFunc_dial_pairsInOrder_2_int_1
theorem mlaw_slices_SortFunc_dial_pairsInOrder_2_int (t : TypeId) (k : Nat) (rows : List (List CV)) (cs : List CV) (R : List (List CV) → Prop) (r : CV) (hl : cs.length + 1 ≤ 14) (h : STri (cfM Tryz.prog turners 14) m_slices_SortFunc_dial_pairsInOrder_2_int_2 (initM rows.length cs) [(900, .arr t k rows)] (retM rs_slices_SortFunc_dial_pairsInOrder_2_int t k rows.length R r)) : MC Tryz.prog 54 t k rows cs R (some r) :=
  mc_of turners follows Tryz.func54 rfl Tryz.ntmps54 (by decide) (by kernel_rfl) (by kernel_rfl) hl h
def m_slices_pdqsortCmpFunc_2_int_0 : SCode := .reg [⟨(some 10), none, .mov (.const (.bool true)), [], false⟩] [0, 1, 2, 3, 4, 10]
def m_slices_pdqsortCmpFunc_2_int_1 : SCode := .reg [⟨(some 11), none, .mov (.const (.bool true)), [], false⟩] [0, 1, 2, 3, 4, 10, 11]
def m_slices_pdqsortCmpFunc_2_int_2 : SCode := .reg [⟨(some 21), none, .mov (.tmp 2), [], false⟩,
  ⟨(some 22), none, .mov (.tmp 1), [], false⟩,
  ⟨(some 23), none, .bin .sub (.tmp 21) (.tmp 22), [], false⟩,
  ⟨(some 12), none, .mov (.tmp 23), [], false⟩] [0, 1, 2, 3, 4, 10, 11, 12]
def m_slices_pdqsortCmpFunc_2_int_3 : SCode := .reg [⟨(some 24), none, .mov (.tmp 12), [], false⟩,
  ⟨(some 25), none, .bin .leq (.tmp 24) (.const (.int .i64 12)), [], false⟩] [0, 1, 2, 3, 4, 10, 11, 12, 25]
def m_slices_pdqsortCmpFunc_2_int_4 : SCode := .reg [⟨(some 26), none, .mov (.tmp 0), [], false⟩,
  ⟨(some 27), none, .mov (.tmp 1), [], false⟩,
  ⟨(some 28), none, .mov (.tmp 2), [], false⟩,
  ⟨(some 29), none, .mov (.tmp 4), [], false⟩,
  ⟨(some 30), none, .callM 86 [(.tmp 26), (.tmp 27), (.tmp 28), (.tmp 29)], [], false⟩] []
def m_slices_pdqsortCmpFunc_2_int_5 : SCode := .seq m_slices_pdqsortCmpFunc_2_int_4 .ret
def m_slices_pdqsortCmpFunc_2_int_6 : SCode := .cond (.tmp 25) m_slices_pdqsortCmpFunc_2_int_5 .skip
def m_slices_pdqsortCmpFunc_2_int_7 : SCode := .seq m_slices_pdqsortCmpFunc_2_int_3 m_slices_pdqsortCmpFunc_2_int_6
def m_slices_pdqsortCmpFunc_2_int_8 : SCode := .reg [⟨(some 31), none, .mov (.tmp 3), [], false⟩,
  ⟨(some 32), none, .bin .eql (.tmp 31) (.const (.int .i64 0)), [], false⟩] [0, 1, 2, 3, 4, 10, 11, 12, 32]
def m_slices_pdqsortCmpFunc_2_int_9 : SCode := .reg [⟨(some 33), none, .mov (.tmp 0), [], false⟩,
  ⟨(some 34), none, .mov (.tmp 1), [], false⟩,
  ⟨(some 35), none, .mov (.tmp 2), [], false⟩,
  ⟨(some 36), none, .mov (.tmp 4), [], false⟩,
  ⟨(some 37), none, .call 87 [(.tmp 33), (.tmp 34), (.tmp 35), (.tmp 36)], [], false⟩] []
def m_slices_pdqsortCmpFunc_2_int_10 : SCode := .seq m_slices_pdqsortCmpFunc_2_int_9 .ret
def m_slices_pdqsortCmpFunc_2_int_11 : SCode := .cond (.tmp 32) m_slices_pdqsortCmpFunc_2_int_10 .skip
def m_slices_pdqsortCmpFunc_2_int_12 : SCode := .seq m_slices_pdqsortCmpFunc_2_int_8 m_slices_pdqsortCmpFunc_2_int_11
def m_slices_pdqsortCmpFunc_2_int_13 : SCode := .reg [⟨(some 38), none, .mov (.tmp 10), [], false⟩,
  ⟨(some 39), none, .un .not (.tmp 38), [], false⟩] [0, 1, 2, 3, 4, 10, 11, 12, 39]
def m_slices_pdqsortCmpFunc_2_int_14 : SCode := .reg [⟨(some 40), none, .mov (.tmp 0), [], false⟩,
  ⟨(some 41), none, .mov (.tmp 1), [], false⟩,
  ⟨(some 42), none, .mov (.tmp 2), [], false⟩,
  ⟨(some 43), none, .mov (.tmp 4), [], false⟩,
  ⟨(some 44), none, .call 88 [(.tmp 40), (.tmp 41), (.tmp 42), (.tmp 43)], [], false⟩] [0, 1, 2, 3, 4, 10, 11, 12]
def m_slices_pdqsortCmpFunc_2_int_15 : SCode := .reg [⟨(some 45), none, .mov (.tmp 3), [], false⟩,
  ⟨(some 46), none, .bin .sub (.tmp 45) (.const (.int .i64 1)), [], false⟩,
  ⟨(some 3), none, .mov (.tmp 46), [], false⟩] [0, 1, 2, 3, 4, 10, 11, 12]
def m_slices_pdqsortCmpFunc_2_int_16 : SCode := .seq m_slices_pdqsortCmpFunc_2_int_14 m_slices_pdqsortCmpFunc_2_int_15
def m_slices_pdqsortCmpFunc_2_int_17 : SCode := .cond (.tmp 39) m_slices_pdqsortCmpFunc_2_int_16 .skip
def m_slices_pdqsortCmpFunc_2_int_18 : SCode := .seq m_slices_pdqsortCmpFunc_2_int_13 m_slices_pdqsortCmpFunc_2_int_17
def m_slices_pdqsortCmpFunc_2_int_19 : SCode := .reg [⟨(some 48), none, .mov (.tmp 0), [], false⟩,
  ⟨(some 49), none, .mov (.tmp 1), [], false⟩,
  ⟨(some 50), none, .mov (.tmp 2), [], false⟩,
  ⟨(some 51), none, .mov (.tmp 4), [], false⟩,
  ⟨(some 52), none, .call 89 [(.tmp 48), (.tmp 49), (.tmp 50), (.tmp 51)], [], false⟩,
  ⟨(some 47), none, .mov (.tmp 52), [], false⟩,
  ⟨(some 53), none, .ext (.tmp 47) 0, [], false⟩,
  ⟨(some 54), none, .ext (.tmp 47) 1, [], false⟩,
  ⟨(some 13), none, .mov (.tmp 53), [], false⟩,
  ⟨(some 14), none, .mov (.tmp 54), [], false⟩] [0, 1, 2, 3, 4, 10, 11, 12, 13, 14]
def m_slices_pdqsortCmpFunc_2_int_20 : SCode := .reg [⟨(some 55), none, .mov (.tmp 14), [], false⟩,
  ⟨(some 56), none, .bin .eql (.tmp 55) (.const (.int .i64 2)), [], false⟩] [0, 1, 2, 3, 4, 10, 11, 12, 13, 14, 56]
def m_slices_pdqsortCmpFunc_2_int_21 : SCode := .reg [⟨(some 57), none, .mov (.tmp 0), [], false⟩,
  ⟨(some 58), none, .mov (.tmp 1), [], false⟩,
  ⟨(some 59), none, .mov (.tmp 2), [], false⟩,
  ⟨(some 60), none, .mov (.tmp 4), [], false⟩,
  ⟨(some 61), none, .call 90 [(.tmp 57), (.tmp 58), (.tmp 59), (.tmp 60)], [], false⟩] [0, 1, 2, 3, 4, 10, 11, 12, 13]
def m_slices_pdqsortCmpFunc_2_int_22 : SCode := .reg [⟨(some 62), none, .mov (.tmp 2), [], false⟩,
  ⟨(some 63), none, .bin .sub (.tmp 62) (.const (.int .i64 1)), [], false⟩,
  ⟨(some 64), none, .mov (.tmp 13), [], false⟩,
  ⟨(some 65), none, .mov (.tmp 1), [], false⟩,
  ⟨(some 66), none, .bin .sub (.tmp 64) (.tmp 65), [], false⟩,
  ⟨(some 67), none, .bin .sub (.tmp 63) (.tmp 66), [], false⟩,
  ⟨(some 13), none, .mov (.tmp 67), [], false⟩] [0, 1, 2, 3, 4, 10, 11, 12, 13]
def m_slices_pdqsortCmpFunc_2_int_23 : SCode := .reg [⟨(some 14), none, .mov (.const (.int .i64 1)), [], false⟩] [0, 1, 2, 3, 4, 10, 11, 12, 13, 14]
def m_slices_pdqsortCmpFunc_2_int_24 : SCode := .seq m_slices_pdqsortCmpFunc_2_int_22 m_slices_pdqsortCmpFunc_2_int_23
def m_slices_pdqsortCmpFunc_2_int_25 : SCode := .seq m_slices_pdqsortCmpFunc_2_int_21 m_slices_pdqsortCmpFunc_2_int_24
def m_slices_pdqsortCmpFunc_2_int_26 : SCode := .cond (.tmp 56) m_slices_pdqsortCmpFunc_2_int_25 .skip
def m_slices_pdqsortCmpFunc_2_int_27 : SCode := .seq m_slices_pdqsortCmpFunc_2_int_20 m_slices_pdqsortCmpFunc_2_int_26
def m_slices_pdqsortCmpFunc_2_int_28 : SCode := .reg [⟨(some 68), none, .mov (.tmp 10), [], false⟩,
  ⟨(some 69), none, .mov (.tmp 68), [], false⟩,
  ⟨(some 70), (some (69, true)), .mov (.tmp 11), [], false⟩,
  ⟨(some 71), none, .pick (.tmp 69) (.tmp 70) (.const (.bool false)), [], false⟩,
  ⟨(some 72), none, .mov (.tmp 71), [], false⟩,
  ⟨(some 73), (some (72, true)), .mov (.tmp 14), [], false⟩,
  ⟨(some 74), (some (72, true)), .bin .eql (.tmp 73) (.const (.int .i64 1)), [], false⟩,
  ⟨(some 75), none, .pick (.tmp 72) (.tmp 74) (.const (.bool false)), [], false⟩] [0, 1, 2, 3, 4, 10, 11, 12, 13, 75]
def m_slices_pdqsortCmpFunc_2_int_29 : SCode := .reg [⟨(some 76), none, .mov (.tmp 0), [], false⟩,
  ⟨(some 77), none, .mov (.tmp 1), [], false⟩,
  ⟨(some 78), none, .mov (.tmp 2), [], false⟩,
  ⟨(some 79), none, .mov (.tmp 4), [], false⟩,
  ⟨(some 80), none, .call 91 [(.tmp 76), (.tmp 77), (.tmp 78), (.tmp 79)], [], false⟩] [0, 1, 2, 3, 4, 10, 11, 12, 13, 80]
def m_slices_pdqsortCmpFunc_2_int_30 : SCode := .cond (.tmp 80) .ret .skip
def m_slices_pdqsortCmpFunc_2_int_31 : SCode := .seq m_slices_pdqsortCmpFunc_2_int_29 m_slices_pdqsortCmpFunc_2_int_30
def m_slices_pdqsortCmpFunc_2_int_32 : SCode := .cond (.tmp 75) m_slices_pdqsortCmpFunc_2_int_31 .skip
def m_slices_pdqsortCmpFunc_2_int_33 : SCode := .seq m_slices_pdqsortCmpFunc_2_int_28 m_slices_pdqsortCmpFunc_2_int_32
def m_slices_pdqsortCmpFunc_2_int_34 : SCode := .reg [⟨(some 81), none, .mov (.tmp 1), [], false⟩,
  ⟨(some 82), none, .bin .gtr (.tmp 81) (.const (.int .i64 0)), [], false⟩,
  ⟨(some 83), none, .mov (.tmp 82), [], false⟩,
  ⟨(some 84), (some (83, true)), .mov (.tmp 4), [], false⟩,
  ⟨(some 85), (some (83, true)), .mov (.tmp 0), [], false⟩,
  ⟨(some 86), (some (83, true)), .mov (.tmp 1), [], false⟩,
  ⟨(some 87), (some (83, true)), .bin .sub (.tmp 86) (.const (.int .i64 1)), [], false⟩,
  ⟨(some 88), (some (83, true)), .idxS 2 (.tmp 85) (.tmp 87), [], false⟩,
  ⟨(some 89), (some (83, true)), .load true 2 (.tmp 88), [], false⟩,
  ⟨(some 90), (some (83, true)), .mov (.tmp 0), [], false⟩,
  ⟨(some 91), (some (83, true)), .mov (.tmp 13), [], false⟩,
  ⟨(some 92), (some (83, true)), .idxS 2 (.tmp 90) (.tmp 91), [], false⟩,
  ⟨(some 93), (some (83, true)), .load true 2 (.tmp 92), [], false⟩,
  ⟨(some 94), (some (83, true)), .callV (.tmp 84) [(.tmp 89), (.tmp 93)], [], false⟩,
  ⟨(some 95), (some (83, true)), .bin .lss (.tmp 94) (.const (.int .i64 0)), [], false⟩,
  ⟨(some 96), (some (83, true)), .un .not (.tmp 95), [], false⟩,
  ⟨(some 97), none, .pick (.tmp 83) (.tmp 96) (.const (.bool false)), [], false⟩] [0, 1, 2, 3, 4, 10, 11, 12, 13, 97]
def m_slices_pdqsortCmpFunc_2_int_35 : SCode := .reg [⟨(some 98), none, .mov (.tmp 0), [], false⟩,
  ⟨(some 99), none, .mov (.tmp 1), [], false⟩,
  ⟨(some 100), none, .mov (.tmp 2), [], false⟩,
  ⟨(some 101), none, .mov (.tmp 13), [], false⟩,
  ⟨(some 102), none, .mov (.tmp 4), [], false⟩,
  ⟨(some 103), none, .call 92 [(.tmp 98), (.tmp 99), (.tmp 100), (.tmp 101), (.tmp 102)], [], false⟩,
  ⟨(some 15), none, .mov (.tmp 103), [], false⟩] [0, 2, 3, 4, 10, 11, 15]
def m_slices_pdqsortCmpFunc_2_int_36 : SCode := .reg [⟨(some 104), none, .mov (.tmp 15), [], false⟩,
  ⟨(some 1), none, .mov (.tmp 104), [], false⟩] [0, 1, 2, 3, 4, 10, 11]
def m_slices_pdqsortCmpFunc_2_int_37 : SCode := .seq m_slices_pdqsortCmpFunc_2_int_36 (.exit 1)
def m_slices_pdqsortCmpFunc_2_int_38 : SCode := .seq m_slices_pdqsortCmpFunc_2_int_35 m_slices_pdqsortCmpFunc_2_int_37
def m_slices_pdqsortCmpFunc_2_int_39 : SCode := .cond (.tmp 97) m_slices_pdqsortCmpFunc_2_int_38 .skip
def m_slices_pdqsortCmpFunc_2_int_40 : SCode := .seq m_slices_pdqsortCmpFunc_2_int_34 m_slices_pdqsortCmpFunc_2_int_39
def m_slices_pdqsortCmpFunc_2_int_41 : SCode := .reg [⟨(some 106), none, .mov (.tmp 0), [], false⟩,
  ⟨(some 107), none, .mov (.tmp 1), [], false⟩,
  ⟨(some 108), none, .mov (.tmp 2), [], false⟩,
  ⟨(some 109), none, .mov (.tmp 13), [], false⟩,
  ⟨(some 110), none, .mov (.tmp 4), [], false⟩,
  ⟨(some 111), none, .call 93 [(.tmp 106), (.tmp 107), (.tmp 108), (.tmp 109), (.tmp 110)], [], false⟩,
  ⟨(some 105), none, .mov (.tmp 111), [], false⟩,
  ⟨(some 112), none, .ext (.tmp 105) 0, [], false⟩,
  ⟨(some 113), none, .ext (.tmp 105) 1, [], false⟩,
  ⟨(some 16), none, .mov (.tmp 112), [], false⟩,
  ⟨(some 17), none, .mov (.tmp 113), [], false⟩] [0, 1, 2, 3, 4, 12, 16, 17]
def m_slices_pdqsortCmpFunc_2_int_42 : SCode := .reg [⟨(some 114), none, .mov (.tmp 17), [], false⟩,
  ⟨(some 11), none, .mov (.tmp 114), [], false⟩] [0, 1, 2, 3, 4, 11, 12, 16]
def m_slices_pdqsortCmpFunc_2_int_43 : SCode := .reg [⟨(some 115), none, .mov (.tmp 16), [], false⟩,
  ⟨(some 116), none, .mov (.tmp 1), [], false⟩,
  ⟨(some 117), none, .bin .sub (.tmp 115) (.tmp 116), [], false⟩,
  ⟨(some 118), none, .mov (.tmp 2), [], false⟩,
  ⟨(some 119), none, .mov (.tmp 16), [], false⟩,
  ⟨(some 120), none, .bin .sub (.tmp 118) (.tmp 119), [], false⟩,
  ⟨(some 18), none, .mov (.tmp 117), [], false⟩,
  ⟨(some 19), none, .mov (.tmp 120), [], false⟩] [0, 1, 2, 3, 4, 11, 12, 16, 18, 19]
def m_slices_pdqsortCmpFunc_2_int_44 : SCode := .reg [⟨(some 121), none, .mov (.tmp 12), [], false⟩,
  ⟨(some 122), none, .bin .quo (.tmp 121) (.const (.int .i64 8)), [], false⟩,
  ⟨(some 20), none, .mov (.tmp 122), [], false⟩] [0, 1, 2, 3, 4, 11, 16, 18, 19, 20]
def m_slices_pdqsortCmpFunc_2_int_45 : SCode := .reg [⟨(some 123), none, .mov (.tmp 18), [], false⟩,
  ⟨(some 124), none, .mov (.tmp 19), [], false⟩,
  ⟨(some 125), none, .bin .lss (.tmp 123) (.tmp 124), [], false⟩] [0, 1, 2, 3, 4, 11, 16, 18, 19, 20, 125]
def m_slices_pdqsortCmpFunc_2_int_46 : SCode := .reg [⟨(some 126), none, .mov (.tmp 18), [], false⟩,
  ⟨(some 127), none, .mov (.tmp 20), [], false⟩,
  ⟨(some 128), none, .bin .geq (.tmp 126) (.tmp 127), [], false⟩,
  ⟨(some 10), none, .mov (.tmp 128), [], false⟩] [0, 1, 2, 3, 4, 10, 11, 16]
def m_slices_pdqsortCmpFunc_2_int_47 : SCode := .reg [⟨(some 129), none, .mov (.tmp 0), [], false⟩,
  ⟨(some 130), none, .mov (.tmp 1), [], false⟩,
  ⟨(some 131), none, .mov (.tmp 16), [], false⟩,
  ⟨(some 132), none, .mov (.tmp 3), [], false⟩,
  ⟨(some 133), none, .mov (.tmp 4), [], false⟩,
  ⟨(some 134), none, .callM 71 [(.tmp 129), (.tmp 130), (.tmp 131), (.tmp 132), (.tmp 133)], [], false⟩] [0, 2, 3, 4, 10, 11, 16]
def m_slices_pdqsortCmpFunc_2_int_48 : SCode := .reg [⟨(some 135), none, .mov (.tmp 16), [], false⟩,
  ⟨(some 136), none, .bin .add (.tmp 135) (.const (.int .i64 1)), [], false⟩,
  ⟨(some 1), none, .mov (.tmp 136), [], false⟩] [0, 1, 2, 3, 4, 10, 11]
def m_slices_pdqsortCmpFunc_2_int_49 : SCode := .seq m_slices_pdqsortCmpFunc_2_int_47 m_slices_pdqsortCmpFunc_2_int_48
def m_slices_pdqsortCmpFunc_2_int_50 : SCode := .seq m_slices_pdqsortCmpFunc_2_int_46 m_slices_pdqsortCmpFunc_2_int_49
def m_slices_pdqsortCmpFunc_2_int_51 : SCode := .reg [⟨(some 137), none, .mov (.tmp 19), [], false⟩,
  ⟨(some 138), none, .mov (.tmp 20), [], false⟩,
  ⟨(some 139), none, .bin .geq (.tmp 137) (.tmp 138), [], false⟩,
  ⟨(some 10), none, .mov (.tmp 139), [], false⟩] [0, 1, 2, 3, 4, 10, 11, 16]
def m_slices_pdqsortCmpFunc_2_int_52 : SCode := .reg [⟨(some 140), none, .mov (.tmp 0), [], false⟩,
  ⟨(some 141), none, .mov (.tmp 16), [], false⟩,
  ⟨(some 142), none, .bin .add (.tmp 141) (.const (.int .i64 1)), [], false⟩,
  ⟨(some 143), none, .mov (.tmp 2), [], false⟩,
  ⟨(some 144), none, .mov (.tmp 3), [], false⟩,
  ⟨(some 145), none, .mov (.tmp 4), [], false⟩,
  ⟨(some 146), none, .callM 71 [(.tmp 140), (.tmp 142), (.tmp 143), (.tmp 144), (.tmp 145)], [], false⟩] [0, 1, 3, 4, 10, 11, 16]
def m_slices_pdqsortCmpFunc_2_int_53 : SCode := .reg [⟨(some 147), none, .mov (.tmp 16), [], false⟩,
  ⟨(some 2), none, .mov (.tmp 147), [], false⟩] [0, 1, 2, 3, 4, 10, 11]
def m_slices_pdqsortCmpFunc_2_int_54 : SCode := .seq m_slices_pdqsortCmpFunc_2_int_52 m_slices_pdqsortCmpFunc_2_int_53
def m_slices_pdqsortCmpFunc_2_int_55 : SCode := .seq m_slices_pdqsortCmpFunc_2_int_51 m_slices_pdqsortCmpFunc_2_int_54
def m_slices_pdqsortCmpFunc_2_int_56 : SCode := .cond (.tmp 125) m_slices_pdqsortCmpFunc_2_int_50 m_slices_pdqsortCmpFunc_2_int_55
def m_slices_pdqsortCmpFunc_2_int_57 : SCode := .seq m_slices_pdqsortCmpFunc_2_int_45 m_slices_pdqsortCmpFunc_2_int_56
def m_slices_pdqsortCmpFunc_2_int_58 : SCode := .seq m_slices_pdqsortCmpFunc_2_int_44 m_slices_pdqsortCmpFunc_2_int_57
def m_slices_pdqsortCmpFunc_2_int_59 : SCode := .seq m_slices_pdqsortCmpFunc_2_int_43 m_slices_pdqsortCmpFunc_2_int_58
def m_slices_pdqsortCmpFunc_2_int_60 : SCode := .seq m_slices_pdqsortCmpFunc_2_int_42 m_slices_pdqsortCmpFunc_2_int_59
def m_slices_pdqsortCmpFunc_2_int_61 : SCode := .seq m_slices_pdqsortCmpFunc_2_int_41 m_slices_pdqsortCmpFunc_2_int_60
def m_slices_pdqsortCmpFunc_2_int_62 : SCode := .seq m_slices_pdqsortCmpFunc_2_int_40 m_slices_pdqsortCmpFunc_2_int_61
def m_slices_pdqsortCmpFunc_2_int_63 : SCode := .seq m_slices_pdqsortCmpFunc_2_int_33 m_slices_pdqsortCmpFunc_2_int_62
def m_slices_pdqsortCmpFunc_2_int_64 : SCode := .seq m_slices_pdqsortCmpFunc_2_int_27 m_slices_pdqsortCmpFunc_2_int_63
def m_slices_pdqsortCmpFunc_2_int_65 : SCode := .seq m_slices_pdqsortCmpFunc_2_int_19 m_slices_pdqsortCmpFunc_2_int_64
def m_slices_pdqsortCmpFunc_2_int_66 : SCode := .seq m_slices_pdqsortCmpFunc_2_int_18 m_slices_pdqsortCmpFunc_2_int_65
def m_slices_pdqsortCmpFunc_2_int_67 : SCode := .seq m_slices_pdqsortCmpFunc_2_int_12 m_slices_pdqsortCmpFunc_2_int_66
def m_slices_pdqsortCmpFunc_2_int_68 : SCode := .seq m_slices_pdqsortCmpFunc_2_int_7 m_slices_pdqsortCmpFunc_2_int_67
def m_slices_pdqsortCmpFunc_2_int_69 : SCode := .seq m_slices_pdqsortCmpFunc_2_int_2 m_slices_pdqsortCmpFunc_2_int_68
def m_slices_pdqsortCmpFunc_2_int_70 : SCode := .block 1 m_slices_pdqsortCmpFunc_2_int_69
def m_slices_pdqsortCmpFunc_2_int_71 : SCode := .loop m_slices_pdqsortCmpFunc_2_int_70
def m_slices_pdqsortCmpFunc_2_int_72 : SCode := .block 0 m_slices_pdqsortCmpFunc_2_int_71
def m_slices_pdqsortCmpFunc_2_int_73 : SCode := .seq m_slices_pdqsortCmpFunc_2_int_1 m_slices_pdqsortCmpFunc_2_int_72
def m_slices_pdqsortCmpFunc_2_int_74 : SCode := .seq m_slices_pdqsortCmpFunc_2_int_0 m_slices_pdqsortCmpFunc_2_int_73
theorem mlaw_slices_pdqsortCmpFunc_2_int (t : TypeId) (k : Nat) (rows : List (List CV)) (cs : List CV) (R : List (List CV) → Prop) (r : CV) (hl : cs.length + 1 ≤ 148) (h : STri (cfM Tryz.prog turners 148) m_slices_pdqsortCmpFunc_2_int_74 (initM rows.length cs) [(900, .arr t k rows)] (retM rs_slices_pdqsortCmpFunc_2_int t k rows.length R r)) : MC Tryz.prog 71 t k rows cs R (some r) :=
  mc_of turners follows Tryz.func71 rfl Tryz.ntmps71 (by decide) (by kernel_rfl) (by kernel_rfl) hl h
def m_slices_insertionSortCmpFunc_2_int_0 : SCode := .reg [⟨(some 10), none, .mov (.tmp 1), [], false⟩,
  ⟨(some 11), none, .bin .add (.tmp 10) (.const (.int .i64 1)), [], false⟩,
  ⟨(some 8), none, .mov (.tmp 11), [], false⟩] [0, 1, 2, 3, 8]
def m_slices_insertionSortCmpFunc_2_int_1 : SCode := .reg [⟨(some 12), none, .mov (.tmp 8), [], false⟩,
  ⟨(some 13), none, .mov (.tmp 2), [], false⟩,
  ⟨(some 14), none, .bin .lss (.tmp 12) (.tmp 13), [], false⟩] [0, 1, 2, 3, 8, 14]
def m_slices_insertionSortCmpFunc_2_int_2 : SCode := .cond (.tmp 14) .skip (.exit 0)
def m_slices_insertionSortCmpFunc_2_int_3 : SCode := .seq m_slices_insertionSortCmpFunc_2_int_1 m_slices_insertionSortCmpFunc_2_int_2
def m_slices_insertionSortCmpFunc_2_int_4 : SCode := .reg [⟨(some 17), none, .mov (.tmp 8), [], false⟩,
  ⟨(some 9), none, .mov (.tmp 17), [], false⟩] [0, 1, 2, 3, 8, 9]
def m_slices_insertionSortCmpFunc_2_int_5 : SCode := .reg [⟨(some 18), none, .mov (.tmp 9), [], false⟩,
  ⟨(some 19), none, .mov (.tmp 1), [], false⟩,
  ⟨(some 20), none, .bin .gtr (.tmp 18) (.tmp 19), [], false⟩,
  ⟨(some 21), none, .mov (.tmp 20), [], false⟩,
  ⟨(some 22), (some (21, true)), .mov (.tmp 3), [], false⟩,
  ⟨(some 23), (some (21, true)), .mov (.tmp 0), [], false⟩,
  ⟨(some 24), (some (21, true)), .mov (.tmp 9), [], false⟩,
  ⟨(some 25), (some (21, true)), .idxS 2 (.tmp 23) (.tmp 24), [], false⟩,
  ⟨(some 26), (some (21, true)), .load true 2 (.tmp 25), [], false⟩,
  ⟨(some 27), (some (21, true)), .mov (.tmp 0), [], false⟩,
  ⟨(some 28), (some (21, true)), .mov (.tmp 9), [], false⟩,
  ⟨(some 29), (some (21, true)), .bin .sub (.tmp 28) (.const (.int .i64 1)), [], false⟩,
  ⟨(some 30), (some (21, true)), .idxS 2 (.tmp 27) (.tmp 29), [], false⟩,
  ⟨(some 31), (some (21, true)), .load true 2 (.tmp 30), [], false⟩,
  ⟨(some 32), (some (21, true)), .callV (.tmp 22) [(.tmp 26), (.tmp 31)], [], false⟩,
  ⟨(some 33), (some (21, true)), .bin .lss (.tmp 32) (.const (.int .i64 0)), [], false⟩,
  ⟨(some 34), none, .pick (.tmp 21) (.tmp 33) (.const (.bool false)), [], false⟩] [0, 1, 2, 3, 8, 9, 34]
def m_slices_insertionSortCmpFunc_2_int_6 : SCode := .cond (.tmp 34) .skip (.exit 2)
def m_slices_insertionSortCmpFunc_2_int_7 : SCode := .seq m_slices_insertionSortCmpFunc_2_int_5 m_slices_insertionSortCmpFunc_2_int_6
def m_slices_insertionSortCmpFunc_2_int_8 : SCode := .reg [⟨(some 37), none, .mov (.tmp 0), [], false⟩,
  ⟨(some 38), none, .mov (.tmp 9), [], false⟩,
  ⟨(some 39), none, .mov (.tmp 0), [], false⟩,
  ⟨(some 40), none, .mov (.tmp 9), [], false⟩,
  ⟨(some 41), none, .bin .sub (.tmp 40) (.const (.int .i64 1)), [], false⟩,
  ⟨(some 42), none, .mov (.tmp 0), [], false⟩,
  ⟨(some 43), none, .mov (.tmp 9), [], false⟩,
  ⟨(some 44), none, .bin .sub (.tmp 43) (.const (.int .i64 1)), [], false⟩,
  ⟨(some 45), none, .idxS 2 (.tmp 42) (.tmp 44), [], false⟩,
  ⟨(some 46), none, .load true 2 (.tmp 45), [], false⟩,
  ⟨(some 47), none, .mov (.tmp 0), [], false⟩,
  ⟨(some 48), none, .mov (.tmp 9), [], false⟩,
  ⟨(some 49), none, .idxS 2 (.tmp 47) (.tmp 48), [], false⟩,
  ⟨(some 50), none, .load true 2 (.tmp 49), [], false⟩,
  ⟨(some 51), none, .idxS 2 (.tmp 37) (.tmp 38), [], false⟩,
  ⟨none, none, .store 2 (.tmp 51) (.tmp 46), [], false⟩,
  ⟨(some 52), none, .idxS 2 (.tmp 39) (.tmp 41), [], false⟩,
  ⟨none, none, .store 2 (.tmp 52) (.tmp 50), [], false⟩] [0, 1, 2, 3, 8, 9]
def m_slices_insertionSortCmpFunc_2_int_9 : SCode := .block 3 m_slices_insertionSortCmpFunc_2_int_8
def m_slices_insertionSortCmpFunc_2_int_10 : SCode := .reg [⟨(some 35), none, .mov (.tmp 9), [], false⟩,
  ⟨(some 36), none, .bin .sub (.tmp 35) (.const (.int .i64 1)), [], false⟩,
  ⟨(some 9), none, .mov (.tmp 36), [], false⟩] [0, 1, 2, 3, 8, 9]
def m_slices_insertionSortCmpFunc_2_int_11 : SCode := .seq m_slices_insertionSortCmpFunc_2_int_9 m_slices_insertionSortCmpFunc_2_int_10
def m_slices_insertionSortCmpFunc_2_int_12 : SCode := .seq m_slices_insertionSortCmpFunc_2_int_7 m_slices_insertionSortCmpFunc_2_int_11
def m_slices_insertionSortCmpFunc_2_int_13 : SCode := .loop m_slices_insertionSortCmpFunc_2_int_12
def m_slices_insertionSortCmpFunc_2_int_14 : SCode := .block 2 m_slices_insertionSortCmpFunc_2_int_13
def m_slices_insertionSortCmpFunc_2_int_15 : SCode := .seq m_slices_insertionSortCmpFunc_2_int_4 m_slices_insertionSortCmpFunc_2_int_14
def m_slices_insertionSortCmpFunc_2_int_16 : SCode := .block 1 m_slices_insertionSortCmpFunc_2_int_15
def m_slices_insertionSortCmpFunc_2_int_17 : SCode := .reg [⟨(some 15), none, .mov (.tmp 8), [], false⟩,
  ⟨(some 16), none, .bin .add (.tmp 15) (.const (.int .i64 1)), [], false⟩,
  ⟨(some 8), none, .mov (.tmp 16), [], false⟩] [0, 1, 2, 3, 8]
def m_slices_insertionSortCmpFunc_2_int_18 : SCode := .seq m_slices_insertionSortCmpFunc_2_int_16 m_slices_insertionSortCmpFunc_2_int_17
def m_slices_insertionSortCmpFunc_2_int_19 : SCode := .seq m_slices_insertionSortCmpFunc_2_int_3 m_slices_insertionSortCmpFunc_2_int_18
def m_slices_insertionSortCmpFunc_2_int_20 : SCode := .loop m_slices_insertionSortCmpFunc_2_int_19
def m_slices_insertionSortCmpFunc_2_int_21 : SCode := .block 0 m_slices_insertionSortCmpFunc_2_int_20
def m_slices_insertionSortCmpFunc_2_int_22 : SCode := .seq m_slices_insertionSortCmpFunc_2_int_0 m_slices_insertionSortCmpFunc_2_int_21
theorem mlaw_slices_insertionSortCmpFunc_2_int (t : TypeId) (k : Nat) (rows : List (List CV)) (cs : List CV) (R : List (List CV) → Prop) (r : CV) (hl : cs.length + 1 ≤ 53) (h : STri (cfM Tryz.prog turners 53) m_slices_insertionSortCmpFunc_2_int_22 (initM rows.length cs) [(900, .arr t k rows)] (retM rs_slices_insertionSortCmpFunc_2_int t k rows.length R r)) : MC Tryz.prog 86 t k rows cs R (some r) :=
  mc_of turners follows Tryz.func86 rfl Tryz.ntmps86 (by decide) (by kernel_rfl) (by kernel_rfl) hl h
def m_dial_pairsInOrder_compare_0 : SCode := .reg [⟨(some 4), none, .boxZ 50 (.tmp 1), [], false⟩,
  ⟨(some 5), none, .boxZ 50 (.tmp 2), [], false⟩,
  ⟨(some 6), none, .mov (.const (.int .i64 0)), [], false⟩] [4, 5]
def m_dial_pairsInOrder_compare_1 : SCode := .reg [⟨(some 7), none, .slcA 2 1 (.tmp 4) none none, [], false⟩,
  ⟨(some 8), none, .slcA 2 1 (.tmp 5) none none, [], false⟩,
  ⟨(some 9), none, .call 72 [(.tmp 7), (.tmp 8)], [], false⟩,
  ⟨(some 6), none, .mov (.tmp 9), [], false⟩] [6]
def m_dial_pairsInOrder_compare_2 : SCode := .seq m_dial_pairsInOrder_compare_1 .ret
def m_dial_pairsInOrder_compare_3 : SCode := .seq m_dial_pairsInOrder_compare_0 m_dial_pairsInOrder_compare_2
theorem mlaw_dial_pairsInOrder_compare (cs : List CV) (r : CV) (hl : cs.length ≤ 10) (h : STri (cfF Tryz.prog turners 10) m_dial_pairsInOrder_compare_3 (initT 0 cs) [] (retQ rs_dial_pairsInOrder_compare r)) : SC Tryz.prog 55 cs r :=
  sc_of turners follows Tryz.func55 rfl Tryz.ntmps55 (by decide) (by kernel_rfl) (by kernel_rfl) hl h
end Go.Proofs.YtnfggkopledpcaaGreat
/- The shadow code of functions, as the kit's translation has them. -/
namespace Go.Proofs.YtnfggkopledpcaaGreat
open Go.RowKit
def c_turretlaw04_known_0 : SCode := .reg [⟨(some 0), none, .mov (.const (.bool false)), [], false⟩] []
def c_turretlaw04_known_1 : SCode := .reg [⟨(some 19), none, .call 16 [], [], false⟩,
  ⟨(some 20), none, .field false 3 1 (.tmp 19), [], false⟩,
  ⟨(some 21), none, .idxS 5 (.tmp 20) (.const (.int .i64 0)), [], false⟩,
  ⟨(some 22), none, .load true 5 (.tmp 21), [], false⟩,
  ⟨(some 1), none, .alloc 54 [(.int .i64 0), (.int .i64 0), (.slice none 0 0), (.int .i64 0), (.int .i64 0)], [], false⟩,
  ⟨none, none, .store 5 (.tmp 1) (.tmp 22), [], false⟩] [1]
def c_turretlaw04_known_2 : SCode := .reg [⟨(some 23), none, .fld 2 (.tmp 1), [], false⟩,
  ⟨(some 24), none, .load false 1 (.tmp 23), [], false⟩,
  ⟨(some 25), none, .build [(.int .i64 0), (.int .i64 0)] [(0, 1, (.const (.int .i64 12))), (1, 1, (.const (.int .i64 1)))], [], false⟩,
  ⟨(some 26), none, .build [(.int .i64 0), (.int .i64 0), (.int .i64 0)] [(0, 1, (.const (.int .i64 7))), (1, 2, (.tmp 25))], [], false⟩,
  ⟨(some 27), none, .buildSl 59 3 [(.int .i64 0), (.int .i64 0), (.int .i64 0)] 1 [(0, (.tmp 26))], [], false⟩,
  ⟨(some 28), none, .append 59 3 24 (.tmp 24) (.tmp 27), [], false⟩,
  ⟨(some 29), none, .fld 2 (.tmp 1), [], false⟩,
  ⟨none, none, .store 1 (.tmp 29) (.tmp 28), [], false⟩] [1]
def c_turretlaw04_known_3 : SCode := .reg [⟨(some 31), none, .load true 5 (.tmp 1), [], false⟩,
  ⟨(some 32), none, .call 17 [(.tmp 31)], [], false⟩,
  ⟨(some 30), none, .mov (.tmp 32), [], false⟩,
  ⟨(some 33), none, .ext (.tmp 30) 0, [], false⟩,
  ⟨(some 34), none, .ext (.tmp 30) 1, [], false⟩,
  ⟨(some 2), none, .mov (.tmp 33), [], false⟩,
  ⟨(some 3), none, .mov (.tmp 34), [], false⟩] [2, 3]
def c_turretlaw04_known_4 : SCode := .reg [⟨(some 36), none, .call 16 [], [], false⟩,
  ⟨(some 37), none, .call 19 [(.const (.int .i64 (-5))), (.const (.int .i64 5))], [], false⟩,
  ⟨(some 38), none, .call 18 [(.tmp 36), (.const (.int .i64 0)), (.const (.int .i64 2400)), (.tmp 37)], [], false⟩,
  ⟨(some 35), none, .mov (.tmp 38), [], false⟩,
  ⟨(some 39), none, .ext (.tmp 35) 0, [], false⟩,
  ⟨(some 40), none, .ext (.tmp 35) 1, [], false⟩,
  ⟨(some 4), none, .alloc 23 [(.int .i64 0), (.int .i64 0)], [], false⟩,
  ⟨none, none, .store 2 (.tmp 4) (.tmp 39), [], false⟩,
  ⟨(some 5), none, .mov (.tmp 40), [], false⟩] [2, 3, 4, 5]
def c_turretlaw04_known_5 : SCode := .reg [⟨(some 42), none, .call 16 [], [], false⟩,
  ⟨(some 43), none, .call 19 [(.const (.int .i64 (-25))), (.const (.int .i64 5))], [], false⟩,
  ⟨(some 44), none, .call 20 [(.tmp 42), (.const (.int .i64 0)), (.const (.int .i64 600)), (.tmp 43), (.const (.bool false))], [], false⟩,
  ⟨(some 41), none, .mov (.tmp 44), [], false⟩,
  ⟨(some 45), none, .ext (.tmp 41) 0, [], false⟩,
  ⟨(some 46), none, .ext (.tmp 41) 1, [], false⟩,
  ⟨(some 6), none, .alloc 66 [(.int .i64 0), (.int .i64 0), (.int .i64 0), (.int .i64 0)], [], false⟩,
  ⟨none, none, .store 4 (.tmp 6) (.tmp 45), [], false⟩,
  ⟨(some 7), none, .mov (.tmp 46), [], false⟩] [2, 3, 4, 5, 6, 7]
def c_turretlaw04_known_6 : SCode := .reg [⟨(some 48), none, .call 16 [], [], false⟩,
  ⟨(some 49), none, .call 19 [(.const (.int .i64 (-5))), (.const (.int .i64 5))], [], false⟩,
  ⟨(some 50), none, .call 21 [(.tmp 48), (.const (.int .i64 0)), (.const (.int .i64 600)), (.tmp 49)], [], false⟩,
  ⟨(some 47), none, .mov (.tmp 50), [], false⟩,
  ⟨(some 51), none, .ext (.tmp 47) 0, [], false⟩,
  ⟨(some 52), none, .ext (.tmp 47) 1, [], false⟩,
  ⟨(some 8), none, .mov (.tmp 51), [], false⟩,
  ⟨(some 9), none, .mov (.tmp 52), [], false⟩] [2, 3, 4, 5, 6, 7, 8, 9]
def c_turretlaw04_known_7 : SCode := .reg [⟨(some 54), none, .call 16 [], [], false⟩,
  ⟨(some 55), none, .build [(.int .i64 0), (.int .i64 0)] [(1, 1, (.const (.int .i64 600)))], [], false⟩,
  ⟨(some 56), none, .buildSl 44 2 [(.int .i64 0), (.int .i64 0)] 1 [(0, (.tmp 55))], [], false⟩,
  ⟨(some 57), none, .call 19 [(.const (.int .i64 500)), (.const (.int .i64 700))], [], false⟩,
  ⟨(some 58), none, .call 19 [(.const (.int .i64 (-5))), (.const (.int .i64 5))], [], false⟩,
  ⟨(some 59), none, .call 9 [(.tmp 54), (.tmp 56), (.tmp 57), (.tmp 58)], [], false⟩,
  ⟨(some 53), none, .mov (.tmp 59), [], false⟩,
  ⟨(some 60), none, .ext (.tmp 53) 0, [], false⟩,
  ⟨(some 61), none, .ext (.tmp 53) 1, [], false⟩,
  ⟨(some 10), none, .mov (.tmp 60), [], false⟩,
  ⟨(some 11), none, .mov (.tmp 61), [], false⟩] [2, 3, 4, 5, 6, 7, 8, 9, 10, 11]
def c_turretlaw04_known_8 : SCode := .reg [⟨(some 63), none, .call 16 [], [], false⟩,
  ⟨(some 64), none, .build [(.int .i64 0), (.int .i64 0)] [(1, 1, (.const (.int .i64 600)))], [], false⟩,
  ⟨(some 65), none, .build [(.int .i64 0), (.int .i64 0)] [(1, 1, (.const (.int .i64 582)))], [], false⟩,
  ⟨(some 66), none, .buildSl 44 2 [(.int .i64 0), (.int .i64 0)] 2 [(0, (.tmp 64)), (1, (.tmp 65))], [], false⟩,
  ⟨(some 67), none, .call 19 [(.const (.int .i64 500)), (.const (.int .i64 700))], [], false⟩,
  ⟨(some 68), none, .call 19 [(.const (.int .i64 (-5))), (.const (.int .i64 5))], [], false⟩,
  ⟨(some 69), none, .call 9 [(.tmp 63), (.tmp 66), (.tmp 67), (.tmp 68)], [], false⟩,
  ⟨(some 62), none, .mov (.tmp 69), [], false⟩,
  ⟨(some 70), none, .ext (.tmp 62) 0, [], false⟩,
  ⟨(some 71), none, .ext (.tmp 62) 1, [], false⟩,
  ⟨(some 12), none, .mov (.tmp 70), [], false⟩,
  ⟨(some 13), none, .mov (.tmp 71), [], false⟩] [2, 3, 4, 5, 6, 7, 8, 9, 10, 11, 13]
def c_turretlaw04_known_9 : SCode := .reg [⟨(some 73), none, .call 16 [], [], false⟩,
  ⟨(some 74), none, .build [(.int .i64 0), (.int .i64 0)] [(1, 1, (.const (.int .i64 600)))], [], false⟩,
  ⟨(some 75), none, .build [(.int .i64 0), (.int .i64 0)] [(1, 1, (.const (.int .i64 582)))], [], false⟩,
  ⟨(some 76), none, .buildSl 44 2 [(.int .i64 0), (.int .i64 0)] 2 [(0, (.tmp 74)), (1, (.tmp 75))], [], false⟩,
  ⟨(some 77), none, .call 19 [(.const (.int .i64 500)), (.const (.int .i64 700))], [], false⟩,
  ⟨(some 78), none, .call 19 [(.const (.int .i64 (-5))), (.const (.int .i64 5))], [], false⟩,
  ⟨(some 79), none, .call 10 [(.tmp 73), (.tmp 76), (.tmp 77), (.tmp 78)], [], false⟩,
  ⟨(some 72), none, .mov (.tmp 79), [], false⟩,
  ⟨(some 80), none, .ext (.tmp 72) 0, [], false⟩,
  ⟨(some 81), none, .ext (.tmp 72) 1, [], false⟩,
  ⟨(some 14), none, .mov (.tmp 80), [], false⟩,
  ⟨(some 15), none, .mov (.tmp 81), [], false⟩] [2, 3, 4, 5, 6, 7, 8, 9, 10, 11, 13, 14, 15]
def c_turretlaw04_known_10 : SCode := .reg [⟨(some 83), none, .call 16 [], [], false⟩,
  ⟨(some 84), none, .field false 3 1 (.tmp 83), [], false⟩,
  ⟨(some 85), none, .idxS 5 (.tmp 84) (.const (.int .i64 0)), [], false⟩,
  ⟨(some 86), none, .load true 5 (.tmp 85), [], false⟩,
  ⟨(some 87), none, .call 19 [(.const (.int .i64 (-5))), (.const (.int .i64 5))], [], false⟩,
  ⟨(some 88), none, .call 22 [(.tmp 86), (.tmp 87)], [], false⟩,
  ⟨(some 82), none, .mov (.tmp 88), [], false⟩,
  ⟨(some 89), none, .ext (.tmp 82) 0, [], false⟩,
  ⟨(some 90), none, .ext (.tmp 82) 1, [], false⟩,
  ⟨(some 91), none, .ext (.tmp 82) 2, [], false⟩,
  ⟨(some 16), none, .mov (.tmp 89), [], false⟩,
  ⟨(some 17), none, .mov (.tmp 90), [], false⟩,
  ⟨(some 18), none, .mov (.tmp 91), [], false⟩] [2, 3, 4, 5, 6, 7, 8, 9, 10, 11, 13, 14, 15, 16, 17, 18]
def c_turretlaw04_known_11 : SCode := .reg [⟨(some 92), none, .mov (.tmp 3), [], false⟩,
  ⟨(some 93), none, .bin .neq (.tmp 92) (.const (.int .i64 0)), [], false⟩,
  ⟨(some 94), none, .mov (.tmp 93), [], false⟩,
  ⟨(some 95), (some (94, false)), .mov (.tmp 5), [], false⟩,
  ⟨(some 96), (some (94, false)), .bin .neq (.tmp 95) (.const (.int .i64 0)), [], false⟩,
  ⟨(some 97), none, .pick (.tmp 94) (.const (.bool true)) (.tmp 96), [], false⟩,
  ⟨(some 98), none, .mov (.tmp 97), [], false⟩,
  ⟨(some 99), (some (98, false)), .mov (.tmp 7), [], false⟩,
  ⟨(some 100), (some (98, false)), .bin .neq (.tmp 99) (.const (.int .i64 0)), [], false⟩,
  ⟨(some 101), none, .pick (.tmp 98) (.const (.bool true)) (.tmp 100), [], false⟩,
  ⟨(some 102), none, .mov (.tmp 101), [], false⟩,
  ⟨(some 103), (some (102, false)), .mov (.tmp 9), [], false⟩,
  ⟨(some 104), (some (102, false)), .bin .neq (.tmp 103) (.const (.int .i64 0)), [], false⟩,
  ⟨(some 105), none, .pick (.tmp 102) (.const (.bool true)) (.tmp 104), [], false⟩,
  ⟨(some 106), none, .mov (.tmp 105), [], false⟩,
  ⟨(some 107), (some (106, false)), .mov (.tmp 11), [], false⟩,
  ⟨(some 108), (some (106, false)), .bin .neq (.tmp 107) (.const (.int .i64 0)), [], false⟩,
  ⟨(some 109), none, .pick (.tmp 106) (.const (.bool true)) (.tmp 108), [], false⟩,
  ⟨(some 110), none, .mov (.tmp 109), [], false⟩,
  ⟨(some 111), (some (110, false)), .mov (.tmp 13), [], false⟩,
  ⟨(some 112), (some (110, false)), .bin .neq (.tmp 111) (.const (.int .i64 7)), [], false⟩,
  ⟨(some 113), none, .pick (.tmp 110) (.const (.bool true)) (.tmp 112), [], false⟩,
  ⟨(some 114), none, .mov (.tmp 113), [], false⟩,
  ⟨(some 115), (some (114, false)), .mov (.tmp 15), [], false⟩,
  ⟨(some 116), (some (114, false)), .bin .neq (.tmp 115) (.const (.int .i64 0)), [], false⟩,
  ⟨(some 117), none, .pick (.tmp 114) (.const (.bool true)) (.tmp 116), [], false⟩,
  ⟨(some 118), none, .mov (.tmp 117), [], false⟩,
  ⟨(some 119), (some (118, false)), .mov (.tmp 18), [], false⟩,
  ⟨(some 120), (some (118, false)), .bin .neq (.tmp 119) (.const (.int .i64 0)), [], false⟩,
  ⟨(some 121), none, .pick (.tmp 118) (.const (.bool true)) (.tmp 120), [], false⟩,
  ⟨(some 122), none, .mov (.tmp 121), [], false⟩,
  ⟨(some 123), (some (122, false)), .mov (.tmp 8), [], false⟩,
  ⟨(some 124), (some (122, false)), .len (.tmp 123), [], false⟩,
  ⟨(some 125), (some (122, false)), .bin .neq (.tmp 124) (.const (.int .i64 2)), [], false⟩,
  ⟨(some 126), none, .pick (.tmp 122) (.const (.bool true)) (.tmp 125), [], false⟩,
  ⟨(some 127), none, .mov (.tmp 126), [], false⟩,
  ⟨(some 128), (some (127, false)), .mov (.tmp 10), [], false⟩,
  ⟨(some 129), (some (127, false)), .len (.tmp 128), [], false⟩,
  ⟨(some 130), (some (127, false)), .bin .neq (.tmp 129) (.const (.int .i64 1)), [], false⟩,
  ⟨(some 131), none, .pick (.tmp 127) (.const (.bool true)) (.tmp 130), [], false⟩,
  ⟨(some 132), none, .mov (.tmp 131), [], false⟩,
  ⟨(some 133), (some (132, false)), .mov (.tmp 14), [], false⟩,
  ⟨(some 134), (some (132, false)), .len (.tmp 133), [], false⟩,
  ⟨(some 135), (some (132, false)), .bin .neq (.tmp 134) (.const (.int .i64 1)), [], false⟩,
  ⟨(some 136), none, .pick (.tmp 132) (.const (.bool true)) (.tmp 135), [], false⟩] [2, 4, 6, 8, 10, 14, 16, 17, 136]
def c_turretlaw04_known_12 : SCode := .reg [⟨(some 0), none, .mov (.const (.bool false)), [], false⟩] [0]
def c_turretlaw04_known_13 : SCode := .seq c_turretlaw04_known_12 .ret
def c_turretlaw04_known_14 : SCode := .cond (.tmp 136) c_turretlaw04_known_13 .skip
def c_turretlaw04_known_15 : SCode := .seq c_turretlaw04_known_11 c_turretlaw04_known_14
def c_turretlaw04_known_16 : SCode := .reg [⟨(some 137), none, .mov (.tmp 2), [], false⟩,
  ⟨(some 138), none, .bin .eql (.tmp 137) (.const (.int .i64 21)), [], false⟩,
  ⟨(some 139), none, .mov (.tmp 138), [], false⟩,
  ⟨(some 140), (some (139, true)), .load true 2 (.tmp 4), [], false⟩,
  ⟨(some 141), (some (139, true)), .call 19 [(.const (.int .i64 (-48))), (.const (.int .i64 (-18)))], [], false⟩,
  ⟨(some 142), (some (139, true)), .eqC false [true, true] (.tmp 140) (.tmp 141), [], false⟩,
  ⟨(some 143), none, .pick (.tmp 139) (.tmp 142) (.const (.bool false)), [], false⟩,
  ⟨(some 144), none, .mov (.tmp 143), [], false⟩,
  ⟨(some 145), (some (144, true)), .load true 4 (.tmp 6), [], false⟩,
  ⟨(some 146), (some (144, true)), .build [(.int .i64 0), (.int .i64 0), (.int .i64 0), (.int .i64 0)] [(0, 1, (.const (.int .i64 (-2)))), (2, 1, (.const (.int .i64 (-25)))), (3, 1, (.const (.int .i64 18)))], [], false⟩,
  ⟨(some 147), (some (144, true)), .eqC false [true, true, true, true] (.tmp 145) (.tmp 146), [], false⟩,
  ⟨(some 148), none, .pick (.tmp 144) (.tmp 147) (.const (.bool false)), [], false⟩,
  ⟨(some 149), none, .mov (.tmp 148), [], false⟩,
  ⟨(some 150), (some (149, true)), .mov (.tmp 8), [], false⟩,
  ⟨(some 151), (some (149, true)), .idxS 2 (.tmp 150) (.const (.int .i64 0)), [], false⟩,
  ⟨(some 152), (some (149, true)), .load true 2 (.tmp 151), [], false⟩,
  ⟨(some 153), (some (149, true)), .call 19 [(.const (.int .i64 570)), (.const (.int .i64 570))], [], false⟩,
  ⟨(some 154), (some (149, true)), .eqC false [true, true] (.tmp 152) (.tmp 153), [], false⟩,
  ⟨(some 155), none, .pick (.tmp 149) (.tmp 154) (.const (.bool false)), [], false⟩,
  ⟨(some 156), none, .mov (.tmp 155), [], false⟩,
  ⟨(some 157), (some (156, true)), .mov (.tmp 8), [], false⟩,
  ⟨(some 158), (some (156, true)), .idxS 2 (.tmp 157) (.const (.int .i64 1)), [], false⟩,
  ⟨(some 159), (some (156, true)), .load true 2 (.tmp 158), [], false⟩,
  ⟨(some 160), (some (156, true)), .call 19 [(.const (.int .i64 600)), (.const (.int .i64 600))], [], false⟩,
  ⟨(some 161), (some (156, true)), .eqC false [true, true] (.tmp 159) (.tmp 160), [], false⟩,
  ⟨(some 162), none, .pick (.tmp 156) (.tmp 161) (.const (.bool false)), [], false⟩,
  ⟨(some 163), none, .mov (.tmp 162), [], false⟩,
  ⟨(some 164), (some (163, true)), .mov (.tmp 10), [], false⟩,
  ⟨(some 165), (some (163, true)), .idxS 2 (.tmp 164) (.const (.int .i64 0)), [], false⟩,
  ⟨(some 166), (some (163, true)), .load true 2 (.tmp 165), [], false⟩,
  ⟨(some 167), (some (163, true)), .call 19 [(.const (.int .i64 597)), (.const (.int .i64 631))], [], false⟩,
  ⟨(some 168), (some (163, true)), .eqC false [true, true] (.tmp 166) (.tmp 167), [], false⟩,
  ⟨(some 169), none, .pick (.tmp 163) (.tmp 168) (.const (.bool false)), [], false⟩,
  ⟨(some 170), none, .mov (.tmp 169), [], false⟩,
  ⟨(some 171), (some (170, true)), .mov (.tmp 14), [], false⟩,
  ⟨(some 172), (some (170, true)), .idxS 2 (.tmp 171) (.const (.int .i64 0)), [], false⟩,
  ⟨(some 173), (some (170, true)), .load true 2 (.tmp 172), [], false⟩,
  ⟨(some 174), (some (170, true)), .build [(.int .i64 0), (.int .i64 0)] [(0, 1, (.const (.int .i64 0))), (1, 1, (.const (.int .i64 1)))], [], false⟩,
  ⟨(some 175), (some (170, true)), .eqC false [true, true] (.tmp 173) (.tmp 174), [], false⟩,
  ⟨(some 176), none, .pick (.tmp 170) (.tmp 175) (.const (.bool false)), [], false⟩,
  ⟨(some 177), none, .mov (.tmp 176), [], false⟩,
  ⟨(some 178), (some (177, true)), .mov (.tmp 16), [], false⟩,
  ⟨(some 179), (some (177, true)), .bin .eql (.tmp 178) (.const (.int .i64 16)), [], false⟩,
  ⟨(some 180), none, .pick (.tmp 177) (.tmp 179) (.const (.bool false)), [], false⟩,
  ⟨(some 181), none, .mov (.tmp 180), [], false⟩,
  ⟨(some 182), (some (181, true)), .mov (.tmp 17), [], false⟩,
  ⟨(some 183), (some (181, true)), .bin .eql (.tmp 182) (.const (.int .i64 (-16))), [], false⟩,
  ⟨(some 184), none, .pick (.tmp 181) (.tmp 183) (.const (.bool false)), [], false⟩,
  ⟨(some 0), none, .mov (.tmp 184), [], false⟩] [0]
def c_turretlaw04_known_17 : SCode := .seq c_turretlaw04_known_16 .ret
def c_turretlaw04_known_18 : SCode := .seq c_turretlaw04_known_15 c_turretlaw04_known_17
def c_turretlaw04_known_19 : SCode := .seq c_turretlaw04_known_10 c_turretlaw04_known_18
def c_turretlaw04_known_20 : SCode := .seq c_turretlaw04_known_9 c_turretlaw04_known_19
def c_turretlaw04_known_21 : SCode := .seq c_turretlaw04_known_8 c_turretlaw04_known_20
def c_turretlaw04_known_22 : SCode := .seq c_turretlaw04_known_7 c_turretlaw04_known_21
def c_turretlaw04_known_23 : SCode := .seq c_turretlaw04_known_6 c_turretlaw04_known_22
def c_turretlaw04_known_24 : SCode := .seq c_turretlaw04_known_5 c_turretlaw04_known_23
def c_turretlaw04_known_25 : SCode := .seq c_turretlaw04_known_4 c_turretlaw04_known_24
def c_turretlaw04_known_26 : SCode := .seq c_turretlaw04_known_3 c_turretlaw04_known_25
def c_turretlaw04_known_27 : SCode := .seq c_turretlaw04_known_2 c_turretlaw04_known_26
def c_turretlaw04_known_28 : SCode := .seq c_turretlaw04_known_1 c_turretlaw04_known_27
def c_turretlaw04_known_29 : SCode := .seq c_turretlaw04_known_0 c_turretlaw04_known_28
@[simp] def rs_turretlaw04_known : List SRes := [.tmp 0]
theorem law_turretlaw04_known (cs : List CV) (r : CV) (hl : cs.length ≤ 185) (h : STri (cfF Tryz.prog [] 185) c_turretlaw04_known_29 (initT 0 cs) [] (retQ rs_turretlaw04_known r)) : SC Tryz.prog 5 cs r :=
  sc_of [] follows Tryz.func5 rfl Tryz.ntmps5 (by decide) (by kernel_rfl) (by kernel_rfl) hl h
def c_turretlaw04_thirty_0 : SCode := .reg [⟨(some 0), none, .alloc 26 [(.int .i64 0), (.int .i64 0), (.int .i64 0), (.slice none 0 0)], [], false⟩] [0]
def c_turretlaw04_thirty_1 : SCode := .reg [⟨(some 1), none, .call 19 [(.const (.int .i64 (-2))), (.const (.int .i64 3))], [], false⟩,
  ⟨(some 2), none, .build [(.int .i64 0), (.int .i64 0)] [(0, 1, (.const (.int .i64 1))), (1, 1, (.const (.int .i64 1)))], [], false⟩,
  ⟨(some 3), none, .build [(.int .i64 0), (.int .i64 0), (.int .i64 0)] [(0, 1, (.const (.int .i64 5))), (1, 2, (.tmp 2))], [], false⟩,
  ⟨(some 4), none, .buildSl 59 3 [(.int .i64 0), (.int .i64 0), (.int .i64 0)] 1 [(0, (.tmp 3))], [], false⟩,
  ⟨(some 5), none, .build [(.int .i64 0), (.int .i64 0), (.slice none 0 0), (.int .i64 0), (.int .i64 0)] [(2, 1, (.tmp 4)), (3, 1, (.const (.int .i64 30))), (4, 1, (.const (.int .i64 10)))], [], false⟩,
  ⟨(some 6), none, .buildSl 54 5 [(.int .i64 0), (.int .i64 0), (.slice none 0 0), (.int .i64 0), (.int .i64 0)] 1 [(0, (.tmp 5))], [], false⟩,
  ⟨(some 7), none, .build [(.int .i64 0), (.int .i64 0), (.int .i64 0), (.slice none 0 0)] [(0, 1, (.const (.int .i64 30))), (1, 2, (.tmp 1)), (3, 1, (.tmp 6))], [], false⟩,
  ⟨none, none, .store 4 (.tmp 0) (.tmp 7), [], false⟩] [0]
def c_turretlaw04_thirty_2 : SCode := .seq c_turretlaw04_thirty_1 .ret
def c_turretlaw04_thirty_3 : SCode := .seq c_turretlaw04_thirty_0 c_turretlaw04_thirty_2
@[simp] def rs_turretlaw04_thirty : List SRes := [.cell 0 true 4]
theorem law_turretlaw04_thirty (cs : List CV) (r : CV) (hl : cs.length ≤ 8) (h : STri (cfF Tryz.prog [] 8) c_turretlaw04_thirty_3 (initT 0 cs) [] (retQ rs_turretlaw04_thirty r)) : SC Tryz.prog 16 cs r :=
  sc_of [] follows Tryz.func16 rfl Tryz.ntmps16 (by decide) (by kernel_rfl) (by kernel_rfl) hl h
def c_turretlaw04_span_0 : SCode := .reg [⟨(some 4), none, .alloc 23 [(.int .i64 0), (.int .i64 0)], [], false⟩] [0, 1, 4]
def c_turretlaw04_span_1 : SCode := .reg [⟨(some 5), none, .mov (.tmp 0), [], false⟩,
  ⟨(some 6), none, .mov (.tmp 1), [], false⟩,
  ⟨(some 7), none, .build [(.int .i64 0), (.int .i64 0)] [(0, 1, (.tmp 5)), (1, 1, (.tmp 6))], [], false⟩,
  ⟨none, none, .store 2 (.tmp 4) (.tmp 7), [], false⟩] [4]
def c_turretlaw04_span_2 : SCode := .seq c_turretlaw04_span_1 .ret
def c_turretlaw04_span_3 : SCode := .seq c_turretlaw04_span_0 c_turretlaw04_span_2
@[simp] def rs_turretlaw04_span : List SRes := [.cell 4 true 2]
theorem law_turretlaw04_span (cs : List CV) (r : CV) (hl : cs.length ≤ 8) (h : STri (cfF Tryz.prog [] 8) c_turretlaw04_span_3 (initT 0 cs) [] (retQ rs_turretlaw04_span r)) : SC Tryz.prog 19 cs r :=
  sc_of [] follows Tryz.func19 rfl Tryz.ntmps19 (by decide) (by kernel_rfl) (by kernel_rfl) hl h
end Go.Proofs.YtnfggkopledpcaaGreat
/- Dial, I: small functions. -/
namespace Go.Proofs.YtnfggkopledpcaaGreat
open Go.RowKit
def rowI (x : Int) : List CV := [I x]
def slI (xs : List Int) : CV := .sl 1 (xs.map rowI)
attribute [simp] rowI slI
def outB (lo hi n : Int) : Bool := decide (n < lo) || decide (n > hi)
theorem sWithin1 (n lo hi : Int) : SC Tryz.prog 68 [I n, .ref [I lo], .ref [I hi]] (B (outB lo hi n)) := by
  refine law_dial_within_1 _ _ (by simp) ?_
  unfold outB
  (repeat' (first | ((first | with_reducible refine st_skip ?_ | with_reducible refine st_exit ?_); (try simp only [seqQ, blockQ, loopQ, forQ, whileQ, reduceIte, Nat.reduceEqDiff])) | (with_reducible refine st_ret ?_; ((try simp only [seqQ, blockQ, loopQ, forQ, whileQ]); first | (with_reducible refine retM_ret ?_) | refine retQ_ret ?_; simp)) | refine st_seq ?_ | refine st_block ?_ | ((first | refine st_reg ?_ | refine buildP_own ?_) <;> (simp -dsimp; (repeat (simp -dsimp (disch := (first | omega | assumption | (refine Bool.eq_false_iff.1 ?_; assumption))) only [wrap_in, if_pos, if_neg]; (try simp -dsimp))))) | ((first | refine guardP_of (fun hc => ?_) (fun hc => ?_) | refine st_cond rfl (fun hc => ?_) (fun hc => ?_)) <;> (try simp only [decide_eq_true_eq, decide_eq_false_iff_not, Bool.true_eq_false, Bool.false_eq_true, bne_iff_ne, ne_eq, bne_eq_false_iff_eq, beq_iff_eq, beq_eq_false_iff_ne, Bool.not_eq_true, Bool.not_eq_false, Bool.not_eq_eq_eq_not, Bool.not_true, Bool.not_false, Decidable.not_not] at hc) <;> (try (exfalso; first | omega | exact bool_tf hc (by assumption) | exact bool_ft hc (by assumption) | exact absurd (by assumption) hc)) <;> (first | with_reducible show STri _ _ _ _ _ _ | (simp -dsimp [hc]; (repeat (simp -dsimp (disch := (first | omega | assumption | (refine Bool.eq_false_iff.1 ?_; assumption))) only [wrap_in, if_pos, if_neg]; (try simp -dsimp [hc]))))))))
  all_goals (refine CLe.bool ?_; rw [Bool.eq_iff_iff]; simp; try omega)
structure Ent (P : Program) (f : FuncId) : Prop where
  h : entB P f = true
def ixF (p : Int → Bool) (l : List Int) : Int := match l.findIdx? p with
  | some i => i
  | none => -1
def NoneTo (p : Int → Bool) (l : List Int) (k : Nat) : Prop := ∀ x ∈ l.take k, p x = false
theorem ix_at {p : Int → Bool} {l : List Int} {k : Nat} (hlt : k < l.length) (h : NoneTo p l k) (hc : p l[k] = true) : ixF p l = k := by
  have : l.findIdx? p = some k := by
    rw [List.findIdx?_eq_some_iff_getElem]
    refine ⟨hlt, hc, fun j hj => ?_⟩
    have := h l[j] (List.mem_take_iff_getElem.2 ⟨j, by omega, rfl⟩)
    simp [this]
  unfold ixF; rw [this]
theorem ix_none {p : Int → Bool} {l : List Int} (h : NoneTo p l l.length) : ixF p l = -1 := by
  have : l.findIdx? p = none := by
    rw [List.findIdx?_eq_none_iff]
    intro x hx
    exact h x (by rw [List.take_length]; exact hx)
  unfold ixF; rw [this]
theorem none_succ {p : Int → Bool} {l : List Int} {k : Nat} (hlt : k < l.length) (h : NoneTo p l k) (hc : p l[k] = false) : NoneTo p l (k + 1) := fun x hx => by
  rw [List.take_succ_eq_append_getElem hlt, List.mem_append] at hx
  rcases hx with hx | hx
  · exact h x hx
  · simp at hx; rw [hx]; exact hc
theorem ix_pos {p : Int → Bool} {l : List Int} : decide (ixF p l ≥ 0) = l.any p := by
  unfold ixF
  rw [Bool.eq_iff_iff]
  cases h : l.findIdx? p with
  | none =>
    rw [List.findIdx?_eq_none_iff] at h
    simp; exact h
  | some i =>
    have h1 := (List.findIdx?_eq_some_iff_getElem.1 h)
    obtain ⟨hi, hp, _⟩ := h1
    simp
    exact ⟨l[i], List.getElem_mem hi, hp⟩
theorem sIndexFunc (l : List Int) (f : FuncId) (fs cs : List CV) (p : Int → Bool) (hl : l.length ≤ 1000000) (he : Ent Tryz.prog f) (hp : ∀ x ∈ l, SC Tryz.prog f (fs ++ [I x] ++ cs) (B (p x))) : SC Tryz.prog 75 [slI l, .fn f fs cs] (I (ixF p l)) := by
  refine law_slices_IndexFunc_int_int _ _ (by simp) ?_
  unfold slI
  (repeat' (first | ((first | with_reducible refine st_skip ?_ | with_reducible refine st_exit ?_); (try simp only [seqQ, blockQ, loopQ, forQ, whileQ, reduceIte, Nat.reduceEqDiff])) | (with_reducible refine st_ret ?_; ((try simp only [seqQ, blockQ, loopQ, forQ, whileQ]); first | (with_reducible refine retM_ret ?_) | refine retQ_ret ?_; simp)) | refine st_seq ?_ | refine st_block ?_ | ((first | refine st_reg ?_ | refine buildP_own ?_) <;> (simp -dsimp; (repeat (simp -dsimp (disch := (first | omega | assumption | (refine Bool.eq_false_iff.1 ?_; assumption))) only [wrap_in, if_pos, if_neg]; (try simp -dsimp))))) | ((first | refine guardP_of (fun hc => ?_) (fun hc => ?_) | refine st_cond rfl (fun hc => ?_) (fun hc => ?_)) <;> (try simp only [decide_eq_true_eq, decide_eq_false_iff_not, Bool.true_eq_false, Bool.false_eq_true, bne_iff_ne, ne_eq, bne_eq_false_iff_eq, beq_iff_eq, beq_eq_false_iff_ne, Bool.not_eq_true, Bool.not_eq_false, Bool.not_eq_eq_eq_not, Bool.not_true, Bool.not_false, Decidable.not_not] at hc) <;> (try (exfalso; first | omega | exact bool_tf hc (by assumption) | exact bool_ft hc (by assumption) | exact absurd (by assumption) hc)) <;> (first | with_reducible show STri _ _ _ _ _ _ | (simp -dsimp [hc]; (repeat (simp -dsimp (disch := (first | omega | assumption | (refine Bool.eq_false_iff.1 ?_; assumption))) only [wrap_in, if_pos, if_neg]; (try simp -dsimp [hc]))))))))
  refine st_for [] l.length (fun k T H => NoneTo p l k ∧ T = [(0, .c (.sl 1 (l.map rowI))), (1, .c (.fn f fs cs)), (7, .c (I l.length)), (8, .c (I k))] ∧ H = []) (by simp) ⟨by simp [NoneTo], by simp, rfl⟩ ?_
  rintro k T H hk ⟨ht, rfl, rfl⟩
  by_cases hlt : k < l.length
  · (repeat' (first | ((first | with_reducible refine st_skip ?_ | with_reducible refine st_exit ?_); (try simp only [seqQ, blockQ, loopQ, forQ, whileQ, reduceIte, Nat.reduceEqDiff])) | (with_reducible refine st_ret ?_; ((try simp only [seqQ, blockQ, loopQ, forQ, whileQ]); first | (with_reducible refine retM_ret ?_) | refine retQ_ret ?_; simp [hlt])) | refine st_seq ?_ | refine st_block ?_ | ((first | refine st_reg ?_ | ((with_reducible show callVP _ _ _ _ _ _ _); refine callV_b (by first | exact Ent.h (by assumption) | kernel_rfl) (hp l[k] (List.getElem_mem hlt)) rfl ?_) | refine buildP_own ?_) <;> (simp -dsimp [hlt]; (repeat (simp -dsimp (disch := (first | omega | assumption | (refine Bool.eq_false_iff.1 ?_; assumption))) only [wrap_in, if_pos, if_neg]; (try simp -dsimp [hlt]))))) | ((first | refine guardP_of (fun hc => ?_) (fun hc => ?_) | refine st_cond rfl (fun hc => ?_) (fun hc => ?_)) <;> (try simp only [decide_eq_true_eq, decide_eq_false_iff_not, Bool.true_eq_false, Bool.false_eq_true, bne_iff_ne, ne_eq, bne_eq_false_iff_eq, beq_iff_eq, beq_eq_false_iff_ne, Bool.not_eq_true, Bool.not_eq_false, Bool.not_eq_eq_eq_not, Bool.not_true, Bool.not_false, Decidable.not_not] at hc) <;> (try (exfalso; first | omega | exact bool_tf hc (by assumption) | exact bool_ft hc (by assumption) | exact absurd (by assumption) hc)) <;> (first | with_reducible show STri _ _ _ _ _ _ | (simp -dsimp [hlt, hc]; (repeat (simp -dsimp (disch := (first | omega | assumption | (refine Bool.eq_false_iff.1 ?_; assumption))) only [wrap_in, if_pos, if_neg]; (try simp -dsimp [hlt, hc]))))))))
    · refine CLe.int ?_; rw [ix_at hlt ht hc]
    · exact ⟨hlt, by simp, none_succ hlt ht hc, by simp, rfl⟩
  · (repeat' (first | ((first | with_reducible refine st_skip ?_ | with_reducible refine st_exit ?_); (try simp only [seqQ, blockQ, loopQ, forQ, whileQ, reduceIte, Nat.reduceEqDiff])) | (with_reducible refine st_ret ?_; ((try simp only [seqQ, blockQ, loopQ, forQ, whileQ]); first | (with_reducible refine retM_ret ?_) | refine retQ_ret ?_; simp [hlt])) | refine st_seq ?_ | refine st_block ?_ | ((first | refine st_reg ?_ | refine buildP_own ?_) <;> (simp -dsimp [hlt]; (repeat (simp -dsimp (disch := (first | omega | assumption | (refine Bool.eq_false_iff.1 ?_; assumption))) only [wrap_in, if_pos, if_neg]; (try simp -dsimp [hlt]))))) | ((first | refine guardP_of (fun hc => ?_) (fun hc => ?_) | refine st_cond rfl (fun hc => ?_) (fun hc => ?_)) <;> (try simp only [decide_eq_true_eq, decide_eq_false_iff_not, Bool.true_eq_false, Bool.false_eq_true, bne_iff_ne, ne_eq, bne_eq_false_iff_eq, beq_iff_eq, beq_eq_false_iff_ne, Bool.not_eq_true, Bool.not_eq_false, Bool.not_eq_eq_eq_not, Bool.not_true, Bool.not_false, Decidable.not_not] at hc) <;> (try (exfalso; first | omega | exact bool_tf hc (by assumption) | exact bool_ft hc (by assumption) | exact absurd (by assumption) hc)) <;> (first | with_reducible show STri _ _ _ _ _ _ | (simp -dsimp [hlt, hc]; (repeat (simp -dsimp (disch := (first | omega | assumption | (refine Bool.eq_false_iff.1 ?_; assumption))) only [wrap_in, if_pos, if_neg]; (try simp -dsimp [hlt, hc]))))))))
    have : k = l.length := by omega
    subst this
    refine CLe.int ?_; rw [ix_none ht]
theorem sContainsFunc (l : List Int) (f : FuncId) (fs cs : List CV) (p : Int → Bool) (hl : l.length ≤ 1000000) (he : Ent Tryz.prog f) (hp : ∀ x ∈ l, SC Tryz.prog f (fs ++ [I x] ++ cs) (B (p x))) : SC Tryz.prog 67 [slI l, .fn f fs cs] (B (l.any p)) := by
  refine law_slices_ContainsFunc_int_int _ _ (by simp) ?_
  (repeat' (first | ((first | with_reducible refine st_skip ?_ | with_reducible refine st_exit ?_); (try simp only [seqQ, blockQ, loopQ, forQ, whileQ, reduceIte, Nat.reduceEqDiff])) | (with_reducible refine st_ret ?_; ((try simp only [seqQ, blockQ, loopQ, forQ, whileQ]); first | (with_reducible refine retM_ret ?_) | refine retQ_ret ?_; simp)) | refine st_seq ?_ | refine st_block ?_ | ((first | refine st_reg ?_ | refine buildP_own ?_ | refine callP_b (sIndexFunc l f fs cs p hl he hp) rfl ?_) <;> (simp -dsimp; (repeat (simp -dsimp (disch := (first | omega | assumption | (refine Bool.eq_false_iff.1 ?_; assumption))) only [wrap_in, if_pos, if_neg]; (try simp -dsimp))))) | ((first | refine guardP_of (fun hc => ?_) (fun hc => ?_) | refine st_cond rfl (fun hc => ?_) (fun hc => ?_)) <;> (try simp only [decide_eq_true_eq, decide_eq_false_iff_not, Bool.true_eq_false, Bool.false_eq_true, bne_iff_ne, ne_eq, bne_eq_false_iff_eq, beq_iff_eq, beq_eq_false_iff_ne, Bool.not_eq_true, Bool.not_eq_false, Bool.not_eq_eq_eq_not, Bool.not_true, Bool.not_false, Decidable.not_not] at hc) <;> (try (exfalso; first | omega | exact bool_tf hc (by assumption) | exact bool_ft hc (by assumption) | exact absurd (by assumption) hc)) <;> (first | with_reducible show STri _ _ _ _ _ _ | (simp -dsimp [hc]; (repeat (simp -dsimp (disch := (first | omega | assumption | (refine Bool.eq_false_iff.1 ?_; assumption))) only [wrap_in, if_pos, if_neg]; (try simp -dsimp [hc]))))))))
  all_goals (refine CLe.bool ?_; exact ix_pos)
def inB (lo hi n : Int) : Bool := decide (lo ≤ n) && decide (n ≤ hi)
def allIn (lo hi : Int) (l : List Int) : Bool := l.all (inB lo hi)
theorem allIn_eq (lo hi : Int) (l : List Int) : (!l.any (outB lo hi)) = allIn lo hi l := by
  unfold allIn
  rw [List.not_any_eq_all_not]
  congr 1
  funext n
  unfold outB inB
  rw [Bool.eq_iff_iff]; simp
theorem sWithin (lo hi : Int) (l : List Int) (hl : l.length ≤ 1000000) : SC Tryz.prog 49 [I lo, I hi, slI l] (B (allIn lo hi l)) := by
  refine law_dial_within _ _ (by simp) ?_
  (repeat' (first | ((first | with_reducible refine st_skip ?_ | with_reducible refine st_exit ?_); (try simp only [seqQ, blockQ, loopQ, forQ, whileQ, reduceIte, Nat.reduceEqDiff])) | (with_reducible refine st_ret ?_; ((try simp only [seqQ, blockQ, loopQ, forQ, whileQ]); first | (with_reducible refine retM_ret ?_) | refine retQ_ret ?_; simp)) | refine st_seq ?_ | refine st_block ?_ | ((first | refine st_reg ?_ | refine buildP_own ?_ | refine callP_b (sContainsFunc l 68 [] [.ref [I lo], .ref [I hi]] (outB lo hi) hl ⟨by kernel_rfl⟩ (fun x _ => sWithin1 x lo hi)) rfl ?_) <;> (simp -dsimp; (repeat (simp -dsimp (disch := (first | omega | assumption | (refine Bool.eq_false_iff.1 ?_; assumption))) only [wrap_in, if_pos, if_neg]; (try simp -dsimp))))) | ((first | refine guardP_of (fun hc => ?_) (fun hc => ?_) | refine st_cond rfl (fun hc => ?_) (fun hc => ?_)) <;> (try simp only [decide_eq_true_eq, decide_eq_false_iff_not, Bool.true_eq_false, Bool.false_eq_true, bne_iff_ne, ne_eq, bne_eq_false_iff_eq, beq_iff_eq, beq_eq_false_iff_ne, Bool.not_eq_true, Bool.not_eq_false, Bool.not_eq_eq_eq_not, Bool.not_true, Bool.not_false, Decidable.not_not] at hc) <;> (try (exfalso; first | omega | exact bool_tf hc (by assumption) | exact bool_ft hc (by assumption) | exact absurd (by assumption) hc)) <;> (first | with_reducible show STri _ _ _ _ _ _ | (simp -dsimp [hc]; (repeat (simp -dsimp (disch := (first | omega | assumption | (refine Bool.eq_false_iff.1 ?_; assumption))) only [wrap_in, if_pos, if_neg]; (try simp -dsimp [hc]))))))))
  all_goals (refine CLe.bool ?_; exact allIn_eq lo hi l)
def gcdI (a b : Int) (m : Nat) (T : TL) (H : HL) : Prop := ∃ a' b' : Int, 0 ≤ a' ∧ 0 ≤ b' ∧ Int.gcd a' b' = Int.gcd a b ∧ m = b'.toNat ∧ T = [(0, .c (I a')), (1, .c (I b'))] ∧ H = []
theorem gcd_tmod {a b : Int} (ha : 0 ≤ a) (hb : 0 ≤ b) : Int.gcd b (a.tmod b) = Int.gcd a b := by
  rw [Int.tmod_eq_emod_of_nonneg ha]
  obtain ⟨x, rfl⟩ := Int.eq_ofNat_of_zero_le ha
  obtain ⟨y, rfl⟩ := Int.eq_ofNat_of_zero_le hb
  have e : ((x : Int) % (y : Int)) = ((x % y : Nat) : Int) := by simp
  rw [e]
  show Nat.gcd _ _ = Nat.gcd _ _
  simp only [Int.natAbs_natCast]
  rw [Nat.gcd_comm y, ← Nat.gcd_rec, Nat.gcd_comm]
theorem sGcd (a b : Int) (ha : 0 ≤ a) (hb : 0 ≤ b) : SC Tryz.prog 59 [I a, I b] (I (Int.gcd a b)) := by
  refine law_dial_gcd _ _ (by simp) ?_
  (repeat' (first | ((first | with_reducible refine st_skip ?_ | with_reducible refine st_exit ?_); (try simp only [seqQ, blockQ, loopQ, forQ, whileQ, reduceIte, Nat.reduceEqDiff])) | (with_reducible refine st_ret ?_; ((try simp only [seqQ, blockQ, loopQ, forQ, whileQ]); first | (with_reducible refine retM_ret ?_) | refine retQ_ret ?_; simp)) | refine st_seq ?_ | refine st_block ?_ | ((first | refine st_reg ?_ | refine buildP_own ?_) <;> (simp -dsimp; (repeat (simp -dsimp (disch := (first | omega | assumption | (refine Bool.eq_false_iff.1 ?_; assumption))) only [wrap_in, if_pos, if_neg]; (try simp -dsimp))))) | ((first | refine guardP_of (fun hc => ?_) (fun hc => ?_) | refine st_cond rfl (fun hc => ?_) (fun hc => ?_)) <;> (try simp only [decide_eq_true_eq, decide_eq_false_iff_not, Bool.true_eq_false, Bool.false_eq_true, bne_iff_ne, ne_eq, bne_eq_false_iff_eq, beq_iff_eq, beq_eq_false_iff_ne, Bool.not_eq_true, Bool.not_eq_false, Bool.not_eq_eq_eq_not, Bool.not_true, Bool.not_false, Decidable.not_not] at hc) <;> (try (exfalso; first | omega | exact bool_tf hc (by assumption) | exact bool_ft hc (by assumption) | exact absurd (by assumption) hc)) <;> (first | with_reducible show STri _ _ _ _ _ _ | (simp -dsimp [hc]; (repeat (simp -dsimp (disch := (first | omega | assumption | (refine Bool.eq_false_iff.1 ?_; assumption))) only [wrap_in, if_pos, if_neg]; (try simp -dsimp [hc]))))))))
  refine st_while [] (gcdI a b) b.toNat (by simp) ⟨a, b, ha, hb, rfl, rfl, rfl, rfl⟩ ?_
  rintro m T H ⟨a', b', h1, h2, h3, rfl, rfl, rfl⟩
  by_cases h0 : 0 < b'
  · have hne : ¬ b' = 0 := by omega
    have ht : a'.tmod b' = a' % b' := Int.tmod_eq_emod_of_nonneg h1
    have g1 := Int.emod_lt_of_pos a' h0
    have g2 := Int.emod_nonneg a' hne
    (repeat' (first | ((first | with_reducible refine st_skip ?_ | with_reducible refine st_exit ?_); (try simp only [seqQ, blockQ, loopQ, forQ, whileQ, reduceIte, Nat.reduceEqDiff])) | (with_reducible refine st_ret ?_; ((try simp only [seqQ, blockQ, loopQ, forQ, whileQ]); first | (with_reducible refine retM_ret ?_) | refine retQ_ret ?_; simp [h0, hne])) | refine st_seq ?_ | refine st_block ?_ | ((first | refine st_reg ?_ | refine buildP_own ?_) <;> (simp -dsimp [h0, hne]; (repeat (simp -dsimp (disch := (first | omega | assumption | (refine Bool.eq_false_iff.1 ?_; assumption))) only [wrap_in, if_pos, if_neg]; (try simp -dsimp [h0, hne]))))) | ((first | refine guardP_of (fun hc => ?_) (fun hc => ?_) | refine st_cond rfl (fun hc => ?_) (fun hc => ?_)) <;> (try simp only [decide_eq_true_eq, decide_eq_false_iff_not, Bool.true_eq_false, Bool.false_eq_true, bne_iff_ne, ne_eq, bne_eq_false_iff_eq, beq_iff_eq, beq_eq_false_iff_ne, Bool.not_eq_true, Bool.not_eq_false, Bool.not_eq_eq_eq_not, Bool.not_true, Bool.not_false, Decidable.not_not] at hc) <;> (try (exfalso; first | omega | exact bool_tf hc (by assumption) | exact bool_ft hc (by assumption) | exact absurd (by assumption) hc)) <;> (first | with_reducible show STri _ _ _ _ _ _ | (simp -dsimp [h0, hne, hc]; (repeat (simp -dsimp (disch := (first | omega | assumption | (refine Bool.eq_false_iff.1 ?_; assumption))) only [wrap_in, if_pos, if_neg]; (try simp -dsimp [h0, hne, hc]))))))))
    exact ⟨(a'.tmod b').toNat, by rw [ht]; omega, by simp, b', a'.tmod b', h2, by rw [ht]; exact g2, by rw [← h3]; exact gcd_tmod h1 h2, rfl, by simp, rfl⟩
  · have : b' = 0 := by omega
    subst this
    (repeat' (first | ((first | with_reducible refine st_skip ?_ | with_reducible refine st_exit ?_); (try simp only [seqQ, blockQ, loopQ, forQ, whileQ, reduceIte, Nat.reduceEqDiff])) | (with_reducible refine st_ret ?_; ((try simp only [seqQ, blockQ, loopQ, forQ, whileQ]); first | (with_reducible refine retM_ret ?_) | refine retQ_ret ?_; simp)) | refine st_seq ?_ | refine st_block ?_ | ((first | refine st_reg ?_ | refine buildP_own ?_) <;> (simp -dsimp; (repeat (simp -dsimp (disch := (first | omega | assumption | (refine Bool.eq_false_iff.1 ?_; assumption))) only [wrap_in, if_pos, if_neg]; (try simp -dsimp))))) | ((first | refine guardP_of (fun hc => ?_) (fun hc => ?_) | refine st_cond rfl (fun hc => ?_) (fun hc => ?_)) <;> (try simp only [decide_eq_true_eq, decide_eq_false_iff_not, Bool.true_eq_false, Bool.false_eq_true, bne_iff_ne, ne_eq, bne_eq_false_iff_eq, beq_iff_eq, beq_eq_false_iff_ne, Bool.not_eq_true, Bool.not_eq_false, Bool.not_eq_eq_eq_not, Bool.not_true, Bool.not_false, Decidable.not_not] at hc) <;> (try (exfalso; first | omega | exact bool_tf hc (by assumption) | exact bool_ft hc (by assumption) | exact absurd (by assumption) hc)) <;> (first | with_reducible show STri _ _ _ _ _ _ | (simp -dsimp [hc]; (repeat (simp -dsimp (disch := (first | omega | assumption | (refine Bool.eq_false_iff.1 ?_; assumption))) only [wrap_in, if_pos, if_neg]; (try simp -dsimp [hc]))))))))
    refine CLe.int ?_
    rw [← h3]; simp; omega
end Go.Proofs.YtnfggkopledpcaaGreat
/- Dial, II: spans, links, forces. -/
namespace Go.Proofs.YtnfggkopledpcaaGreat
open Go.RowKit
structure Lk where
  (slack num den : Int)
structure Fc where
  (lo hi : Int) (links : List Lk) (weight friction : Int)
structure Dw where
  (jump elo ehi : Int) (faces : List Fc)
def rowL (l : Lk) : List CV := [I l.slack, I l.num, I l.den]
def slL (ls : List Lk) : CV := .sl 3 (ls.map rowL)
def rowF (f : Fc) : List CV := [I f.lo, I f.hi, slL f.links, I f.weight, I f.friction]
def slF (fs : List Fc) : CV := .sl 5 (fs.map rowF)
def cF (f : Fc) : CV := .agg (rowF f)
def rowX (f : Fc) (s : Int) : List CV := [I f.lo, I f.hi, slL f.links, I f.weight, I f.friction, I s]
def cX (f : Fc) (s : Int) : CV := .agg (rowX f s)
def cL (l : Lk) : CV := .agg (rowL l)
def cS (a b : Int) : CV := .agg [I a, I b]
def cDw (w : Dw) : CV := .agg [I w.jump, I w.elo, I w.ehi, slF w.faces]
attribute [simp] rowL slL rowF slF cF rowX cX cL cS cDw
def overI (n b : Int) : Int := (n + b - 1).tdiv b
theorem sOver (n b : Int) (h1 : -4000000000000000000 ≤ n) (h2 : n ≤ 5000000000000000000) (h3 : 0 < b) (h4 : b ≤ 4000000000000000000) : SC Tryz.prog 60 [I n, I b] (I (overI n b)) := by
  refine law_dial_over _ _ (by simp) ?_
  have hne : ¬ b = 0 := by omega
  have hb : IntKind.i64.wrap ((n + b - 1).tdiv b) = (n + b - 1).tdiv b := by
    refine wrap_in _ ?_ ?_
    · have := Int.natAbs_tdiv_le_natAbs (n + b - 1) b; omega
    · have := Int.natAbs_tdiv_le_natAbs (n + b - 1) b; omega
  (repeat' (first | ((first | with_reducible refine st_skip ?_ | with_reducible refine st_exit ?_); (try simp only [seqQ, blockQ, loopQ, forQ, whileQ, reduceIte, Nat.reduceEqDiff])) | (with_reducible refine st_ret ?_; ((try simp only [seqQ, blockQ, loopQ, forQ, whileQ]); first | (with_reducible refine retM_ret ?_) | refine retQ_ret ?_; simp [hne, hb])) | refine st_seq ?_ | refine st_block ?_ | ((first | refine st_reg ?_ | refine buildP_own ?_) <;> (simp -dsimp [hne, hb]; (repeat (simp -dsimp (disch := (first | omega | assumption | (refine Bool.eq_false_iff.1 ?_; assumption))) only [wrap_in, if_pos, if_neg]; (try simp -dsimp [hne, hb]))))) | ((first | refine guardP_of (fun hc => ?_) (fun hc => ?_) | refine st_cond rfl (fun hc => ?_) (fun hc => ?_)) <;> (try simp only [decide_eq_true_eq, decide_eq_false_iff_not, Bool.true_eq_false, Bool.false_eq_true, bne_iff_ne, ne_eq, bne_eq_false_iff_eq, beq_iff_eq, beq_eq_false_iff_ne, Bool.not_eq_true, Bool.not_eq_false, Bool.not_eq_eq_eq_not, Bool.not_true, Bool.not_false, Decidable.not_not] at hc) <;> (try (exfalso; first | omega | exact bool_tf hc (by assumption) | exact bool_ft hc (by assumption) | exact absurd (by assumption) hc)) <;> (first | with_reducible show STri _ _ _ _ _ _ | (simp -dsimp [hne, hb, hc]; (repeat (simp -dsimp (disch := (first | omega | assumption | (refine Bool.eq_false_iff.1 ?_; assumption))) only [wrap_in, if_pos, if_neg]; (try simp -dsimp [hne, hb, hc]))))))))
  exact .refl _
theorem mod_eq (n b : Int) (h : 0 < b) : (n.tmod b + b).tmod b = n % b := by
  have h0 := Int.emod_nonneg n (show b ≠ 0 by omega)
  have h1 := Int.emod_lt_of_pos n h
  have e : n.tmod b = n % b ∨ n.tmod b = n % b - b := by
    rw [Int.tmod_eq_emod]
    split
    · left; omega
    · right; omega
  rcases e with e | e
  · rw [e, Int.tmod_eq_emod_of_nonneg (by omega), Int.add_emod_right, Int.emod_emod]
  · rw [e, Int.sub_add_cancel, Int.tmod_eq_emod_of_nonneg h0, Int.emod_emod]
theorem tmod_lt (n b : Int) (h : 0 < b) : -b < n.tmod b ∧ n.tmod b < b := by
  have h0 := Int.emod_nonneg n (show b ≠ 0 by omega)
  have h1 := Int.emod_lt_of_pos n h
  rw [Int.tmod_eq_emod]
  split <;> omega
theorem sModulo (n b : Int) (h3 : 0 < b) (h4 : b ≤ 1000000000000) : SC Tryz.prog 45 [I n, I b] (I (n % b)) := by
  refine law_dial_modulo _ _ (by simp) ?_
  have hne : ¬ b = 0 := by omega
  have hb : IntKind.i64.wrap (n.tmod b + b) = n.tmod b + b := by
    have := tmod_lt n b h3
    exact wrap_in _ (by omega) (by omega)
  have he := mod_eq n b h3
  (repeat' (first | ((first | with_reducible refine st_skip ?_ | with_reducible refine st_exit ?_); (try simp only [seqQ, blockQ, loopQ, forQ, whileQ, reduceIte, Nat.reduceEqDiff])) | (with_reducible refine st_ret ?_; ((try simp only [seqQ, blockQ, loopQ, forQ, whileQ]); first | (with_reducible refine retM_ret ?_) | refine retQ_ret ?_; simp [hne, hb, he])) | refine st_seq ?_ | refine st_block ?_ | ((first | refine st_reg ?_ | refine buildP_own ?_) <;> (simp -dsimp [hne, hb, he]; (repeat (simp -dsimp (disch := (first | omega | assumption | (refine Bool.eq_false_iff.1 ?_; assumption))) only [wrap_in, if_pos, if_neg]; (try simp -dsimp [hne, hb, he]))))) | ((first | refine guardP_of (fun hc => ?_) (fun hc => ?_) | refine st_cond rfl (fun hc => ?_) (fun hc => ?_)) <;> (try simp only [decide_eq_true_eq, decide_eq_false_iff_not, Bool.true_eq_false, Bool.false_eq_true, bne_iff_ne, ne_eq, bne_eq_false_iff_eq, beq_iff_eq, beq_eq_false_iff_ne, Bool.not_eq_true, Bool.not_eq_false, Bool.not_eq_eq_eq_not, Bool.not_true, Bool.not_false, Decidable.not_not] at hc) <;> (try (exfalso; first | omega | exact bool_tf hc (by assumption) | exact bool_ft hc (by assumption) | exact absurd (by assumption) hc)) <;> (first | with_reducible show STri _ _ _ _ _ _ | (simp -dsimp [hne, hb, he, hc]; (repeat (simp -dsimp (disch := (first | omega | assumption | (refine Bool.eq_false_iff.1 ?_; assumption))) only [wrap_in, if_pos, if_neg]; (try simp -dsimp [hne, hb, he, hc]))))))))
  exact .refl _
def downI (n b : Int) : Int := n - n % b
theorem sDown (n b : Int) (h1 : -1000000000000000 ≤ n) (h2 : n ≤ 1000000000000000) (h3 : 0 < b) (h4 : b ≤ 1000000000000) : SC Tryz.prog 40 [I n, I b] (I (downI n b)) := by
  refine law_dial_down _ _ (by simp) ?_
  have h5 := Int.emod_nonneg n (show b ≠ 0 by omega)
  have h6 := Int.emod_lt_of_pos n h3
  (repeat' (first | ((first | with_reducible refine st_skip ?_ | with_reducible refine st_exit ?_); (try simp only [seqQ, blockQ, loopQ, forQ, whileQ, reduceIte, Nat.reduceEqDiff])) | (with_reducible refine st_ret ?_; ((try simp only [seqQ, blockQ, loopQ, forQ, whileQ]); first | (with_reducible refine retM_ret ?_) | refine retQ_ret ?_; simp)) | refine st_seq ?_ | refine st_block ?_ | ((first | refine st_reg ?_ | refine buildP_own ?_ | refine callP_b (sModulo n b h3 h4) rfl ?_) <;> (simp -dsimp; (repeat (simp -dsimp (disch := (first | omega | assumption | (refine Bool.eq_false_iff.1 ?_; assumption))) only [wrap_in, if_pos, if_neg]; (try simp -dsimp))))) | ((first | refine guardP_of (fun hc => ?_) (fun hc => ?_) | refine st_cond rfl (fun hc => ?_) (fun hc => ?_)) <;> (try simp only [decide_eq_true_eq, decide_eq_false_iff_not, Bool.true_eq_false, Bool.false_eq_true, bne_iff_ne, ne_eq, bne_eq_false_iff_eq, beq_iff_eq, beq_eq_false_iff_ne, Bool.not_eq_true, Bool.not_eq_false, Bool.not_eq_eq_eq_not, Bool.not_true, Bool.not_false, Decidable.not_not] at hc) <;> (try (exfalso; first | omega | exact bool_tf hc (by assumption) | exact bool_ft hc (by assumption) | exact absurd (by assumption) hc)) <;> (first | with_reducible show STri _ _ _ _ _ _ | (simp -dsimp [hc]; (repeat (simp -dsimp (disch := (first | omega | assumption | (refine Bool.eq_false_iff.1 ?_; assumption))) only [wrap_in, if_pos, if_neg]; (try simp -dsimp [hc]))))))))
  exact .refl _
def spanB (least most lo hi : Int) : Bool := decide (least ≤ lo) && decide (lo ≤ hi) && decide (hi ≤ most)
theorem sIsSpan (lo hi least most : Int) : SC Tryz.prog 50 [cS lo hi, I least, I most] (B (spanB least most lo hi)) := by
  refine law_dial_isSpan _ _ (by simp) ?_
  unfold cS
  (repeat' (first | ((first | with_reducible refine st_skip ?_ | with_reducible refine st_exit ?_); (try simp only [seqQ, blockQ, loopQ, forQ, whileQ, reduceIte, Nat.reduceEqDiff])) | (with_reducible refine st_ret ?_; ((try simp only [seqQ, blockQ, loopQ, forQ, whileQ]); first | (with_reducible refine retM_ret ?_) | refine retQ_ret ?_; simp)) | refine st_seq ?_ | refine st_block ?_ | ((first | refine st_reg ?_ | refine buildP_own ?_ | refine callP_b (sWithin least most [lo, hi] (by simp)) rfl ?_) <;> (simp -dsimp; (repeat (simp -dsimp (disch := (first | omega | assumption | (refine Bool.eq_false_iff.1 ?_; assumption))) only [wrap_in, if_pos, if_neg]; (try simp -dsimp))))) | ((first | refine guardP_of (fun hc => ?_) (fun hc => ?_) | refine st_cond rfl (fun hc => ?_) (fun hc => ?_)) <;> (try simp only [decide_eq_true_eq, decide_eq_false_iff_not, Bool.true_eq_false, Bool.false_eq_true, bne_iff_ne, ne_eq, bne_eq_false_iff_eq, beq_iff_eq, beq_eq_false_iff_ne, Bool.not_eq_true, Bool.not_eq_false, Bool.not_eq_eq_eq_not, Bool.not_true, Bool.not_false, Decidable.not_not] at hc) <;> (try (exfalso; first | omega | exact bool_tf hc (by assumption) | exact bool_ft hc (by assumption) | exact absurd (by assumption) hc)) <;> (first | with_reducible show STri _ _ _ _ _ _ | (simp -dsimp [hc]; (repeat (simp -dsimp (disch := (first | omega | assumption | (refine Bool.eq_false_iff.1 ?_; assumption))) only [wrap_in, if_pos, if_neg]; (try simp -dsimp [hc]))))))))
  all_goals (refine CLe.bool ?_; rw [Bool.eq_iff_iff]; unfold allIn at *; unfold spanB; simp [inB] at *; try omega)
theorem sIsWind (lo hi : Int) : SC Tryz.prog 46 [cS lo hi] (B (spanB (-10000) 10000 lo hi)) := by
  refine law_dial_isWind _ _ (by simp) ?_
  unfold cS
  (repeat' (first | ((first | with_reducible refine st_skip ?_ | with_reducible refine st_exit ?_); (try simp only [seqQ, blockQ, loopQ, forQ, whileQ, reduceIte, Nat.reduceEqDiff])) | (with_reducible refine st_ret ?_; ((try simp only [seqQ, blockQ, loopQ, forQ, whileQ]); first | (with_reducible refine retM_ret ?_) | refine retQ_ret ?_; simp)) | refine st_seq ?_ | refine st_block ?_ | ((first | refine st_reg ?_ | refine buildP_own ?_ | refine callP_b (sIsSpan lo hi (-10000) 10000) rfl ?_) <;> (simp -dsimp; (repeat (simp -dsimp (disch := (first | omega | assumption | (refine Bool.eq_false_iff.1 ?_; assumption))) only [wrap_in, if_pos, if_neg]; (try simp -dsimp))))) | ((first | refine guardP_of (fun hc => ?_) (fun hc => ?_) | refine st_cond rfl (fun hc => ?_) (fun hc => ?_)) <;> (try simp only [decide_eq_true_eq, decide_eq_false_iff_not, Bool.true_eq_false, Bool.false_eq_true, bne_iff_ne, ne_eq, bne_eq_false_iff_eq, beq_iff_eq, beq_eq_false_iff_ne, Bool.not_eq_true, Bool.not_eq_false, Bool.not_eq_eq_eq_not, Bool.not_true, Bool.not_false, Decidable.not_not] at hc) <;> (try (exfalso; first | omega | exact bool_tf hc (by assumption) | exact bool_ft hc (by assumption) | exact absurd (by assumption) hc)) <;> (first | with_reducible show STri _ _ _ _ _ _ | (simp -dsimp [hc]; (repeat (simp -dsimp (disch := (first | omega | assumption | (refine Bool.eq_false_iff.1 ?_; assumption))) only [wrap_in, if_pos, if_neg]; (try simp -dsimp [hc]))))))))
  exact .refl _
def lkB (l : Lk) : Bool := inB 0 1000 l.slack && (inB 1 200 l.num && inB 1 200 l.den)
theorem sIsLink (l : Lk) : SC Tryz.prog 58 [cL l] (B (lkB l)) := by
  refine law_dial_isLink _ _ (by simp) ?_
  unfold cL rowL
  (repeat' (first | ((first | with_reducible refine st_skip ?_ | with_reducible refine st_exit ?_); (try simp only [seqQ, blockQ, loopQ, forQ, whileQ, reduceIte, Nat.reduceEqDiff])) | (with_reducible refine st_ret ?_; ((try simp only [seqQ, blockQ, loopQ, forQ, whileQ]); first | (with_reducible refine retM_ret ?_) | refine retQ_ret ?_; simp)) | refine st_seq ?_ | refine st_block ?_ | ((first | refine st_reg ?_ | refine buildP_own ?_ | refine callP_b (sWithin 0 1000 [l.slack] (by simp)) rfl ?_ | refine callP_b (sWithin 1 200 [l.num, l.den] (by simp)) rfl ?_) <;> (simp -dsimp; (repeat (simp -dsimp (disch := (first | omega | assumption | (refine Bool.eq_false_iff.1 ?_; assumption))) only [wrap_in, if_pos, if_neg]; (try simp -dsimp))))) | ((first | refine guardP_of (fun hc => ?_) (fun hc => ?_) | refine st_cond rfl (fun hc => ?_) (fun hc => ?_)) <;> (try simp only [decide_eq_true_eq, decide_eq_false_iff_not, Bool.true_eq_false, Bool.false_eq_true, bne_iff_ne, ne_eq, bne_eq_false_iff_eq, beq_iff_eq, beq_eq_false_iff_ne, Bool.not_eq_true, Bool.not_eq_false, Bool.not_eq_eq_eq_not, Bool.not_true, Bool.not_false, Decidable.not_not] at hc) <;> (try (exfalso; first | omega | exact bool_tf hc (by assumption) | exact bool_ft hc (by assumption) | exact absurd (by assumption) hc)) <;> (first | with_reducible show STri _ _ _ _ _ _ | (simp -dsimp [hc]; (repeat (simp -dsimp (disch := (first | omega | assumption | (refine Bool.eq_false_iff.1 ?_; assumption))) only [wrap_in, if_pos, if_neg]; (try simp -dsimp [hc]))))))))
  all_goals (refine CLe.bool ?_; rw [Bool.eq_iff_iff]; unfold allIn at *; unfold lkB; simp [inB] at *; try omega)
end Go.Proofs.YtnfggkopledpcaaGreat
/- Dial, III: forces, lags, hands. -/
namespace Go.Proofs.YtnfggkopledpcaaGreat
open Go.RowKit
def forceI (f : Fc) (d : Int) : Int := if d % 3600 < 1800 then f.weight else -f.weight
theorem sForce (f : Fc) (s d : Int) (h1 : -10000 ≤ f.weight) (h2 : f.weight ≤ 10000) : SC Tryz.prog 65 [cX f s, I d] (I (forceI f d)) := by
  refine law_dial_face_force _ _ (by simp) ?_
  unfold cX rowX
  (repeat' (first | ((first | with_reducible refine st_skip ?_ | with_reducible refine st_exit ?_); (try simp only [seqQ, blockQ, loopQ, forQ, whileQ, reduceIte, Nat.reduceEqDiff])) | (with_reducible refine st_ret ?_; ((try simp only [seqQ, blockQ, loopQ, forQ, whileQ]); first | (with_reducible refine retM_ret ?_) | refine retQ_ret ?_; simp)) | refine st_seq ?_ | refine st_block ?_ | ((first | refine st_reg ?_ | refine buildP_own ?_ | refine callP_b (sModulo d 3600 (by omega) (by omega)) rfl ?_) <;> (simp -dsimp; (repeat (simp -dsimp (disch := (first | omega | assumption | (refine Bool.eq_false_iff.1 ?_; assumption))) only [wrap_in, if_pos, if_neg]; (try simp -dsimp))))) | ((first | refine guardP_of (fun hc => ?_) (fun hc => ?_) | refine st_cond rfl (fun hc => ?_) (fun hc => ?_)) <;> (try simp only [decide_eq_true_eq, decide_eq_false_iff_not, Bool.true_eq_false, Bool.false_eq_true, bne_iff_ne, ne_eq, bne_eq_false_iff_eq, beq_iff_eq, beq_eq_false_iff_ne, Bool.not_eq_true, Bool.not_eq_false, Bool.not_eq_eq_eq_not, Bool.not_true, Bool.not_false, Decidable.not_not] at hc) <;> (try (exfalso; first | omega | exact bool_tf hc (by assumption) | exact bool_ft hc (by assumption) | exact absurd (by assumption) hc)) <;> (first | with_reducible show STri _ _ _ _ _ _ | (simp -dsimp [hc]; (repeat (simp -dsimp (disch := (first | omega | assumption | (refine Bool.eq_false_iff.1 ?_; assumption))) only [wrap_in, if_pos, if_neg]; (try simp -dsimp [hc]))))))))
  all_goals (refine CLe.int ?_; unfold forceI; split <;> omega)
def lagLo (f : Fc) (s d whi : Int) (wlo : Int) : Int := if wlo + forceI f d > f.friction then 0 else if whi + forceI f d < -f.friction then s else 0
def lagHi (f : Fc) (s d : Int) (wlo : Int) : Int := if wlo + forceI f d > f.friction then 0 else s
theorem force_le (f : Fc) (d : Int) (h1 : -10000 ≤ f.weight) (h2 : f.weight ≤ 10000) : -10000 ≤ forceI f d ∧ forceI f d ≤ 10000 := by
  unfold forceI; split <;> omega
theorem sLags (f : Fc) (s d wlo whi : Int) (h1 : -10000 ≤ f.weight) (h2 : f.weight ≤ 10000) (h3 : 0 ≤ f.friction) (h4 : f.friction ≤ 10000) (h5 : -1000000 ≤ wlo) (h6 : wlo ≤ 1000000) (h7 : -1000000 ≤ whi) (h8 : whi ≤ 1000000) :
    SC Tryz.prog 42 [cX f s, I d, cS wlo whi] (cS (lagLo f s d whi wlo) (lagHi f s d wlo)) := by
  refine law_dial_face_lags _ _ (by simp) ?_
  obtain ⟨g1, g2⟩ := force_le f d h1 h2
  unfold cS
  unfold cX rowX
  (repeat' (first | ((first | with_reducible refine st_skip ?_ | with_reducible refine st_exit ?_); (try simp only [seqQ, blockQ, loopQ, forQ, whileQ, reduceIte, Nat.reduceEqDiff])) | (with_reducible refine st_ret ?_; ((try simp only [seqQ, blockQ, loopQ, forQ, whileQ]); first | (with_reducible refine retM_ret ?_) | refine retQ_ret ?_; simp)) | refine st_seq ?_ | refine st_block ?_ | ((first | refine st_reg ?_ | refine buildP_own ?_ | refine callP_b (sForce f s d h1 h2) rfl ?_) <;> (simp -dsimp; (repeat (simp -dsimp (disch := (first | omega | assumption | (refine Bool.eq_false_iff.1 ?_; assumption))) only [wrap_in, if_pos, if_neg]; (try simp -dsimp))))) | ((first | refine guardP_of (fun hc => ?_) (fun hc => ?_) | refine st_cond rfl (fun hc => ?_) (fun hc => ?_)) <;> (try simp only [decide_eq_true_eq, decide_eq_false_iff_not, Bool.true_eq_false, Bool.false_eq_true, bne_iff_ne, ne_eq, bne_eq_false_iff_eq, beq_iff_eq, beq_eq_false_iff_ne, Bool.not_eq_true, Bool.not_eq_false, Bool.not_eq_eq_eq_not, Bool.not_true, Bool.not_false, Decidable.not_not] at hc) <;> (try (exfalso; first | omega | exact bool_tf hc (by assumption) | exact bool_ft hc (by assumption) | exact absurd (by assumption) hc)) <;> (first | with_reducible show STri _ _ _ _ _ _ | (simp -dsimp [hc]; (repeat (simp -dsimp (disch := (first | omega | assumption | (refine Bool.eq_false_iff.1 ?_; assumption))) only [wrap_in, if_pos, if_neg]; (try simp -dsimp [hc]))))))))
  all_goals (refine CLe.of_eq ?_; unfold lagLo lagHi; (repeat' split) <;> first | rfl | (exfalso; omega))
def handLo (f : Fc) (s d wlo : Int) : Int := d + f.lo - lagHi f s d wlo
def handHi (f : Fc) (s d wlo whi : Int) : Int := d + f.hi - lagLo f s d whi wlo
structure FcSm (f : Fc) (s : Int) : Prop where
  a : -3600 ≤ f.lo
  b : f.lo ≤ 3600
  c : -3600 ≤ f.hi
  d : f.hi ≤ 3600
  e : -10000 ≤ f.weight
  g : f.weight ≤ 10000
  h : 0 ≤ f.friction
  i : f.friction ≤ 10000
  j : 0 ≤ s
  k : s ≤ 3600
theorem lag_le (f : Fc) (s d wlo whi : Int) (h : 0 ≤ s) : 0 ≤ lagLo f s d whi wlo ∧ lagLo f s d whi wlo ≤ s ∧ 0 ≤ lagHi f s d wlo ∧ lagHi f s d wlo ≤ s := by
  unfold lagLo lagHi
  refine ⟨?_, ?_, ?_, ?_⟩ <;> (repeat' split) <;> omega
theorem sHands (f : Fc) (s d wlo whi : Int) (hf : FcSm f s) (h5 : -1000000 ≤ wlo) (h6 : wlo ≤ 1000000) (h7 : -1000000 ≤ whi) (h8 : whi ≤ 1000000) (h9 : -1000000000000 ≤ d) (h10 : d ≤ 1000000000000) :
    SC Tryz.prog 41 [cX f s, I d, cS wlo whi] (cS (handLo f s d wlo) (handHi f s d wlo whi)) := by
  refine law_dial_face_hands _ _ (by simp) ?_
  obtain ⟨g1, g2, g3, g4⟩ := lag_le f s d wlo whi hf.j
  have h11 := hf.a
  have h12 := hf.b
  have h13 := hf.c
  have h14 := hf.d
  have h15 := hf.k
  (repeat' (first | ((first | with_reducible refine st_skip ?_ | with_reducible refine st_exit ?_); (try simp only [seqQ, blockQ, loopQ, forQ, whileQ, reduceIte, Nat.reduceEqDiff])) | (with_reducible refine st_ret ?_; ((try simp only [seqQ, blockQ, loopQ, forQ, whileQ]); first | (with_reducible refine retM_ret ?_) | refine retQ_ret ?_; simp)) | refine st_seq ?_ | refine st_block ?_ | ((first | refine st_reg ?_ | refine buildP_own ?_ | refine callP_b (sLags f s d wlo whi hf.e hf.g hf.h hf.i h5 h6 h7 h8) rfl ?_) <;> (simp -dsimp; (repeat (simp -dsimp (disch := (first | omega | assumption | (refine Bool.eq_false_iff.1 ?_; assumption))) only [wrap_in, if_pos, if_neg]; (try simp -dsimp))))) | ((first | refine guardP_of (fun hc => ?_) (fun hc => ?_) | refine st_cond rfl (fun hc => ?_) (fun hc => ?_)) <;> (try simp only [decide_eq_true_eq, decide_eq_false_iff_not, Bool.true_eq_false, Bool.false_eq_true, bne_iff_ne, ne_eq, bne_eq_false_iff_eq, beq_iff_eq, beq_eq_false_iff_ne, Bool.not_eq_true, Bool.not_eq_false, Bool.not_eq_eq_eq_not, Bool.not_true, Bool.not_false, Decidable.not_not] at hc) <;> (try (exfalso; first | omega | exact bool_tf hc (by assumption) | exact bool_ft hc (by assumption) | exact absurd (by assumption) hc)) <;> (first | with_reducible show STri _ _ _ _ _ _ | (simp -dsimp [hc]; (repeat (simp -dsimp (disch := (first | omega | assumption | (refine Bool.eq_false_iff.1 ?_; assumption))) only [wrap_in, if_pos, if_neg]; (try simp -dsimp [hc]))))))))
  all_goals exact CLe.of_eq rfl
end Go.Proofs.YtnfggkopledpcaaGreat
/- Dial, IV: faces. -/
namespace Go.Proofs.YtnfggkopledpcaaGreat
open Go.RowKit
def stepD (d : Int) (l : Lk) : Int := d.tdiv (Int.gcd d l.num) * l.num
def denK (ls : List Lk) (k : Nat) : Int := (ls.take k).foldl stepD 1
def stepN (D n : Int) (l : Lk) : Int := n + l.slack * 3600 * l.den * D.tdiv l.num
def numK (ls : List Lk) (k : Nat) : Int := (ls.take k).foldl (stepN (denK ls ls.length)) 0
def slackI (ls : List Lk) : Int := overI (numK ls ls.length) (1000 * denK ls ls.length)
def fcB (f : Fc) : Bool := spanB (-3600) 3600 f.lo f.hi && decide (f.links.length ≤ 4) && inB (-10000) 10000 f.weight && inB 0 10000 f.friction && f.links.all lkB
def Fc.zero : Fc := ⟨0, 0, [], 0, 0⟩
def rNew (f : Fc) : CV := if fcB f then .tup [cX f (slackI f.links), B (decide (slackI f.links ≤ 3600))] else .tup [cX .zero 0, B false]
def LkTo (ls : List Lk) (k : Nat) : Prop := ∀ l ∈ ls.take k, lkB l = true
theorem lk_spec {l : Lk} (h : lkB l = true) : (0 ≤ l.slack ∧ l.slack ≤ 1000) ∧ (1 ≤ l.num ∧ l.num ≤ 200) ∧ (1 ≤ l.den ∧ l.den ≤ 200) := by
  unfold lkB inB at h
  simp only [Bool.and_eq_true, decide_eq_true_eq] at h
  exact h
theorem lk_succ {ls : List Lk} {k : Nat} (hlt : k < ls.length) (h : LkTo ls k) (hc : lkB ls[k] = true) : LkTo ls (k + 1) := fun x hx => by
  rw [List.take_succ_eq_append_getElem hlt, List.mem_append] at hx
  rcases hx with hx | hx
  · exact h x hx
  · simp at hx; rw [hx]; exact hc
theorem denK_succ {ls : List Lk} {k : Nat} (hlt : k < ls.length) : denK ls (k + 1) = stepD (denK ls k) ls[k] := by
  unfold denK
  rw [List.take_succ_eq_append_getElem hlt, List.foldl_append]; rfl
theorem numK_succ {ls : List Lk} {k : Nat} (hlt : k < ls.length) : numK ls (k + 1) = stepN (denK ls ls.length) (numK ls k) ls[k] := by
  unfold numK
  rw [List.take_succ_eq_append_getElem hlt, List.foldl_append]; rfl
theorem gcd_pos' {d n : Int} (h : 1 ≤ n) : 0 < (Int.gcd d n : Int) := by
  have : Int.gcd d n ≠ 0 := fun e => by
    have := (Int.gcd_eq_zero_iff.1 e).2
    omega
  omega
theorem stepD_le {d : Int} {l : Lk} {M : Int} (h1 : 1 ≤ d) (h2 : d ≤ M) (h3 : 1 ≤ l.num) (h4 : l.num ≤ 200) : 1 ≤ stepD d l ∧ stepD d l ≤ M * 200 ∧ 1 ≤ d.tdiv (Int.gcd d l.num) ∧ d.tdiv (Int.gcd d l.num) ≤ d := by
  have hg := gcd_pos' (d := d) h3
  have hd : (Int.gcd d l.num : Int) ∣ d := Int.gcd_dvd_left ..
  obtain ⟨q, hq⟩ := hd
  have hq1 : 1 ≤ q := by
    by_cases h : q < 1
    · exfalso
      have : (Int.gcd d l.num : Int) * q ≤ 0 := Int.mul_nonpos_of_nonneg_of_nonpos (by omega) (by omega)
      omega
    · omega
  have e : d.tdiv (Int.gcd d l.num) = q := by
    have : ∀ g x y : Int, 0 < g → x = g * y → x.tdiv g = y := fun g x y h0 h1 => by
      rw [h1]; exact Int.mul_tdiv_cancel_left y (by omega)
    exact this _ _ _ hg hq
  have hle : q ≤ d := by
    have := Int.mul_le_mul_of_nonneg_right (show (1 : Int) ≤ (Int.gcd d l.num : Int) by omega) (show 0 ≤ q by omega)
    rw [Int.one_mul, ← hq] at this
    exact this
  unfold stepD
  rw [e]
  refine ⟨?_, ?_, hq1, hle⟩
  · have := Int.mul_le_mul hq1 h3 (by omega) (by omega)
    simpa using this
  · exact Int.mul_le_mul (Int.le_trans hle h2) h4 (by omega) (by omega)
theorem denK_le {ls : List Lk} : ∀ {k : Nat}, k ≤ 4 → k ≤ ls.length → LkTo ls k → 1 ≤ denK ls k ∧ denK ls k ≤ 200 ^ k
  | 0, _, _, _ => by simp [denK]
  | k + 1, h4, hk, h => by
    have hlt : k < ls.length := by omega
    have hk' : LkTo ls k := fun x hx => h x (by rw [List.take_succ_eq_append_getElem hlt]; exact List.mem_append_left _ hx)
    obtain ⟨d1, d2⟩ := denK_le (k := k) (by omega) (by omega) hk'
    obtain ⟨_, ⟨h1, h2⟩, _⟩ := lk_spec (h ls[k] (by rw [List.take_succ_eq_append_getElem hlt]; exact List.mem_append_right _ (by simp)))
    obtain ⟨g1, g2, _⟩ := stepD_le d1 d2 h1 h2
    rw [denK_succ hlt, Int.pow_succ]
    exact ⟨g1, g2⟩
theorem den_le {ls : List Lk} {k : Nat} (h4 : k ≤ 4) (hk : k ≤ ls.length) (h : LkTo ls k) : 1 ≤ denK ls k ∧ denK ls k ≤ 1600000000 := by
  obtain ⟨h1, h2⟩ := denK_le h4 hk h
  refine ⟨h1, Int.le_trans h2 ?_⟩
  have : k = 0 ∨ k = 1 ∨ k = 2 ∨ k = 3 ∨ k = 4 := by omega
  rcases this with rfl | rfl | rfl | rfl | rfl <;> decide
theorem part_le {D : Int} {l : Lk} (hD : 1 ≤ D) (hD2 : D ≤ 1600000000) (h : lkB l = true) : (0 ≤ D.tdiv l.num ∧ D.tdiv l.num ≤ D) ∧ (0 ≤ l.slack * 3600 ∧ l.slack * 3600 ≤ 3600000) ∧ (0 ≤ l.slack * 3600 * l.den ∧ l.slack * 3600 * l.den ≤ 720000000) ∧
    0 ≤ l.slack * 3600 * l.den * D.tdiv l.num ∧ l.slack * 3600 * l.den * D.tdiv l.num ≤ 1152000000000000000 := by
  obtain ⟨⟨s1, s2⟩, ⟨n1, n2⟩, ⟨d1, d2⟩⟩ := lk_spec h
  have q0 : 0 ≤ D.tdiv l.num := Int.tdiv_nonneg (by omega) (by omega)
  have q1 : D.tdiv l.num ≤ D := by
    rw [Int.tdiv_eq_ediv_of_nonneg (by omega)]
    exact Int.ediv_le_self _ (by omega)
  have a1 : 0 ≤ l.slack * 3600 := by omega
  have a2 : l.slack * 3600 ≤ 3600000 := by omega
  have b1 : 0 ≤ l.slack * 3600 * l.den := Int.mul_nonneg a1 (by omega)
  have b2 : l.slack * 3600 * l.den ≤ 3600000 * 200 := Int.mul_le_mul a2 d2 (by omega) (by omega)
  refine ⟨⟨q0, q1⟩, ⟨a1, a2⟩, ⟨b1, by omega⟩, Int.mul_nonneg b1 q0, ?_⟩
  have := Int.mul_le_mul (show l.slack * 3600 * l.den ≤ 720000000 by omega) (show D.tdiv l.num ≤ 1600000000 by omega) q0 (by omega)
  omega
theorem numK_le {ls : List Lk} (h : LkTo ls ls.length) (hD : 1 ≤ denK ls ls.length) (hD2 : denK ls ls.length ≤ 1600000000) : ∀ {k : Nat}, k ≤ ls.length → 0 ≤ numK ls k ∧ numK ls k ≤ k * 1152000000000000000
  | 0, _ => by simp [numK]
  | k + 1, hk => by
    have hlt : k < ls.length := by omega
    obtain ⟨d1, d2⟩ := numK_le h hD hD2 (k := k) (by omega)
    obtain ⟨_, _, _, p1, p2⟩ := part_le hD hD2 (h ls[k] (by rw [List.take_length]; exact List.getElem_mem hlt))
    rw [numK_succ hlt]
    unfold stepN
    generalize ls[k].slack * 3600 * ls[k].den * (denK ls ls.length).tdiv ls[k].num = z at *
    constructor
    · omega
    · push_cast; omega
theorem new_bad {f : Fc} (h : fcB f = false) : CLe (.tup [.agg [I 0, I 0, .val (.slice none 0 0), I 0, I 0, I 0], B false]) (rNew f) := by
  unfold rNew; rw [if_neg (by simp [h])]
  exact .tup _ _ (.cons _ _ _ _ (.agg _ _ (.cons _ _ _ _ (.refl _) (.cons _ _ _ _ (.refl _) (.cons _ _ _ _ (.nil 3) (.cons _ _ _ _ (.refl _) (.cons _ _ _ _ (.refl _) (.cons _ _ _ _ (.refl _) .nil))))))) (.cons _ _ _ _ (.refl _) .nil))
theorem lkto_all {ls : List Lk} (h : LkTo ls ls.length) : ls.all lkB = true := by
  rw [List.all_eq_true]
  intro x hx
  exact h x (by rw [List.take_length]; exact hx)
theorem sNewFace (f : Fc) (hl : f.links.length ≤ 1000000) : SC Tryz.prog 36 [cF f] (rNew f) := by
  refine law_dial_newFace _ _ (by simp) ?_
  (repeat' (first | ((first | with_reducible refine st_skip ?_ | with_reducible refine st_exit ?_); (try simp only [seqQ, blockQ, loopQ, forQ, whileQ, reduceIte, Nat.reduceEqDiff])) | (with_reducible refine st_ret ?_; ((try simp only [seqQ, blockQ, loopQ, forQ, whileQ]); first | (with_reducible refine retM_ret ?_) | refine retQ_ret ?_; simp)) | refine st_seq ?_ | refine st_block ?_ | ((first | refine st_reg ?_ | refine buildP_own ?_ | refine callP_b (sIsSpan f.lo f.hi (-3600) 3600) rfl ?_ | refine callP_b (sWithin (-10000) 10000 [f.weight] (by simp)) rfl ?_ | refine callP_b (sWithin 0 10000 [f.friction] (by simp)) rfl ?_) <;> (simp -dsimp; (repeat (simp -dsimp (disch := (first | omega | assumption | (refine Bool.eq_false_iff.1 ?_; assumption))) only [wrap_in, if_pos, if_neg]; (try simp -dsimp))))) | ((first | refine guardP_of (fun hc => ?_) (fun hc => ?_) | refine st_cond rfl (fun hc => ?_) (fun hc => ?_)) <;> (try simp only [decide_eq_true_eq, decide_eq_false_iff_not, Bool.true_eq_false, Bool.false_eq_true, bne_iff_ne, ne_eq, bne_eq_false_iff_eq, beq_iff_eq, beq_eq_false_iff_ne, Bool.not_eq_true, Bool.not_eq_false, Bool.not_eq_eq_eq_not, Bool.not_true, Bool.not_false, Decidable.not_not] at hc) <;> (try (exfalso; first | omega | exact bool_tf hc (by assumption) | exact bool_ft hc (by assumption) | exact absurd (by assumption) hc)) <;> (first | with_reducible show STri _ _ _ _ _ _ | (simp -dsimp [hc]; (repeat (simp -dsimp (disch := (first | omega | assumption | (refine Bool.eq_false_iff.1 ?_; assumption))) only [wrap_in, if_pos, if_neg]; (try simp -dsimp [hc]))))))))
  · rename_i h1 _ _ h2 _ _ h3
    exact new_bad (by simp only [allIn, List.all_cons, List.all_nil, Bool.and_true] at hc; simp [fcB, hc])
  · rename_i h1 _ _ h2 _ _ h3
    have hsp : spanB (-3600) 3600 f.lo f.hi = true := by assumption
    have hl4 : f.links.length ≤ 4 := by omega
    have hw : inB (-10000) 10000 f.weight = true := by
      have : allIn (-10000) 10000 [f.weight] = true := by assumption
      simpa [allIn] using this
    have hf : inB 0 10000 f.friction = true := by
      have : allIn 0 10000 [f.friction] = true := by assumption
      simpa [allIn] using this
    clear h1 h2 h3
    refine st_for [1, 2] f.links.length (fun k T H => LkTo f.links k ∧ T = [(1, .ptr 1 0), (2, .ptr 2 0), (4, .c (I (denK f.links k))), (36, .c (.sl 3 (f.links.map rowL))), (37, .c (I f.links.length)), (38, .c (I k))] ∧
      H = [(1, .box 54 [.c (I f.lo), .c (I f.hi), .c (.sl 3 (f.links.map rowL)), .c (I f.weight), .c (I f.friction)]), (2, .box 94 [.c (I 0), .c (I 0), .c (.val (.slice none 0 0)), .c (I 0), .c (I 0), .c (I 0)])]) (by simp) ⟨by simp [LkTo], by simp [denK], by simp⟩ ?_
    rintro k T H hk ⟨ht, rfl, rfl⟩
    by_cases hlt : k < f.links.length
    · by_cases hv : lkB f.links[k] = true
      · obtain ⟨d1, d2⟩ := den_le (by omega) hk ht
        obtain ⟨_, ⟨n1, n2⟩, _⟩ := lk_spec hv
        obtain ⟨s1, s2, s3, s4⟩ := stepD_le d1 d2 n1 n2
        have hg := gcd_pos' (d := denK f.links k) n1
        have hne : ¬ (Int.gcd (denK f.links k) f.links[k].num : Int) = 0 := by omega
        have hw1 : IntKind.i64.wrap ((denK f.links k).tdiv (Int.gcd (denK f.links k) f.links[k].num)) = (denK f.links k).tdiv (Int.gcd (denK f.links k) f.links[k].num) := wrap_in _ (by omega) (by omega)
        have hw2 : IntKind.i64.wrap ((denK f.links k).tdiv (Int.gcd (denK f.links k) f.links[k].num) * f.links[k].num) = stepD (denK f.links k) f.links[k] := wrap_in _ (by unfold stepD at s1; omega) (by unfold stepD at s2; omega)
        (repeat' (first | ((first | with_reducible refine st_skip ?_ | with_reducible refine st_exit ?_); (try simp only [seqQ, blockQ, loopQ, forQ, whileQ, reduceIte, Nat.reduceEqDiff])) | (with_reducible refine st_ret ?_; ((try simp only [seqQ, blockQ, loopQ, forQ, whileQ]); first | (with_reducible refine retM_ret ?_) | refine retQ_ret ?_; simp [hlt, hv, hne, hw1, hw2])) | refine st_seq ?_ | refine st_block ?_ | ((first | refine st_reg ?_ | refine buildP_own ?_ | refine callP_b (sIsLink f.links[k]) rfl ?_ | refine callP_b (sGcd (denK f.links k) f.links[k].num (by omega) (by omega)) rfl ?_) <;> (simp -dsimp [hlt, hv, hne, hw1, hw2]; (repeat (simp -dsimp (disch := (first | omega | assumption | (refine Bool.eq_false_iff.1 ?_; assumption))) only [wrap_in, if_pos, if_neg]; (try simp -dsimp [hlt, hv, hne, hw1, hw2]))))) | ((first | refine guardP_of (fun hc => ?_) (fun hc => ?_) | refine st_cond rfl (fun hc => ?_) (fun hc => ?_)) <;> (try simp only [decide_eq_true_eq, decide_eq_false_iff_not, Bool.true_eq_false, Bool.false_eq_true, bne_iff_ne, ne_eq, bne_eq_false_iff_eq, beq_iff_eq, beq_eq_false_iff_ne, Bool.not_eq_true, Bool.not_eq_false, Bool.not_eq_eq_eq_not, Bool.not_true, Bool.not_false, Decidable.not_not] at hc) <;> (try (exfalso; first | omega | exact bool_tf hc (by assumption) | exact bool_ft hc (by assumption) | exact absurd (by assumption) hc)) <;> (first | with_reducible show STri _ _ _ _ _ _ | (simp -dsimp [hlt, hv, hne, hw1, hw2, hc]; (repeat (simp -dsimp (disch := (first | omega | assumption | (refine Bool.eq_false_iff.1 ?_; assumption))) only [wrap_in, if_pos, if_neg]; (try simp -dsimp [hlt, hv, hne, hw1, hw2, hc]))))))))
        exact ⟨hlt, by simp, lk_succ hlt ht hv, by rw [denK_succ hlt]; simp, by simp⟩
      · (repeat' (first | ((first | with_reducible refine st_skip ?_ | with_reducible refine st_exit ?_); (try simp only [seqQ, blockQ, loopQ, forQ, whileQ, reduceIte, Nat.reduceEqDiff])) | (with_reducible refine st_ret ?_; ((try simp only [seqQ, blockQ, loopQ, forQ, whileQ]); first | (with_reducible refine retM_ret ?_) | refine retQ_ret ?_; simp [hlt, hv])) | refine st_seq ?_ | refine st_block ?_ | ((first | refine st_reg ?_ | refine buildP_own ?_ | refine callP_b (sIsLink f.links[k]) rfl ?_) <;> (simp -dsimp [hlt, hv]; (repeat (simp -dsimp (disch := (first | omega | assumption | (refine Bool.eq_false_iff.1 ?_; assumption))) only [wrap_in, if_pos, if_neg]; (try simp -dsimp [hlt, hv]))))) | ((first | refine guardP_of (fun hc => ?_) (fun hc => ?_) | refine st_cond rfl (fun hc => ?_) (fun hc => ?_)) <;> (try simp only [decide_eq_true_eq, decide_eq_false_iff_not, Bool.true_eq_false, Bool.false_eq_true, bne_iff_ne, ne_eq, bne_eq_false_iff_eq, beq_iff_eq, beq_eq_false_iff_ne, Bool.not_eq_true, Bool.not_eq_false, Bool.not_eq_eq_eq_not, Bool.not_true, Bool.not_false, Decidable.not_not] at hc) <;> (try (exfalso; first | omega | exact bool_tf hc (by assumption) | exact bool_ft hc (by assumption) | exact absurd (by assumption) hc)) <;> (first | with_reducible show STri _ _ _ _ _ _ | (simp -dsimp [hlt, hv, hc]; (repeat (simp -dsimp (disch := (first | omega | assumption | (refine Bool.eq_false_iff.1 ?_; assumption))) only [wrap_in, if_pos, if_neg]; (try simp -dsimp [hlt, hv, hc]))))))))
        refine new_bad ?_
        have : f.links.all lkB = false := by
          rw [Bool.eq_false_iff]
          intro h
          rw [List.all_eq_true] at h
          exact hv (h _ (List.getElem_mem hlt))
        simp [fcB, this]
    · have : k = f.links.length := by omega
      subst this
      obtain ⟨D1, D2⟩ := den_le hl4 (Nat.le_refl _) ht
      (repeat' (first | ((first | with_reducible refine st_skip ?_ | with_reducible refine st_exit ?_); (try simp only [seqQ, blockQ, loopQ, forQ, whileQ, reduceIte, Nat.reduceEqDiff])) | (with_reducible refine st_ret ?_; ((try simp only [seqQ, blockQ, loopQ, forQ, whileQ]); first | (with_reducible refine retM_ret ?_) | refine retQ_ret ?_; simp)) | refine st_seq ?_ | refine st_block ?_ | ((first | refine st_reg ?_ | refine buildP_own ?_) <;> (simp -dsimp; (repeat (simp -dsimp (disch := (first | omega | assumption | (refine Bool.eq_false_iff.1 ?_; assumption))) only [wrap_in, if_pos, if_neg]; (try simp -dsimp))))) | ((first | refine guardP_of (fun hc => ?_) (fun hc => ?_) | refine st_cond rfl (fun hc => ?_) (fun hc => ?_)) <;> (try simp only [decide_eq_true_eq, decide_eq_false_iff_not, Bool.true_eq_false, Bool.false_eq_true, bne_iff_ne, ne_eq, bne_eq_false_iff_eq, beq_iff_eq, beq_eq_false_iff_ne, Bool.not_eq_true, Bool.not_eq_false, Bool.not_eq_eq_eq_not, Bool.not_true, Bool.not_false, Decidable.not_not] at hc) <;> (try (exfalso; first | omega | exact bool_tf hc (by assumption) | exact bool_ft hc (by assumption) | exact absurd (by assumption) hc)) <;> (first | with_reducible show STri _ _ _ _ _ _ | (simp -dsimp [hc]; (repeat (simp -dsimp (disch := (first | omega | assumption | (refine Bool.eq_false_iff.1 ?_; assumption))) only [wrap_in, if_pos, if_neg]; (try simp -dsimp [hc]))))))))
      refine st_for [1, 2] f.links.length (fun k T H => T = [(1, .ptr 1 0), (2, .ptr 2 0), (4, .c (I (denK f.links f.links.length))), (7, .c (I (numK f.links k))), (59, .c (.sl 3 (f.links.map rowL))), (60, .c (I f.links.length)), (61, .c (I k))] ∧
        H = [(1, .box 54 [.c (I f.lo), .c (I f.hi), .c (.sl 3 (f.links.map rowL)), .c (I f.weight), .c (I f.friction)]), (2, .box 94 [.c (I 0), .c (I 0), .c (.val (.slice none 0 0)), .c (I 0), .c (I 0), .c (I 0)])]) (by simp) ⟨by simp [numK], by simp⟩ ?_
      rintro k T H hk ⟨rfl, rfl⟩
      by_cases hlt : k < f.links.length
      · have hv : lkB f.links[k] = true := ht _ (by rw [List.take_length]; exact List.getElem_mem hlt)
        obtain ⟨_, ⟨n1, n2⟩, _⟩ := lk_spec hv
        obtain ⟨⟨p1, p2⟩, ⟨p3, p4⟩, ⟨p5, p6⟩, p7, p8⟩ := part_le D1 D2 hv
        obtain ⟨m1, m2⟩ := numK_le ht D1 D2 hk
        have hne : ¬ f.links[k].num = 0 := by omega
        have hm : (k : Int) ≤ 3 := by omega
        have hw1 : IntKind.i64.wrap (f.links[k].slack * 3600) = f.links[k].slack * 3600 := wrap_in _ (by omega) (by omega)
        have hw2 : IntKind.i64.wrap (f.links[k].slack * 3600 * f.links[k].den) = f.links[k].slack * 3600 * f.links[k].den := wrap_in _ (by omega) (by omega)
        have hw3 : IntKind.i64.wrap ((denK f.links f.links.length).tdiv f.links[k].num) = (denK f.links f.links.length).tdiv f.links[k].num := wrap_in _ (by omega) (by omega)
        have hw4 : IntKind.i64.wrap (f.links[k].slack * 3600 * f.links[k].den * (denK f.links f.links.length).tdiv f.links[k].num) = f.links[k].slack * 3600 * f.links[k].den * (denK f.links f.links.length).tdiv f.links[k].num := wrap_in _ (by omega) (by omega)
        have hw5 : IntKind.i64.wrap (numK f.links k + f.links[k].slack * 3600 * f.links[k].den * (denK f.links f.links.length).tdiv f.links[k].num) = stepN (denK f.links f.links.length) (numK f.links k) f.links[k] := wrap_in _ (by omega) (by omega)
        (repeat' (first | ((first | with_reducible refine st_skip ?_ | with_reducible refine st_exit ?_); (try simp only [seqQ, blockQ, loopQ, forQ, whileQ, reduceIte, Nat.reduceEqDiff])) | (with_reducible refine st_ret ?_; ((try simp only [seqQ, blockQ, loopQ, forQ, whileQ]); first | (with_reducible refine retM_ret ?_) | refine retQ_ret ?_; simp [hlt, hne, hw1, hw2, hw3, hw4, hw5])) | refine st_seq ?_ | refine st_block ?_ | ((first | refine st_reg ?_ | refine buildP_own ?_) <;> (simp -dsimp [hlt, hne, hw1, hw2, hw3, hw4, hw5]; (repeat (simp -dsimp (disch := (first | omega | assumption | (refine Bool.eq_false_iff.1 ?_; assumption))) only [wrap_in, if_pos, if_neg]; (try simp -dsimp [hlt, hne, hw1, hw2, hw3, hw4, hw5]))))) | ((first | refine guardP_of (fun hc => ?_) (fun hc => ?_) | refine st_cond rfl (fun hc => ?_) (fun hc => ?_)) <;> (try simp only [decide_eq_true_eq, decide_eq_false_iff_not, Bool.true_eq_false, Bool.false_eq_true, bne_iff_ne, ne_eq, bne_eq_false_iff_eq, beq_iff_eq, beq_eq_false_iff_ne, Bool.not_eq_true, Bool.not_eq_false, Bool.not_eq_eq_eq_not, Bool.not_true, Bool.not_false, Decidable.not_not] at hc) <;> (try (exfalso; first | omega | exact bool_tf hc (by assumption) | exact bool_ft hc (by assumption) | exact absurd (by assumption) hc)) <;> (first | with_reducible show STri _ _ _ _ _ _ | (simp -dsimp [hlt, hne, hw1, hw2, hw3, hw4, hw5, hc]; (repeat (simp -dsimp (disch := (first | omega | assumption | (refine Bool.eq_false_iff.1 ?_; assumption))) only [wrap_in, if_pos, if_neg]; (try simp -dsimp [hlt, hne, hw1, hw2, hw3, hw4, hw5, hc]))))))))
        exact ⟨hlt, by simp, by rw [numK_succ hlt]; simp, by simp⟩
      · have : k = f.links.length := by omega
        subst this
        obtain ⟨m1, m2⟩ := numK_le ht D1 D2 hk
        have hm : (f.links.length : Int) ≤ 4 := by omega
        (repeat' (first | ((first | with_reducible refine st_skip ?_ | with_reducible refine st_exit ?_); (try simp only [seqQ, blockQ, loopQ, forQ, whileQ, reduceIte, Nat.reduceEqDiff])) | (with_reducible refine st_ret ?_; ((try simp only [seqQ, blockQ, loopQ, forQ, whileQ]); first | (with_reducible refine retM_ret ?_) | refine retQ_ret ?_; simp)) | refine st_seq ?_ | refine st_block ?_ | ((first | refine st_reg ?_ | refine buildP_own ?_ | refine callP_b (sOver (numK f.links f.links.length) (1000 * denK f.links f.links.length) (by omega) (by omega) (by omega) (by omega)) rfl ?_) <;> (simp -dsimp; (repeat (simp -dsimp (disch := (first | omega | assumption | (refine Bool.eq_false_iff.1 ?_; assumption))) only [wrap_in, if_pos, if_neg]; (try simp -dsimp))))) | ((first | refine guardP_of (fun hc => ?_) (fun hc => ?_) | refine st_cond rfl (fun hc => ?_) (fun hc => ?_)) <;> (try simp only [decide_eq_true_eq, decide_eq_false_iff_not, Bool.true_eq_false, Bool.false_eq_true, bne_iff_ne, ne_eq, bne_eq_false_iff_eq, beq_iff_eq, beq_eq_false_iff_ne, Bool.not_eq_true, Bool.not_eq_false, Bool.not_eq_eq_eq_not, Bool.not_true, Bool.not_false, Decidable.not_not] at hc) <;> (try (exfalso; first | omega | exact bool_tf hc (by assumption) | exact bool_ft hc (by assumption) | exact absurd (by assumption) hc)) <;> (first | with_reducible show STri _ _ _ _ _ _ | (simp -dsimp [hc]; (repeat (simp -dsimp (disch := (first | omega | assumption | (refine Bool.eq_false_iff.1 ?_; assumption))) only [wrap_in, if_pos, if_neg]; (try simp -dsimp [hc]))))))))
        refine CLe.of_eq ?_
        have hall := lkto_all ht
        unfold rNew
        rw [if_pos (by simp [fcB, hsp, hw, hf, hall, hl4])]
        rfl
  · exact new_bad (by
      have : allIn (-10000) 10000 [f.weight] = false := by assumption
      simp only [allIn, List.all_cons, List.all_nil, Bool.and_true] at this; simp [fcB, this])
  · exact new_bad (by
      have : ¬ f.links.length ≤ 4 := by omega
      simp [fcB, this])
  · exact new_bad (by
      have : spanB (-3600) 3600 f.lo f.hi = false := by assumption
      simp [fcB, this])
end Go.Proofs.YtnfggkopledpcaaGreat
/- Dial, V: works. -/
namespace Go.Proofs.YtnfggkopledpcaaGreat
open Go.RowKit
def fcOK (f : Fc) : Bool := fcB f && decide (slackI f.links ≤ 3600)
theorem sNewOk {f : Fc} (hl : f.links.length ≤ 1000000) (h : fcB f = true) : SC Tryz.prog 36 [cF f] (.tup [cX f (slackI f.links), B (decide (slackI f.links ≤ 3600))]) := by
  have := sNewFace f hl
  unfold rNew at this
  rwa [if_pos h] at this
theorem sNewNo {f : Fc} (hl : f.links.length ≤ 1000000) (h : ¬ fcB f = true) : SC Tryz.prog 36 [cF f] (.tup [cX .zero 0, B false]) := by
  have := sNewFace f hl
  unfold rNew at this
  rwa [if_neg h] at this
def rSlack (f : Fc) : CV := if fcOK f then .tup [I (slackI f.links), I 0] else .tup [I 0, I 2]
theorem sSlack (f : Fc) (hl : f.links.length ≤ 1000000) : SC Tryz.prog 17 [cF f] (rSlack f) := by
  refine law_dial_Slack _ _ (by simp) ?_
  by_cases h : fcB f = true
  · by_cases h2 : slackI f.links ≤ 3600
    · (repeat' (first | ((first | with_reducible refine st_skip ?_ | with_reducible refine st_exit ?_); (try simp only [seqQ, blockQ, loopQ, forQ, whileQ, reduceIte, Nat.reduceEqDiff])) | (with_reducible refine st_ret ?_; ((try simp only [seqQ, blockQ, loopQ, forQ, whileQ]); first | (with_reducible refine retM_ret ?_) | refine retQ_ret ?_; simp [h2])) | refine st_seq ?_ | refine st_block ?_ | ((first | refine st_reg ?_ | refine buildP_own ?_ | refine callP_b (sNewOk hl h) rfl ?_) <;> (simp -dsimp [h2]; (repeat (simp -dsimp (disch := (first | omega | assumption | (refine Bool.eq_false_iff.1 ?_; assumption))) only [wrap_in, if_pos, if_neg]; (try simp -dsimp [h2]))))) | ((first | refine guardP_of (fun hc => ?_) (fun hc => ?_) | refine st_cond rfl (fun hc => ?_) (fun hc => ?_)) <;> (try simp only [decide_eq_true_eq, decide_eq_false_iff_not, Bool.true_eq_false, Bool.false_eq_true, bne_iff_ne, ne_eq, bne_eq_false_iff_eq, beq_iff_eq, beq_eq_false_iff_ne, Bool.not_eq_true, Bool.not_eq_false, Bool.not_eq_eq_eq_not, Bool.not_true, Bool.not_false, Decidable.not_not] at hc) <;> (try (exfalso; first | omega | exact bool_tf hc (by assumption) | exact bool_ft hc (by assumption) | exact absurd (by assumption) hc)) <;> (first | with_reducible show STri _ _ _ _ _ _ | (simp -dsimp [h2, hc]; (repeat (simp -dsimp (disch := (first | omega | assumption | (refine Bool.eq_false_iff.1 ?_; assumption))) only [wrap_in, if_pos, if_neg]; (try simp -dsimp [h2, hc]))))))))
      all_goals (refine CLe.of_eq ?_; unfold rSlack; rw [if_pos (by simp [fcOK, h, h2])])
    · (repeat' (first | ((first | with_reducible refine st_skip ?_ | with_reducible refine st_exit ?_); (try simp only [seqQ, blockQ, loopQ, forQ, whileQ, reduceIte, Nat.reduceEqDiff])) | (with_reducible refine st_ret ?_; ((try simp only [seqQ, blockQ, loopQ, forQ, whileQ]); first | (with_reducible refine retM_ret ?_) | refine retQ_ret ?_; simp [h2])) | refine st_seq ?_ | refine st_block ?_ | ((first | refine st_reg ?_ | refine buildP_own ?_ | refine callP_b (sNewOk hl h) rfl ?_) <;> (simp -dsimp [h2]; (repeat (simp -dsimp (disch := (first | omega | assumption | (refine Bool.eq_false_iff.1 ?_; assumption))) only [wrap_in, if_pos, if_neg]; (try simp -dsimp [h2]))))) | ((first | refine guardP_of (fun hc => ?_) (fun hc => ?_) | refine st_cond rfl (fun hc => ?_) (fun hc => ?_)) <;> (try simp only [decide_eq_true_eq, decide_eq_false_iff_not, Bool.true_eq_false, Bool.false_eq_true, bne_iff_ne, ne_eq, bne_eq_false_iff_eq, beq_iff_eq, beq_eq_false_iff_ne, Bool.not_eq_true, Bool.not_eq_false, Bool.not_eq_eq_eq_not, Bool.not_true, Bool.not_false, Decidable.not_not] at hc) <;> (try (exfalso; first | omega | exact bool_tf hc (by assumption) | exact bool_ft hc (by assumption) | exact absurd (by assumption) hc)) <;> (first | with_reducible show STri _ _ _ _ _ _ | (simp -dsimp [h2, hc]; (repeat (simp -dsimp (disch := (first | omega | assumption | (refine Bool.eq_false_iff.1 ?_; assumption))) only [wrap_in, if_pos, if_neg]; (try simp -dsimp [h2, hc]))))))))
      all_goals (refine CLe.of_eq ?_; unfold rSlack; rw [if_neg (by simp [fcOK, h, h2])])
  · (repeat' (first | ((first | with_reducible refine st_skip ?_ | with_reducible refine st_exit ?_); (try simp only [seqQ, blockQ, loopQ, forQ, whileQ, reduceIte, Nat.reduceEqDiff])) | (with_reducible refine st_ret ?_; ((try simp only [seqQ, blockQ, loopQ, forQ, whileQ]); first | (with_reducible refine retM_ret ?_) | refine retQ_ret ?_; simp)) | refine st_seq ?_ | refine st_block ?_ | ((first | refine st_reg ?_ | refine buildP_own ?_ | refine callP_b (sNewNo hl h) rfl ?_) <;> (simp -dsimp; (repeat (simp -dsimp (disch := (first | omega | assumption | (refine Bool.eq_false_iff.1 ?_; assumption))) only [wrap_in, if_pos, if_neg]; (try simp -dsimp))))) | ((first | refine guardP_of (fun hc => ?_) (fun hc => ?_) | refine st_cond rfl (fun hc => ?_) (fun hc => ?_)) <;> (try simp only [decide_eq_true_eq, decide_eq_false_iff_not, Bool.true_eq_false, Bool.false_eq_true, bne_iff_ne, ne_eq, bne_eq_false_iff_eq, beq_iff_eq, beq_eq_false_iff_ne, Bool.not_eq_true, Bool.not_eq_false, Bool.not_eq_eq_eq_not, Bool.not_true, Bool.not_false, Decidable.not_not] at hc) <;> (try (exfalso; first | omega | exact bool_tf hc (by assumption) | exact bool_ft hc (by assumption) | exact absurd (by assumption) hc)) <;> (first | with_reducible show STri _ _ _ _ _ _ | (simp -dsimp [hc]; (repeat (simp -dsimp (disch := (first | omega | assumption | (refine Bool.eq_false_iff.1 ?_; assumption))) only [wrap_in, if_pos, if_neg]; (try simp -dsimp [hc]))))))))
    all_goals (refine CLe.of_eq ?_; unfold rSlack; rw [if_neg (by simp [fcOK, h])])
def slX (xs : List Fc) : CV := .sl 6 (xs.map fun f => rowX f (slackI f.links))
def cWorks (w : Dw) : CV := .agg [I w.jump, I w.elo, I w.ehi, slF w.faces, slX w.faces]
attribute [simp] slX cWorks
def Dw.zero : Dw := ⟨0, 0, 0, []⟩
def dwB (w : Dw) : Bool := inB 1 3600 w.jump && (3600 % w.jump == 0) && spanB (-3600) 3600 w.elo w.ehi && inB 1 8 w.faces.length && w.faces.all fcOK
def rWorks (w : Dw) : CV := if dwB w then .tup [cWorks w, I 0] else .tup [cWorks .zero, I 2]
theorem works_bad {w : Dw} (h : dwB w = false) : CLe (.tup [.agg [I 0, I 0, I 0, .val (.slice none 0 0), .val (.slice none 0 0)], I 2]) (rWorks w) := by
  unfold rWorks; rw [if_neg (by simp [h])]
  exact .tup _ _ (.cons _ _ _ _ (.agg _ _ (.cons _ _ _ _ (.refl _) (.cons _ _ _ _ (.refl _) (.cons _ _ _ _ (.refl _) (.cons _ _ _ _ (.nil 5) (.cons _ _ _ _ (.nil 6) .nil)))))) (.cons _ _ _ _ (.refl _) .nil))
def FcTo (fs : List Fc) (k : Nat) : Prop := ∀ f ∈ fs.take k, fcOK f = true
theorem fc_succ {fs : List Fc} {k : Nat} (hlt : k < fs.length) (h : FcTo fs k) (hc : fcOK fs[k] = true) : FcTo fs (k + 1) := fun x hx => by
  rw [List.take_succ_eq_append_getElem hlt, List.mem_append] at hx
  rcases hx with hx | hx
  · exact h x hx
  · simp at hx; rw [hx]; exact hc
structure DwLen (w : Dw) : Prop where
  n : w.faces.length ≤ 1000000
  l : ∀ f ∈ w.faces, f.links.length ≤ 1000000
def rowsX (fs : List Fc) (k : Nat) : List (List CV) := (fs.take k).map fun f => rowX f (slackI f.links)
theorem not_allOK {fs : List Fc} {k : Nat} (hlt : k < fs.length) (h : fcOK fs[k] = false) : fs.all fcOK = false := by
  rw [Bool.eq_false_iff]
  intro h2
  rw [List.all_eq_true] at h2
  rw [h2 _ (List.getElem_mem hlt)] at h; cases h
theorem allIn1 (a b n : Int) : allIn a b [n] = inB a b n := by simp [allIn]
theorem rowsX_len {fs : List Fc} {k : Nat} (h : k ≤ fs.length) : (rowsX fs k).length = k := by simp [rowsX]; omega
theorem rowsX_succ {fs : List Fc} {k : Nat} (h : k < fs.length) : rowsX fs (k + 1) = rowsX fs k ++ [rowX fs[k] (slackI fs[k].links)] := by
  unfold rowsX; rw [List.take_succ_eq_append_getElem h, List.map_append]; rfl
theorem sNewWorks (w : Dw) (hw : DwLen w) : SC Tryz.prog 48 [cDw w] (rWorks w) := by
  refine law_dial_newWorks _ _ (by simp) ?_
  have hn := hw.n
  by_cases hj : inB 1 3600 w.jump = true
  · have hj2 := hj
    simp only [inB, Bool.and_eq_true, decide_eq_true_eq] at hj2
    obtain ⟨j1, j2⟩ := hj2
    have hne : ¬ w.jump = 0 := by omega
    have ht : (3600 : Int).tmod w.jump = 3600 % w.jump := Int.tmod_eq_emod_of_nonneg (by omega)
    (repeat' (first | ((first | with_reducible refine st_skip ?_ | with_reducible refine st_exit ?_); (try simp only [seqQ, blockQ, loopQ, forQ, whileQ, reduceIte, Nat.reduceEqDiff])) | (with_reducible refine st_ret ?_; ((try simp only [seqQ, blockQ, loopQ, forQ, whileQ]); first | (with_reducible refine retM_ret ?_) | refine retQ_ret ?_; simp [hne, ht, hj, allIn1])) | refine st_seq ?_ | refine st_block ?_ | ((first | refine st_reg ?_ | refine buildP_own ?_ | refine callP_b (sWithin 1 3600 [w.jump] (by simp)) rfl ?_ | refine callP_b (sIsSpan w.elo w.ehi (-3600) 3600) rfl ?_ | refine callP_b (sWithin 1 8 [(w.faces.length : Int)] (by simp)) rfl ?_) <;> (simp -dsimp [hne, ht, hj, allIn1]; (repeat (simp -dsimp (disch := (first | omega | assumption | (refine Bool.eq_false_iff.1 ?_; assumption))) only [wrap_in, if_pos, if_neg]; (try simp -dsimp [hne, ht, hj, allIn1]))))) | ((first | refine guardP_of (fun hc => ?_) (fun hc => ?_) | refine st_cond rfl (fun hc => ?_) (fun hc => ?_)) <;> (try simp only [decide_eq_true_eq, decide_eq_false_iff_not, Bool.true_eq_false, Bool.false_eq_true, bne_iff_ne, ne_eq, bne_eq_false_iff_eq, beq_iff_eq, beq_eq_false_iff_ne, Bool.not_eq_true, Bool.not_eq_false, Bool.not_eq_eq_eq_not, Bool.not_true, Bool.not_false, Decidable.not_not] at hc) <;> (try (exfalso; first | omega | exact bool_tf hc (by assumption) | exact bool_ft hc (by assumption) | exact absurd (by assumption) hc)) <;> (first | with_reducible show STri _ _ _ _ _ _ | (simp -dsimp [hne, ht, hj, allIn1, hc]; (repeat (simp -dsimp (disch := (first | omega | assumption | (refine Bool.eq_false_iff.1 ?_; assumption))) only [wrap_in, if_pos, if_neg]; (try simp -dsimp [hne, ht, hj, allIn1, hc]))))))))
    · exact works_bad (by simp [dwB, *])
    · rename_i hd _ hs _ _
      have hsp : spanB (-3600) 3600 w.elo w.ehi = true := by assumption
      have hdv : 3600 % w.jump = 0 := by assumption
      refine st_nilB 2 4 200 94 6 rfl (by simp) rfl (by simp [newOK]) ?_
      refine st_for [2, 200] w.faces.length (fun k T H => FcTo w.faces k ∧ T = [(2, .ptr 2 0), (37, .c (.sl 5 (w.faces.map rowF))), (38, .c (I w.faces.length)), (39, .c (I k))] ∧
        H = [(2, .box 78 [.c (I w.jump), .c (I w.elo), .c (I w.ehi), .c (.sl 5 (w.faces.map rowF)), .own 200 k]), (200, .arr 94 6 (rowsX w.faces k))]) (by simp) ⟨by simp [FcTo], by simp, by simp [rowsX]⟩ ?_
      rintro k T H hk ⟨hto, rfl, rfl⟩
      have hlen := rowsX_len hk
      have hA : k + 1 ≤ 9223372036854775807 := by omega
      have hB : (k + 1) * 64 ≤ 140737488355328 := by omega
      by_cases hlt : k < w.faces.length
      · have hll := hw.l w.faces[k] (List.getElem_mem hlt)
        by_cases hv : fcB w.faces[k] = true
        · by_cases hs : slackI w.faces[k].links ≤ 3600
          · (repeat' (first | ((first | with_reducible refine st_skip ?_ | with_reducible refine st_exit ?_); (try simp only [seqQ, blockQ, loopQ, forQ, whileQ, reduceIte, Nat.reduceEqDiff])) | (with_reducible refine st_ret ?_; ((try simp only [seqQ, blockQ, loopQ, forQ, whileQ]); first | (with_reducible refine retM_ret ?_) | refine retQ_ret ?_; simp [hlt, hs, hlen, hA, hB])) | refine st_seq ?_ | refine st_block ?_ | ((first | refine st_reg ?_ | refine buildP_own ?_ | refine callP_b (sNewOk hll hv) rfl ?_) <;> (simp -dsimp [hlt, hs, hlen, hA, hB]; (repeat (simp -dsimp (disch := (first | omega | assumption | (refine Bool.eq_false_iff.1 ?_; assumption))) only [wrap_in, if_pos, if_neg]; (try simp -dsimp [hlt, hs, hlen, hA, hB]))))) | ((first | refine guardP_of (fun hc => ?_) (fun hc => ?_) | refine st_cond rfl (fun hc => ?_) (fun hc => ?_)) <;> (try simp only [decide_eq_true_eq, decide_eq_false_iff_not, Bool.true_eq_false, Bool.false_eq_true, bne_iff_ne, ne_eq, bne_eq_false_iff_eq, beq_iff_eq, beq_eq_false_iff_ne, Bool.not_eq_true, Bool.not_eq_false, Bool.not_eq_eq_eq_not, Bool.not_true, Bool.not_false, Decidable.not_not] at hc) <;> (try (exfalso; first | omega | exact bool_tf hc (by assumption) | exact bool_ft hc (by assumption) | exact absurd (by assumption) hc)) <;> (first | with_reducible show STri _ _ _ _ _ _ | (simp -dsimp [hlt, hs, hlen, hA, hB, hc]; (repeat (simp -dsimp (disch := (first | omega | assumption | (refine Bool.eq_false_iff.1 ?_; assumption))) only [wrap_in, if_pos, if_neg]; (try simp -dsimp [hlt, hs, hlen, hA, hB, hc]))))))))
            exact ⟨hlt, by simp, fc_succ hlt hto (by simp [fcOK, hv, hs]), by simp, by rw [rowsX_succ hlt]; simp⟩
          · (repeat' (first | ((first | with_reducible refine st_skip ?_ | with_reducible refine st_exit ?_); (try simp only [seqQ, blockQ, loopQ, forQ, whileQ, reduceIte, Nat.reduceEqDiff])) | (with_reducible refine st_ret ?_; ((try simp only [seqQ, blockQ, loopQ, forQ, whileQ]); first | (with_reducible refine retM_ret ?_) | refine retQ_ret ?_; simp [hlt, hs, hlen, hA, hB])) | refine st_seq ?_ | refine st_block ?_ | ((first | refine st_reg ?_ | refine buildP_own ?_ | refine callP_b (sNewOk hll hv) rfl ?_) <;> (simp -dsimp [hlt, hs, hlen, hA, hB]; (repeat (simp -dsimp (disch := (first | omega | assumption | (refine Bool.eq_false_iff.1 ?_; assumption))) only [wrap_in, if_pos, if_neg]; (try simp -dsimp [hlt, hs, hlen, hA, hB]))))) | ((first | refine guardP_of (fun hc => ?_) (fun hc => ?_) | refine st_cond rfl (fun hc => ?_) (fun hc => ?_)) <;> (try simp only [decide_eq_true_eq, decide_eq_false_iff_not, Bool.true_eq_false, Bool.false_eq_true, bne_iff_ne, ne_eq, bne_eq_false_iff_eq, beq_iff_eq, beq_eq_false_iff_ne, Bool.not_eq_true, Bool.not_eq_false, Bool.not_eq_eq_eq_not, Bool.not_true, Bool.not_false, Decidable.not_not] at hc) <;> (try (exfalso; first | omega | exact bool_tf hc (by assumption) | exact bool_ft hc (by assumption) | exact absurd (by assumption) hc)) <;> (first | with_reducible show STri _ _ _ _ _ _ | (simp -dsimp [hlt, hs, hlen, hA, hB, hc]; (repeat (simp -dsimp (disch := (first | omega | assumption | (refine Bool.eq_false_iff.1 ?_; assumption))) only [wrap_in, if_pos, if_neg]; (try simp -dsimp [hlt, hs, hlen, hA, hB, hc]))))))))
            refine works_bad ?_
            have := not_allOK hlt (show fcOK w.faces[k] = false by simp [fcOK, hs])
            simp [dwB, this]
        · (repeat' (first | ((first | with_reducible refine st_skip ?_ | with_reducible refine st_exit ?_); (try simp only [seqQ, blockQ, loopQ, forQ, whileQ, reduceIte, Nat.reduceEqDiff])) | (with_reducible refine st_ret ?_; ((try simp only [seqQ, blockQ, loopQ, forQ, whileQ]); first | (with_reducible refine retM_ret ?_) | refine retQ_ret ?_; simp [hlt, hlen, hA, hB])) | refine st_seq ?_ | refine st_block ?_ | ((first | refine st_reg ?_ | refine buildP_own ?_ | refine callP_b (sNewNo hll hv) rfl ?_) <;> (simp -dsimp [hlt, hlen, hA, hB]; (repeat (simp -dsimp (disch := (first | omega | assumption | (refine Bool.eq_false_iff.1 ?_; assumption))) only [wrap_in, if_pos, if_neg]; (try simp -dsimp [hlt, hlen, hA, hB]))))) | ((first | refine guardP_of (fun hc => ?_) (fun hc => ?_) | refine st_cond rfl (fun hc => ?_) (fun hc => ?_)) <;> (try simp only [decide_eq_true_eq, decide_eq_false_iff_not, Bool.true_eq_false, Bool.false_eq_true, bne_iff_ne, ne_eq, bne_eq_false_iff_eq, beq_iff_eq, beq_eq_false_iff_ne, Bool.not_eq_true, Bool.not_eq_false, Bool.not_eq_eq_eq_not, Bool.not_true, Bool.not_false, Decidable.not_not] at hc) <;> (try (exfalso; first | omega | exact bool_tf hc (by assumption) | exact bool_ft hc (by assumption) | exact absurd (by assumption) hc)) <;> (first | with_reducible show STri _ _ _ _ _ _ | (simp -dsimp [hlt, hlen, hA, hB, hc]; (repeat (simp -dsimp (disch := (first | omega | assumption | (refine Bool.eq_false_iff.1 ?_; assumption))) only [wrap_in, if_pos, if_neg]; (try simp -dsimp [hlt, hlen, hA, hB, hc]))))))))
          refine works_bad ?_
          have := not_allOK hlt (show fcOK w.faces[k] = false by simp [fcOK, hv])
          simp [dwB, this]
      · have : k = w.faces.length := by omega
        subst this
        (repeat' (first | ((first | with_reducible refine st_skip ?_ | with_reducible refine st_exit ?_); (try simp only [seqQ, blockQ, loopQ, forQ, whileQ, reduceIte, Nat.reduceEqDiff])) | (with_reducible refine st_ret ?_; ((try simp only [seqQ, blockQ, loopQ, forQ, whileQ]); first | (with_reducible refine retM_ret ?_) | refine retQ_ret ?_; simp [hlen])) | refine st_seq ?_ | refine st_block ?_ | ((first | refine st_reg ?_ | refine buildP_own ?_) <;> (simp -dsimp [hlen]; (repeat (simp -dsimp (disch := (first | omega | assumption | (refine Bool.eq_false_iff.1 ?_; assumption))) only [wrap_in, if_pos, if_neg]; (try simp -dsimp [hlen]))))) | ((first | refine guardP_of (fun hc => ?_) (fun hc => ?_) | refine st_cond rfl (fun hc => ?_) (fun hc => ?_)) <;> (try simp only [decide_eq_true_eq, decide_eq_false_iff_not, Bool.true_eq_false, Bool.false_eq_true, bne_iff_ne, ne_eq, bne_eq_false_iff_eq, beq_iff_eq, beq_eq_false_iff_ne, Bool.not_eq_true, Bool.not_eq_false, Bool.not_eq_eq_eq_not, Bool.not_true, Bool.not_false, Decidable.not_not] at hc) <;> (try (exfalso; first | omega | exact bool_tf hc (by assumption) | exact bool_ft hc (by assumption) | exact absurd (by assumption) hc)) <;> (first | with_reducible show STri _ _ _ _ _ _ | (simp -dsimp [hlen, hc]; (repeat (simp -dsimp (disch := (first | omega | assumption | (refine Bool.eq_false_iff.1 ?_; assumption))) only [wrap_in, if_pos, if_neg]; (try simp -dsimp [hlen, hc]))))))))
        refine CLe.of_eq ?_
        have hall : w.faces.all fcOK = true := by
          rw [List.all_eq_true]
          intro x hx
          exact hto x (by rw [List.take_length]; exact hx)
        have h8 : inB 1 8 w.faces.length = true := by assumption
        unfold rWorks
        rw [if_pos (by simp [dwB, hj, hsp, hdv, h8, hall])]
        simp [rowsX]
    · exact works_bad (by simp [dwB, *])
    · exact works_bad (by simp [dwB, *])
  · (repeat' (first | ((first | with_reducible refine st_skip ?_ | with_reducible refine st_exit ?_); (try simp only [seqQ, blockQ, loopQ, forQ, whileQ, reduceIte, Nat.reduceEqDiff])) | (with_reducible refine st_ret ?_; ((try simp only [seqQ, blockQ, loopQ, forQ, whileQ]); first | (with_reducible refine retM_ret ?_) | refine retQ_ret ?_; simp [hj, allIn1])) | refine st_seq ?_ | refine st_block ?_ | ((first | refine st_reg ?_ | refine buildP_own ?_ | refine callP_b (sWithin 1 3600 [w.jump] (by simp)) rfl ?_) <;> (simp -dsimp [hj, allIn1]; (repeat (simp -dsimp (disch := (first | omega | assumption | (refine Bool.eq_false_iff.1 ?_; assumption))) only [wrap_in, if_pos, if_neg]; (try simp -dsimp [hj, allIn1]))))) | ((first | refine guardP_of (fun hc => ?_) (fun hc => ?_) | refine st_cond rfl (fun hc => ?_) (fun hc => ?_)) <;> (try simp only [decide_eq_true_eq, decide_eq_false_iff_not, Bool.true_eq_false, Bool.false_eq_true, bne_iff_ne, ne_eq, bne_eq_false_iff_eq, beq_iff_eq, beq_eq_false_iff_ne, Bool.not_eq_true, Bool.not_eq_false, Bool.not_eq_eq_eq_not, Bool.not_true, Bool.not_false, Decidable.not_not] at hc) <;> (try (exfalso; first | omega | exact bool_tf hc (by assumption) | exact bool_ft hc (by assumption) | exact absurd (by assumption) hc)) <;> (first | with_reducible show STri _ _ _ _ _ _ | (simp -dsimp [hj, allIn1, hc]; (repeat (simp -dsimp (disch := (first | omega | assumption | (refine Bool.eq_false_iff.1 ?_; assumption))) only [wrap_in, if_pos, if_neg]; (try simp -dsimp [hj, allIn1, hc]))))))))
    exact works_bad (by simp [dwB, *])
theorem sWorksOk {w : Dw} (hw : DwLen w) (h : dwB w = true) : SC Tryz.prog 48 [cDw w] (.tup [cWorks w, I 0]) := by
  have := sNewWorks w hw
  unfold rWorks at this
  rwa [if_pos h] at this
theorem sWorksNo {w : Dw} (hw : DwLen w) (h : ¬ dwB w = true) : SC Tryz.prog 48 [cDw w] (.tup [cWorks .zero, I 2]) := by
  have := sNewWorks w hw
  unfold rWorks at this
  rwa [if_neg h] at this
end Go.Proofs.YtnfggkopledpcaaGreat
/- Dial, VI: looks; where hands are driven to. -/
namespace Go.Proofs.YtnfggkopledpcaaGreat
open Go.RowKit
def rowW (w : Dw) : List CV := [I w.jump, I w.elo, I w.ehi, slF w.faces, slX w.faces]
attribute [simp] rowW
theorem sDriven (w : Dw) (lo hi : Int) : SC Tryz.prog 29 [cWorks w, cS lo hi] (.fn 51 [] [.ref [I lo, I hi], .ref (rowW w)]) := by
  refine law_dial_works_driven _ _ (by simp) ?_
  (repeat' (first | ((first | with_reducible refine st_skip ?_ | with_reducible refine st_exit ?_); (try simp only [seqQ, blockQ, loopQ, forQ, whileQ, reduceIte, Nat.reduceEqDiff])) | (with_reducible refine st_ret ?_; ((try simp only [seqQ, blockQ, loopQ, forQ, whileQ]); first | (with_reducible refine retM_ret ?_) | refine retQ_ret ?_; simp)) | refine st_seq ?_ | refine st_block ?_ | ((first | refine st_reg ?_ | refine buildP_own ?_) <;> (simp -dsimp; (repeat (simp -dsimp (disch := (first | omega | assumption | (refine Bool.eq_false_iff.1 ?_; assumption))) only [wrap_in, if_pos, if_neg]; (try simp -dsimp))))) | ((first | refine guardP_of (fun hc => ?_) (fun hc => ?_) | refine st_cond rfl (fun hc => ?_) (fun hc => ?_)) <;> (try simp only [decide_eq_true_eq, decide_eq_false_iff_not, Bool.true_eq_false, Bool.false_eq_true, bne_iff_ne, ne_eq, bne_eq_false_iff_eq, beq_iff_eq, beq_eq_false_iff_ne, Bool.not_eq_true, Bool.not_eq_false, Bool.not_eq_eq_eq_not, Bool.not_true, Bool.not_false, Decidable.not_not] at hc) <;> (try (exfalso; first | omega | exact bool_tf hc (by assumption) | exact bool_ft hc (by assumption) | exact absurd (by assumption) hc)) <;> (first | with_reducible show STri _ _ _ _ _ _ | (simp -dsimp [hc]; (repeat (simp -dsimp (disch := (first | omega | assumption | (refine Bool.eq_false_iff.1 ?_; assumption))) only [wrap_in, if_pos, if_neg]; (try simp -dsimp [hc]))))))))
  exact .refl _
def drAt (w : Dw) (lo : Int) (k : Nat) : Int := downI (lo + w.elo) w.jump + k * w.jump
def drN (w : Dw) (lo hi : Int) : Nat := ((hi + w.ehi - downI (lo + w.elo) w.jump) / w.jump + 1).toNat
def drL (w : Dw) (lo hi : Int) : List Int := (List.range (drN w lo hi)).map (drAt w lo)
theorem dr_lt {w : Dw} {lo hi : Int} {k : Nat} (h : 0 < w.jump) : k < drN w lo hi ↔ drAt w lo k ≤ hi + w.ehi := by
  unfold drN drAt
  have := Int.le_ediv_iff_mul_le (a := (k : Int)) (b := hi + w.ehi - downI (lo + w.elo) w.jump) h
  constructor
  · intro h1
    have := this.1 (by omega)
    omega
  · intro h1
    have := this.2 (by omega)
    omega
theorem dr_succ {w : Dw} {lo : Int} {k : Nat} : drAt w lo (k + 1) = drAt w lo k + w.jump := by
  unfold drAt
  rw [Int.natCast_add, Int.add_mul]; omega
structure DwSm (w : Dw) : Prop where
  a : 1 ≤ w.jump
  b : w.jump ≤ 3600
  c : -3600 ≤ w.elo
  d : w.elo ≤ 3600
  e : -3600 ≤ w.ehi
  f : w.ehi ≤ 3600
  g : w.elo ≤ w.ehi
theorem down_le {n b : Int} (h : 0 < b) : n - b < downI n b ∧ downI n b ≤ n := by
  unfold downI
  have h5 := Int.emod_nonneg n (show b ≠ 0 by omega)
  have h6 := Int.emod_lt_of_pos n h
  omega
theorem iDriven (w : Dw) (lo hi : Int) (hw : DwSm w) (h1 : -10000000000 ≤ lo) (h2 : lo ≤ 10000000000) (h3 : -10000000000 ≤ hi) (h4 : hi ≤ 10000000000) :
    IterL Tryz.prog 51 2000 [] [.ref [I lo, I hi], .ref (rowW w)] ((drL w lo hi).map rowI) := by
  have j1 := hw.a
  have j2 := hw.b
  have e1 := hw.c
  have e2 := hw.d
  have e3 := hw.e
  have e4 := hw.f
  obtain ⟨d1, d2⟩ := down_le (n := lo + w.elo) (b := w.jump) (by omega)
  refine ilaw_dial_works_driven_1 2000 _ _ _ (by omega) (by simp) (fun Iv A G id hG hY => ?_)
  have hlen : ((drL w lo hi).map rowI).length = drN w lo hi := by simp [drL]
  (repeat' (first | ((first | with_reducible refine st_skip ?_ | with_reducible refine st_exit ?_); (try simp only [seqQ, blockQ, loopQ, forQ, whileQ, reduceIte, Nat.reduceEqDiff])) | (with_reducible refine st_ret ?_; ((try simp only [seqQ, blockQ, loopQ, forQ, whileQ]); first | (with_reducible refine retM_ret ?_) | refine retQ_ret ?_; simp)) | refine st_seq ?_ | refine st_block ?_ | ((first | refine st_reg ?_ | refine buildP_own ?_ | refine callP_b (sDown (lo + w.elo) w.jump (by omega) (by omega) (by omega) (by omega)) rfl ?_) <;> (simp -dsimp; (repeat (simp -dsimp (disch := (first | omega | assumption | (refine Bool.eq_false_iff.1 ?_; assumption))) only [wrap_in, if_pos, if_neg]; (try simp -dsimp))))) | ((first | refine guardP_of (fun hc => ?_) (fun hc => ?_) | refine st_cond rfl (fun hc => ?_) (fun hc => ?_)) <;> (try simp only [decide_eq_true_eq, decide_eq_false_iff_not, Bool.true_eq_false, Bool.false_eq_true, bne_iff_ne, ne_eq, bne_eq_false_iff_eq, beq_iff_eq, beq_eq_false_iff_ne, Bool.not_eq_true, Bool.not_eq_false, Bool.not_eq_eq_eq_not, Bool.not_true, Bool.not_false, Decidable.not_not] at hc) <;> (try (exfalso; first | omega | exact bool_tf hc (by assumption) | exact bool_ft hc (by assumption) | exact absurd (by assumption) hc)) <;> (first | with_reducible show STri _ _ _ _ _ _ | (simp -dsimp [hc]; (repeat (simp -dsimp (disch := (first | omega | assumption | (refine Bool.eq_false_iff.1 ?_; assumption))) only [wrap_in, if_pos, if_neg]; (try simp -dsimp [hc]))))))))
  refine st_for [1000002000] (drN w lo hi) (fun k T H => drAt w lo k ≤ 20000000000 ∧ -20000000000 ≤ drAt w lo k ∧ T = [(0, .yl id), (1, .c (.ref [I lo, I hi])), (2, .c (.ref (rowW w))), (4, .c (I (drAt w lo k)))] ∧ H = [(1000002000, .gh k false)]) (by simp) ⟨by simp [drAt]; omega, by simp [drAt]; omega, by simp [drAt], by simp⟩ ?_
  rintro k T H hk ⟨b1, b2, rfl, rfl⟩
  by_cases hlt : k < drN w lo hi
  · have hle := (dr_lt (by omega)).1 hlt
    have hrow : ((drL w lo hi).map rowI)[k]? = some [I (drAt w lo k)] := by simp [drL, hlt]
    (repeat' (first | ((first | with_reducible refine st_skip ?_ | with_reducible refine st_exit ?_); (try simp only [seqQ, blockQ, loopQ, forQ, whileQ, reduceIte, Nat.reduceEqDiff])) | (with_reducible refine st_ret ?_; ((try simp only [seqQ, blockQ, loopQ, forQ, whileQ]); first | (with_reducible refine retM_ret ?_) | refine retQ_ret ?_; simp [hle])) | refine st_seq ?_ | refine st_block ?_ | ((first | refine st_reg ?_ | ((with_reducible show callVP _ _ _ _ _ _ _); refine callV_yl (hY k _ hrow) [] (by first | rfl | simp) (fun j hj => by cases hj) rfl ?_ ?_) | refine buildP_own ?_) <;> (simp -dsimp [hle]; (repeat (simp -dsimp (disch := (first | omega | assumption | (refine Bool.eq_false_iff.1 ?_; assumption))) only [wrap_in, if_pos, if_neg]; (try simp -dsimp [hle]))))) | ((first | refine guardP_of (fun hc => ?_) (fun hc => ?_) | refine st_cond rfl (fun hc => ?_) (fun hc => ?_)) <;> (try simp only [decide_eq_true_eq, decide_eq_false_iff_not, Bool.true_eq_false, Bool.false_eq_true, bne_iff_ne, ne_eq, bne_eq_false_iff_eq, beq_iff_eq, beq_eq_false_iff_ne, Bool.not_eq_true, Bool.not_eq_false, Bool.not_eq_eq_eq_not, Bool.not_true, Bool.not_false, Decidable.not_not] at hc) <;> (try (exfalso; first | omega | exact bool_tf hc (by assumption) | exact bool_ft hc (by assumption) | exact absurd (by assumption) hc)) <;> (first | with_reducible show STri _ _ _ _ _ _ | (simp -dsimp [hle, hc]; (repeat (simp -dsimp (disch := (first | omega | assumption | (refine Bool.eq_false_iff.1 ?_; assumption))) only [wrap_in, if_pos, if_neg]; (try simp -dsimp [hle, hc]))))))))
    · exact ⟨hlt, by simp, by rw [dr_succ]; omega, by rw [dr_succ]; omega, by rw [dr_succ], by simp⟩
    · exact st_ret ⟨.inr rfl, k + 1, true, rfl, fun h => by cases h⟩
  · have hle : ¬ drAt w lo k ≤ hi + w.ehi := fun h => hlt ((dr_lt (by omega)).2 h)
    (repeat' (first | ((first | with_reducible refine st_skip ?_ | with_reducible refine st_exit ?_); (try simp only [seqQ, blockQ, loopQ, forQ, whileQ, reduceIte, Nat.reduceEqDiff])) | (with_reducible refine st_ret ?_; ((try simp only [seqQ, blockQ, loopQ, forQ, whileQ]); first | (with_reducible refine retM_ret ?_) | refine retQ_ret ?_; simp [hle])) | refine st_seq ?_ | refine st_block ?_ | ((first | refine st_reg ?_ | refine buildP_own ?_) <;> (simp -dsimp [hle]; (repeat (simp -dsimp (disch := (first | omega | assumption | (refine Bool.eq_false_iff.1 ?_; assumption))) only [wrap_in, if_pos, if_neg]; (try simp -dsimp [hle]))))) | ((first | refine guardP_of (fun hc => ?_) (fun hc => ?_) | refine st_cond rfl (fun hc => ?_) (fun hc => ?_)) <;> (try simp only [decide_eq_true_eq, decide_eq_false_iff_not, Bool.true_eq_false, Bool.false_eq_true, bne_iff_ne, ne_eq, bne_eq_false_iff_eq, beq_iff_eq, beq_eq_false_iff_ne, Bool.not_eq_true, Bool.not_eq_false, Bool.not_eq_eq_eq_not, Bool.not_true, Bool.not_false, Decidable.not_not] at hc) <;> (try (exfalso; first | omega | exact bool_tf hc (by assumption) | exact bool_ft hc (by assumption) | exact absurd (by assumption) hc)) <;> (first | with_reducible show STri _ _ _ _ _ _ | (simp -dsimp [hle, hc]; (repeat (simp -dsimp (disch := (first | omega | assumption | (refine Bool.eq_false_iff.1 ?_; assumption))) only [wrap_in, if_pos, if_neg]; (try simp -dsimp [hle, hc]))))))))
    exact ⟨.inl rfl, k, false, rfl, fun _ => by simp [drL]; omega⟩
structure Lo where
  (w : Dw) (f : Fc) (at' wlo whi : Int)
def cLook (k : Lo) : CV := .agg [I k.w.jump, I k.w.elo, I k.w.ehi, slF k.w.faces, slX k.w.faces, I k.f.lo, I k.f.hi, slL k.f.links, I k.f.weight, I k.f.friction, I (slackI k.f.links), I k.at', I k.wlo, I k.whi]
attribute [simp] cLook
def haL (k : Lo) : List (Int × Int) := (drL k.w k.at' k.at').map fun d => (handLo k.f (slackI k.f.links) d k.wlo, handHi k.f (slackI k.f.links) d k.wlo k.whi)
def rowP (x : Int × Int) : List CV := [cS x.1 x.2]
structure LoSm (k : Lo) : Prop where
  w : DwSm k.w
  f : FcSm k.f (slackI k.f.links)
  a : 0 ≤ k.at'
  b : k.at' ≤ 3155760000
  c : -10000 ≤ k.wlo
  d : k.wlo ≤ 10000
  e : -10000 ≤ k.whi
  g : k.whi ≤ 10000
theorem dr_bd {w : Dw} {lo hi : Int} (hw : DwSm w) {j : Nat} {d : Int} (h : (drL w lo hi)[j]? = some d) : lo - 7200 ≤ d ∧ d ≤ hi + 3600 := by
  unfold drL at h
  rw [List.getElem?_map, Option.map_eq_some_iff] at h
  obtain ⟨i, h1, rfl⟩ := h
  have hi := List.mem_range.1 (List.mem_of_getElem? h1)
  have j1 := hw.a
  have j2 := hw.b
  have e1 := hw.c
  have e4 := hw.f
  have h2 := (dr_lt (by omega)).1 hi
  obtain ⟨d1, d2⟩ := down_le (n := lo + w.elo) (b := w.jump) (by omega)
  have h3 : 0 ≤ (i : Int) * w.jump := Int.mul_nonneg (by omega) (by omega)
  unfold drAt at *
  omega
theorem iAll (k : Lo) (hk : LoSm k) : IterL Tryz.prog 44 1000 [cLook k] [] ((haL k).map rowP) := by
  refine ilaw_dial_look_all 1000 _ _ _ (by omega) (by simp) (fun Iv A G id hG hY => ?_)
  have hlen : ((haL k).map rowP).length = ((drL k.w k.at' k.at').map rowI).length := by simp [haL]
  (repeat' (first | ((first | with_reducible refine st_skip ?_ | with_reducible refine st_exit ?_); (try simp only [seqQ, blockQ, loopQ, forQ, whileQ, reduceIte, Nat.reduceEqDiff])) | (with_reducible refine st_ret ?_; ((try simp only [seqQ, blockQ, loopQ, forQ, whileQ]); first | (with_reducible refine retM_ret ?_) | refine retQ_ret ?_; simp)) | refine st_seq ?_ | refine st_block ?_ | ((first | refine st_reg ?_ | refine buildP_own ?_ | refine callP_b (sDriven k.w k.at' k.at') rfl ?_) <;> (simp -dsimp; (repeat (simp -dsimp (disch := (first | omega | assumption | (refine Bool.eq_false_iff.1 ?_; assumption))) only [wrap_in, if_pos, if_neg]; (try simp -dsimp))))) | ((first | refine guardP_of (fun hc => ?_) (fun hc => ?_) | refine st_cond rfl (fun hc => ?_) (fun hc => ?_)) <;> (try simp only [decide_eq_true_eq, decide_eq_false_iff_not, Bool.true_eq_false, Bool.false_eq_true, bne_iff_ne, ne_eq, bne_eq_false_iff_eq, beq_iff_eq, beq_eq_false_iff_ne, Bool.not_eq_true, Bool.not_eq_false, Bool.not_eq_eq_eq_not, Bool.not_true, Bool.not_false, Decidable.not_not] at hc) <;> (try (exfalso; first | omega | exact bool_tf hc (by assumption) | exact bool_ft hc (by assumption) | exact absurd (by assumption) hc)) <;> (first | with_reducible show STri _ _ _ _ _ _ | (simp -dsimp [hc]; (repeat (simp -dsimp (disch := (first | omega | assumption | (refine Bool.eq_false_iff.1 ?_; assumption))) only [wrap_in, if_pos, if_neg]; (try simp -dsimp [hc]))))))))
  have w1 := hk.a
  have w2 := hk.b
  refine st_range (iDriven k.w k.at' k.at' hk.w (by omega) (by omega) (by omega) (by omega)) [1000001000, 1002, 1003] [id] (fun j R => R = [(1000001000, .gh j false), (1002, .box 98 ([I k.w.jump, I k.w.elo, I k.w.ehi, slF k.w.faces, slX k.w.faces, I k.f.lo, I k.f.hi, slL k.f.links, I k.f.weight, I k.f.friction, I (slackI k.f.links), I k.at', I k.wlo, I k.whi].map .c)), (1003, .box 74 [.yl id])])
    rfl rfl rfl (by kernel_rfl) (by show (1000 : Nat) + 1000 ≤ 2000; decide) (fun j hj => by simp at hj; subst hj; exact hG) (by simp) (by simp) (by simp) (by simp) ?_ ?_
  · rintro j row R rfl hrow Iv1 G1 hGG hin
    obtain ⟨d, hd, rfl⟩ : ∃ d, (drL k.w k.at' k.at')[j]? = some d ∧ row = [I d] := by
      rw [List.getElem?_map, Option.map_eq_some_iff] at hrow
      obtain ⟨d, h1, h2⟩ := hrow
      exact ⟨d, h1, h2.symm⟩
    obtain ⟨b1, b2⟩ := dr_bd hk.w hd
    have hrow2 : ((haL k).map rowP)[j]? = some [cS (handLo k.f (slackI k.f.links) d k.wlo) (handHi k.f (slackI k.f.links) d k.wlo k.whi)] := by simp [haL, hd, rowP]
    have c1 := hk.c
    have c2 := hk.d
    have c3 := hk.e
    have c4 := hk.g
    (repeat' (first | ((first | with_reducible refine st_skip ?_ | with_reducible refine st_exit ?_); (try simp only [seqQ, blockQ, loopQ, forQ, whileQ, reduceIte, Nat.reduceEqDiff])) | (with_reducible refine st_ret ?_; ((try simp only [seqQ, blockQ, loopQ, forQ, whileQ]); first | (with_reducible refine retM_ret ?_) | refine retQ_ret ?_; simp)) | refine st_seq ?_ | refine st_block ?_ | ((first | refine st_reg ?_ | refine buildP_own ?_) <;> (simp -dsimp; (repeat (simp -dsimp (disch := (first | omega | assumption | (refine Bool.eq_false_iff.1 ?_; assumption))) only [wrap_in, if_pos, if_neg]; (try simp -dsimp))))) | ((first | refine guardP_of (fun hc => ?_) (fun hc => ?_) | refine st_cond rfl (fun hc => ?_) (fun hc => ?_)) <;> (try simp only [decide_eq_true_eq, decide_eq_false_iff_not, Bool.true_eq_false, Bool.false_eq_true, bne_iff_ne, ne_eq, bne_eq_false_iff_eq, beq_iff_eq, beq_eq_false_iff_ne, Bool.not_eq_true, Bool.not_eq_false, Bool.not_eq_eq_eq_not, Bool.not_true, Bool.not_false, Decidable.not_not] at hc) <;> (try (exfalso; first | omega | exact bool_tf hc (by assumption) | exact bool_ft hc (by assumption) | exact absurd (by assumption) hc)) <;> (first | with_reducible show STri _ _ _ _ _ _ | (simp -dsimp [hc]; (repeat (simp -dsimp (disch := (first | omega | assumption | (refine Bool.eq_false_iff.1 ?_; assumption))) only [wrap_in, if_pos, if_neg]; (try simp -dsimp [hc]))))))))
    refine ⟨rfl, fun Iv2 hin2 => ?_⟩
    (repeat' (first | ((first | with_reducible refine st_skip ?_ | with_reducible refine st_exit ?_); (try simp only [seqQ, blockQ, loopQ, forQ, whileQ, reduceIte, Nat.reduceEqDiff])) | (with_reducible refine st_ret ?_; ((try simp only [seqQ, blockQ, loopQ, forQ, whileQ]); first | (with_reducible refine retM_ret ?_) | refine retQ_ret ?_; simp)) | refine st_seq ?_ | refine st_block ?_ | ((first | refine st_reg ?_ | ((with_reducible show callVP _ _ _ _ _ _ _); refine callV_yl (hin2 id j _ hG (hY j _ hrow2) )  [id]  (by first | rfl | simp) ( fun i hi => by (simp at hi; subst hi; exact hG.imp fun v h => hGG _ _ h)) rfl ?_ ?_) | refine buildP_own ?_ | refine callP_b (sHands k.f (slackI k.f.links) d k.wlo k.whi hk.f (by omega) (by omega) (by omega) (by omega) (by omega) (by omega)) rfl ?_) <;> (simp -dsimp; (repeat (simp -dsimp (disch := (first | omega | assumption | (refine Bool.eq_false_iff.1 ?_; assumption))) only [wrap_in, if_pos, if_neg]; (try simp -dsimp))))) | ((first | refine guardP_of (fun hc => ?_) (fun hc => ?_) | refine st_cond rfl (fun hc => ?_) (fun hc => ?_)) <;> (try simp only [decide_eq_true_eq, decide_eq_false_iff_not, Bool.true_eq_false, Bool.false_eq_true, bne_iff_ne, ne_eq, bne_eq_false_iff_eq, beq_iff_eq, beq_eq_false_iff_ne, Bool.not_eq_true, Bool.not_eq_false, Bool.not_eq_eq_eq_not, Bool.not_true, Bool.not_false, Decidable.not_not] at hc) <;> (try (exfalso; first | omega | exact bool_tf hc (by assumption) | exact bool_ft hc (by assumption) | exact absurd (by assumption) hc)) <;> (first | with_reducible show STri _ _ _ _ _ _ | (simp -dsimp [hc]; (repeat (simp -dsimp (disch := (first | omega | assumption | (refine Bool.eq_false_iff.1 ?_; assumption))) only [wrap_in, if_pos, if_neg]; (try simp -dsimp [hc]))))))))
    · exact ⟨by simp, by simp, by simp⟩
    · exact st_ret ⟨by simp, by simp, .inr rfl, j + 1, true, rfl, fun h => by cases h⟩
  · rintro R rfl
    exact ⟨.inl rfl, _, false, rfl, fun _ => hlen.symm⟩
end Go.Proofs.YtnfggkopledpcaaGreat
/- Dial, VII: the least and the greatest; how far a dial is off. -/
namespace Go.Proofs.YtnfggkopledpcaaGreat
open Go.RowKit
def rowS (x : Int × Int) : List CV := [I x.1, I x.2]
def slS (l : List (Int × Int)) : CV := .sl 2 (l.map rowS)
attribute [simp] rowS slS rowP
def selK (b : Int × Int → Int × Int → Bool) (l : List (Int × Int)) (k : Nat) : Int × Int := ((l.take k).drop 1).foldl (fun m x => if b x m then x else m) (l.headD (0, 0))
theorem selK_one (b : Int × Int → Int × Int → Bool) {l : List (Int × Int)} (h : 0 < l.length) : selK b l 1 = l[0] := by
  cases l with
  | nil => simp at h
  | cons x xs => simp [selK]
theorem selK_succ (b : Int × Int → Int × Int → Bool) {l : List (Int × Int)} {k : Nat} (h1 : 1 ≤ k) (h : k < l.length) : selK b l (k + 1) = if b l[k] (selK b l k) then l[k] else selK b l k := by
  unfold selK
  rw [List.take_succ_eq_append_getElem h, List.drop_append_of_le_length (by simp; omega), List.foldl_append]
  rfl
theorem selK_mem (b : Int × Int → Int × Int → Bool) {l : List (Int × Int)} (h : 0 < l.length) : ∀ {k : Nat}, 1 ≤ k → k ≤ l.length → selK b l k ∈ l
  | 1, _, _ => by rw [selK_one b h]; exact List.getElem_mem _
  | k + 2, _, hk => by
    rw [selK_succ b (by omega) (by omega)]
    split
    · exact List.getElem_mem _
    · exact selK_mem b h (by omega) (by omega)
def minB (c : Int × Int → Int × Int → Int) (x m : Int × Int) : Bool := decide (c x m < 0)
def maxB (c : Int × Int → Int × Int → Int) (x m : Int × Int) : Bool := decide (c x m > 0)
theorem sMinFunc (l : List (Int × Int)) (f : FuncId) (fs cs : List CV) (c : Int × Int → Int × Int → Int) (h0 : 0 < l.length) (hl : l.length ≤ 1000000000) (he : Ent Tryz.prog f) (hp : ∀ x ∈ l, ∀ y ∈ l, SC Tryz.prog f (fs ++ [cS x.1 x.2, cS y.1 y.2] ++ cs) (I (c x y))) :
    SC Tryz.prog 61 [slS l, .fn f fs cs] (cS (selK (minB c) l l.length).1 (selK (minB c) l l.length).2) := by
  refine law_slices_MinFunc_api_Span_api_Span _ _ (by simp) ?_
  unfold slS
  (repeat' (first | ((first | with_reducible refine st_skip ?_ | with_reducible refine st_exit ?_); (try simp only [seqQ, blockQ, loopQ, forQ, whileQ, reduceIte, Nat.reduceEqDiff])) | (with_reducible refine st_ret ?_; ((try simp only [seqQ, blockQ, loopQ, forQ, whileQ]); first | (with_reducible refine retM_ret ?_) | refine retQ_ret ?_; simp [h0])) | refine st_seq ?_ | refine st_block ?_ | ((first | refine st_reg ?_ | refine buildP_own ?_) <;> (simp -dsimp [h0]; (repeat (simp -dsimp (disch := (first | omega | assumption | (refine Bool.eq_false_iff.1 ?_; assumption))) only [wrap_in, if_pos, if_neg]; (try simp -dsimp [h0]))))) | ((first | refine guardP_of (fun hc => ?_) (fun hc => ?_) | refine st_cond rfl (fun hc => ?_) (fun hc => ?_)) <;> (try simp only [decide_eq_true_eq, decide_eq_false_iff_not, Bool.true_eq_false, Bool.false_eq_true, bne_iff_ne, ne_eq, bne_eq_false_iff_eq, beq_iff_eq, beq_eq_false_iff_ne, Bool.not_eq_true, Bool.not_eq_false, Bool.not_eq_eq_eq_not, Bool.not_true, Bool.not_false, Decidable.not_not] at hc) <;> (try (exfalso; first | omega | exact bool_tf hc (by assumption) | exact bool_ft hc (by assumption) | exact absurd (by assumption) hc)) <;> (first | with_reducible show STri _ _ _ _ _ _ | (simp -dsimp [h0, hc]; (repeat (simp -dsimp (disch := (first | omega | assumption | (refine Bool.eq_false_iff.1 ?_; assumption))) only [wrap_in, if_pos, if_neg]; (try simp -dsimp [h0, hc]))))))))
  refine st_for [4, 5] l.length (fun k T H => k + 1 ≤ l.length ∧ T = [(0, .c (.sl 2 (l.map rowS))), (1, .c (.fn f fs cs)), (4, .ptr 4 0), (5, .ptr 5 0), (6, .c (I (k + 1)))] ∧ H = [(4, .box 23 [.c (I 0), .c (I 0)]), (5, .box 23 [.c (I (selK (minB c) l (k + 1)).1), .c (I (selK (minB c) l (k + 1)).2)])])
    (by simp) ⟨by omega, by simp, by simp [selK_one (minB c) h0]⟩ ?_
  rintro k T H hk ⟨hk1, rfl, rfl⟩
  by_cases hlt : k + 1 < l.length
  · have hlt2 : ((k : Int) + 1) < l.length := by omega
    have hm := selK_mem (minB c) h0 (k := k + 1) (by omega) (by omega)
    have hx : l[k + 1] ∈ l := List.getElem_mem hlt
    have hs := selK_succ (minB c) (k := k + 1) (by omega) hlt
    have htn : ((k : Int) + 1).toNat = k + 1 := by omega
    (repeat' (first | ((first | with_reducible refine st_skip ?_ | with_reducible refine st_exit ?_); (try simp only [seqQ, blockQ, loopQ, forQ, whileQ, reduceIte, Nat.reduceEqDiff])) | (with_reducible refine st_ret ?_; ((try simp only [seqQ, blockQ, loopQ, forQ, whileQ]); first | (with_reducible refine retM_ret ?_) | refine retQ_ret ?_; simp [hlt, hlt2, htn])) | refine st_seq ?_ | refine st_block ?_ | ((first | refine st_reg ?_ | ((with_reducible show callVP _ _ _ _ _ _ _); refine callV_b (by first | exact Ent.h (by assumption) | kernel_rfl) (hp _ hx _ hm) rfl ?_) | refine buildP_own ?_) <;> (simp -dsimp [hlt, hlt2, htn]; (repeat (simp -dsimp (disch := (first | omega | assumption | (refine Bool.eq_false_iff.1 ?_; assumption))) only [wrap_in, if_pos, if_neg]; (try simp -dsimp [hlt, hlt2, htn]))))) | ((first | refine guardP_of (fun hc => ?_) (fun hc => ?_) | refine st_cond rfl (fun hc => ?_) (fun hc => ?_)) <;> (try simp only [decide_eq_true_eq, decide_eq_false_iff_not, Bool.true_eq_false, Bool.false_eq_true, bne_iff_ne, ne_eq, bne_eq_false_iff_eq, beq_iff_eq, beq_eq_false_iff_ne, Bool.not_eq_true, Bool.not_eq_false, Bool.not_eq_eq_eq_not, Bool.not_true, Bool.not_false, Decidable.not_not] at hc) <;> (try (exfalso; first | omega | exact bool_tf hc (by assumption) | exact bool_ft hc (by assumption) | exact absurd (by assumption) hc)) <;> (first | with_reducible show STri _ _ _ _ _ _ | (simp -dsimp [hlt, hlt2, htn, hc]; (repeat (simp -dsimp (disch := (first | omega | assumption | (refine Bool.eq_false_iff.1 ?_; assumption))) only [wrap_in, if_pos, if_neg]; (try simp -dsimp [hlt, hlt2, htn, hc]))))))))
    · rw [if_pos (by simpa [minB] using hc)] at hs
      exact ⟨by omega, by simp, by omega, by simp, by rw [hs]; simp⟩
    · rw [if_neg (by simpa [minB] using hc)] at hs
      exact ⟨by omega, by simp, by omega, by simp, by rw [hs]; simp⟩
  · have : k + 1 = l.length := by omega
    have h2 : ¬ ((k : Int) + 1 < l.length) := by omega
    (repeat' (first | ((first | with_reducible refine st_skip ?_ | with_reducible refine st_exit ?_); (try simp only [seqQ, blockQ, loopQ, forQ, whileQ, reduceIte, Nat.reduceEqDiff])) | (with_reducible refine st_ret ?_; ((try simp only [seqQ, blockQ, loopQ, forQ, whileQ]); first | (with_reducible refine retM_ret ?_) | refine retQ_ret ?_; simp [h2])) | refine st_seq ?_ | refine st_block ?_ | ((first | refine st_reg ?_ | refine buildP_own ?_) <;> (simp -dsimp [h2]; (repeat (simp -dsimp (disch := (first | omega | assumption | (refine Bool.eq_false_iff.1 ?_; assumption))) only [wrap_in, if_pos, if_neg]; (try simp -dsimp [h2]))))) | ((first | refine guardP_of (fun hc => ?_) (fun hc => ?_) | refine st_cond rfl (fun hc => ?_) (fun hc => ?_)) <;> (try simp only [decide_eq_true_eq, decide_eq_false_iff_not, Bool.true_eq_false, Bool.false_eq_true, bne_iff_ne, ne_eq, bne_eq_false_iff_eq, beq_iff_eq, beq_eq_false_iff_ne, Bool.not_eq_true, Bool.not_eq_false, Bool.not_eq_eq_eq_not, Bool.not_true, Bool.not_false, Decidable.not_not] at hc) <;> (try (exfalso; first | omega | exact bool_tf hc (by assumption) | exact bool_ft hc (by assumption) | exact absurd (by assumption) hc)) <;> (first | with_reducible show STri _ _ _ _ _ _ | (simp -dsimp [h2, hc]; (repeat (simp -dsimp (disch := (first | omega | assumption | (refine Bool.eq_false_iff.1 ?_; assumption))) only [wrap_in, if_pos, if_neg]; (try simp -dsimp [h2, hc]))))))))
    rw [this]; exact .refl _
theorem sMaxFunc (l : List (Int × Int)) (f : FuncId) (fs cs : List CV) (c : Int × Int → Int × Int → Int) (h0 : 0 < l.length) (hl : l.length ≤ 1000000000) (he : Ent Tryz.prog f) (hp : ∀ x ∈ l, ∀ y ∈ l, SC Tryz.prog f (fs ++ [cS x.1 x.2, cS y.1 y.2] ++ cs) (I (c x y))) :
    SC Tryz.prog 63 [slS l, .fn f fs cs] (cS (selK (maxB c) l l.length).1 (selK (maxB c) l l.length).2) := by
  refine law_slices_MaxFunc_api_Span_api_Span _ _ (by simp) ?_
  unfold slS
  (repeat' (first | ((first | with_reducible refine st_skip ?_ | with_reducible refine st_exit ?_); (try simp only [seqQ, blockQ, loopQ, forQ, whileQ, reduceIte, Nat.reduceEqDiff])) | (with_reducible refine st_ret ?_; ((try simp only [seqQ, blockQ, loopQ, forQ, whileQ]); first | (with_reducible refine retM_ret ?_) | refine retQ_ret ?_; simp [h0])) | refine st_seq ?_ | refine st_block ?_ | ((first | refine st_reg ?_ | refine buildP_own ?_) <;> (simp -dsimp [h0]; (repeat (simp -dsimp (disch := (first | omega | assumption | (refine Bool.eq_false_iff.1 ?_; assumption))) only [wrap_in, if_pos, if_neg]; (try simp -dsimp [h0]))))) | ((first | refine guardP_of (fun hc => ?_) (fun hc => ?_) | refine st_cond rfl (fun hc => ?_) (fun hc => ?_)) <;> (try simp only [decide_eq_true_eq, decide_eq_false_iff_not, Bool.true_eq_false, Bool.false_eq_true, bne_iff_ne, ne_eq, bne_eq_false_iff_eq, beq_iff_eq, beq_eq_false_iff_ne, Bool.not_eq_true, Bool.not_eq_false, Bool.not_eq_eq_eq_not, Bool.not_true, Bool.not_false, Decidable.not_not] at hc) <;> (try (exfalso; first | omega | exact bool_tf hc (by assumption) | exact bool_ft hc (by assumption) | exact absurd (by assumption) hc)) <;> (first | with_reducible show STri _ _ _ _ _ _ | (simp -dsimp [h0, hc]; (repeat (simp -dsimp (disch := (first | omega | assumption | (refine Bool.eq_false_iff.1 ?_; assumption))) only [wrap_in, if_pos, if_neg]; (try simp -dsimp [h0, hc]))))))))
  refine st_for [4, 5] l.length (fun k T H => k + 1 ≤ l.length ∧ T = [(0, .c (.sl 2 (l.map rowS))), (1, .c (.fn f fs cs)), (4, .ptr 4 0), (5, .ptr 5 0), (6, .c (I (k + 1)))] ∧ H = [(4, .box 23 [.c (I 0), .c (I 0)]), (5, .box 23 [.c (I (selK (maxB c) l (k + 1)).1), .c (I (selK (maxB c) l (k + 1)).2)])])
    (by simp) ⟨by omega, by simp, by simp [selK_one (maxB c) h0]⟩ ?_
  rintro k T H hk ⟨hk1, rfl, rfl⟩
  by_cases hlt : k + 1 < l.length
  · have hlt2 : ((k : Int) + 1) < l.length := by omega
    have hm := selK_mem (maxB c) h0 (k := k + 1) (by omega) (by omega)
    have hx : l[k + 1] ∈ l := List.getElem_mem hlt
    have hs := selK_succ (maxB c) (k := k + 1) (by omega) hlt
    have htn : ((k : Int) + 1).toNat = k + 1 := by omega
    (repeat' (first | ((first | with_reducible refine st_skip ?_ | with_reducible refine st_exit ?_); (try simp only [seqQ, blockQ, loopQ, forQ, whileQ, reduceIte, Nat.reduceEqDiff])) | (with_reducible refine st_ret ?_; ((try simp only [seqQ, blockQ, loopQ, forQ, whileQ]); first | (with_reducible refine retM_ret ?_) | refine retQ_ret ?_; simp [hlt, hlt2, htn])) | refine st_seq ?_ | refine st_block ?_ | ((first | refine st_reg ?_ | ((with_reducible show callVP _ _ _ _ _ _ _); refine callV_b (by first | exact Ent.h (by assumption) | kernel_rfl) (hp _ hx _ hm) rfl ?_) | refine buildP_own ?_) <;> (simp -dsimp [hlt, hlt2, htn]; (repeat (simp -dsimp (disch := (first | omega | assumption | (refine Bool.eq_false_iff.1 ?_; assumption))) only [wrap_in, if_pos, if_neg]; (try simp -dsimp [hlt, hlt2, htn]))))) | ((first | refine guardP_of (fun hc => ?_) (fun hc => ?_) | refine st_cond rfl (fun hc => ?_) (fun hc => ?_)) <;> (try simp only [decide_eq_true_eq, decide_eq_false_iff_not, Bool.true_eq_false, Bool.false_eq_true, bne_iff_ne, ne_eq, bne_eq_false_iff_eq, beq_iff_eq, beq_eq_false_iff_ne, Bool.not_eq_true, Bool.not_eq_false, Bool.not_eq_eq_eq_not, Bool.not_true, Bool.not_false, Decidable.not_not] at hc) <;> (try (exfalso; first | omega | exact bool_tf hc (by assumption) | exact bool_ft hc (by assumption) | exact absurd (by assumption) hc)) <;> (first | with_reducible show STri _ _ _ _ _ _ | (simp -dsimp [hlt, hlt2, htn, hc]; (repeat (simp -dsimp (disch := (first | omega | assumption | (refine Bool.eq_false_iff.1 ?_; assumption))) only [wrap_in, if_pos, if_neg]; (try simp -dsimp [hlt, hlt2, htn, hc]))))))))
    · rw [if_pos (by simpa [maxB] using hc)] at hs
      exact ⟨by omega, by simp, by omega, by simp, by rw [hs]; simp⟩
    · rw [if_neg (by simpa [maxB] using hc)] at hs
      exact ⟨by omega, by simp, by omega, by simp, by rw [hs]; simp⟩
  · have : k + 1 = l.length := by omega
    have h2 : ¬ ((k : Int) + 1 < l.length) := by omega
    (repeat' (first | ((first | with_reducible refine st_skip ?_ | with_reducible refine st_exit ?_); (try simp only [seqQ, blockQ, loopQ, forQ, whileQ, reduceIte, Nat.reduceEqDiff])) | (with_reducible refine st_ret ?_; ((try simp only [seqQ, blockQ, loopQ, forQ, whileQ]); first | (with_reducible refine retM_ret ?_) | refine retQ_ret ?_; simp [h2])) | refine st_seq ?_ | refine st_block ?_ | ((first | refine st_reg ?_ | refine buildP_own ?_) <;> (simp -dsimp [h2]; (repeat (simp -dsimp (disch := (first | omega | assumption | (refine Bool.eq_false_iff.1 ?_; assumption))) only [wrap_in, if_pos, if_neg]; (try simp -dsimp [h2]))))) | ((first | refine guardP_of (fun hc => ?_) (fun hc => ?_) | refine st_cond rfl (fun hc => ?_) (fun hc => ?_)) <;> (try simp only [decide_eq_true_eq, decide_eq_false_iff_not, Bool.true_eq_false, Bool.false_eq_true, bne_iff_ne, ne_eq, bne_eq_false_iff_eq, beq_iff_eq, beq_eq_false_iff_ne, Bool.not_eq_true, Bool.not_eq_false, Bool.not_eq_eq_eq_not, Bool.not_true, Bool.not_false, Decidable.not_not] at hc) <;> (try (exfalso; first | omega | exact bool_tf hc (by assumption) | exact bool_ft hc (by assumption) | exact absurd (by assumption) hc)) <;> (first | with_reducible show STri _ _ _ _ _ _ | (simp -dsimp [h2, hc]; (repeat (simp -dsimp (disch := (first | omega | assumption | (refine Bool.eq_false_iff.1 ?_; assumption))) only [wrap_in, if_pos, if_neg]; (try simp -dsimp [h2, hc]))))))))
    rw [this]; exact .refl _
theorem sOff1 (x y : Int × Int) (h1 : -1000000000000 ≤ x.1) (h2 : x.1 ≤ 1000000000000) (h3 : -1000000000000 ≤ y.1) (h4 : y.1 ≤ 1000000000000) : SC Tryz.prog 62 [cS x.1 x.2, cS y.1 y.2] (I (x.1 - y.1)) := by
  refine law_dial_look_off_1 _ _ (by simp) ?_
  (repeat' (first | ((first | with_reducible refine st_skip ?_ | with_reducible refine st_exit ?_); (try simp only [seqQ, blockQ, loopQ, forQ, whileQ, reduceIte, Nat.reduceEqDiff])) | (with_reducible refine st_ret ?_; ((try simp only [seqQ, blockQ, loopQ, forQ, whileQ]); first | (with_reducible refine retM_ret ?_) | refine retQ_ret ?_; simp)) | refine st_seq ?_ | refine st_block ?_ | ((first | refine st_reg ?_ | refine buildP_own ?_) <;> (simp -dsimp; (repeat (simp -dsimp (disch := (first | omega | assumption | (refine Bool.eq_false_iff.1 ?_; assumption))) only [wrap_in, if_pos, if_neg]; (try simp -dsimp))))) | ((first | refine guardP_of (fun hc => ?_) (fun hc => ?_) | refine st_cond rfl (fun hc => ?_) (fun hc => ?_)) <;> (try simp only [decide_eq_true_eq, decide_eq_false_iff_not, Bool.true_eq_false, Bool.false_eq_true, bne_iff_ne, ne_eq, bne_eq_false_iff_eq, beq_iff_eq, beq_eq_false_iff_ne, Bool.not_eq_true, Bool.not_eq_false, Bool.not_eq_eq_eq_not, Bool.not_true, Bool.not_false, Decidable.not_not] at hc) <;> (try (exfalso; first | omega | exact bool_tf hc (by assumption) | exact bool_ft hc (by assumption) | exact absurd (by assumption) hc)) <;> (first | with_reducible show STri _ _ _ _ _ _ | (simp -dsimp [hc]; (repeat (simp -dsimp (disch := (first | omega | assumption | (refine Bool.eq_false_iff.1 ?_; assumption))) only [wrap_in, if_pos, if_neg]; (try simp -dsimp [hc]))))))))
  exact .refl _
theorem sOff2 (x y : Int × Int) (h1 : -1000000000000 ≤ x.2) (h2 : x.2 ≤ 1000000000000) (h3 : -1000000000000 ≤ y.2) (h4 : y.2 ≤ 1000000000000) : SC Tryz.prog 64 [cS x.1 x.2, cS y.1 y.2] (I (x.2 - y.2)) := by
  refine law_dial_look_off_2 _ _ (by simp) ?_
  (repeat' (first | ((first | with_reducible refine st_skip ?_ | with_reducible refine st_exit ?_); (try simp only [seqQ, blockQ, loopQ, forQ, whileQ, reduceIte, Nat.reduceEqDiff])) | (with_reducible refine st_ret ?_; ((try simp only [seqQ, blockQ, loopQ, forQ, whileQ]); first | (with_reducible refine retM_ret ?_) | refine retQ_ret ?_; simp)) | refine st_seq ?_ | refine st_block ?_ | ((first | refine st_reg ?_ | refine buildP_own ?_) <;> (simp -dsimp; (repeat (simp -dsimp (disch := (first | omega | assumption | (refine Bool.eq_false_iff.1 ?_; assumption))) only [wrap_in, if_pos, if_neg]; (try simp -dsimp))))) | ((first | refine guardP_of (fun hc => ?_) (fun hc => ?_) | refine st_cond rfl (fun hc => ?_) (fun hc => ?_)) <;> (try simp only [decide_eq_true_eq, decide_eq_false_iff_not, Bool.true_eq_false, Bool.false_eq_true, bne_iff_ne, ne_eq, bne_eq_false_iff_eq, beq_iff_eq, beq_eq_false_iff_ne, Bool.not_eq_true, Bool.not_eq_false, Bool.not_eq_eq_eq_not, Bool.not_true, Bool.not_false, Decidable.not_not] at hc) <;> (try (exfalso; first | omega | exact bool_tf hc (by assumption) | exact bool_ft hc (by assumption) | exact absurd (by assumption) hc)) <;> (first | with_reducible show STri _ _ _ _ _ _ | (simp -dsimp [hc]; (repeat (simp -dsimp (disch := (first | omega | assumption | (refine Bool.eq_false_iff.1 ?_; assumption))) only [wrap_in, if_pos, if_neg]; (try simp -dsimp [hc]))))))))
  exact .refl _
def offLo (k : Lo) : Int := (selK (minB fun x y => x.1 - y.1) (haL k) (haL k).length).1 - k.at'
def offHi (k : Lo) : Int := (selK (maxB fun x y => x.2 - y.2) (haL k) (haL k).length).2 - k.at'
def rowsS (l : List (Int × Int)) (k : Nat) : List (List CV) := (l.take k).map rowS
theorem rowsS_len {l : List (Int × Int)} {k : Nat} (h : k ≤ l.length) : (rowsS l k).length = k := by simp [rowsS]; omega
theorem rowsS_succ {l : List (Int × Int)} {k : Nat} {x : Int × Int} (h : l[k]? = some x) : rowsS l (k + 1) = rowsS l k ++ [rowS x] := by
  obtain ⟨h1, h2⟩ := List.getElem?_eq_some_iff.1 h
  unfold rowsS; rw [List.take_succ_eq_append_getElem h1, List.map_append, h2]; rfl
theorem rowsS_all (l : List (Int × Int)) : rowsS l l.length = l.map rowS := by simp [rowsS]
theorem haL_len {k : Lo} (hk : LoSm k) : 0 < (haL k).length ∧ (haL k).length ≤ 20000 := by
  have j1 := hk.w.a
  have j2 := hk.w.b
  have e1 := hk.w.c
  have e4 := hk.w.f
  have e5 := hk.w.g
  obtain ⟨d1, d2⟩ := down_le (n := k.at' + k.w.elo) (b := k.w.jump) (by omega)
  have hl : (haL k).length = drN k.w k.at' k.at' := by simp [haL, drL]
  rw [hl]
  constructor
  · rw [dr_lt (by omega)]
    unfold drAt; simp; omega
  · unfold drN
    have : (k.at' + k.w.ehi - downI (k.at' + k.w.elo) k.w.jump) / k.w.jump ≤ k.at' + k.w.ehi - downI (k.at' + k.w.elo) k.w.jump := Int.ediv_le_self _ (by omega)
    omega
theorem haL_bd {k : Lo} (hk : LoSm k) {x : Int × Int} (hx : x ∈ haL k) : (-100000000000 ≤ x.1 ∧ x.1 ≤ 100000000000) ∧ (-100000000000 ≤ x.2 ∧ x.2 ≤ 100000000000) := by
  unfold haL at hx
  obtain ⟨d, hd, rfl⟩ := List.mem_map.1 hx
  obtain ⟨j, hj⟩ := List.mem_iff_getElem?.1 hd
  obtain ⟨b1, b2⟩ := dr_bd hk.w hj
  have h1 := hk.a
  have h2 := hk.b
  obtain ⟨g1, g2, g3, g4⟩ := lag_le k.f (slackI k.f.links) d k.wlo k.whi hk.f.j
  have f1 := hk.f.a
  have f2 := hk.f.b
  have f3 := hk.f.c
  have f4 := hk.f.d
  have f5 := hk.f.k
  simp only [handLo, handHi]
  omega
theorem sOffL (k : Lo) (hk : LoSm k) : SC Tryz.prog 38 [cLook k] (cS (offLo k) (offHi k)) := by
  obtain ⟨l1, l2⟩ := haL_len hk
  have a1 := hk.a
  have a2 := hk.b
  refine law_dial_look_off _ _ (by simp) ?_
  (repeat' (first | ((first | with_reducible refine st_skip ?_ | with_reducible refine st_exit ?_); (try simp only [seqQ, blockQ, loopQ, forQ, whileQ, reduceIte, Nat.reduceEqDiff])) | (with_reducible refine st_ret ?_; ((try simp only [seqQ, blockQ, loopQ, forQ, whileQ]); first | (with_reducible refine retM_ret ?_) | refine retQ_ret ?_; simp)) | refine st_seq ?_ | refine st_block ?_ | ((first | refine st_reg ?_ | refine buildP_own ?_) <;> (simp -dsimp; (repeat (simp -dsimp (disch := (first | omega | assumption | (refine Bool.eq_false_iff.1 ?_; assumption))) only [wrap_in, if_pos, if_neg]; (try simp -dsimp))))) | ((first | refine guardP_of (fun hc => ?_) (fun hc => ?_) | refine st_cond rfl (fun hc => ?_) (fun hc => ?_)) <;> (try simp only [decide_eq_true_eq, decide_eq_false_iff_not, Bool.true_eq_false, Bool.false_eq_true, bne_iff_ne, ne_eq, bne_eq_false_iff_eq, beq_iff_eq, beq_eq_false_iff_ne, Bool.not_eq_true, Bool.not_eq_false, Bool.not_eq_eq_eq_not, Bool.not_true, Bool.not_false, Decidable.not_not] at hc) <;> (try (exfalso; first | omega | exact bool_tf hc (by assumption) | exact bool_ft hc (by assumption) | exact absurd (by assumption) hc)) <;> (first | with_reducible show STri _ _ _ _ _ _ | (simp -dsimp [hc]; (repeat (simp -dsimp (disch := (first | omega | assumption | (refine Bool.eq_false_iff.1 ?_; assumption))) only [wrap_in, if_pos, if_neg]; (try simp -dsimp [hc]))))))))
  refine st_nilB 3 0 200 23 2 rfl (by simp) rfl (by simp [newOK]) ?_
  refine st_range (iAll k hk) [1, 2, 3, 200] [] (fun j R => R = [(1, .box 98 ([I k.w.jump, I k.w.elo, I k.w.ehi, slF k.w.faces, slX k.w.faces, I k.f.lo, I k.f.hi, slL k.f.links, I k.f.weight, I k.f.friction, I (slackI k.f.links), I k.at', I k.wlo, I k.whi].map .c)), (2, .box 23 [.c (I 0), .c (I 0)]),
      (3, .box 36 [.own 200 j]), (200, .arr 23 2 (rowsS (haL k) j))])
    rfl rfl rfl (by kernel_rfl) (by show (0 : Nat) + 1000 ≤ 1000; decide) (fun j hj => by cases hj) (fun row hrow => by obtain ⟨x, _, rfl⟩ := List.mem_map.1 hrow; rfl) (by simp) (by simp) (by simp [rowsS]) ?_ ?_
  · rintro j row R rfl hrow Iv1 G1 hGG hin
    obtain ⟨x, hx, rfl⟩ : ∃ x, (haL k)[j]? = some x ∧ row = rowP x := by
      rw [List.getElem?_map, Option.map_eq_some_iff] at hrow
      obtain ⟨d, h1, h2⟩ := hrow
      exact ⟨d, h1, h2.symm⟩
    have hj : j < (haL k).length := (List.getElem?_eq_some_iff.1 hx).1
    have hlen := rowsS_len (l := haL k) (k := j) (by omega)
    have hA : j + 1 ≤ 9223372036854775807 := by omega
    have hB : (j + 1) * 16 ≤ 140737488355328 := by omega
    (repeat' (first | ((first | with_reducible refine st_skip ?_ | with_reducible refine st_exit ?_); (try simp only [seqQ, blockQ, loopQ, forQ, whileQ, reduceIte, Nat.reduceEqDiff])) | (with_reducible refine st_ret ?_; ((try simp only [seqQ, blockQ, loopQ, forQ, whileQ]); first | (with_reducible refine retM_ret ?_) | refine retQ_ret ?_; simp)) | refine st_seq ?_ | refine st_block ?_ | ((first | refine st_reg ?_ | refine buildP_own ?_) <;> (simp -dsimp; (repeat (simp -dsimp (disch := (first | omega | assumption | (refine Bool.eq_false_iff.1 ?_; assumption))) only [wrap_in, if_pos, if_neg]; (try simp -dsimp))))) | ((first | refine guardP_of (fun hc => ?_) (fun hc => ?_) | refine st_cond rfl (fun hc => ?_) (fun hc => ?_)) <;> (try simp only [decide_eq_true_eq, decide_eq_false_iff_not, Bool.true_eq_false, Bool.false_eq_true, bne_iff_ne, ne_eq, bne_eq_false_iff_eq, beq_iff_eq, beq_eq_false_iff_ne, Bool.not_eq_true, Bool.not_eq_false, Bool.not_eq_eq_eq_not, Bool.not_true, Bool.not_false, Decidable.not_not] at hc) <;> (try (exfalso; first | omega | exact bool_tf hc (by assumption) | exact bool_ft hc (by assumption) | exact absurd (by assumption) hc)) <;> (first | with_reducible show STri _ _ _ _ _ _ | (simp -dsimp [hc]; (repeat (simp -dsimp (disch := (first | omega | assumption | (refine Bool.eq_false_iff.1 ?_; assumption))) only [wrap_in, if_pos, if_neg]; (try simp -dsimp [hc]))))))))
    refine ⟨rfl, fun Iv2 hin2 => ?_⟩
    (repeat' (first | ((first | with_reducible refine st_skip ?_ | with_reducible refine st_exit ?_); (try simp only [seqQ, blockQ, loopQ, forQ, whileQ, reduceIte, Nat.reduceEqDiff])) | (with_reducible refine st_ret ?_; ((try simp only [seqQ, blockQ, loopQ, forQ, whileQ]); first | (with_reducible refine retM_ret ?_) | refine retQ_ret ?_; simp [hlen, hA, hB])) | refine st_seq ?_ | refine st_block ?_ | ((first | refine st_reg ?_ | refine buildP_own ?_) <;> (simp -dsimp [hlen, hA, hB]; (repeat (simp -dsimp (disch := (first | omega | assumption | (refine Bool.eq_false_iff.1 ?_; assumption))) only [wrap_in, if_pos, if_neg]; (try simp -dsimp [hlen, hA, hB]))))) | ((first | refine guardP_of (fun hc => ?_) (fun hc => ?_) | refine st_cond rfl (fun hc => ?_) (fun hc => ?_)) <;> (try simp only [decide_eq_true_eq, decide_eq_false_iff_not, Bool.true_eq_false, Bool.false_eq_true, bne_iff_ne, ne_eq, bne_eq_false_iff_eq, beq_iff_eq, beq_eq_false_iff_ne, Bool.not_eq_true, Bool.not_eq_false, Bool.not_eq_eq_eq_not, Bool.not_true, Bool.not_false, Decidable.not_not] at hc) <;> (try (exfalso; first | omega | exact bool_tf hc (by assumption) | exact bool_ft hc (by assumption) | exact absurd (by assumption) hc)) <;> (first | with_reducible show STri _ _ _ _ _ _ | (simp -dsimp [hlen, hA, hB, hc]; (repeat (simp -dsimp (disch := (first | omega | assumption | (refine Bool.eq_false_iff.1 ?_; assumption))) only [wrap_in, if_pos, if_neg]; (try simp -dsimp [hlen, hA, hB, hc]))))))))
    exact ⟨by simp, by simp, by simp [rowsS_succ hx]⟩
  · rintro R rfl
    rw [List.length_map]
    rw [rowsS_all]
    obtain ⟨⟨m1, m2⟩, _⟩ := haL_bd hk (selK_mem (minB fun x y => x.1 - y.1) l1 (k := (haL k).length) (by omega) (Nat.le_refl _))
    obtain ⟨_, m3, m4⟩ := haL_bd hk (selK_mem (maxB fun x y => x.2 - y.2) l1 (k := (haL k).length) (by omega) (Nat.le_refl _))
    have s1 := sMinFunc (haL k) 62 [] [] (fun x y => x.1 - y.1) l1 (by omega) ⟨by kernel_rfl⟩ (fun x hx y hy => sOff1 x y (by have := (haL_bd hk hx).1; omega) (by have := (haL_bd hk hx).1; omega) (by have := (haL_bd hk hy).1; omega) (by have := (haL_bd hk hy).1; omega))
    have s2 := sMaxFunc (haL k) 64 [] [] (fun x y => x.2 - y.2) l1 (by omega) ⟨by kernel_rfl⟩ (fun x hx y hy => sOff2 x y (by have := (haL_bd hk hx).2; omega) (by have := (haL_bd hk hx).2; omega) (by have := (haL_bd hk hy).2; omega) (by have := (haL_bd hk hy).2; omega))
    simp only [blockQ, seqQ]
    (repeat' (first | ((first | with_reducible refine st_skip ?_ | with_reducible refine st_exit ?_); (try simp only [seqQ, blockQ, loopQ, forQ, whileQ, reduceIte, Nat.reduceEqDiff])) | (with_reducible refine st_ret ?_; ((try simp only [seqQ, blockQ, loopQ, forQ, whileQ]); first | (with_reducible refine retM_ret ?_) | refine retQ_ret ?_; simp)) | refine st_seq ?_ | refine st_block ?_ | ((first | refine st_reg ?_ | refine buildP_own ?_ | refine callP_b (s1) rfl ?_ | refine callP_b (s2) rfl ?_) <;> (simp -dsimp; (repeat (simp -dsimp (disch := (first | omega | assumption | (refine Bool.eq_false_iff.1 ?_; assumption))) only [wrap_in, if_pos, if_neg]; (try simp -dsimp))))) | ((first | refine guardP_of (fun hc => ?_) (fun hc => ?_) | refine st_cond rfl (fun hc => ?_) (fun hc => ?_)) <;> (try simp only [decide_eq_true_eq, decide_eq_false_iff_not, Bool.true_eq_false, Bool.false_eq_true, bne_iff_ne, ne_eq, bne_eq_false_iff_eq, beq_iff_eq, beq_eq_false_iff_ne, Bool.not_eq_true, Bool.not_eq_false, Bool.not_eq_eq_eq_not, Bool.not_true, Bool.not_false, Decidable.not_not] at hc) <;> (try (exfalso; first | omega | exact bool_tf hc (by assumption) | exact bool_ft hc (by assumption) | exact absurd (by assumption) hc)) <;> (first | with_reducible show STri _ _ _ _ _ _ | (simp -dsimp [hc]; (repeat (simp -dsimp (disch := (first | omega | assumption | (refine Bool.eq_false_iff.1 ?_; assumption))) only [wrap_in, if_pos, if_neg]; (try simp -dsimp [hc]))))))))
    all_goals (refine CLe.of_eq ?_; rfl)
end Go.Proofs.YtnfggkopledpcaaGreat
/- Dial, VIII: looks; Off. -/
namespace Go.Proofs.YtnfggkopledpcaaGreat
open Go.RowKit
def lookOf (w : Dw) (n at' wlo whi : Int) : Lo := ⟨w, w.faces.getD n.toNat .zero, at', wlo, whi⟩
def Lo.zero : Lo := ⟨.zero, .zero, 0, 0, 0⟩
def lookErr (w : Dw) (n at' wlo whi : Int) : Int := if dwB w = false then 2 else if inB 0 (w.faces.length - 1) n = false then 7 else if inB 0 3155760000 at' = false then 3 else if spanB (-10000) 10000 wlo whi = false then 2 else 0
def rLook (w : Dw) (n at' wlo whi : Int) : CV := if lookErr w n at' wlo whi = 0 then .tup [cLook (lookOf w n at' wlo whi), I 0] else .tup [cLook .zero, I (lookErr w n at' wlo whi)]
theorem look_bad {w : Dw} {n at' wlo whi e : Int} (h : lookErr w n at' wlo whi = e) (he : e ≠ 0) : CLe (.tup [.agg [I 0, I 0, I 0, .val (.slice none 0 0), .val (.slice none 0 0), I 0, I 0, .val (.slice none 0 0), I 0, I 0, I 0, I 0, I 0, I 0], I e]) (rLook w n at' wlo whi) := by
  unfold rLook; rw [if_neg (by rw [h]; exact he), h]
  exact .tup _ _ (.cons _ _ _ _ (.agg _ _ (.cons _ _ _ _ (.refl _) (.cons _ _ _ _ (.refl _) (.cons _ _ _ _ (.refl _) (.cons _ _ _ _ (.nil 5) (.cons _ _ _ _ (.nil 6) (.cons _ _ _ _ (.refl _) (.cons _ _ _ _ (.refl _) (.cons _ _ _ _ (.nil 3) (.cons _ _ _ _ (.refl _) (.cons _ _ _ _ (.refl _) (.cons _ _ _ _ (.refl _) (.cons _ _ _ _ (.refl _)
    (.cons _ _ _ _ (.refl _) (.cons _ _ _ _ (.refl _) .nil))))))))))))))) (.cons _ _ _ _ (.refl _) .nil))
theorem sNewLook (w : Dw) (hw : DwLen w) (n at' wlo whi : Int) : SC Tryz.prog 37 [cDw w, I n, I at', cS wlo whi] (rLook w n at' wlo whi) := by
  refine law_dial_newLook _ _ (by simp) ?_
  have hn := hw.n
  by_cases hd : dwB w = true
  · by_cases hf : inB 0 (w.faces.length - 1) n = true
    · have hf2 := hf
      simp only [inB, Bool.and_eq_true, decide_eq_true_eq] at hf2
      obtain ⟨n1, n2⟩ := hf2
      have hlt : n.toNat < w.faces.length := by omega
      have hlt2 : n < w.faces.length := by omega
      (repeat' (first | ((first | with_reducible refine st_skip ?_ | with_reducible refine st_exit ?_); (try simp only [seqQ, blockQ, loopQ, forQ, whileQ, reduceIte, Nat.reduceEqDiff])) | (with_reducible refine st_ret ?_; ((try simp only [seqQ, blockQ, loopQ, forQ, whileQ]); first | (with_reducible refine retM_ret ?_) | refine retQ_ret ?_; simp [hf, hlt, hlt2, n1, allIn1])) | refine st_seq ?_ | refine st_block ?_ | ((first | refine st_reg ?_ | refine buildP_own ?_ | refine callP_b (sWorksOk hw hd) rfl ?_ | refine callP_b (sWithin 0 (w.faces.length - 1) [n] (by simp)) rfl ?_ | refine callP_b (sWithin 0 3155760000 [at'] (by simp)) rfl ?_ | refine callP_b (sIsWind wlo whi) rfl ?_) <;> (simp -dsimp [hf, hlt, hlt2, n1, allIn1]; (repeat (simp -dsimp (disch := (first | omega | assumption | (refine Bool.eq_false_iff.1 ?_; assumption))) only [wrap_in, if_pos, if_neg]; (try simp -dsimp [hf, hlt, hlt2, n1, allIn1]))))) | ((first | refine guardP_of (fun hc => ?_) (fun hc => ?_) | refine st_cond rfl (fun hc => ?_) (fun hc => ?_)) <;> (try simp only [decide_eq_true_eq, decide_eq_false_iff_not, Bool.true_eq_false, Bool.false_eq_true, bne_iff_ne, ne_eq, bne_eq_false_iff_eq, beq_iff_eq, beq_eq_false_iff_ne, Bool.not_eq_true, Bool.not_eq_false, Bool.not_eq_eq_eq_not, Bool.not_true, Bool.not_false, Decidable.not_not] at hc) <;> (try (exfalso; first | omega | exact bool_tf hc (by assumption) | exact bool_ft hc (by assumption) | exact absurd (by assumption) hc)) <;> (first | with_reducible show STri _ _ _ _ _ _ | (simp -dsimp [hf, hlt, hlt2, n1, allIn1, hc]; (repeat (simp -dsimp (disch := (first | omega | assumption | (refine Bool.eq_false_iff.1 ?_; assumption))) only [wrap_in, if_pos, if_neg]; (try simp -dsimp [hf, hlt, hlt2, n1, allIn1, hc]))))))))
      · exact look_bad (by simp [lookErr, hd, hf, hc]) (by decide)
      · exact look_bad (by simp [lookErr, *]) (by decide)
      · have h0 : lookErr w n at' wlo whi = 0 := by simp [lookErr, *]
        refine CLe.of_eq ?_
        unfold rLook
        rw [if_pos h0]
        simp [lookOf, hlt]
    · (repeat' (first | ((first | with_reducible refine st_skip ?_ | with_reducible refine st_exit ?_); (try simp only [seqQ, blockQ, loopQ, forQ, whileQ, reduceIte, Nat.reduceEqDiff])) | (with_reducible refine st_ret ?_; ((try simp only [seqQ, blockQ, loopQ, forQ, whileQ]); first | (with_reducible refine retM_ret ?_) | refine retQ_ret ?_; simp [hf, allIn1])) | refine st_seq ?_ | refine st_block ?_ | ((first | refine st_reg ?_ | refine buildP_own ?_ | refine callP_b (sWorksOk hw hd) rfl ?_ | refine callP_b (sWithin 0 (w.faces.length - 1) [n] (by simp)) rfl ?_) <;> (simp -dsimp [hf, allIn1]; (repeat (simp -dsimp (disch := (first | omega | assumption | (refine Bool.eq_false_iff.1 ?_; assumption))) only [wrap_in, if_pos, if_neg]; (try simp -dsimp [hf, allIn1]))))) | ((first | refine guardP_of (fun hc => ?_) (fun hc => ?_) | refine st_cond rfl (fun hc => ?_) (fun hc => ?_)) <;> (try simp only [decide_eq_true_eq, decide_eq_false_iff_not, Bool.true_eq_false, Bool.false_eq_true, bne_iff_ne, ne_eq, bne_eq_false_iff_eq, beq_iff_eq, beq_eq_false_iff_ne, Bool.not_eq_true, Bool.not_eq_false, Bool.not_eq_eq_eq_not, Bool.not_true, Bool.not_false, Decidable.not_not] at hc) <;> (try (exfalso; first | omega | exact bool_tf hc (by assumption) | exact bool_ft hc (by assumption) | exact absurd (by assumption) hc)) <;> (first | with_reducible show STri _ _ _ _ _ _ | (simp -dsimp [hf, allIn1, hc]; (repeat (simp -dsimp (disch := (first | omega | assumption | (refine Bool.eq_false_iff.1 ?_; assumption))) only [wrap_in, if_pos, if_neg]; (try simp -dsimp [hf, allIn1, hc]))))))))
      exact look_bad (by simp [lookErr, *]) (by decide)
  · (repeat' (first | ((first | with_reducible refine st_skip ?_ | with_reducible refine st_exit ?_); (try simp only [seqQ, blockQ, loopQ, forQ, whileQ, reduceIte, Nat.reduceEqDiff])) | (with_reducible refine st_ret ?_; ((try simp only [seqQ, blockQ, loopQ, forQ, whileQ]); first | (with_reducible refine retM_ret ?_) | refine retQ_ret ?_; simp)) | refine st_seq ?_ | refine st_block ?_ | ((first | refine st_reg ?_ | refine buildP_own ?_ | refine callP_b (sWorksNo hw hd) rfl ?_) <;> (simp -dsimp; (repeat (simp -dsimp (disch := (first | omega | assumption | (refine Bool.eq_false_iff.1 ?_; assumption))) only [wrap_in, if_pos, if_neg]; (try simp -dsimp))))) | ((first | refine guardP_of (fun hc => ?_) (fun hc => ?_) | refine st_cond rfl (fun hc => ?_) (fun hc => ?_)) <;> (try simp only [decide_eq_true_eq, decide_eq_false_iff_not, Bool.true_eq_false, Bool.false_eq_true, bne_iff_ne, ne_eq, bne_eq_false_iff_eq, beq_iff_eq, beq_eq_false_iff_ne, Bool.not_eq_true, Bool.not_eq_false, Bool.not_eq_eq_eq_not, Bool.not_true, Bool.not_false, Decidable.not_not] at hc) <;> (try (exfalso; first | omega | exact bool_tf hc (by assumption) | exact bool_ft hc (by assumption) | exact absurd (by assumption) hc)) <;> (first | with_reducible show STri _ _ _ _ _ _ | (simp -dsimp [hc]; (repeat (simp -dsimp (disch := (first | omega | assumption | (refine Bool.eq_false_iff.1 ?_; assumption))) only [wrap_in, if_pos, if_neg]; (try simp -dsimp [hc]))))))))
    exact look_bad (by simp [lookErr, *]) (by decide)
theorem slack_nonneg {f : Fc} (h : fcB f = true) : 0 ≤ slackI f.links := by
  unfold fcB at h
  simp only [Bool.and_eq_true, decide_eq_true_eq] at h
  obtain ⟨⟨⟨⟨_, h4⟩, _⟩, _⟩, hl⟩ := h
  have ht : LkTo f.links f.links.length := fun x hx => by
    rw [List.take_length] at hx
    exact List.all_eq_true.1 hl x hx
  obtain ⟨D1, D2⟩ := den_le h4 (Nat.le_refl _) ht
  obtain ⟨m1, m2⟩ := numK_le ht D1 D2 (Nat.le_refl _)
  unfold slackI overI
  exact Int.tdiv_nonneg (by omega) (by omega)
theorem fc_sm {f : Fc} (h : fcOK f = true) : FcSm f (slackI f.links) := by
  unfold fcOK at h
  rw [Bool.and_eq_true, decide_eq_true_eq] at h
  have hs := slack_nonneg h.1
  have h1 := h.1
  unfold fcB spanB inB at h1
  simp only [Bool.and_eq_true, decide_eq_true_eq] at h1
  obtain ⟨⟨⟨⟨⟨⟨a, b⟩, c⟩, _⟩, ⟨d, e⟩⟩, ⟨g, i⟩⟩, _⟩ := h1
  exact ⟨by omega, by omega, by omega, by omega, d, e, g, i, hs, h.2⟩
theorem dw_sm {w : Dw} (h : dwB w = true) : DwSm w := by
  unfold dwB spanB inB at h
  simp only [Bool.and_eq_true, decide_eq_true_eq] at h
  obtain ⟨⟨⟨⟨⟨a, b⟩, _⟩, ⟨c, d⟩, e⟩, _⟩, _⟩ := h
  exact ⟨a, b, by omega, by omega, by omega, by omega, by omega⟩
theorem dw_face {w : Dw} (h : dwB w = true) {f : Fc} (hf : f ∈ w.faces) : fcOK f = true := by
  unfold dwB at h
  simp only [Bool.and_eq_true] at h
  exact List.all_eq_true.1 h.2 f hf
theorem look_ok {w : Dw} {n at' wlo whi : Int} (h : lookErr w n at' wlo whi = 0) : dwB w = true ∧ (0 ≤ n ∧ n.toNat < w.faces.length) ∧ (0 ≤ at' ∧ at' ≤ 3155760000) ∧ spanB (-10000) 10000 wlo whi = true := by
  unfold lookErr at h
  split at h
  · cases h
  · rename_i h1
    split at h
    · cases h
    · rename_i h2
      split at h
      · cases h
      · rename_i h3
        split at h
        · cases h
        · rename_i h4
          simp only [Bool.not_eq_false, inB, Bool.and_eq_true, decide_eq_true_eq] at h1 h2 h3 h4
          exact ⟨h1, ⟨h2.1, by omega⟩, h3, h4⟩
theorem look_sm {w : Dw} {n at' wlo whi : Int} (h : lookErr w n at' wlo whi = 0) : LoSm (lookOf w n at' wlo whi) := by
  obtain ⟨h1, ⟨h2, h3⟩, ⟨h4, h5⟩, h6⟩ := look_ok h
  have hf : (lookOf w n at' wlo whi).f ∈ w.faces := by
    show w.faces.getD n.toNat .zero ∈ w.faces
    rw [List.getD_eq_getElem?_getD, List.getElem?_eq_getElem h3]
    exact List.getElem_mem h3
  unfold spanB at h6
  simp only [Bool.and_eq_true, decide_eq_true_eq] at h6
  obtain ⟨⟨a, b⟩, c⟩ := h6
  have e1 : (lookOf w n at' wlo whi).wlo = wlo := rfl
  have e2 : (lookOf w n at' wlo whi).whi = whi := rfl
  exact ⟨dw_sm h1, fc_sm (dw_face h1 hf), h4, h5, by rw [e1]; omega, by rw [e1]; omega, by rw [e2]; omega, by rw [e2]; omega⟩
theorem sLookOk {w : Dw} (hw : DwLen w) {n at' wlo whi : Int} (h : lookErr w n at' wlo whi = 0) : SC Tryz.prog 37 [cDw w, I n, I at', cS wlo whi] (.tup [cLook (lookOf w n at' wlo whi), I 0]) := by
  have := sNewLook w hw n at' wlo whi
  unfold rLook at this
  rwa [if_pos h] at this
theorem sLookNo {w : Dw} (hw : DwLen w) {n at' wlo whi : Int} (h : ¬ lookErr w n at' wlo whi = 0) : SC Tryz.prog 37 [cDw w, I n, I at', cS wlo whi] (.tup [cLook .zero, I (lookErr w n at' wlo whi)]) := by
  have := sNewLook w hw n at' wlo whi
  unfold rLook at this
  rwa [if_neg h] at this
def rOff (w : Dw) (n at' wlo whi : Int) : CV := if lookErr w n at' wlo whi = 0 then .tup [cS (offLo (lookOf w n at' wlo whi)) (offHi (lookOf w n at' wlo whi)), I 0] else .tup [cS 0 0, I (lookErr w n at' wlo whi)]
theorem sOff (w : Dw) (hw : DwLen w) (n at' wlo whi : Int) : SC Tryz.prog 18 [cDw w, I n, I at', cS wlo whi] (rOff w n at' wlo whi) := by
  refine law_dial_Off _ _ (by simp) ?_
  by_cases h : lookErr w n at' wlo whi = 0
  · (repeat' (first | ((first | with_reducible refine st_skip ?_ | with_reducible refine st_exit ?_); (try simp only [seqQ, blockQ, loopQ, forQ, whileQ, reduceIte, Nat.reduceEqDiff])) | (with_reducible refine st_ret ?_; ((try simp only [seqQ, blockQ, loopQ, forQ, whileQ]); first | (with_reducible refine retM_ret ?_) | refine retQ_ret ?_; simp)) | refine st_seq ?_ | refine st_block ?_ | ((first | refine st_reg ?_ | refine buildP_own ?_ | refine callP_b (sLookOk hw h) rfl ?_ | refine callP_b (sOffL _ (look_sm h)) rfl ?_) <;> (simp -dsimp; (repeat (simp -dsimp (disch := (first | omega | assumption | (refine Bool.eq_false_iff.1 ?_; assumption))) only [wrap_in, if_pos, if_neg]; (try simp -dsimp))))) | ((first | refine guardP_of (fun hc => ?_) (fun hc => ?_) | refine st_cond rfl (fun hc => ?_) (fun hc => ?_)) <;> (try simp only [decide_eq_true_eq, decide_eq_false_iff_not, Bool.true_eq_false, Bool.false_eq_true, bne_iff_ne, ne_eq, bne_eq_false_iff_eq, beq_iff_eq, beq_eq_false_iff_ne, Bool.not_eq_true, Bool.not_eq_false, Bool.not_eq_eq_eq_not, Bool.not_true, Bool.not_false, Decidable.not_not] at hc) <;> (try (exfalso; first | omega | exact bool_tf hc (by assumption) | exact bool_ft hc (by assumption) | exact absurd (by assumption) hc)) <;> (first | with_reducible show STri _ _ _ _ _ _ | (simp -dsimp [hc]; (repeat (simp -dsimp (disch := (first | omega | assumption | (refine Bool.eq_false_iff.1 ?_; assumption))) only [wrap_in, if_pos, if_neg]; (try simp -dsimp [hc]))))))))
    all_goals (refine CLe.of_eq ?_; unfold rOff; rw [if_pos h]; rfl)
  · (repeat' (first | ((first | with_reducible refine st_skip ?_ | with_reducible refine st_exit ?_); (try simp only [seqQ, blockQ, loopQ, forQ, whileQ, reduceIte, Nat.reduceEqDiff])) | (with_reducible refine st_ret ?_; ((try simp only [seqQ, blockQ, loopQ, forQ, whileQ]); first | (with_reducible refine retM_ret ?_) | refine retQ_ret ?_; simp [h])) | refine st_seq ?_ | refine st_block ?_ | ((first | refine st_reg ?_ | refine buildP_own ?_ | refine callP_b (sLookNo hw h) rfl ?_) <;> (simp -dsimp [h]; (repeat (simp -dsimp (disch := (first | omega | assumption | (refine Bool.eq_false_iff.1 ?_; assumption))) only [wrap_in, if_pos, if_neg]; (try simp -dsimp [h]))))) | ((first | refine guardP_of (fun hc => ?_) (fun hc => ?_) | refine st_cond rfl (fun hc => ?_) (fun hc => ?_)) <;> (try simp only [decide_eq_true_eq, decide_eq_false_iff_not, Bool.true_eq_false, Bool.false_eq_true, bne_iff_ne, ne_eq, bne_eq_false_iff_eq, beq_iff_eq, beq_eq_false_iff_ne, Bool.not_eq_true, Bool.not_eq_false, Bool.not_eq_eq_eq_not, Bool.not_true, Bool.not_false, Decidable.not_not] at hc) <;> (try (exfalso; first | omega | exact bool_tf hc (by assumption) | exact bool_ft hc (by assumption) | exact absurd (by assumption) hc)) <;> (first | with_reducible show STri _ _ _ _ _ _ | (simp -dsimp [h, hc]; (repeat (simp -dsimp (disch := (first | omega | assumption | (refine Bool.eq_false_iff.1 ?_; assumption))) only [wrap_in, if_pos, if_neg]; (try simp -dsimp [h, hc]))))))))
    all_goals (refine CLe.of_eq ?_; unfold rOff; rw [if_neg h]; rfl)
end Go.Proofs.YtnfggkopledpcaaGreat
/- Dial, IX: Poise; gusts; Reach. -/
namespace Go.Proofs.YtnfggkopledpcaaGreat
open Go.RowKit
def endI (a b : Int) (most : Bool) : Int := if most then b else a
theorem sEnd (a b : Int) (m : Bool) : SC Tryz.prog 39 [cS a b, B m] (I (endI a b m)) := by
  refine law_dial_end _ _ (by simp) ?_
  cases m
  · (repeat' (first | ((first | with_reducible refine st_skip ?_ | with_reducible refine st_exit ?_); (try simp only [seqQ, blockQ, loopQ, forQ, whileQ, reduceIte, Nat.reduceEqDiff])) | (with_reducible refine st_ret ?_; ((try simp only [seqQ, blockQ, loopQ, forQ, whileQ]); first | (with_reducible refine retM_ret ?_) | refine retQ_ret ?_; simp)) | refine st_seq ?_ | refine st_block ?_ | ((first | refine st_reg ?_ | refine buildP_own ?_) <;> (simp -dsimp; (repeat (simp -dsimp (disch := (first | omega | assumption | (refine Bool.eq_false_iff.1 ?_; assumption))) only [wrap_in, if_pos, if_neg]; (try simp -dsimp))))) | ((first | refine guardP_of (fun hc => ?_) (fun hc => ?_) | refine st_cond rfl (fun hc => ?_) (fun hc => ?_)) <;> (try simp only [decide_eq_true_eq, decide_eq_false_iff_not, Bool.true_eq_false, Bool.false_eq_true, bne_iff_ne, ne_eq, bne_eq_false_iff_eq, beq_iff_eq, beq_eq_false_iff_ne, Bool.not_eq_true, Bool.not_eq_false, Bool.not_eq_eq_eq_not, Bool.not_true, Bool.not_false, Decidable.not_not] at hc) <;> (try (exfalso; first | omega | exact bool_tf hc (by assumption) | exact bool_ft hc (by assumption) | exact absurd (by assumption) hc)) <;> (first | with_reducible show STri _ _ _ _ _ _ | (simp -dsimp [hc]; (repeat (simp -dsimp (disch := (first | omega | assumption | (refine Bool.eq_false_iff.1 ?_; assumption))) only [wrap_in, if_pos, if_neg]; (try simp -dsimp [hc]))))))))
    exact .refl _
  · (repeat' (first | ((first | with_reducible refine st_skip ?_ | with_reducible refine st_exit ?_); (try simp only [seqQ, blockQ, loopQ, forQ, whileQ, reduceIte, Nat.reduceEqDiff])) | (with_reducible refine st_ret ?_; ((try simp only [seqQ, blockQ, loopQ, forQ, whileQ]); first | (with_reducible refine retM_ret ?_) | refine retQ_ret ?_; simp)) | refine st_seq ?_ | refine st_block ?_ | ((first | refine st_reg ?_ | refine buildP_own ?_) <;> (simp -dsimp; (repeat (simp -dsimp (disch := (first | omega | assumption | (refine Bool.eq_false_iff.1 ?_; assumption))) only [wrap_in, if_pos, if_neg]; (try simp -dsimp))))) | ((first | refine guardP_of (fun hc => ?_) (fun hc => ?_) | refine st_cond rfl (fun hc => ?_) (fun hc => ?_)) <;> (try simp only [decide_eq_true_eq, decide_eq_false_iff_not, Bool.true_eq_false, Bool.false_eq_true, bne_iff_ne, ne_eq, bne_eq_false_iff_eq, beq_iff_eq, beq_eq_false_iff_ne, Bool.not_eq_true, Bool.not_eq_false, Bool.not_eq_eq_eq_not, Bool.not_true, Bool.not_false, Decidable.not_not] at hc) <;> (try (exfalso; first | omega | exact bool_tf hc (by assumption) | exact bool_ft hc (by assumption) | exact absurd (by assumption) hc)) <;> (first | with_reducible show STri _ _ _ _ _ _ | (simp -dsimp [hc]; (repeat (simp -dsimp (disch := (first | omega | assumption | (refine Bool.eq_false_iff.1 ?_; assumption))) only [wrap_in, if_pos, if_neg]; (try simp -dsimp [hc]))))))))
    exact .refl _
def heavyI (f : Fc) (wlo whi : Int) : Int := (if f.friction + whi > f.friction - wlo then f.friction + whi else f.friction - wlo) + 1
def rPoise (f : Fc) (wlo whi : Int) : CV := if (fcOK f && spanB (-10000) 10000 wlo whi) = true then (if heavyI f wlo whi > 10000 then .tup [I 0, I 0, I 7] else .tup [I (heavyI f wlo whi), I (-heavyI f wlo whi), I 0]) else .tup [I 0, I 0, I 2]
theorem sPoise (f : Fc) (hl : f.links.length ≤ 1000000) (wlo whi : Int) : SC Tryz.prog 22 [cF f, cS wlo whi] (rPoise f wlo whi) := by
  refine law_dial_Poise _ _ (by simp) ?_
  by_cases h : fcB f = true
  · by_cases h2 : slackI f.links ≤ 3600
    · have hok : fcOK f = true := by simp [fcOK, h, h2]
      by_cases h3 : spanB (-10000) 10000 wlo whi = true
      · have hs := fc_sm hok
        have f1 := hs.h
        have f2 := hs.i
        have h4 := h3
        unfold spanB at h4
        simp only [Bool.and_eq_true, decide_eq_true_eq] at h4
        obtain ⟨⟨w1, w2⟩, w3⟩ := h4
        by_cases h5 : f.friction + whi > f.friction - wlo
        · have e1 : heavyI f wlo whi = f.friction + whi + 1 := by unfold heavyI; rw [if_pos h5]
          (repeat' (first | ((first | with_reducible refine st_skip ?_ | with_reducible refine st_exit ?_); (try simp only [seqQ, blockQ, loopQ, forQ, whileQ, reduceIte, Nat.reduceEqDiff])) | (with_reducible refine st_ret ?_; ((try simp only [seqQ, blockQ, loopQ, forQ, whileQ]); first | (with_reducible refine retM_ret ?_) | refine retQ_ret ?_; simp [h2, h3, h5])) | refine st_seq ?_ | refine st_block ?_ | ((first | refine st_reg ?_ | refine buildP_own ?_ | refine callP_b (sNewOk hl h) rfl ?_ | refine callP_b (sIsWind wlo whi) rfl ?_) <;> (simp -dsimp [h2, h3, h5]; (repeat (simp -dsimp (disch := (first | omega | assumption | (refine Bool.eq_false_iff.1 ?_; assumption))) only [wrap_in, if_pos, if_neg]; (try simp -dsimp [h2, h3, h5]))))) | ((first | refine guardP_of (fun hc => ?_) (fun hc => ?_) | refine st_cond rfl (fun hc => ?_) (fun hc => ?_)) <;> (try simp only [decide_eq_true_eq, decide_eq_false_iff_not, Bool.true_eq_false, Bool.false_eq_true, bne_iff_ne, ne_eq, bne_eq_false_iff_eq, beq_iff_eq, beq_eq_false_iff_ne, Bool.not_eq_true, Bool.not_eq_false, Bool.not_eq_eq_eq_not, Bool.not_true, Bool.not_false, Decidable.not_not] at hc) <;> (try (exfalso; first | omega | exact bool_tf hc (by assumption) | exact bool_ft hc (by assumption) | exact absurd (by assumption) hc)) <;> (first | with_reducible show STri _ _ _ _ _ _ | (simp -dsimp [h2, h3, h5, hc]; (repeat (simp -dsimp (disch := (first | omega | assumption | (refine Bool.eq_false_iff.1 ?_; assumption))) only [wrap_in, if_pos, if_neg]; (try simp -dsimp [h2, h3, h5, hc]))))))))
          all_goals (refine CLe.of_eq ?_; unfold rPoise; rw [if_pos (by simp [hok, h3]), e1])
          · rw [if_pos (by omega)]
          · rw [if_neg (by omega)]
        · have e1 : heavyI f wlo whi = f.friction - wlo + 1 := by unfold heavyI; rw [if_neg h5]
          (repeat' (first | ((first | with_reducible refine st_skip ?_ | with_reducible refine st_exit ?_); (try simp only [seqQ, blockQ, loopQ, forQ, whileQ, reduceIte, Nat.reduceEqDiff])) | (with_reducible refine st_ret ?_; ((try simp only [seqQ, blockQ, loopQ, forQ, whileQ]); first | (with_reducible refine retM_ret ?_) | refine retQ_ret ?_; simp [h2, h3, h5])) | refine st_seq ?_ | refine st_block ?_ | ((first | refine st_reg ?_ | refine buildP_own ?_ | refine callP_b (sNewOk hl h) rfl ?_ | refine callP_b (sIsWind wlo whi) rfl ?_) <;> (simp -dsimp [h2, h3, h5]; (repeat (simp -dsimp (disch := (first | omega | assumption | (refine Bool.eq_false_iff.1 ?_; assumption))) only [wrap_in, if_pos, if_neg]; (try simp -dsimp [h2, h3, h5]))))) | ((first | refine guardP_of (fun hc => ?_) (fun hc => ?_) | refine st_cond rfl (fun hc => ?_) (fun hc => ?_)) <;> (try simp only [decide_eq_true_eq, decide_eq_false_iff_not, Bool.true_eq_false, Bool.false_eq_true, bne_iff_ne, ne_eq, bne_eq_false_iff_eq, beq_iff_eq, beq_eq_false_iff_ne, Bool.not_eq_true, Bool.not_eq_false, Bool.not_eq_eq_eq_not, Bool.not_true, Bool.not_false, Decidable.not_not] at hc) <;> (try (exfalso; first | omega | exact bool_tf hc (by assumption) | exact bool_ft hc (by assumption) | exact absurd (by assumption) hc)) <;> (first | with_reducible show STri _ _ _ _ _ _ | (simp -dsimp [h2, h3, h5, hc]; (repeat (simp -dsimp (disch := (first | omega | assumption | (refine Bool.eq_false_iff.1 ?_; assumption))) only [wrap_in, if_pos, if_neg]; (try simp -dsimp [h2, h3, h5, hc]))))))))
          all_goals (refine CLe.of_eq ?_; unfold rPoise; rw [if_pos (by simp [hok, h3]), e1])
          · rw [if_pos (by omega)]
          · rw [if_neg (by omega)]
      · (repeat' (first | ((first | with_reducible refine st_skip ?_ | with_reducible refine st_exit ?_); (try simp only [seqQ, blockQ, loopQ, forQ, whileQ, reduceIte, Nat.reduceEqDiff])) | (with_reducible refine st_ret ?_; ((try simp only [seqQ, blockQ, loopQ, forQ, whileQ]); first | (with_reducible refine retM_ret ?_) | refine retQ_ret ?_; simp [h2, h3])) | refine st_seq ?_ | refine st_block ?_ | ((first | refine st_reg ?_ | refine buildP_own ?_ | refine callP_b (sNewOk hl h) rfl ?_ | refine callP_b (sIsWind wlo whi) rfl ?_) <;> (simp -dsimp [h2, h3]; (repeat (simp -dsimp (disch := (first | omega | assumption | (refine Bool.eq_false_iff.1 ?_; assumption))) only [wrap_in, if_pos, if_neg]; (try simp -dsimp [h2, h3]))))) | ((first | refine guardP_of (fun hc => ?_) (fun hc => ?_) | refine st_cond rfl (fun hc => ?_) (fun hc => ?_)) <;> (try simp only [decide_eq_true_eq, decide_eq_false_iff_not, Bool.true_eq_false, Bool.false_eq_true, bne_iff_ne, ne_eq, bne_eq_false_iff_eq, beq_iff_eq, beq_eq_false_iff_ne, Bool.not_eq_true, Bool.not_eq_false, Bool.not_eq_eq_eq_not, Bool.not_true, Bool.not_false, Decidable.not_not] at hc) <;> (try (exfalso; first | omega | exact bool_tf hc (by assumption) | exact bool_ft hc (by assumption) | exact absurd (by assumption) hc)) <;> (first | with_reducible show STri _ _ _ _ _ _ | (simp -dsimp [h2, h3, hc]; (repeat (simp -dsimp (disch := (first | omega | assumption | (refine Bool.eq_false_iff.1 ?_; assumption))) only [wrap_in, if_pos, if_neg]; (try simp -dsimp [h2, h3, hc]))))))))
        all_goals (refine CLe.of_eq ?_; unfold rPoise; rw [if_neg (by simp [h3])])
    · (repeat' (first | ((first | with_reducible refine st_skip ?_ | with_reducible refine st_exit ?_); (try simp only [seqQ, blockQ, loopQ, forQ, whileQ, reduceIte, Nat.reduceEqDiff])) | (with_reducible refine st_ret ?_; ((try simp only [seqQ, blockQ, loopQ, forQ, whileQ]); first | (with_reducible refine retM_ret ?_) | refine retQ_ret ?_; simp [h2])) | refine st_seq ?_ | refine st_block ?_ | ((first | refine st_reg ?_ | refine buildP_own ?_ | refine callP_b (sNewOk hl h) rfl ?_) <;> (simp -dsimp [h2]; (repeat (simp -dsimp (disch := (first | omega | assumption | (refine Bool.eq_false_iff.1 ?_; assumption))) only [wrap_in, if_pos, if_neg]; (try simp -dsimp [h2]))))) | ((first | refine guardP_of (fun hc => ?_) (fun hc => ?_) | refine st_cond rfl (fun hc => ?_) (fun hc => ?_)) <;> (try simp only [decide_eq_true_eq, decide_eq_false_iff_not, Bool.true_eq_false, Bool.false_eq_true, bne_iff_ne, ne_eq, bne_eq_false_iff_eq, beq_iff_eq, beq_eq_false_iff_ne, Bool.not_eq_true, Bool.not_eq_false, Bool.not_eq_eq_eq_not, Bool.not_true, Bool.not_false, Decidable.not_not] at hc) <;> (try (exfalso; first | omega | exact bool_tf hc (by assumption) | exact bool_ft hc (by assumption) | exact absurd (by assumption) hc)) <;> (first | with_reducible show STri _ _ _ _ _ _ | (simp -dsimp [h2, hc]; (repeat (simp -dsimp (disch := (first | omega | assumption | (refine Bool.eq_false_iff.1 ?_; assumption))) only [wrap_in, if_pos, if_neg]; (try simp -dsimp [h2, hc]))))))))
      all_goals (refine CLe.of_eq ?_; unfold rPoise; rw [if_neg (by simp [fcOK, h2])])
  · (repeat' (first | ((first | with_reducible refine st_skip ?_ | with_reducible refine st_exit ?_); (try simp only [seqQ, blockQ, loopQ, forQ, whileQ, reduceIte, Nat.reduceEqDiff])) | (with_reducible refine st_ret ?_; ((try simp only [seqQ, blockQ, loopQ, forQ, whileQ]); first | (with_reducible refine retM_ret ?_) | refine retQ_ret ?_; simp)) | refine st_seq ?_ | refine st_block ?_ | ((first | refine st_reg ?_ | refine buildP_own ?_ | refine callP_b (sNewNo hl h) rfl ?_) <;> (simp -dsimp; (repeat (simp -dsimp (disch := (first | omega | assumption | (refine Bool.eq_false_iff.1 ?_; assumption))) only [wrap_in, if_pos, if_neg]; (try simp -dsimp))))) | ((first | refine guardP_of (fun hc => ?_) (fun hc => ?_) | refine st_cond rfl (fun hc => ?_) (fun hc => ?_)) <;> (try simp only [decide_eq_true_eq, decide_eq_false_iff_not, Bool.true_eq_false, Bool.false_eq_true, bne_iff_ne, ne_eq, bne_eq_false_iff_eq, beq_iff_eq, beq_eq_false_iff_ne, Bool.not_eq_true, Bool.not_eq_false, Bool.not_eq_eq_eq_not, Bool.not_true, Bool.not_false, Decidable.not_not] at hc) <;> (try (exfalso; first | omega | exact bool_tf hc (by assumption) | exact bool_ft hc (by assumption) | exact absurd (by assumption) hc)) <;> (first | with_reducible show STri _ _ _ _ _ _ | (simp -dsimp [hc]; (repeat (simp -dsimp (disch := (first | omega | assumption | (refine Bool.eq_false_iff.1 ?_; assumption))) only [wrap_in, if_pos, if_neg]; (try simp -dsimp [hc]))))))))
    all_goals (refine CLe.of_eq ?_; unfold rPoise; rw [if_neg (by simp [fcOK, h])])
theorem st_drop {cf : Cf} {sc : SCode} {T : TL} {H : HL} {Q : Exit → TL → HL → Prop} (id : Nat) (hs : (lookH H id).isSome = true) (hl : lessOK cf ((H.map (·.1)).filter fun i => i != id) T H = true) (h : STri cf sc T (keepH ((H.map (·.1)).filter fun i => i != id) H) Q) : STri cf sc T H Q :=
  st_keep _ hl h
def gustP (f : Fc) (s d lag n : Int) : Bool := inB (lagLo f s d n n) (lagHi f s d n) lag
structure Gust (k : Lo) (d lag g : Int) : Prop where
  lo : k.wlo ≤ g
  hi : g ≤ 100000
  no : ∀ n, k.wlo ≤ n → n < g → gustP k.f (slackI k.f.links) d lag n = false
  at' : gustP k.f (slackI k.f.links) d lag g = true
theorem sGust (k : Lo) (hk : LoSm k) (d lag g : Int) (hg : Gust k d lag g) : SC Tryz.prog 43 [cLook k, I d, I lag] (I g) := by
  refine law_dial_look_gust _ _ (by simp) ?_
  have c1 := hk.c
  have c2 := hk.d
  have g1 := hg.lo
  have g2 := hg.hi
  have sl : ∀ n, -1000000 ≤ n → n ≤ 1000000 → SC Tryz.prog 42 [cX k.f (slackI k.f.links), I d, cS n n] (cS (lagLo k.f (slackI k.f.links) d n n) (lagHi k.f (slackI k.f.links) d n)) := fun n h1 h2 =>
    sLags k.f (slackI k.f.links) d n n hk.f.e hk.f.g hk.f.h hk.f.i h1 h2 h1 h2
  (repeat' (first | ((first | with_reducible refine st_skip ?_ | with_reducible refine st_exit ?_); (try simp only [seqQ, blockQ, loopQ, forQ, whileQ, reduceIte, Nat.reduceEqDiff])) | (with_reducible refine st_ret ?_; ((try simp only [seqQ, blockQ, loopQ, forQ, whileQ]); first | (with_reducible refine retM_ret ?_) | refine retQ_ret ?_; simp)) | refine st_seq ?_ | refine st_block ?_ | ((first | refine st_reg ?_ | refine buildP_own ?_ | refine callP_b (sl k.wlo (by omega) (by omega)) rfl ?_) <;> (simp -dsimp; (repeat (simp -dsimp (disch := (first | omega | assumption | (refine Bool.eq_false_iff.1 ?_; assumption))) only [wrap_in, if_pos, if_neg]; (try simp -dsimp))))) | ((first | refine guardP_of (fun hc => ?_) (fun hc => ?_) | refine st_cond rfl (fun hc => ?_) (fun hc => ?_)) <;> (try simp only [decide_eq_true_eq, decide_eq_false_iff_not, Bool.true_eq_false, Bool.false_eq_true, bne_iff_ne, ne_eq, bne_eq_false_iff_eq, beq_iff_eq, beq_eq_false_iff_ne, Bool.not_eq_true, Bool.not_eq_false, Bool.not_eq_eq_eq_not, Bool.not_true, Bool.not_false, Decidable.not_not] at hc) <;> (try (exfalso; first | omega | exact bool_tf hc (by assumption) | exact bool_ft hc (by assumption) | exact absurd (by assumption) hc)) <;> (first | with_reducible show STri _ _ _ _ _ _ | (simp -dsimp [hc]; (repeat (simp -dsimp (disch := (first | omega | assumption | (refine Bool.eq_false_iff.1 ?_; assumption))) only [wrap_in, if_pos, if_neg]; (try simp -dsimp [hc]))))))))
  refine st_for [3, 8] (g - k.wlo).toNat (fun j T H => T = [(1, .c (I d)), (2, .c (I lag)), (3, .ptr 3 0), (7, .c (I (k.wlo + j))), (8, .ptr 8 0)] ∧ H = [(3, .box 98 ([I k.w.jump, I k.w.elo, I k.w.ehi, slF k.w.faces, slX k.w.faces, I k.f.lo, I k.f.hi, slL k.f.links, I k.f.weight, I k.f.friction, I (slackI k.f.links), I k.at', I k.wlo, I k.whi].map .c)),
    (8, .box 23 [.c (I (lagLo k.f (slackI k.f.links) d (k.wlo + j) (k.wlo + j))), .c (I (lagHi k.f (slackI k.f.links) d (k.wlo + j)))])]) (by simp) ⟨by simp, by simp⟩ ?_
  rintro j T H hj ⟨rfl, rfl⟩
  by_cases hlt : j < (g - k.wlo).toNat
  · have hp := hg.no (k.wlo + j) (by omega) (by omega)
    unfold gustP at hp
    have sw := sWithin (lagLo k.f (slackI k.f.links) d (k.wlo + j) (k.wlo + j)) (lagHi k.f (slackI k.f.links) d (k.wlo + j)) [lag] (by simp)
    have sn := sl (k.wlo + j + 1) (by omega) (by omega)
    (repeat' (first | ((with_reducible refine st_drop (sc := c_dial_look_gust_9) 8 rfl (by simp) ?_); (try simp)) | ((first | with_reducible refine st_skip ?_ | with_reducible refine st_exit ?_); (try simp only [seqQ, blockQ, loopQ, forQ, whileQ, reduceIte, Nat.reduceEqDiff])) | (with_reducible refine st_ret ?_; ((try simp only [seqQ, blockQ, loopQ, forQ, whileQ]); first | (with_reducible refine retM_ret ?_) | refine retQ_ret ?_; simp [hp, allIn1])) | refine st_seq ?_ | refine st_block ?_ | ((first | refine st_reg ?_ | refine buildP_own ?_ | refine callP_b (sw) rfl ?_ | refine callP_b (sn) rfl ?_) <;> (simp -dsimp [hp, allIn1]; (repeat (simp -dsimp (disch := (first | omega | assumption | (refine Bool.eq_false_iff.1 ?_; assumption))) only [wrap_in, if_pos, if_neg]; (try simp -dsimp [hp, allIn1]))))) | ((first | refine guardP_of (fun hc => ?_) (fun hc => ?_) | refine st_cond rfl (fun hc => ?_) (fun hc => ?_)) <;> (try simp only [decide_eq_true_eq, decide_eq_false_iff_not, Bool.true_eq_false, Bool.false_eq_true, bne_iff_ne, ne_eq, bne_eq_false_iff_eq, beq_iff_eq, beq_eq_false_iff_ne, Bool.not_eq_true, Bool.not_eq_false, Bool.not_eq_eq_eq_not, Bool.not_true, Bool.not_false, Decidable.not_not] at hc) <;> (try (exfalso; first | omega | exact bool_tf hc (by assumption) | exact bool_ft hc (by assumption) | exact absurd (by assumption) hc)) <;> (first | with_reducible show STri _ _ _ _ _ _ | (simp -dsimp [hp, allIn1, hc]; (repeat (simp -dsimp (disch := (first | omega | assumption | (refine Bool.eq_false_iff.1 ?_; assumption))) only [wrap_in, if_pos, if_neg]; (try simp -dsimp [hp, allIn1, hc]))))))))
    have e : k.wlo + ((j + 1 : Nat) : Int) = k.wlo + j + 1 := by omega
    exact ⟨hlt, by simp, by rw [e], by simp only [e]; simp⟩
  · have : k.wlo + j = g := by omega
    have hp := hg.at'
    unfold gustP at hp
    rw [← this] at hp
    have sw := sWithin (lagLo k.f (slackI k.f.links) d (k.wlo + j) (k.wlo + j)) (lagHi k.f (slackI k.f.links) d (k.wlo + j)) [lag] (by simp)
    (repeat' (first | ((first | with_reducible refine st_skip ?_ | with_reducible refine st_exit ?_); (try simp only [seqQ, blockQ, loopQ, forQ, whileQ, reduceIte, Nat.reduceEqDiff])) | (with_reducible refine st_ret ?_; ((try simp only [seqQ, blockQ, loopQ, forQ, whileQ]); first | (with_reducible refine retM_ret ?_) | refine retQ_ret ?_; simp [hp, allIn1])) | refine st_seq ?_ | refine st_block ?_ | ((first | refine st_reg ?_ | refine buildP_own ?_ | refine callP_b (sw) rfl ?_) <;> (simp -dsimp [hp, allIn1]; (repeat (simp -dsimp (disch := (first | omega | assumption | (refine Bool.eq_false_iff.1 ?_; assumption))) only [wrap_in, if_pos, if_neg]; (try simp -dsimp [hp, allIn1]))))) | ((first | refine guardP_of (fun hc => ?_) (fun hc => ?_) | refine st_cond rfl (fun hc => ?_) (fun hc => ?_)) <;> (try simp only [decide_eq_true_eq, decide_eq_false_iff_not, Bool.true_eq_false, Bool.false_eq_true, bne_iff_ne, ne_eq, bne_eq_false_iff_eq, beq_iff_eq, beq_eq_false_iff_ne, Bool.not_eq_true, Bool.not_eq_false, Bool.not_eq_eq_eq_not, Bool.not_true, Bool.not_false, Decidable.not_not] at hc) <;> (try (exfalso; first | omega | exact bool_tf hc (by assumption) | exact bool_ft hc (by assumption) | exact absurd (by assumption) hc)) <;> (first | with_reducible show STri _ _ _ _ _ _ | (simp -dsimp [hp, allIn1, hc]; (repeat (simp -dsimp (disch := (first | omega | assumption | (refine Bool.eq_false_iff.1 ?_; assumption))) only [wrap_in, if_pos, if_neg]; (try simp -dsimp [hp, allIn1, hc]))))))))
    rw [this]; exact .refl _
end Go.Proofs.YtnfggkopledpcaaGreat
