/- Part 6 of a proof: Dv0, Fb0, Tb0, CodeR, Ek, Tb, Tc, Dr, Ds, Dt, Du, Td, Te. -/
import Derived.Test.YtnfggkopledpcaaGreatK5
import Derived.Test.YtnfggkopledpcaaGreatK3
set_option linter.unusedSimpArgs false
set_option linter.unusedVariables false
/- Dial: the ends of what a dial can be off by. -/
namespace Go.Proofs.YtnfggkopledpcaaGreat
open Go.RowKit
theorem down_mono {a b j : Int} (h : a ≤ b) (hj : 0 < j) : downI a j ≤ downI b j := by
  have e : ∀ n, downI n j = n / j * j := fun n => by
    unfold downI
    have := Int.emod_add_mul_ediv n j
    rw [Int.mul_comm (n / j) j]; omega
  rw [e, e]
  exact Int.mul_le_mul_of_nonneg_right (Int.ediv_le_ediv hj h) (by omega)
end Go.Proofs.YtnfggkopledpcaaGreat
/- Dial: the times are those at which all readings can be right. -/
namespace Go.Proofs.YtnfggkopledpcaaGreat
open Go.RowKit
theorem dr_to2 {w : Dw} (hw : DwSm w) {lo hi a e : Int} (a1 : lo ≤ a) (a2 : a ≤ hi) (h1 : w.elo ≤ e) (h2 : e ≤ w.ehi) : downI (a + e) w.jump ∈ drL w lo hi := by
  have j1 := hw.a
  obtain ⟨q0, hq0⟩ := down_is (lo + w.elo) w.jump
  obtain ⟨q, hq⟩ := down_is (a + e) w.jump
  have hm := down_mono (show lo + w.elo ≤ a + e by omega) (show 0 < w.jump by omega)
  obtain ⟨_, d2⟩ := down_le (n := a + e) (b := w.jump) (by omega)
  have hqq : q0 ≤ q := by
    rw [hq0, hq] at hm
    exact Int.le_of_mul_le_mul_right hm (by omega)
  have hat : drAt w lo (q - q0).toNat = downI (a + e) w.jump := by
    unfold drAt
    rw [hq0, hq, Int.toNat_of_nonneg (by omega), Int.sub_mul]; omega
  unfold drL
  refine List.mem_map.2 ⟨(q - q0).toNat, List.mem_range.2 ((dr_lt (by omega)).2 ?_), hat⟩
  rw [hat]
  omega
theorem tim_mem {n : Nt} (ok : NtOk n) {a e : Int} (a1 : n.nlo ≤ a) (a2 : a ≤ n.nhi) (h1 : n.w.elo ≤ e) (h2 : e ≤ n.w.ehi) (hc : allCan n (downI (a + e) n.w.jump) = true) : Memb (timRaw n) a := by
  have dw := dw_sm ok.w
  have j1 := dw.a
  obtain ⟨d1, d2⟩ := down_le (n := a + e) (b := n.w.jump) (by omega)
  have hb : (timeAt n (downI (a + e) n.w.jump)).1 ≤ a ∧ a ≤ (timeAt n (downI (a + e) n.w.jump)).2 := by
    unfold timeAt
    simp only
    constructor <;> split <;> omega
  exact ⟨_, mem_timRaw (dr_to2 dw a1 a2 h1 h2) hc (by omega), hb⟩
theorem timRaw_in {n : Nt} {x : Int × Int} (h : x ∈ timRaw n) : n.nlo ≤ x.1 ∧ x.2 ≤ n.nhi ∧ x.1 ≤ x.2 := by
  obtain ⟨d, hd, rfl, _, h3⟩ := timRaw_mem h
  refine ⟨?_, ?_, h3⟩
  · unfold timeAt; simp only; split <;> omega
  · unfold timeAt; simp only; split <;> omega
theorem timL_fine {n : Nt} (ok : NtOk n) : Sep (timL n) ∧ (∀ a, Memb (timL n) a ↔ Memb (timRaw n) a) ∧ (∀ x ∈ timL n, n.nlo ≤ x.1 ∧ x.2 ≤ n.nhi) ∧ (timL n).length ≤ 20000 := by
  obtain ⟨s1, s2⟩ := joinL_sep (xs := timRaw n) fun x hx => (timRaw_in hx).2.2
  refine ⟨s1, s2, fun x hx => ?_, ?_⟩
  · have h0 := s1.2 x hx
    obtain ⟨y, hy, h1, _⟩ := (s2 x.1).1 ⟨x, hx, Int.le_refl _, h0⟩
    obtain ⟨z, hz, _, h2⟩ := (s2 x.2).1 ⟨x, hx, h0, Int.le_refl _⟩
    have := timRaw_in hy
    have := timRaw_in hz
    omega
  · have h1 := joinK_len ((timRaw n).mergeSort fun x y => !ltS y x) (timRaw n).length
    have h2 := timK_len n (drL n.w n.nlo n.nhi).length
    have h3 := drN_le7 (dw_sm ok.w) ok.n4
    have h4 : (drL n.w n.nlo n.nhi).length = drN n.w n.nlo n.nhi := by simp [drL]
    show (joinK _ _).length ≤ _
    unfold timRaw at *
    omega
end Go.Proofs.YtnfggkopledpcaaGreat
/- Dial: the times, told by seconds. -/
namespace Go.Proofs.YtnfggkopledpcaaGreat
open Go.RowKit
theorem dr_from2 {w : Dw} (hw : DwSm w) {lo hi d : Int} (hlh : lo ≤ hi) (hd : d ∈ drL w lo hi) : ∃ a e, lo ≤ a ∧ a ≤ hi ∧ w.elo ≤ e ∧ e ≤ w.ehi ∧ downI (a + e) w.jump = d := by
  have j1 := hw.a
  have g := hw.g
  obtain ⟨k, hk, rfl⟩ := List.mem_map.1 hd
  rw [List.mem_range] at hk
  have hle := (dr_lt (lo := lo) (hi := hi) (w := w) (k := k) (by omega)).1 hk
  obtain ⟨q0, hq0⟩ := down_is (lo + w.elo) w.jump
  obtain ⟨d1, d2⟩ := down_le (n := lo + w.elo) (b := w.jump) (by omega)
  have hdr : drAt w lo k = (q0 + k) * w.jump := by unfold drAt; rw [hq0, Int.add_mul]
  have hge : downI (lo + w.elo) w.jump ≤ drAt w lo k := by
    unfold drAt
    have : 0 ≤ (k : Int) * w.jump := Int.mul_nonneg (by omega) (by omega)
    omega
  have hdown : ∀ s, drAt w lo k ≤ s → s < drAt w lo k + w.jump → downI s w.jump = drAt w lo k := fun s h1 h2 => by
    unfold downI
    have e : s % w.jump = s - drAt w lo k := by
      have h3 : s = (s - drAt w lo k) + (q0 + k) * w.jump := by rw [← hdr]; omega
      have h4 : s % w.jump = (s - drAt w lo k) % w.jump := by
        conv => lhs; rw [h3]
        exact Int.add_mul_emod_self_right _ _ _
      rw [h4]; exact Int.emod_eq_of_lt (by omega) (by omega)
    omega
  by_cases hc : drAt w lo k ≤ lo + w.elo
  · exact ⟨lo, w.elo, Int.le_refl _, hlh, Int.le_refl _, g, hdown _ hc (by omega)⟩
  · by_cases hc2 : drAt w lo k ≤ lo + w.ehi
    · exact ⟨lo, drAt w lo k - lo, Int.le_refl _, hlh, by omega, by omega, by rw [show lo + (drAt w lo k - lo) = drAt w lo k by omega]; exact hdown _ (Int.le_refl _) (by omega)⟩
    · exact ⟨drAt w lo k - w.ehi, w.ehi, by omega, by omega, g, Int.le_refl _, by rw [show drAt w lo k - w.ehi + w.ehi = drAt w lo k by omega]; exact hdown _ (Int.le_refl _) (by omega)⟩
theorem tim_iff {n : Nt} (ok : NtOk n) (a : Int) : Memb (timRaw n) a ↔ (n.nlo ≤ a ∧ a ≤ n.nhi) ∧ ∃ e, n.w.elo ≤ e ∧ e ≤ n.w.ehi ∧ allCan n (downI (a + e) n.w.jump) = true := by
  have dw := dw_sm ok.w
  have j1 := dw.a
  have g := dw.g
  constructor
  · rintro ⟨x, hx, h1, h2⟩
    have hin := timRaw_in hx
    obtain ⟨d, hd, rfl, hc, _⟩ := timRaw_mem hx
    refine ⟨by omega, ?_⟩
    have b1 : d - n.w.ehi ≤ a := by
      unfold timeAt at h1; simp only at h1; split at h1 <;> omega
    have b2 : a ≤ d + n.w.jump - 1 - n.w.elo := by
      unfold timeAt at h2; simp only at h2; split at h2 <;> omega
    obtain ⟨a', e', _, _, _, _, hde⟩ := dr_from2 dw ok.n2 hd
    obtain ⟨q, hq⟩ := down_is (a' + e') n.w.jump
    rw [hde] at hq
    have hdown : ∀ s, d ≤ s → s < d + n.w.jump → downI s n.w.jump = d := fun s h1 h2 => by
      unfold downI
      have e : s % n.w.jump = s - d := by
        have h3 : s = (s - d) + q * n.w.jump := by rw [← hq]; omega
        have h4 : s % n.w.jump = (s - d) % n.w.jump := by
          conv => lhs; rw [h3]
          exact Int.add_mul_emod_self_right _ _ _
        rw [h4]; exact Int.emod_eq_of_lt (by omega) (by omega)
      omega
    by_cases hc2 : n.w.elo ≤ d - a
    · exact ⟨d - a, hc2, by omega, by rw [show a + (d - a) = d by omega, hdown d (Int.le_refl _) (by omega)]; exact hc⟩
    · exact ⟨n.w.elo, Int.le_refl _, g, by rw [hdown (a + n.w.elo) (by omega) (by omega)]; exact hc⟩
  · rintro ⟨⟨h1, h2⟩, e, h3, h4, h5⟩
    exact tim_mem ok h1 h2 h3 h4 h5
end Go.Proofs.YtnfggkopledpcaaGreat
/- The shadow code of functions, as the kit's translation has them. -/
namespace Go.Proofs.YtnfggkopledpcaaGreat
open Go.RowKit
def c_turretref04_Notes_0 : SCode := .reg [⟨(some 4), none, .box 26 (.tmp 0), [], false⟩,
  ⟨(some 6), none, .box 23 (.tmp 2), [], false⟩,
  ⟨(some 7), none, .box 23 (.tmp 3), [], false⟩,
  ⟨(some 8), none, .mov (.const (.int .i64 0)), [], false⟩] [1, 4, 6, 7]
def c_turretref04_Notes_1 : SCode := .reg [⟨(some 10), none, .load true 4 (.tmp 4), [], false⟩,
  ⟨(some 11), none, .call 23 [(.tmp 10)], [], false⟩,
  ⟨(some 12), none, .un .not (.tmp 11), [], false⟩] [1, 4, 6, 7, 12]
def c_turretref04_Notes_2 : SCode := .reg [⟨(some 8), none, .mov (.const (.int .i64 2)), [], false⟩] [8]
def c_turretref04_Notes_3 : SCode := .seq c_turretref04_Notes_2 .ret
def c_turretref04_Notes_4 : SCode := .cond (.tmp 12) c_turretref04_Notes_3 .skip
def c_turretref04_Notes_5 : SCode := .seq c_turretref04_Notes_1 c_turretref04_Notes_4
def c_turretref04_Notes_6 : SCode := .reg [⟨(some 13), none, .mov (.tmp 1), [], false⟩,
  ⟨(some 14), none, .len (.tmp 13), [], false⟩,
  ⟨(some 15), none, .bin .gtr (.tmp 14) (.const (.int .i64 20)), [], false⟩] [1, 4, 6, 7, 15]
def c_turretref04_Notes_7 : SCode := .reg [⟨(some 8), none, .mov (.const (.int .i64 5)), [], false⟩] [8]
def c_turretref04_Notes_8 : SCode := .seq c_turretref04_Notes_7 .ret
def c_turretref04_Notes_9 : SCode := .cond (.tmp 15) c_turretref04_Notes_8 .skip
def c_turretref04_Notes_10 : SCode := .seq c_turretref04_Notes_6 c_turretref04_Notes_9
def c_turretref04_Notes_11 : SCode := .reg [⟨(some 9), none, .mov (.const (.int .i64 0)), [], false⟩] [1, 4, 6, 7, 9]
def c_turretref04_Notes_12 : SCode := .reg [⟨(some 16), none, .mov (.tmp 9), [], false⟩,
  ⟨(some 17), none, .mov (.tmp 1), [], false⟩,
  ⟨(some 18), none, .len (.tmp 17), [], false⟩,
  ⟨(some 19), none, .bin .lss (.tmp 16) (.tmp 18), [], false⟩] [1, 4, 6, 7, 9, 19]
def c_turretref04_Notes_13 : SCode := .cond (.tmp 19) .skip (.exit 0)
def c_turretref04_Notes_14 : SCode := .seq c_turretref04_Notes_12 c_turretref04_Notes_13
def c_turretref04_Notes_15 : SCode := .reg [⟨(some 22), none, .mov (.tmp 1), [], false⟩,
  ⟨(some 23), none, .mov (.tmp 9), [], false⟩,
  ⟨(some 24), none, .idxS 2 (.tmp 22) (.tmp 23), [], false⟩,
  ⟨(some 25), none, .fld 0 (.tmp 24), [], false⟩,
  ⟨(some 26), none, .load false 1 (.tmp 25), [], false⟩,
  ⟨(some 27), none, .fld 3 (.tmp 4), [], false⟩,
  ⟨(some 28), none, .load false 1 (.tmp 27), [], false⟩,
  ⟨(some 29), none, .len (.tmp 28), [], false⟩,
  ⟨(some 30), none, .bin .sub (.tmp 29) (.const (.int .i64 1)), [], false⟩,
  ⟨(some 31), none, .call 24 [(.tmp 26), (.const (.int .i64 0)), (.tmp 30)], [], false⟩,
  ⟨(some 32), none, .un .not (.tmp 31), [], false⟩] [1, 4, 6, 7, 9, 32]
def c_turretref04_Notes_16 : SCode := .reg [⟨(some 8), none, .mov (.const (.int .i64 7)), [], false⟩] [8]
def c_turretref04_Notes_17 : SCode := .seq c_turretref04_Notes_16 .ret
def c_turretref04_Notes_18 : SCode := .cond (.tmp 32) c_turretref04_Notes_17 .skip
def c_turretref04_Notes_19 : SCode := .seq c_turretref04_Notes_15 c_turretref04_Notes_18
def c_turretref04_Notes_20 : SCode := .reg [⟨(some 33), none, .mov (.tmp 1), [], false⟩,
  ⟨(some 34), none, .mov (.tmp 9), [], false⟩,
  ⟨(some 35), none, .idxS 2 (.tmp 33) (.tmp 34), [], false⟩,
  ⟨(some 36), none, .fld 1 (.tmp 35), [], false⟩,
  ⟨(some 37), none, .load false 1 (.tmp 36), [], false⟩,
  ⟨(some 38), none, .call 24 [(.tmp 37), (.const (.int .i64 0)), (.const (.int .i64 43199))], [], false⟩,
  ⟨(some 39), none, .un .not (.tmp 38), [], false⟩] [1, 4, 6, 7, 9, 39]
def c_turretref04_Notes_21 : SCode := .reg [⟨(some 8), none, .mov (.const (.int .i64 2)), [], false⟩] [8]
def c_turretref04_Notes_22 : SCode := .seq c_turretref04_Notes_21 .ret
def c_turretref04_Notes_23 : SCode := .cond (.tmp 39) c_turretref04_Notes_22 .skip
def c_turretref04_Notes_24 : SCode := .seq c_turretref04_Notes_20 c_turretref04_Notes_23
def c_turretref04_Notes_25 : SCode := .seq c_turretref04_Notes_19 c_turretref04_Notes_24
def c_turretref04_Notes_26 : SCode := .block 1 c_turretref04_Notes_25
def c_turretref04_Notes_27 : SCode := .reg [⟨(some 20), none, .mov (.tmp 9), [], false⟩,
  ⟨(some 21), none, .bin .add (.tmp 20) (.const (.int .i64 1)), [], false⟩,
  ⟨(some 9), none, .mov (.tmp 21), [], false⟩] [1, 4, 6, 7, 9]
def c_turretref04_Notes_28 : SCode := .seq c_turretref04_Notes_26 c_turretref04_Notes_27
def c_turretref04_Notes_29 : SCode := .seq c_turretref04_Notes_14 c_turretref04_Notes_28
def c_turretref04_Notes_30 : SCode := .loop c_turretref04_Notes_29
def c_turretref04_Notes_31 : SCode := .block 0 c_turretref04_Notes_30
def c_turretref04_Notes_32 : SCode := .seq c_turretref04_Notes_11 c_turretref04_Notes_31
def c_turretref04_Notes_33 : SCode := .reg [⟨(some 40), none, .load true 2 (.tmp 6), [], false⟩,
  ⟨(some 41), none, .call 25 [(.tmp 40), (.const (.int .i64 0)), (.const (.int .i64 3155760000))], [], false⟩,
  ⟨(some 42), none, .un .not (.tmp 41), [], false⟩,
  ⟨(some 43), none, .mov (.tmp 42), [], false⟩,
  ⟨(some 44), (some (43, false)), .fld 1 (.tmp 6), [], false⟩,
  ⟨(some 45), (some (43, false)), .load false 1 (.tmp 44), [], false⟩,
  ⟨(some 46), (some (43, false)), .fld 0 (.tmp 6), [], false⟩,
  ⟨(some 47), (some (43, false)), .load false 1 (.tmp 46), [], false⟩,
  ⟨(some 48), (some (43, false)), .bin .sub (.tmp 45) (.tmp 47), [], false⟩,
  ⟨(some 49), (some (43, false)), .bin .gtr (.tmp 48) (.const (.int .i64 7200)), [], false⟩,
  ⟨(some 50), none, .pick (.tmp 43) (.const (.bool true)) (.tmp 49), [], false⟩] [7, 50]
def c_turretref04_Notes_34 : SCode := .reg [⟨(some 8), none, .mov (.const (.int .i64 3)), [], false⟩] [8]
def c_turretref04_Notes_35 : SCode := .seq c_turretref04_Notes_34 .ret
def c_turretref04_Notes_36 : SCode := .cond (.tmp 50) c_turretref04_Notes_35 .skip
def c_turretref04_Notes_37 : SCode := .seq c_turretref04_Notes_33 c_turretref04_Notes_36
def c_turretref04_Notes_38 : SCode := .reg [⟨(some 51), none, .load true 2 (.tmp 7), [], false⟩,
  ⟨(some 52), none, .call 26 [(.tmp 51)], [], false⟩,
  ⟨(some 53), none, .un .not (.tmp 52), [], false⟩] [53]
def c_turretref04_Notes_39 : SCode := .reg [⟨(some 8), none, .mov (.const (.int .i64 2)), [], false⟩] [8]
def c_turretref04_Notes_40 : SCode := .seq c_turretref04_Notes_39 .ret
def c_turretref04_Notes_41 : SCode := .cond (.tmp 53) c_turretref04_Notes_40 .skip
def c_turretref04_Notes_42 : SCode := .seq c_turretref04_Notes_38 c_turretref04_Notes_41
def c_turretref04_Notes_43 : SCode := .reg [⟨(some 8), none, .mov (.const (.int .i64 0)), [], false⟩] [8]
def c_turretref04_Notes_44 : SCode := .seq c_turretref04_Notes_43 .ret
def c_turretref04_Notes_45 : SCode := .seq c_turretref04_Notes_42 c_turretref04_Notes_44
def c_turretref04_Notes_46 : SCode := .seq c_turretref04_Notes_37 c_turretref04_Notes_45
def c_turretref04_Notes_47 : SCode := .seq c_turretref04_Notes_32 c_turretref04_Notes_46
def c_turretref04_Notes_48 : SCode := .seq c_turretref04_Notes_10 c_turretref04_Notes_47
def c_turretref04_Notes_49 : SCode := .seq c_turretref04_Notes_5 c_turretref04_Notes_48
def c_turretref04_Notes_50 : SCode := .seq c_turretref04_Notes_0 c_turretref04_Notes_49
@[simp] def rs_turretref04_Notes : List SRes := [.tmp 8]
theorem law_turretref04_Notes (cs : List CV) (r : CV) (hl : cs.length ≤ 54) (h : STri (cfF Tryz.prog [] 54) c_turretref04_Notes_50 (initT 0 cs) [] (retQ rs_turretref04_Notes r)) : SC Tryz.prog 6 cs r :=
  sc_of [] follows Tryz.func6 rfl Tryz.ntmps6 (by decide) (by kernel_rfl) (by kernel_rfl) hl h
def c_turretref04_Spans_0 : SCode := .reg [⟨(some 4), none, .mov (.const (.slice none 0 0)), [], false⟩] [0, 1]
def c_turretref04_Spans_1 : SCode := .reg [⟨(some 7), none, .buildSl 23 2 [(.int .i64 0), (.int .i64 0)] 0 [], [], false⟩,
  ⟨(some 5), none, .mov (.tmp 7), [], false⟩] [0, 1, 5]
def c_turretref04_Spans_2 : SCode := .reg [⟨(some 6), none, .mov (.const (.int .i64 0)), [], false⟩] [0, 1, 5, 6]
def c_turretref04_Spans_3 : SCode := .reg [⟨(some 8), none, .mov (.tmp 6), [], false⟩,
  ⟨(some 9), none, .mov (.tmp 0), [], false⟩,
  ⟨(some 10), none, .len (.tmp 9), [], false⟩,
  ⟨(some 11), none, .bin .lss (.tmp 8) (.tmp 10), [], false⟩] [0, 1, 5, 6, 11]
def c_turretref04_Spans_4 : SCode := .cond (.tmp 11) .skip (.exit 0)
def c_turretref04_Spans_5 : SCode := .seq c_turretref04_Spans_3 c_turretref04_Spans_4
def c_turretref04_Spans_6 : SCode := .reg [⟨(some 14), none, .mov (.tmp 0), [], false⟩,
  ⟨(some 15), none, .mov (.tmp 6), [], false⟩,
  ⟨(some 16), none, .idxS 1 (.tmp 14) (.tmp 15), [], false⟩,
  ⟨(some 17), none, .load false 1 (.tmp 16), [], false⟩,
  ⟨(some 18), none, .mov (.tmp 17), [], false⟩,
  ⟨(some 19), (some (18, true)), .mov (.tmp 6), [], false⟩,
  ⟨(some 20), (some (18, true)), .bin .eql (.tmp 19) (.const (.int .i64 0)), [], false⟩,
  ⟨(some 21), (some (18, true)), .mov (.tmp 20), [], false⟩,
  ⟨(some 22), (some (21, false)), .mov (.tmp 0), [], false⟩,
  ⟨(some 23), (some (21, false)), .mov (.tmp 6), [], false⟩,
  ⟨(some 24), (some (21, false)), .bin .sub (.tmp 23) (.const (.int .i64 1)), [], false⟩,
  ⟨(some 25), (some (21, false)), .idxS 1 (.tmp 22) (.tmp 24), [], false⟩,
  ⟨(some 26), (some (21, false)), .load false 1 (.tmp 25), [], false⟩,
  ⟨(some 27), (some (21, false)), .un .not (.tmp 26), [], false⟩,
  ⟨(some 28), (some (18, true)), .pick (.tmp 21) (.const (.bool true)) (.tmp 27), [], false⟩,
  ⟨(some 29), none, .pick (.tmp 18) (.tmp 28) (.const (.bool false)), [], false⟩] [0, 1, 5, 6, 29]
def c_turretref04_Spans_7 : SCode := .reg [⟨(some 30), none, .mov (.tmp 5), [], false⟩,
  ⟨(some 31), none, .mov (.tmp 1), [], false⟩,
  ⟨(some 32), none, .mov (.tmp 6), [], false⟩,
  ⟨(some 33), none, .bin .add (.tmp 31) (.tmp 32), [], false⟩,
  ⟨(some 34), none, .mov (.tmp 1), [], false⟩,
  ⟨(some 35), none, .mov (.tmp 6), [], false⟩,
  ⟨(some 36), none, .bin .add (.tmp 34) (.tmp 35), [], false⟩,
  ⟨(some 37), none, .build [(.int .i64 0), (.int .i64 0)] [(0, 1, (.tmp 33)), (1, 1, (.tmp 36))], [], false⟩,
  ⟨(some 38), none, .buildSl 23 2 [(.int .i64 0), (.int .i64 0)] 1 [(0, (.tmp 37))], [], false⟩,
  ⟨(some 39), none, .append 23 2 16 (.tmp 30) (.tmp 38), [], false⟩,
  ⟨(some 5), none, .mov (.tmp 39), [], false⟩] [0, 1, 5, 6]
def c_turretref04_Spans_8 : SCode := .cond (.tmp 29) c_turretref04_Spans_7 .skip
def c_turretref04_Spans_9 : SCode := .seq c_turretref04_Spans_6 c_turretref04_Spans_8
def c_turretref04_Spans_10 : SCode := .reg [⟨(some 40), none, .mov (.tmp 0), [], false⟩,
  ⟨(some 41), none, .mov (.tmp 6), [], false⟩,
  ⟨(some 42), none, .idxS 1 (.tmp 40) (.tmp 41), [], false⟩,
  ⟨(some 43), none, .load false 1 (.tmp 42), [], false⟩] [0, 1, 5, 6, 43]
def c_turretref04_Spans_11 : SCode := .reg [⟨(some 44), none, .mov (.tmp 5), [], false⟩,
  ⟨(some 45), none, .mov (.tmp 5), [], false⟩,
  ⟨(some 46), none, .len (.tmp 45), [], false⟩,
  ⟨(some 47), none, .bin .sub (.tmp 46) (.const (.int .i64 1)), [], false⟩,
  ⟨(some 48), none, .mov (.tmp 1), [], false⟩,
  ⟨(some 49), none, .mov (.tmp 6), [], false⟩,
  ⟨(some 50), none, .bin .add (.tmp 48) (.tmp 49), [], false⟩,
  ⟨(some 51), none, .idxS 2 (.tmp 44) (.tmp 47), [], false⟩,
  ⟨(some 52), none, .fld 1 (.tmp 51), [], false⟩,
  ⟨none, none, .store 1 (.tmp 52) (.tmp 50), [], false⟩] [0, 1, 5, 6]
def c_turretref04_Spans_12 : SCode := .cond (.tmp 43) c_turretref04_Spans_11 .skip
def c_turretref04_Spans_13 : SCode := .seq c_turretref04_Spans_10 c_turretref04_Spans_12
def c_turretref04_Spans_14 : SCode := .seq c_turretref04_Spans_9 c_turretref04_Spans_13
def c_turretref04_Spans_15 : SCode := .block 1 c_turretref04_Spans_14
def c_turretref04_Spans_16 : SCode := .reg [⟨(some 12), none, .mov (.tmp 6), [], false⟩,
  ⟨(some 13), none, .bin .add (.tmp 12) (.const (.int .i64 1)), [], false⟩,
  ⟨(some 6), none, .mov (.tmp 13), [], false⟩] [0, 1, 5, 6]
def c_turretref04_Spans_17 : SCode := .seq c_turretref04_Spans_15 c_turretref04_Spans_16
def c_turretref04_Spans_18 : SCode := .seq c_turretref04_Spans_5 c_turretref04_Spans_17
def c_turretref04_Spans_19 : SCode := .loop c_turretref04_Spans_18
def c_turretref04_Spans_20 : SCode := .block 0 c_turretref04_Spans_19
def c_turretref04_Spans_21 : SCode := .seq c_turretref04_Spans_2 c_turretref04_Spans_20
def c_turretref04_Spans_22 : SCode := .reg [⟨(some 53), none, .mov (.tmp 5), [], false⟩,
  ⟨(some 4), none, .mov (.tmp 53), [], false⟩] [4]
def c_turretref04_Spans_23 : SCode := .seq c_turretref04_Spans_22 .ret
def c_turretref04_Spans_24 : SCode := .seq c_turretref04_Spans_21 c_turretref04_Spans_23
def c_turretref04_Spans_25 : SCode := .seq c_turretref04_Spans_1 c_turretref04_Spans_24
def c_turretref04_Spans_26 : SCode := .seq c_turretref04_Spans_0 c_turretref04_Spans_25
@[simp] def rs_turretref04_Spans : List SRes := [.tmp 4]
theorem law_turretref04_Spans (cs : List CV) (r : CV) (hl : cs.length ≤ 54) (h : STri (cfF Tryz.prog [] 54) c_turretref04_Spans_26 (initT 0 cs) [] (retQ rs_turretref04_Spans r)) : SC Tryz.prog 12 cs r :=
  sc_of [] follows Tryz.func12 rfl Tryz.ntmps12 (by decide) (by kernel_rfl) (by kernel_rfl) hl h
def c_turretref04_Times_0 : SCode := .reg [⟨(some 4), none, .box 26 (.tmp 0), [], false⟩,
  ⟨(some 6), none, .box 23 (.tmp 2), [], false⟩,
  ⟨(some 7), none, .box 23 (.tmp 3), [], false⟩,
  ⟨(some 8), none, .mov (.const (.slice none 0 0)), [], false⟩] [1, 4, 6, 7]
def c_turretref04_Times_1 : SCode := .reg [⟨(some 14), none, .buildSl 4 1 [(.bool false)] 0 [], [], false⟩,
  ⟨(some 9), none, .mov (.tmp 14), [], false⟩] [1, 4, 6, 7, 9]
def c_turretref04_Times_2 : SCode := .reg [⟨(some 15), none, .fld 0 (.tmp 6), [], false⟩,
  ⟨(some 16), none, .load false 1 (.tmp 15), [], false⟩,
  ⟨(some 10), none, .mov (.tmp 16), [], false⟩] [1, 4, 6, 7, 9, 10]
def c_turretref04_Times_3 : SCode := .reg [⟨(some 17), none, .mov (.tmp 10), [], false⟩,
  ⟨(some 18), none, .fld 1 (.tmp 6), [], false⟩,
  ⟨(some 19), none, .load false 1 (.tmp 18), [], false⟩,
  ⟨(some 20), none, .bin .leq (.tmp 17) (.tmp 19), [], false⟩] [1, 4, 6, 7, 9, 10, 20]
def c_turretref04_Times_4 : SCode := .cond (.tmp 20) .skip (.exit 0)
def c_turretref04_Times_5 : SCode := .seq c_turretref04_Times_3 c_turretref04_Times_4
def c_turretref04_Times_6 : SCode := .reg [⟨(some 11), none, .mov (.const (.bool false)), [], false⟩] [1, 4, 6, 7, 9, 10, 11]
def c_turretref04_Times_7 : SCode := .reg [⟨(some 23), none, .fld 1 (.tmp 4), [], false⟩,
  ⟨(some 24), none, .fld 0 (.tmp 23), [], false⟩,
  ⟨(some 25), none, .load false 1 (.tmp 24), [], false⟩,
  ⟨(some 12), none, .mov (.tmp 25), [], false⟩] [1, 4, 6, 7, 9, 10, 11, 12]
def c_turretref04_Times_8 : SCode := .reg [⟨(some 26), none, .mov (.tmp 12), [], false⟩,
  ⟨(some 27), none, .fld 1 (.tmp 4), [], false⟩,
  ⟨(some 28), none, .fld 1 (.tmp 27), [], false⟩,
  ⟨(some 29), none, .load false 1 (.tmp 28), [], false⟩,
  ⟨(some 30), none, .bin .leq (.tmp 26) (.tmp 29), [], false⟩,
  ⟨(some 31), none, .mov (.tmp 30), [], false⟩,
  ⟨(some 32), (some (31, true)), .mov (.tmp 11), [], false⟩,
  ⟨(some 33), (some (31, true)), .un .not (.tmp 32), [], false⟩,
  ⟨(some 34), none, .pick (.tmp 31) (.tmp 33) (.const (.bool false)), [], false⟩] [1, 4, 6, 7, 9, 10, 11, 12, 34]
def c_turretref04_Times_9 : SCode := .cond (.tmp 34) .skip (.exit 2)
def c_turretref04_Times_10 : SCode := .seq c_turretref04_Times_8 c_turretref04_Times_9
def c_turretref04_Times_11 : SCode := .reg [⟨(some 11), none, .mov (.const (.bool true)), [], false⟩] [1, 4, 6, 7, 9, 10, 11, 12]
def c_turretref04_Times_12 : SCode := .reg [⟨(some 13), none, .mov (.const (.int .i64 0)), [], false⟩] [1, 4, 6, 7, 9, 10, 11, 12, 13]
def c_turretref04_Times_13 : SCode := .reg [⟨(some 37), none, .mov (.tmp 13), [], false⟩,
  ⟨(some 38), none, .mov (.tmp 1), [], false⟩,
  ⟨(some 39), none, .len (.tmp 38), [], false⟩,
  ⟨(some 40), none, .bin .lss (.tmp 37) (.tmp 39), [], false⟩] [1, 4, 6, 7, 9, 10, 11, 12, 13, 40]
def c_turretref04_Times_14 : SCode := .cond (.tmp 40) .skip (.exit 4)
def c_turretref04_Times_15 : SCode := .seq c_turretref04_Times_13 c_turretref04_Times_14
def c_turretref04_Times_16 : SCode := .reg [⟨(some 43), none, .mov (.tmp 11), [], false⟩,
  ⟨(some 44), none, .mov (.tmp 43), [], false⟩,
  ⟨(some 45), (some (44, true)), .load true 4 (.tmp 4), [], false⟩,
  ⟨(some 46), (some (44, true)), .mov (.tmp 1), [], false⟩,
  ⟨(some 47), (some (44, true)), .mov (.tmp 13), [], false⟩,
  ⟨(some 48), (some (44, true)), .idxS 2 (.tmp 46) (.tmp 47), [], false⟩,
  ⟨(some 49), (some (44, true)), .load true 2 (.tmp 48), [], false⟩,
  ⟨(some 50), (some (44, true)), .mov (.tmp 10), [], false⟩,
  ⟨(some 51), (some (44, true)), .mov (.tmp 12), [], false⟩,
  ⟨(some 52), (some (44, true)), .load true 2 (.tmp 7), [], false⟩,
  ⟨(some 53), (some (44, true)), .call 35 [(.tmp 45), (.tmp 49), (.tmp 50), (.tmp 51), (.tmp 52)], [], false⟩,
  ⟨(some 54), none, .pick (.tmp 44) (.tmp 53) (.const (.bool false)), [], false⟩,
  ⟨(some 11), none, .mov (.tmp 54), [], false⟩] [1, 4, 6, 7, 9, 10, 11, 12, 13]
def c_turretref04_Times_17 : SCode := .block 5 c_turretref04_Times_16
def c_turretref04_Times_18 : SCode := .reg [⟨(some 41), none, .mov (.tmp 13), [], false⟩,
  ⟨(some 42), none, .bin .add (.tmp 41) (.const (.int .i64 1)), [], false⟩,
  ⟨(some 13), none, .mov (.tmp 42), [], false⟩] [1, 4, 6, 7, 9, 10, 11, 12, 13]
def c_turretref04_Times_19 : SCode := .seq c_turretref04_Times_17 c_turretref04_Times_18
def c_turretref04_Times_20 : SCode := .seq c_turretref04_Times_15 c_turretref04_Times_19
def c_turretref04_Times_21 : SCode := .loop c_turretref04_Times_20
def c_turretref04_Times_22 : SCode := .block 4 c_turretref04_Times_21
def c_turretref04_Times_23 : SCode := .seq c_turretref04_Times_12 c_turretref04_Times_22
def c_turretref04_Times_24 : SCode := .seq c_turretref04_Times_11 c_turretref04_Times_23
def c_turretref04_Times_25 : SCode := .block 3 c_turretref04_Times_24
def c_turretref04_Times_26 : SCode := .reg [⟨(some 35), none, .mov (.tmp 12), [], false⟩,
  ⟨(some 36), none, .bin .add (.tmp 35) (.const (.int .i64 1)), [], false⟩,
  ⟨(some 12), none, .mov (.tmp 36), [], false⟩] [1, 4, 6, 7, 9, 10, 11, 12]
def c_turretref04_Times_27 : SCode := .seq c_turretref04_Times_25 c_turretref04_Times_26
def c_turretref04_Times_28 : SCode := .seq c_turretref04_Times_10 c_turretref04_Times_27
def c_turretref04_Times_29 : SCode := .loop c_turretref04_Times_28
def c_turretref04_Times_30 : SCode := .block 2 c_turretref04_Times_29
def c_turretref04_Times_31 : SCode := .seq c_turretref04_Times_7 c_turretref04_Times_30
def c_turretref04_Times_32 : SCode := .reg [⟨(some 55), none, .mov (.tmp 9), [], false⟩,
  ⟨(some 56), none, .mov (.tmp 11), [], false⟩,
  ⟨(some 57), none, .buildSl 4 1 [(.bool false)] 1 [(0, (.tmp 56))], [], false⟩,
  ⟨(some 58), none, .append 4 1 1 (.tmp 55) (.tmp 57), [], false⟩,
  ⟨(some 9), none, .mov (.tmp 58), [], false⟩] [1, 4, 6, 7, 9, 10]
def c_turretref04_Times_33 : SCode := .seq c_turretref04_Times_31 c_turretref04_Times_32
def c_turretref04_Times_34 : SCode := .seq c_turretref04_Times_6 c_turretref04_Times_33
def c_turretref04_Times_35 : SCode := .block 1 c_turretref04_Times_34
def c_turretref04_Times_36 : SCode := .reg [⟨(some 21), none, .mov (.tmp 10), [], false⟩,
  ⟨(some 22), none, .bin .add (.tmp 21) (.const (.int .i64 1)), [], false⟩,
  ⟨(some 10), none, .mov (.tmp 22), [], false⟩] [1, 4, 6, 7, 9, 10]
def c_turretref04_Times_37 : SCode := .seq c_turretref04_Times_35 c_turretref04_Times_36
def c_turretref04_Times_38 : SCode := .seq c_turretref04_Times_5 c_turretref04_Times_37
def c_turretref04_Times_39 : SCode := .loop c_turretref04_Times_38
def c_turretref04_Times_40 : SCode := .block 0 c_turretref04_Times_39
def c_turretref04_Times_41 : SCode := .seq c_turretref04_Times_2 c_turretref04_Times_40
def c_turretref04_Times_42 : SCode := .reg [⟨(some 59), none, .mov (.tmp 9), [], false⟩,
  ⟨(some 8), none, .mov (.tmp 59), [], false⟩] [8]
def c_turretref04_Times_43 : SCode := .seq c_turretref04_Times_42 .ret
def c_turretref04_Times_44 : SCode := .seq c_turretref04_Times_41 c_turretref04_Times_43
def c_turretref04_Times_45 : SCode := .seq c_turretref04_Times_1 c_turretref04_Times_44
def c_turretref04_Times_46 : SCode := .seq c_turretref04_Times_0 c_turretref04_Times_45
@[simp] def rs_turretref04_Times : List SRes := [.tmp 8]
theorem law_turretref04_Times (cs : List CV) (r : CV) (hl : cs.length ≤ 60) (h : STri (cfF Tryz.prog [] 60) c_turretref04_Times_46 (initT 0 cs) [] (retQ rs_turretref04_Times r)) : SC Tryz.prog 13 cs r :=
  sc_of [] follows Tryz.func13 rfl Tryz.ntmps13 (by decide) (by kernel_rfl) (by kernel_rfl) hl h
def c_turretref04_Pairs_0 : SCode := .reg [⟨(some 4), none, .box 26 (.tmp 0), [], false⟩,
  ⟨(some 6), none, .box 23 (.tmp 2), [], false⟩,
  ⟨(some 7), none, .box 23 (.tmp 3), [], false⟩,
  ⟨(some 8), none, .mov (.const (.slice none 0 0)), [], false⟩] [1, 4, 6, 7]
def c_turretref04_Pairs_1 : SCode := .reg [⟨(some 12), none, .buildSl 50 2 [(.int .i64 0), (.int .i64 0)] 0 [], [], false⟩,
  ⟨(some 9), none, .mov (.tmp 12), [], false⟩] [1, 4, 6, 7, 9]
def c_turretref04_Pairs_2 : SCode := .reg [⟨(some 10), none, .mov (.const (.int .i64 0)), [], false⟩] [1, 4, 6, 7, 9, 10]
def c_turretref04_Pairs_3 : SCode := .reg [⟨(some 13), none, .mov (.tmp 10), [], false⟩,
  ⟨(some 14), none, .mov (.tmp 1), [], false⟩,
  ⟨(some 15), none, .len (.tmp 14), [], false⟩,
  ⟨(some 16), none, .bin .lss (.tmp 13) (.tmp 15), [], false⟩] [1, 4, 6, 7, 9, 10, 16]
def c_turretref04_Pairs_4 : SCode := .cond (.tmp 16) .skip (.exit 0)
def c_turretref04_Pairs_5 : SCode := .seq c_turretref04_Pairs_3 c_turretref04_Pairs_4
def c_turretref04_Pairs_6 : SCode := .reg [⟨(some 19), none, .mov (.tmp 10), [], false⟩,
  ⟨(some 20), none, .bin .add (.tmp 19) (.const (.int .i64 1)), [], false⟩,
  ⟨(some 11), none, .mov (.tmp 20), [], false⟩] [1, 4, 6, 7, 9, 10, 11]
def c_turretref04_Pairs_7 : SCode := .reg [⟨(some 21), none, .mov (.tmp 11), [], false⟩,
  ⟨(some 22), none, .mov (.tmp 1), [], false⟩,
  ⟨(some 23), none, .len (.tmp 22), [], false⟩,
  ⟨(some 24), none, .bin .lss (.tmp 21) (.tmp 23), [], false⟩] [1, 4, 6, 7, 9, 10, 11, 24]
def c_turretref04_Pairs_8 : SCode := .cond (.tmp 24) .skip (.exit 2)
def c_turretref04_Pairs_9 : SCode := .seq c_turretref04_Pairs_7 c_turretref04_Pairs_8
def c_turretref04_Pairs_10 : SCode := .reg [⟨(some 27), none, .load true 4 (.tmp 4), [], true⟩,
  ⟨(some 28), none, .mov (.tmp 1), [], false⟩,
  ⟨(some 29), none, .mov (.tmp 10), [], false⟩,
  ⟨(some 30), none, .idxS 2 (.tmp 28) (.tmp 29), [], false⟩,
  ⟨(some 31), none, .load true 2 (.tmp 30), [], false⟩,
  ⟨(some 32), none, .mov (.tmp 1), [], false⟩,
  ⟨(some 33), none, .mov (.tmp 11), [], false⟩,
  ⟨(some 34), none, .idxS 2 (.tmp 32) (.tmp 33), [], false⟩,
  ⟨(some 35), none, .load true 2 (.tmp 34), [], false⟩,
  ⟨(some 36), none, .buildSl 44 2 [(.int .i64 0), (.int .i64 0)] 2 [(0, (.tmp 31)), (1, (.tmp 35))], [0], true⟩,
  ⟨(some 37), none, .load true 2 (.tmp 6), [9], false⟩,
  ⟨(some 38), none, .load true 2 (.tmp 7), [9], false⟩,
  ⟨(some 39), none, .call 13 [(.tmp 27), (.tmp 36), (.tmp 37), (.tmp 38)], [], false⟩,
  ⟨(some 40), none, .call 12 [(.tmp 39), (.const (.int .i64 0))], [], false⟩,
  ⟨(some 41), none, .len (.tmp 40), [], false⟩,
  ⟨(some 42), none, .bin .eql (.tmp 41) (.const (.int .i64 0)), [], false⟩] [1, 4, 6, 7, 9, 10, 11, 42]
def c_turretref04_Pairs_11 : SCode := .reg [⟨(some 43), none, .mov (.tmp 9), [], false⟩,
  ⟨(some 44), none, .mov (.tmp 10), [], false⟩,
  ⟨(some 45), none, .mov (.tmp 11), [], false⟩,
  ⟨(some 46), none, .build [(.int .i64 0), (.int .i64 0)] [(0, 1, (.tmp 44)), (1, 1, (.tmp 45))], [], false⟩,
  ⟨(some 47), none, .buildSl 50 2 [(.int .i64 0), (.int .i64 0)] 1 [(0, (.tmp 46))], [], false⟩,
  ⟨(some 48), none, .append 50 2 16 (.tmp 43) (.tmp 47), [], false⟩,
  ⟨(some 9), none, .mov (.tmp 48), [], false⟩] [1, 4, 6, 7, 9, 10, 11]
def c_turretref04_Pairs_12 : SCode := .cond (.tmp 42) c_turretref04_Pairs_11 .skip
def c_turretref04_Pairs_13 : SCode := .seq c_turretref04_Pairs_10 c_turretref04_Pairs_12
def c_turretref04_Pairs_14 : SCode := .block 3 c_turretref04_Pairs_13
def c_turretref04_Pairs_15 : SCode := .reg [⟨(some 25), none, .mov (.tmp 11), [], false⟩,
  ⟨(some 26), none, .bin .add (.tmp 25) (.const (.int .i64 1)), [], false⟩,
  ⟨(some 11), none, .mov (.tmp 26), [], false⟩] [1, 4, 6, 7, 9, 10, 11]
def c_turretref04_Pairs_16 : SCode := .seq c_turretref04_Pairs_14 c_turretref04_Pairs_15
def c_turretref04_Pairs_17 : SCode := .seq c_turretref04_Pairs_9 c_turretref04_Pairs_16
def c_turretref04_Pairs_18 : SCode := .loop c_turretref04_Pairs_17
def c_turretref04_Pairs_19 : SCode := .block 2 c_turretref04_Pairs_18
def c_turretref04_Pairs_20 : SCode := .seq c_turretref04_Pairs_6 c_turretref04_Pairs_19
def c_turretref04_Pairs_21 : SCode := .block 1 c_turretref04_Pairs_20
def c_turretref04_Pairs_22 : SCode := .reg [⟨(some 17), none, .mov (.tmp 10), [], false⟩,
  ⟨(some 18), none, .bin .add (.tmp 17) (.const (.int .i64 1)), [], false⟩,
  ⟨(some 10), none, .mov (.tmp 18), [], false⟩] [1, 4, 6, 7, 9, 10]
def c_turretref04_Pairs_23 : SCode := .seq c_turretref04_Pairs_21 c_turretref04_Pairs_22
def c_turretref04_Pairs_24 : SCode := .seq c_turretref04_Pairs_5 c_turretref04_Pairs_23
def c_turretref04_Pairs_25 : SCode := .loop c_turretref04_Pairs_24
def c_turretref04_Pairs_26 : SCode := .block 0 c_turretref04_Pairs_25
def c_turretref04_Pairs_27 : SCode := .seq c_turretref04_Pairs_2 c_turretref04_Pairs_26
def c_turretref04_Pairs_28 : SCode := .reg [⟨(some 49), none, .mov (.tmp 9), [], false⟩,
  ⟨(some 8), none, .mov (.tmp 49), [], false⟩] [8]
def c_turretref04_Pairs_29 : SCode := .seq c_turretref04_Pairs_28 .ret
def c_turretref04_Pairs_30 : SCode := .seq c_turretref04_Pairs_27 c_turretref04_Pairs_29
def c_turretref04_Pairs_31 : SCode := .seq c_turretref04_Pairs_1 c_turretref04_Pairs_30
def c_turretref04_Pairs_32 : SCode := .seq c_turretref04_Pairs_0 c_turretref04_Pairs_31
@[simp] def rs_turretref04_Pairs : List SRes := [.tmp 8]
theorem law_turretref04_Pairs (cs : List CV) (r : CV) (hl : cs.length ≤ 50) (h : STri (cfF Tryz.prog [] 50) c_turretref04_Pairs_32 (initT 0 cs) [] (retQ rs_turretref04_Pairs r)) : SC Tryz.prog 14 cs r :=
  sc_of [] follows Tryz.func14 rfl Tryz.ntmps14 (by decide) (by kernel_rfl) (by kernel_rfl) hl h
def c_turretref04_Same_0 : SCode := .reg [⟨(some 4), none, .mov (.const (.bool false)), [], false⟩] [0, 1]
def c_turretref04_Same_1 : SCode := .reg [⟨(some 6), none, .mov (.tmp 0), [], false⟩,
  ⟨(some 7), none, .len (.tmp 6), [], false⟩,
  ⟨(some 8), none, .mov (.tmp 1), [], false⟩,
  ⟨(some 9), none, .len (.tmp 8), [], false⟩,
  ⟨(some 10), none, .bin .neq (.tmp 7) (.tmp 9), [], false⟩] [0, 1, 10]
def c_turretref04_Same_2 : SCode := .reg [⟨(some 4), none, .mov (.const (.bool false)), [], false⟩] [4]
def c_turretref04_Same_3 : SCode := .seq c_turretref04_Same_2 .ret
def c_turretref04_Same_4 : SCode := .cond (.tmp 10) c_turretref04_Same_3 .skip
def c_turretref04_Same_5 : SCode := .seq c_turretref04_Same_1 c_turretref04_Same_4
def c_turretref04_Same_6 : SCode := .reg [⟨(some 5), none, .mov (.const (.int .i64 0)), [], false⟩] [0, 1, 5]
def c_turretref04_Same_7 : SCode := .reg [⟨(some 11), none, .mov (.tmp 5), [], false⟩,
  ⟨(some 12), none, .mov (.tmp 0), [], false⟩,
  ⟨(some 13), none, .len (.tmp 12), [], false⟩,
  ⟨(some 14), none, .bin .lss (.tmp 11) (.tmp 13), [], false⟩] [0, 1, 5, 14]
def c_turretref04_Same_8 : SCode := .cond (.tmp 14) .skip (.exit 0)
def c_turretref04_Same_9 : SCode := .seq c_turretref04_Same_7 c_turretref04_Same_8
def c_turretref04_Same_10 : SCode := .reg [⟨(some 17), none, .mov (.tmp 0), [], false⟩,
  ⟨(some 18), none, .mov (.tmp 5), [], false⟩,
  ⟨(some 19), none, .idxS 2 (.tmp 17) (.tmp 18), [], false⟩,
  ⟨(some 20), none, .load true 2 (.tmp 19), [], false⟩,
  ⟨(some 21), none, .mov (.tmp 1), [], false⟩,
  ⟨(some 22), none, .mov (.tmp 5), [], false⟩,
  ⟨(some 23), none, .idxS 2 (.tmp 21) (.tmp 22), [], false⟩,
  ⟨(some 24), none, .load true 2 (.tmp 23), [], false⟩,
  ⟨(some 25), none, .eqC true [true, true] (.tmp 20) (.tmp 24), [], false⟩] [0, 1, 5, 25]
def c_turretref04_Same_11 : SCode := .reg [⟨(some 4), none, .mov (.const (.bool false)), [], false⟩] [4]
def c_turretref04_Same_12 : SCode := .seq c_turretref04_Same_11 .ret
def c_turretref04_Same_13 : SCode := .cond (.tmp 25) c_turretref04_Same_12 .skip
def c_turretref04_Same_14 : SCode := .seq c_turretref04_Same_10 c_turretref04_Same_13
def c_turretref04_Same_15 : SCode := .block 1 c_turretref04_Same_14
def c_turretref04_Same_16 : SCode := .reg [⟨(some 15), none, .mov (.tmp 5), [], false⟩,
  ⟨(some 16), none, .bin .add (.tmp 15) (.const (.int .i64 1)), [], false⟩,
  ⟨(some 5), none, .mov (.tmp 16), [], false⟩] [0, 1, 5]
def c_turretref04_Same_17 : SCode := .seq c_turretref04_Same_15 c_turretref04_Same_16
def c_turretref04_Same_18 : SCode := .seq c_turretref04_Same_9 c_turretref04_Same_17
def c_turretref04_Same_19 : SCode := .loop c_turretref04_Same_18
def c_turretref04_Same_20 : SCode := .block 0 c_turretref04_Same_19
def c_turretref04_Same_21 : SCode := .seq c_turretref04_Same_6 c_turretref04_Same_20
def c_turretref04_Same_22 : SCode := .reg [⟨(some 4), none, .mov (.const (.bool true)), [], false⟩] [4]
def c_turretref04_Same_23 : SCode := .seq c_turretref04_Same_22 .ret
def c_turretref04_Same_24 : SCode := .seq c_turretref04_Same_21 c_turretref04_Same_23
def c_turretref04_Same_25 : SCode := .seq c_turretref04_Same_5 c_turretref04_Same_24
def c_turretref04_Same_26 : SCode := .seq c_turretref04_Same_0 c_turretref04_Same_25
@[simp] def rs_turretref04_Same : List SRes := [.tmp 4]
theorem law_turretref04_Same (cs : List CV) (r : CV) (hl : cs.length ≤ 26) (h : STri (cfF Tryz.prog [] 26) c_turretref04_Same_26 (initT 0 cs) [] (retQ rs_turretref04_Same r)) : SC Tryz.prog 15 cs r :=
  sc_of [] follows Tryz.func15 rfl Tryz.ntmps15 (by decide) (by kernel_rfl) (by kernel_rfl) hl h
def c_turretref04_Works_0 : SCode := .reg [⟨(some 1), none, .box 26 (.tmp 0), [], false⟩,
  ⟨(some 2), none, .mov (.const (.bool false)), [], false⟩] [1]
def c_turretref04_Works_1 : SCode := .reg [⟨(some 3), none, .mov (.const (.int .i64 0)), [], false⟩] [1, 3]
def c_turretref04_Works_2 : SCode := .reg [⟨(some 4), none, .mov (.tmp 3), [], false⟩,
  ⟨(some 5), none, .fld 3 (.tmp 1), [], false⟩,
  ⟨(some 6), none, .load false 1 (.tmp 5), [], false⟩,
  ⟨(some 7), none, .len (.tmp 6), [], false⟩,
  ⟨(some 8), none, .bin .lss (.tmp 4) (.tmp 7), [], false⟩] [1, 3, 8]
def c_turretref04_Works_3 : SCode := .cond (.tmp 8) .skip (.exit 0)
def c_turretref04_Works_4 : SCode := .seq c_turretref04_Works_2 c_turretref04_Works_3
def c_turretref04_Works_5 : SCode := .reg [⟨(some 11), none, .fld 3 (.tmp 1), [], false⟩,
  ⟨(some 12), none, .load false 1 (.tmp 11), [], false⟩,
  ⟨(some 13), none, .mov (.tmp 3), [], false⟩,
  ⟨(some 14), none, .idxS 5 (.tmp 12) (.tmp 13), [], false⟩,
  ⟨(some 15), none, .load true 5 (.tmp 14), [], false⟩,
  ⟨(some 16), none, .call 47 [(.tmp 15)], [], false⟩,
  ⟨(some 17), none, .un .not (.tmp 16), [], false⟩] [1, 3, 17]
def c_turretref04_Works_6 : SCode := .reg [⟨(some 2), none, .mov (.const (.bool false)), [], false⟩] [2]
def c_turretref04_Works_7 : SCode := .seq c_turretref04_Works_6 .ret
def c_turretref04_Works_8 : SCode := .cond (.tmp 17) c_turretref04_Works_7 .skip
def c_turretref04_Works_9 : SCode := .seq c_turretref04_Works_5 c_turretref04_Works_8
def c_turretref04_Works_10 : SCode := .block 1 c_turretref04_Works_9
def c_turretref04_Works_11 : SCode := .reg [⟨(some 9), none, .mov (.tmp 3), [], false⟩,
  ⟨(some 10), none, .bin .add (.tmp 9) (.const (.int .i64 1)), [], false⟩,
  ⟨(some 3), none, .mov (.tmp 10), [], false⟩] [1, 3]
def c_turretref04_Works_12 : SCode := .seq c_turretref04_Works_10 c_turretref04_Works_11
def c_turretref04_Works_13 : SCode := .seq c_turretref04_Works_4 c_turretref04_Works_12
def c_turretref04_Works_14 : SCode := .loop c_turretref04_Works_13
def c_turretref04_Works_15 : SCode := .block 0 c_turretref04_Works_14
def c_turretref04_Works_16 : SCode := .seq c_turretref04_Works_1 c_turretref04_Works_15
def c_turretref04_Works_17 : SCode := .reg [⟨(some 18), none, .fld 0 (.tmp 1), [], false⟩,
  ⟨(some 19), none, .load false 1 (.tmp 18), [], false⟩,
  ⟨(some 20), none, .call 24 [(.tmp 19), (.const (.int .i64 1)), (.const (.int .i64 3600))], [], false⟩,
  ⟨(some 21), none, .mov (.tmp 20), [], false⟩,
  ⟨(some 22), (some (21, true)), .fld 0 (.tmp 1), [], false⟩,
  ⟨(some 23), (some (21, true)), .load false 1 (.tmp 22), [], false⟩,
  ⟨(some 24), (some (21, true)), .bin .rem (.const (.int .i64 3600)) (.tmp 23), [], false⟩,
  ⟨(some 25), (some (21, true)), .bin .eql (.tmp 24) (.const (.int .i64 0)), [], false⟩,
  ⟨(some 26), none, .pick (.tmp 21) (.tmp 25) (.const (.bool false)), [], false⟩,
  ⟨(some 27), none, .mov (.tmp 26), [], false⟩,
  ⟨(some 28), (some (27, true)), .fld 1 (.tmp 1), [], false⟩,
  ⟨(some 29), (some (27, true)), .load true 2 (.tmp 28), [], false⟩,
  ⟨(some 30), (some (27, true)), .call 25 [(.tmp 29), (.const (.int .i64 (-3600))), (.const (.int .i64 3600))], [], false⟩,
  ⟨(some 31), none, .pick (.tmp 27) (.tmp 30) (.const (.bool false)), [], false⟩,
  ⟨(some 32), none, .mov (.tmp 31), [], false⟩,
  ⟨(some 33), (some (32, true)), .fld 3 (.tmp 1), [], false⟩,
  ⟨(some 34), (some (32, true)), .load false 1 (.tmp 33), [], false⟩,
  ⟨(some 35), (some (32, true)), .len (.tmp 34), [], false⟩,
  ⟨(some 36), (some (32, true)), .call 24 [(.tmp 35), (.const (.int .i64 1)), (.const (.int .i64 8))], [], false⟩,
  ⟨(some 37), none, .pick (.tmp 32) (.tmp 36) (.const (.bool false)), [], false⟩,
  ⟨(some 2), none, .mov (.tmp 37), [], false⟩] [2]
def c_turretref04_Works_18 : SCode := .seq c_turretref04_Works_17 .ret
def c_turretref04_Works_19 : SCode := .seq c_turretref04_Works_16 c_turretref04_Works_18
def c_turretref04_Works_20 : SCode := .seq c_turretref04_Works_0 c_turretref04_Works_19
@[simp] def rs_turretref04_Works : List SRes := [.tmp 2]
theorem law_turretref04_Works (cs : List CV) (r : CV) (hl : cs.length ≤ 38) (h : STri (cfF Tryz.prog [] 38) c_turretref04_Works_20 (initT 0 cs) [] (retQ rs_turretref04_Works r)) : SC Tryz.prog 23 cs r :=
  sc_of [] follows Tryz.func23 rfl Tryz.ntmps23 (by decide) (by kernel_rfl) (by kernel_rfl) hl h
def c_turretref04_In_0 : SCode := .reg [⟨(some 6), none, .mov (.const (.bool false)), [], false⟩] [0, 1, 2]
def c_turretref04_In_1 : SCode := .reg [⟨(some 7), none, .mov (.tmp 0), [], false⟩,
  ⟨(some 8), none, .mov (.tmp 1), [], false⟩,
  ⟨(some 9), none, .bin .geq (.tmp 7) (.tmp 8), [], false⟩,
  ⟨(some 10), none, .mov (.tmp 9), [], false⟩,
  ⟨(some 11), (some (10, true)), .mov (.tmp 0), [], false⟩,
  ⟨(some 12), (some (10, true)), .mov (.tmp 2), [], false⟩,
  ⟨(some 13), (some (10, true)), .bin .leq (.tmp 11) (.tmp 12), [], false⟩,
  ⟨(some 14), none, .pick (.tmp 10) (.tmp 13) (.const (.bool false)), [], false⟩,
  ⟨(some 6), none, .mov (.tmp 14), [], false⟩] [6]
def c_turretref04_In_2 : SCode := .seq c_turretref04_In_1 .ret
def c_turretref04_In_3 : SCode := .seq c_turretref04_In_0 c_turretref04_In_2
@[simp] def rs_turretref04_In : List SRes := [.tmp 6]
theorem law_turretref04_In (cs : List CV) (r : CV) (hl : cs.length ≤ 15) (h : STri (cfF Tryz.prog [] 15) c_turretref04_In_3 (initT 0 cs) [] (retQ rs_turretref04_In r)) : SC Tryz.prog 24 cs r :=
  sc_of [] follows Tryz.func24 rfl Tryz.ntmps24 (by decide) (by kernel_rfl) (by kernel_rfl) hl h
def c_turretref04_Span_0 : SCode := .reg [⟨(some 3), none, .box 23 (.tmp 0), [], false⟩,
  ⟨(some 6), none, .mov (.const (.bool false)), [], false⟩] [1, 2, 3]
def c_turretref04_Span_1 : SCode := .reg [⟨(some 7), none, .fld 0 (.tmp 3), [], false⟩,
  ⟨(some 8), none, .load false 1 (.tmp 7), [], false⟩,
  ⟨(some 9), none, .mov (.tmp 1), [], false⟩,
  ⟨(some 10), none, .fld 1 (.tmp 3), [], false⟩,
  ⟨(some 11), none, .load false 1 (.tmp 10), [], false⟩,
  ⟨(some 12), none, .call 24 [(.tmp 8), (.tmp 9), (.tmp 11)], [], false⟩,
  ⟨(some 13), none, .mov (.tmp 12), [], false⟩,
  ⟨(some 14), (some (13, true)), .fld 1 (.tmp 3), [], false⟩,
  ⟨(some 15), (some (13, true)), .load false 1 (.tmp 14), [], false⟩,
  ⟨(some 16), (some (13, true)), .mov (.tmp 2), [], false⟩,
  ⟨(some 17), (some (13, true)), .bin .leq (.tmp 15) (.tmp 16), [], false⟩,
  ⟨(some 18), none, .pick (.tmp 13) (.tmp 17) (.const (.bool false)), [], false⟩,
  ⟨(some 6), none, .mov (.tmp 18), [], false⟩] [6]
def c_turretref04_Span_2 : SCode := .seq c_turretref04_Span_1 .ret
def c_turretref04_Span_3 : SCode := .seq c_turretref04_Span_0 c_turretref04_Span_2
@[simp] def rs_turretref04_Span : List SRes := [.tmp 6]
theorem law_turretref04_Span (cs : List CV) (r : CV) (hl : cs.length ≤ 19) (h : STri (cfF Tryz.prog [] 19) c_turretref04_Span_3 (initT 0 cs) [] (retQ rs_turretref04_Span r)) : SC Tryz.prog 25 cs r :=
  sc_of [] follows Tryz.func25 rfl Tryz.ntmps25 (by decide) (by kernel_rfl) (by kernel_rfl) hl h
def c_turretref04_Wind_0 : SCode := .reg [⟨(some 1), none, .box 23 (.tmp 0), [], false⟩,
  ⟨(some 2), none, .mov (.const (.bool false)), [], false⟩] [1]
def c_turretref04_Wind_1 : SCode := .reg [⟨(some 3), none, .load true 2 (.tmp 1), [], false⟩,
  ⟨(some 4), none, .call 25 [(.tmp 3), (.const (.int .i64 (-10000))), (.const (.int .i64 10000))], [], false⟩,
  ⟨(some 2), none, .mov (.tmp 4), [], false⟩] [2]
def c_turretref04_Wind_2 : SCode := .seq c_turretref04_Wind_1 .ret
def c_turretref04_Wind_3 : SCode := .seq c_turretref04_Wind_0 c_turretref04_Wind_2
@[simp] def rs_turretref04_Wind : List SRes := [.tmp 2]
theorem law_turretref04_Wind (cs : List CV) (r : CV) (hl : cs.length ≤ 5) (h : STri (cfF Tryz.prog [] 5) c_turretref04_Wind_3 (initT 0 cs) [] (retQ rs_turretref04_Wind r)) : SC Tryz.prog 26 cs r :=
  sc_of [] follows Tryz.func26 rfl Tryz.ntmps26 (by decide) (by kernel_rfl) (by kernel_rfl) hl h
def c_turretref04_Right_0 : SCode := .reg [⟨(some 5), none, .box 26 (.tmp 0), [], false⟩,
  ⟨(some 6), none, .box 44 (.tmp 1), [], false⟩,
  ⟨(some 9), none, .box 23 (.tmp 4), [], false⟩,
  ⟨(some 10), none, .mov (.const (.bool false)), [], false⟩] [2, 3, 5, 6, 9]
def c_turretref04_Right_1 : SCode := .reg [⟨(some 12), none, .load true 4 (.tmp 5), [], true⟩,
  ⟨(some 13), none, .fld 3 (.tmp 5), [], true⟩,
  ⟨(some 14), none, .load false 1 (.tmp 13), [], true⟩,
  ⟨(some 15), none, .fld 0 (.tmp 6), [], true⟩,
  ⟨(some 16), none, .load false 1 (.tmp 15), [], true⟩,
  ⟨(some 17), none, .idxS 5 (.tmp 14) (.tmp 16), [], true⟩,
  ⟨(some 18), none, .load true 5 (.tmp 17), [], true⟩,
  ⟨(some 19), none, .mov (.tmp 2), [], false⟩,
  ⟨(some 20), none, .mov (.tmp 3), [], false⟩,
  ⟨(some 21), none, .load true 2 (.tmp 9), [], true⟩,
  ⟨(some 22), none, .call 56 [(.tmp 12), (.tmp 18), (.tmp 19), (.tmp 20), (.tmp 21)], [], true⟩,
  ⟨(some 11), none, .alloc 23 [(.int .i64 0), (.int .i64 0)], [0, 1, 2, 3, 4, 5, 6, 9, 10], false⟩,
  ⟨none, none, .store 2 (.tmp 11) (.tmp 22), [], false⟩] [6, 11]
def c_turretref04_Right_2 : SCode := .reg [⟨(some 23), none, .fld 1 (.tmp 6), [], false⟩,
  ⟨(some 24), none, .load false 1 (.tmp 23), [], false⟩,
  ⟨(some 25), none, .fld 0 (.tmp 11), [], false⟩,
  ⟨(some 26), none, .load false 1 (.tmp 25), [], false⟩,
  ⟨(some 27), none, .bin .sub (.tmp 24) (.tmp 26), [], false⟩,
  ⟨(some 28), none, .call 57 [(.tmp 27), (.const (.int .i64 43200))], [], false⟩,
  ⟨(some 29), none, .fld 1 (.tmp 11), [], false⟩,
  ⟨(some 30), none, .load false 1 (.tmp 29), [], false⟩,
  ⟨(some 31), none, .fld 0 (.tmp 11), [], false⟩,
  ⟨(some 32), none, .load false 1 (.tmp 31), [], false⟩,
  ⟨(some 33), none, .bin .sub (.tmp 30) (.tmp 32), [], false⟩,
  ⟨(some 34), none, .bin .leq (.tmp 28) (.tmp 33), [], false⟩,
  ⟨(some 10), none, .mov (.tmp 34), [], false⟩] [10]
def c_turretref04_Right_3 : SCode := .seq c_turretref04_Right_2 .ret
def c_turretref04_Right_4 : SCode := .seq c_turretref04_Right_1 c_turretref04_Right_3
def c_turretref04_Right_5 : SCode := .seq c_turretref04_Right_0 c_turretref04_Right_4
@[simp] def rs_turretref04_Right : List SRes := [.tmp 10]
theorem law_turretref04_Right (cs : List CV) (r : CV) (hl : cs.length ≤ 35) (h : STri (cfF Tryz.prog [] 35) c_turretref04_Right_5 (initT 0 cs) [] (retQ rs_turretref04_Right r)) : SC Tryz.prog 35 cs r :=
  sc_of [] follows Tryz.func35 rfl Tryz.ntmps35 (by decide) (by kernel_rfl) (by kernel_rfl) hl h
def c_turretref04_Face_0 : SCode := .reg [⟨(some 1), none, .box 54 (.tmp 0), [], false⟩,
  ⟨(some 2), none, .mov (.const (.bool false)), [], false⟩] [1]
def c_turretref04_Face_1 : SCode := .reg [⟨(some 5), none, .fld 0 (.tmp 1), [], false⟩,
  ⟨(some 6), none, .load true 2 (.tmp 5), [], false⟩,
  ⟨(some 7), none, .call 25 [(.tmp 6), (.const (.int .i64 (-3600))), (.const (.int .i64 3600))], [], false⟩,
  ⟨(some 8), none, .un .not (.tmp 7), [], false⟩,
  ⟨(some 9), none, .mov (.tmp 8), [], false⟩,
  ⟨(some 10), (some (9, false)), .fld 2 (.tmp 1), [], false⟩,
  ⟨(some 11), (some (9, false)), .load false 1 (.tmp 10), [], false⟩,
  ⟨(some 12), (some (9, false)), .len (.tmp 11), [], false⟩,
  ⟨(some 13), (some (9, false)), .bin .gtr (.tmp 12) (.const (.int .i64 4)), [], false⟩,
  ⟨(some 14), none, .pick (.tmp 9) (.const (.bool true)) (.tmp 13), [], false⟩,
  ⟨(some 15), none, .mov (.tmp 14), [], false⟩,
  ⟨(some 16), (some (15, false)), .fld 3 (.tmp 1), [], false⟩,
  ⟨(some 17), (some (15, false)), .load false 1 (.tmp 16), [], false⟩,
  ⟨(some 18), (some (15, false)), .call 24 [(.tmp 17), (.const (.int .i64 (-10000))), (.const (.int .i64 10000))], [], false⟩,
  ⟨(some 19), (some (15, false)), .un .not (.tmp 18), [], false⟩,
  ⟨(some 20), none, .pick (.tmp 15) (.const (.bool true)) (.tmp 19), [], false⟩,
  ⟨(some 21), none, .mov (.tmp 20), [], false⟩,
  ⟨(some 22), (some (21, false)), .fld 4 (.tmp 1), [], false⟩,
  ⟨(some 23), (some (21, false)), .load false 1 (.tmp 22), [], false⟩,
  ⟨(some 24), (some (21, false)), .call 24 [(.tmp 23), (.const (.int .i64 0)), (.const (.int .i64 10000))], [], false⟩,
  ⟨(some 25), (some (21, false)), .un .not (.tmp 24), [], false⟩,
  ⟨(some 26), none, .pick (.tmp 21) (.const (.bool true)) (.tmp 25), [], false⟩] [1, 26]
def c_turretref04_Face_2 : SCode := .reg [⟨(some 2), none, .mov (.const (.bool false)), [], false⟩] [2]
def c_turretref04_Face_3 : SCode := .seq c_turretref04_Face_2 .ret
def c_turretref04_Face_4 : SCode := .cond (.tmp 26) c_turretref04_Face_3 .skip
def c_turretref04_Face_5 : SCode := .seq c_turretref04_Face_1 c_turretref04_Face_4
def c_turretref04_Face_6 : SCode := .reg [⟨(some 3), none, .mov (.const (.int .i64 0)), [], false⟩] [1, 3]
def c_turretref04_Face_7 : SCode := .reg [⟨(some 27), none, .mov (.tmp 3), [], false⟩,
  ⟨(some 28), none, .fld 2 (.tmp 1), [], false⟩,
  ⟨(some 29), none, .load false 1 (.tmp 28), [], false⟩,
  ⟨(some 30), none, .len (.tmp 29), [], false⟩,
  ⟨(some 31), none, .bin .lss (.tmp 27) (.tmp 30), [], false⟩] [1, 3, 31]
def c_turretref04_Face_8 : SCode := .cond (.tmp 31) .skip (.exit 0)
def c_turretref04_Face_9 : SCode := .seq c_turretref04_Face_7 c_turretref04_Face_8
def c_turretref04_Face_10 : SCode := .reg [⟨(some 34), none, .fld 2 (.tmp 1), [], false⟩,
  ⟨(some 35), none, .load false 1 (.tmp 34), [], false⟩,
  ⟨(some 36), none, .mov (.tmp 3), [], false⟩,
  ⟨(some 37), none, .idxS 3 (.tmp 35) (.tmp 36), [], false⟩,
  ⟨(some 38), none, .load true 3 (.tmp 37), [], false⟩,
  ⟨(some 4), none, .alloc 59 [(.int .i64 0), (.int .i64 0), (.int .i64 0)], [], false⟩,
  ⟨none, none, .store 3 (.tmp 4) (.tmp 38), [], false⟩] [1, 3, 4]
def c_turretref04_Face_11 : SCode := .reg [⟨(some 39), none, .fld 0 (.tmp 4), [], false⟩,
  ⟨(some 40), none, .load false 1 (.tmp 39), [], false⟩,
  ⟨(some 41), none, .call 24 [(.tmp 40), (.const (.int .i64 0)), (.const (.int .i64 1000))], [], false⟩,
  ⟨(some 42), none, .un .not (.tmp 41), [], false⟩,
  ⟨(some 43), none, .mov (.tmp 42), [], false⟩,
  ⟨(some 44), (some (43, false)), .fld 1 (.tmp 4), [], false⟩,
  ⟨(some 45), (some (43, false)), .fld 0 (.tmp 44), [], false⟩,
  ⟨(some 46), (some (43, false)), .load false 1 (.tmp 45), [], false⟩,
  ⟨(some 47), (some (43, false)), .call 24 [(.tmp 46), (.const (.int .i64 1)), (.const (.int .i64 200))], [], false⟩,
  ⟨(some 48), (some (43, false)), .un .not (.tmp 47), [], false⟩,
  ⟨(some 49), none, .pick (.tmp 43) (.const (.bool true)) (.tmp 48), [], false⟩,
  ⟨(some 50), none, .mov (.tmp 49), [], false⟩,
  ⟨(some 51), (some (50, false)), .fld 1 (.tmp 4), [], false⟩,
  ⟨(some 52), (some (50, false)), .fld 1 (.tmp 51), [], false⟩,
  ⟨(some 53), (some (50, false)), .load false 1 (.tmp 52), [], false⟩,
  ⟨(some 54), (some (50, false)), .call 24 [(.tmp 53), (.const (.int .i64 1)), (.const (.int .i64 200))], [], false⟩,
  ⟨(some 55), (some (50, false)), .un .not (.tmp 54), [], false⟩,
  ⟨(some 56), none, .pick (.tmp 50) (.const (.bool true)) (.tmp 55), [], false⟩] [1, 3, 56]
def c_turretref04_Face_12 : SCode := .reg [⟨(some 2), none, .mov (.const (.bool false)), [], false⟩] [2]
def c_turretref04_Face_13 : SCode := .seq c_turretref04_Face_12 .ret
def c_turretref04_Face_14 : SCode := .cond (.tmp 56) c_turretref04_Face_13 .skip
def c_turretref04_Face_15 : SCode := .seq c_turretref04_Face_11 c_turretref04_Face_14
def c_turretref04_Face_16 : SCode := .seq c_turretref04_Face_10 c_turretref04_Face_15
def c_turretref04_Face_17 : SCode := .block 1 c_turretref04_Face_16
def c_turretref04_Face_18 : SCode := .reg [⟨(some 32), none, .mov (.tmp 3), [], false⟩,
  ⟨(some 33), none, .bin .add (.tmp 32) (.const (.int .i64 1)), [], false⟩,
  ⟨(some 3), none, .mov (.tmp 33), [], false⟩] [1, 3]
def c_turretref04_Face_19 : SCode := .seq c_turretref04_Face_17 c_turretref04_Face_18
def c_turretref04_Face_20 : SCode := .seq c_turretref04_Face_9 c_turretref04_Face_19
def c_turretref04_Face_21 : SCode := .loop c_turretref04_Face_20
def c_turretref04_Face_22 : SCode := .block 0 c_turretref04_Face_21
def c_turretref04_Face_23 : SCode := .seq c_turretref04_Face_6 c_turretref04_Face_22
def c_turretref04_Face_24 : SCode := .reg [⟨(some 57), none, .fld 2 (.tmp 1), [], false⟩,
  ⟨(some 58), none, .load false 1 (.tmp 57), [], false⟩,
  ⟨(some 59), none, .call 66 [(.tmp 58)], [], false⟩,
  ⟨(some 60), none, .bin .leq (.tmp 59) (.const (.int .i64 3600)), [], false⟩,
  ⟨(some 2), none, .mov (.tmp 60), [], false⟩] [2]
def c_turretref04_Face_25 : SCode := .seq c_turretref04_Face_24 .ret
def c_turretref04_Face_26 : SCode := .seq c_turretref04_Face_23 c_turretref04_Face_25
def c_turretref04_Face_27 : SCode := .seq c_turretref04_Face_5 c_turretref04_Face_26
def c_turretref04_Face_28 : SCode := .seq c_turretref04_Face_0 c_turretref04_Face_27
@[simp] def rs_turretref04_Face : List SRes := [.tmp 2]
theorem law_turretref04_Face (cs : List CV) (r : CV) (hl : cs.length ≤ 61) (h : STri (cfF Tryz.prog [] 61) c_turretref04_Face_28 (initT 0 cs) [] (retQ rs_turretref04_Face r)) : SC Tryz.prog 47 cs r :=
  sc_of [] follows Tryz.func47 rfl Tryz.ntmps47 (by decide) (by kernel_rfl) (by kernel_rfl) hl h
def c_turretref04_Hands_0 : SCode := .reg [⟨(some 5), none, .box 26 (.tmp 0), [], false⟩,
  ⟨(some 6), none, .box 54 (.tmp 1), [], false⟩,
  ⟨(some 9), none, .box 23 (.tmp 4), [], false⟩,
  ⟨(some 10), none, .alloc 23 [(.int .i64 0), (.int .i64 0)], [], false⟩] [2, 3, 5, 6, 9, 10]
def c_turretref04_Hands_1 : SCode := .reg [⟨(some 13), none, .load true 4 (.tmp 5), [], false⟩,
  ⟨(some 14), none, .mov (.tmp 2), [], false⟩,
  ⟨(some 15), none, .mov (.tmp 3), [], false⟩,
  ⟨(some 16), none, .call 73 [(.tmp 13), (.tmp 14), (.tmp 15)], [], false⟩,
  ⟨(some 11), none, .mov (.tmp 16), [], false⟩] [6, 9, 10, 11]
def c_turretref04_Hands_2 : SCode := .reg [⟨(some 17), none, .load true 5 (.tmp 6), [], false⟩,
  ⟨(some 18), none, .mov (.tmp 11), [], false⟩,
  ⟨(some 19), none, .load true 2 (.tmp 9), [], false⟩,
  ⟨(some 20), none, .call 74 [(.tmp 17), (.tmp 18), (.tmp 19)], [], false⟩,
  ⟨(some 12), none, .alloc 23 [(.int .i64 0), (.int .i64 0)], [], false⟩,
  ⟨none, none, .store 2 (.tmp 12) (.tmp 20), [], false⟩] [6, 10, 11, 12]
def c_turretref04_Hands_3 : SCode := .reg [⟨(some 21), none, .mov (.tmp 11), [], false⟩,
  ⟨(some 22), none, .fld 0 (.tmp 6), [], false⟩,
  ⟨(some 23), none, .fld 0 (.tmp 22), [], false⟩,
  ⟨(some 24), none, .load false 1 (.tmp 23), [], false⟩,
  ⟨(some 25), none, .bin .add (.tmp 21) (.tmp 24), [], false⟩,
  ⟨(some 26), none, .fld 1 (.tmp 12), [], false⟩,
  ⟨(some 27), none, .load false 1 (.tmp 26), [], false⟩,
  ⟨(some 28), none, .bin .sub (.tmp 25) (.tmp 27), [], false⟩,
  ⟨(some 29), none, .mov (.tmp 11), [], false⟩,
  ⟨(some 30), none, .fld 0 (.tmp 6), [], false⟩,
  ⟨(some 31), none, .fld 1 (.tmp 30), [], false⟩,
  ⟨(some 32), none, .load false 1 (.tmp 31), [], false⟩,
  ⟨(some 33), none, .bin .add (.tmp 29) (.tmp 32), [], false⟩,
  ⟨(some 34), none, .fld 0 (.tmp 12), [], false⟩,
  ⟨(some 35), none, .load false 1 (.tmp 34), [], false⟩,
  ⟨(some 36), none, .bin .sub (.tmp 33) (.tmp 35), [], false⟩,
  ⟨(some 37), none, .build [(.int .i64 0), (.int .i64 0)] [(0, 1, (.tmp 28)), (1, 1, (.tmp 36))], [], false⟩,
  ⟨none, none, .store 2 (.tmp 10) (.tmp 37), [], false⟩] [10]
def c_turretref04_Hands_4 : SCode := .seq c_turretref04_Hands_3 .ret
def c_turretref04_Hands_5 : SCode := .seq c_turretref04_Hands_2 c_turretref04_Hands_4
def c_turretref04_Hands_6 : SCode := .seq c_turretref04_Hands_1 c_turretref04_Hands_5
def c_turretref04_Hands_7 : SCode := .seq c_turretref04_Hands_0 c_turretref04_Hands_6
@[simp] def rs_turretref04_Hands : List SRes := [.cell 10 true 2]
theorem law_turretref04_Hands (cs : List CV) (r : CV) (hl : cs.length ≤ 38) (h : STri (cfF Tryz.prog [] 38) c_turretref04_Hands_7 (initT 0 cs) [] (retQ rs_turretref04_Hands r)) : SC Tryz.prog 56 cs r :=
  sc_of [] follows Tryz.func56 rfl Tryz.ntmps56 (by decide) (by kernel_rfl) (by kernel_rfl) hl h
def c_turretref04_Mod_0 : SCode := .reg [⟨(some 4), none, .mov (.const (.int .i64 0)), [], false⟩] [0, 1]
def c_turretref04_Mod_1 : SCode := .reg [⟨(some 6), none, .mov (.tmp 0), [], false⟩,
  ⟨(some 7), none, .mov (.tmp 1), [], false⟩,
  ⟨(some 8), none, .bin .rem (.tmp 6) (.tmp 7), [], false⟩,
  ⟨(some 5), none, .mov (.tmp 8), [], false⟩] [1, 5]
def c_turretref04_Mod_2 : SCode := .reg [⟨(some 9), none, .mov (.tmp 5), [], false⟩,
  ⟨(some 10), none, .bin .lss (.tmp 9) (.const (.int .i64 0)), [], false⟩] [1, 5, 10]
def c_turretref04_Mod_3 : SCode := .reg [⟨(some 11), none, .mov (.tmp 5), [], false⟩,
  ⟨(some 12), none, .mov (.tmp 1), [], false⟩,
  ⟨(some 13), none, .bin .add (.tmp 11) (.tmp 12), [], false⟩,
  ⟨(some 5), none, .mov (.tmp 13), [], false⟩] [5]
def c_turretref04_Mod_4 : SCode := .cond (.tmp 10) c_turretref04_Mod_3 .skip
def c_turretref04_Mod_5 : SCode := .seq c_turretref04_Mod_2 c_turretref04_Mod_4
def c_turretref04_Mod_6 : SCode := .reg [⟨(some 14), none, .mov (.tmp 5), [], false⟩,
  ⟨(some 4), none, .mov (.tmp 14), [], false⟩] [4]
def c_turretref04_Mod_7 : SCode := .seq c_turretref04_Mod_6 .ret
def c_turretref04_Mod_8 : SCode := .seq c_turretref04_Mod_5 c_turretref04_Mod_7
def c_turretref04_Mod_9 : SCode := .seq c_turretref04_Mod_1 c_turretref04_Mod_8
def c_turretref04_Mod_10 : SCode := .seq c_turretref04_Mod_0 c_turretref04_Mod_9
@[simp] def rs_turretref04_Mod : List SRes := [.tmp 4]
theorem law_turretref04_Mod (cs : List CV) (r : CV) (hl : cs.length ≤ 15) (h : STri (cfF Tryz.prog [] 15) c_turretref04_Mod_10 (initT 0 cs) [] (retQ rs_turretref04_Mod r)) : SC Tryz.prog 57 cs r :=
  sc_of [] follows Tryz.func57 rfl Tryz.ntmps57 (by decide) (by kernel_rfl) (by kernel_rfl) hl h
def c_turretref04_Slack_0 : SCode := .reg [⟨(some 2), none, .mov (.const (.int .i64 0)), [], false⟩] [0]
def c_turretref04_Slack_1 : SCode := .reg [⟨(some 3), none, .mov (.const (.int .i64 1)), [], false⟩,
  ⟨(some 4), none, .mov (.const (.int .i64 0)), [], false⟩] [0, 3, 4]
def c_turretref04_Slack_2 : SCode := .reg [⟨(some 5), none, .mov (.const (.int .i64 0)), [], false⟩] [0, 3, 4, 5]
def c_turretref04_Slack_3 : SCode := .reg [⟨(some 7), none, .mov (.tmp 5), [], false⟩,
  ⟨(some 8), none, .mov (.tmp 0), [], false⟩,
  ⟨(some 9), none, .len (.tmp 8), [], false⟩,
  ⟨(some 10), none, .bin .lss (.tmp 7) (.tmp 9), [], false⟩] [0, 3, 4, 5, 10]
def c_turretref04_Slack_4 : SCode := .cond (.tmp 10) .skip (.exit 0)
def c_turretref04_Slack_5 : SCode := .seq c_turretref04_Slack_3 c_turretref04_Slack_4
def c_turretref04_Slack_6 : SCode := .reg [⟨(some 13), none, .mov (.tmp 3), [], false⟩,
  ⟨(some 14), none, .mov (.tmp 0), [], false⟩,
  ⟨(some 15), none, .mov (.tmp 5), [], false⟩,
  ⟨(some 16), none, .idxS 3 (.tmp 14) (.tmp 15), [], false⟩,
  ⟨(some 17), none, .fld 1 (.tmp 16), [], false⟩,
  ⟨(some 18), none, .fld 0 (.tmp 17), [], false⟩,
  ⟨(some 19), none, .load false 1 (.tmp 18), [], false⟩,
  ⟨(some 20), none, .bin .mul (.tmp 13) (.tmp 19), [], false⟩,
  ⟨(some 3), none, .mov (.tmp 20), [], false⟩] [0, 3, 4, 5]
def c_turretref04_Slack_7 : SCode := .block 1 c_turretref04_Slack_6
def c_turretref04_Slack_8 : SCode := .reg [⟨(some 11), none, .mov (.tmp 5), [], false⟩,
  ⟨(some 12), none, .bin .add (.tmp 11) (.const (.int .i64 1)), [], false⟩,
  ⟨(some 5), none, .mov (.tmp 12), [], false⟩] [0, 3, 4, 5]
def c_turretref04_Slack_9 : SCode := .seq c_turretref04_Slack_7 c_turretref04_Slack_8
def c_turretref04_Slack_10 : SCode := .seq c_turretref04_Slack_5 c_turretref04_Slack_9
def c_turretref04_Slack_11 : SCode := .loop c_turretref04_Slack_10
def c_turretref04_Slack_12 : SCode := .block 0 c_turretref04_Slack_11
def c_turretref04_Slack_13 : SCode := .seq c_turretref04_Slack_2 c_turretref04_Slack_12
def c_turretref04_Slack_14 : SCode := .reg [⟨(some 6), none, .mov (.const (.int .i64 0)), [], false⟩] [0, 3, 4, 6]
def c_turretref04_Slack_15 : SCode := .reg [⟨(some 21), none, .mov (.tmp 6), [], false⟩,
  ⟨(some 22), none, .mov (.tmp 0), [], false⟩,
  ⟨(some 23), none, .len (.tmp 22), [], false⟩,
  ⟨(some 24), none, .bin .lss (.tmp 21) (.tmp 23), [], false⟩] [0, 3, 4, 6, 24]
def c_turretref04_Slack_16 : SCode := .cond (.tmp 24) .skip (.exit 2)
def c_turretref04_Slack_17 : SCode := .seq c_turretref04_Slack_15 c_turretref04_Slack_16
def c_turretref04_Slack_18 : SCode := .reg [⟨(some 27), none, .mov (.tmp 4), [], false⟩,
  ⟨(some 28), none, .mov (.tmp 0), [], false⟩,
  ⟨(some 29), none, .mov (.tmp 6), [], false⟩,
  ⟨(some 30), none, .idxS 3 (.tmp 28) (.tmp 29), [], false⟩,
  ⟨(some 31), none, .fld 0 (.tmp 30), [], false⟩,
  ⟨(some 32), none, .load false 1 (.tmp 31), [], false⟩,
  ⟨(some 33), none, .bin .mul (.tmp 32) (.const (.int .i64 3600)), [], false⟩,
  ⟨(some 34), none, .mov (.tmp 0), [], false⟩,
  ⟨(some 35), none, .mov (.tmp 6), [], false⟩,
  ⟨(some 36), none, .idxS 3 (.tmp 34) (.tmp 35), [], false⟩,
  ⟨(some 37), none, .fld 1 (.tmp 36), [], false⟩,
  ⟨(some 38), none, .fld 1 (.tmp 37), [], false⟩,
  ⟨(some 39), none, .load false 1 (.tmp 38), [], false⟩,
  ⟨(some 40), none, .bin .mul (.tmp 33) (.tmp 39), [], false⟩,
  ⟨(some 41), none, .mov (.tmp 3), [], false⟩,
  ⟨(some 42), none, .mov (.tmp 0), [], false⟩,
  ⟨(some 43), none, .mov (.tmp 6), [], false⟩,
  ⟨(some 44), none, .idxS 3 (.tmp 42) (.tmp 43), [], false⟩,
  ⟨(some 45), none, .fld 1 (.tmp 44), [], false⟩,
  ⟨(some 46), none, .fld 0 (.tmp 45), [], false⟩,
  ⟨(some 47), none, .load false 1 (.tmp 46), [], false⟩,
  ⟨(some 48), none, .bin .quo (.tmp 41) (.tmp 47), [], false⟩,
  ⟨(some 49), none, .bin .mul (.tmp 40) (.tmp 48), [], false⟩,
  ⟨(some 50), none, .bin .add (.tmp 27) (.tmp 49), [], false⟩,
  ⟨(some 4), none, .mov (.tmp 50), [], false⟩] [0, 3, 4, 6]
def c_turretref04_Slack_19 : SCode := .block 3 c_turretref04_Slack_18
def c_turretref04_Slack_20 : SCode := .reg [⟨(some 25), none, .mov (.tmp 6), [], false⟩,
  ⟨(some 26), none, .bin .add (.tmp 25) (.const (.int .i64 1)), [], false⟩,
  ⟨(some 6), none, .mov (.tmp 26), [], false⟩] [0, 3, 4, 6]
def c_turretref04_Slack_21 : SCode := .seq c_turretref04_Slack_19 c_turretref04_Slack_20
def c_turretref04_Slack_22 : SCode := .seq c_turretref04_Slack_17 c_turretref04_Slack_21
def c_turretref04_Slack_23 : SCode := .loop c_turretref04_Slack_22
def c_turretref04_Slack_24 : SCode := .block 2 c_turretref04_Slack_23
def c_turretref04_Slack_25 : SCode := .seq c_turretref04_Slack_14 c_turretref04_Slack_24
def c_turretref04_Slack_26 : SCode := .reg [⟨(some 51), none, .mov (.tmp 3), [], false⟩,
  ⟨(some 52), none, .bin .mul (.tmp 51) (.const (.int .i64 1000)), [], false⟩,
  ⟨(some 3), none, .mov (.tmp 52), [], false⟩] [3, 4]
def c_turretref04_Slack_27 : SCode := .reg [⟨(some 53), none, .mov (.tmp 4), [], false⟩,
  ⟨(some 54), none, .mov (.tmp 3), [], false⟩,
  ⟨(some 55), none, .bin .rem (.tmp 53) (.tmp 54), [], false⟩,
  ⟨(some 56), none, .bin .gtr (.tmp 55) (.const (.int .i64 0)), [], false⟩] [3, 4, 56]
def c_turretref04_Slack_28 : SCode := .reg [⟨(some 57), none, .mov (.tmp 4), [], false⟩,
  ⟨(some 58), none, .mov (.tmp 3), [], false⟩,
  ⟨(some 59), none, .bin .quo (.tmp 57) (.tmp 58), [], false⟩,
  ⟨(some 60), none, .bin .add (.tmp 59) (.const (.int .i64 1)), [], false⟩,
  ⟨(some 2), none, .mov (.tmp 60), [], false⟩] [2]
def c_turretref04_Slack_29 : SCode := .seq c_turretref04_Slack_28 .ret
def c_turretref04_Slack_30 : SCode := .cond (.tmp 56) c_turretref04_Slack_29 .skip
def c_turretref04_Slack_31 : SCode := .seq c_turretref04_Slack_27 c_turretref04_Slack_30
def c_turretref04_Slack_32 : SCode := .reg [⟨(some 61), none, .mov (.tmp 4), [], false⟩,
  ⟨(some 62), none, .mov (.tmp 3), [], false⟩,
  ⟨(some 63), none, .bin .quo (.tmp 61) (.tmp 62), [], false⟩,
  ⟨(some 2), none, .mov (.tmp 63), [], false⟩] [2]
def c_turretref04_Slack_33 : SCode := .seq c_turretref04_Slack_32 .ret
def c_turretref04_Slack_34 : SCode := .seq c_turretref04_Slack_31 c_turretref04_Slack_33
def c_turretref04_Slack_35 : SCode := .seq c_turretref04_Slack_26 c_turretref04_Slack_34
def c_turretref04_Slack_36 : SCode := .seq c_turretref04_Slack_25 c_turretref04_Slack_35
def c_turretref04_Slack_37 : SCode := .seq c_turretref04_Slack_13 c_turretref04_Slack_36
def c_turretref04_Slack_38 : SCode := .seq c_turretref04_Slack_1 c_turretref04_Slack_37
def c_turretref04_Slack_39 : SCode := .seq c_turretref04_Slack_0 c_turretref04_Slack_38
@[simp] def rs_turretref04_Slack : List SRes := [.tmp 2]
theorem law_turretref04_Slack (cs : List CV) (r : CV) (hl : cs.length ≤ 64) (h : STri (cfF Tryz.prog [] 64) c_turretref04_Slack_39 (initT 0 cs) [] (retQ rs_turretref04_Slack r)) : SC Tryz.prog 66 cs r :=
  sc_of [] follows Tryz.func66 rfl Tryz.ntmps66 (by decide) (by kernel_rfl) (by kernel_rfl) hl h
def c_turretref04_Driven_0 : SCode := .reg [⟨(some 3), none, .box 26 (.tmp 0), [], false⟩,
  ⟨(some 6), none, .mov (.const (.int .i64 0)), [], false⟩] [1, 2, 3]
def c_turretref04_Driven_1 : SCode := .reg [⟨(some 7), none, .mov (.tmp 1), [], false⟩,
  ⟨(some 8), none, .mov (.tmp 2), [], false⟩,
  ⟨(some 9), none, .bin .add (.tmp 7) (.tmp 8), [], false⟩,
  ⟨(some 10), none, .mov (.tmp 1), [], false⟩,
  ⟨(some 11), none, .mov (.tmp 2), [], false⟩,
  ⟨(some 12), none, .bin .add (.tmp 10) (.tmp 11), [], false⟩,
  ⟨(some 13), none, .fld 0 (.tmp 3), [], false⟩,
  ⟨(some 14), none, .load false 1 (.tmp 13), [], false⟩,
  ⟨(some 15), none, .call 57 [(.tmp 12), (.tmp 14)], [], false⟩,
  ⟨(some 16), none, .bin .sub (.tmp 9) (.tmp 15), [], false⟩,
  ⟨(some 6), none, .mov (.tmp 16), [], false⟩] [6]
def c_turretref04_Driven_2 : SCode := .seq c_turretref04_Driven_1 .ret
def c_turretref04_Driven_3 : SCode := .seq c_turretref04_Driven_0 c_turretref04_Driven_2
@[simp] def rs_turretref04_Driven : List SRes := [.tmp 6]
theorem law_turretref04_Driven (cs : List CV) (r : CV) (hl : cs.length ≤ 17) (h : STri (cfF Tryz.prog [] 17) c_turretref04_Driven_3 (initT 0 cs) [] (retQ rs_turretref04_Driven r)) : SC Tryz.prog 73 cs r :=
  sc_of [] follows Tryz.func73 rfl Tryz.ntmps73 (by decide) (by kernel_rfl) (by kernel_rfl) hl h
def c_turretref04_Lags_0 : SCode := .reg [⟨(some 3), none, .box 54 (.tmp 0), [], false⟩,
  ⟨(some 5), none, .box 23 (.tmp 2), [], false⟩,
  ⟨(some 6), none, .alloc 23 [(.int .i64 0), (.int .i64 0)], [], false⟩] [1, 3, 5, 6]
def c_turretref04_Lags_1 : SCode := .reg [⟨(some 8), none, .fld 2 (.tmp 3), [], false⟩,
  ⟨(some 9), none, .load false 1 (.tmp 8), [], false⟩,
  ⟨(some 10), none, .call 66 [(.tmp 9)], [], false⟩,
  ⟨(some 7), none, .mov (.tmp 10), [], false⟩] [1, 3, 5, 6, 7]
def c_turretref04_Lags_2 : SCode := .reg [⟨(some 11), none, .load true 5 (.tmp 3), [], false⟩,
  ⟨(some 12), none, .mov (.tmp 1), [], false⟩,
  ⟨(some 13), none, .fld 0 (.tmp 5), [], false⟩,
  ⟨(some 14), none, .load false 1 (.tmp 13), [], false⟩,
  ⟨(some 15), none, .call 95 [(.tmp 11), (.tmp 12), (.tmp 14)], [], false⟩,
  ⟨(some 16), none, .fld 4 (.tmp 3), [], false⟩,
  ⟨(some 17), none, .load false 1 (.tmp 16), [], false⟩,
  ⟨(some 18), none, .bin .gtr (.tmp 15) (.tmp 17), [], false⟩] [1, 3, 5, 6, 7, 18]
def c_turretref04_Lags_3 : SCode := .reg [⟨(some 19), none, .build [(.int .i64 0), (.int .i64 0)] [], [], false⟩,
  ⟨none, none, .store 2 (.tmp 6) (.tmp 19), [], false⟩] [6]
def c_turretref04_Lags_4 : SCode := .seq c_turretref04_Lags_3 .ret
def c_turretref04_Lags_5 : SCode := .cond (.tmp 18) c_turretref04_Lags_4 .skip
def c_turretref04_Lags_6 : SCode := .seq c_turretref04_Lags_2 c_turretref04_Lags_5
def c_turretref04_Lags_7 : SCode := .reg [⟨(some 20), none, .load true 5 (.tmp 3), [], false⟩,
  ⟨(some 21), none, .mov (.tmp 1), [], false⟩,
  ⟨(some 22), none, .fld 1 (.tmp 5), [], false⟩,
  ⟨(some 23), none, .load false 1 (.tmp 22), [], false⟩,
  ⟨(some 24), none, .call 95 [(.tmp 20), (.tmp 21), (.tmp 23)], [], false⟩,
  ⟨(some 25), none, .fld 4 (.tmp 3), [], false⟩,
  ⟨(some 26), none, .load false 1 (.tmp 25), [], false⟩,
  ⟨(some 27), none, .un .neg (.tmp 26), [], false⟩,
  ⟨(some 28), none, .bin .lss (.tmp 24) (.tmp 27), [], false⟩] [6, 7, 28]
def c_turretref04_Lags_8 : SCode := .reg [⟨(some 29), none, .mov (.tmp 7), [], false⟩,
  ⟨(some 30), none, .mov (.tmp 7), [], false⟩,
  ⟨(some 31), none, .build [(.int .i64 0), (.int .i64 0)] [(0, 1, (.tmp 29)), (1, 1, (.tmp 30))], [], false⟩,
  ⟨none, none, .store 2 (.tmp 6) (.tmp 31), [], false⟩] [6]
def c_turretref04_Lags_9 : SCode := .seq c_turretref04_Lags_8 .ret
def c_turretref04_Lags_10 : SCode := .cond (.tmp 28) c_turretref04_Lags_9 .skip
def c_turretref04_Lags_11 : SCode := .seq c_turretref04_Lags_7 c_turretref04_Lags_10
def c_turretref04_Lags_12 : SCode := .reg [⟨(some 32), none, .mov (.tmp 7), [], false⟩,
  ⟨(some 33), none, .build [(.int .i64 0), (.int .i64 0)] [(1, 1, (.tmp 32))], [], false⟩,
  ⟨none, none, .store 2 (.tmp 6) (.tmp 33), [], false⟩] [6]
def c_turretref04_Lags_13 : SCode := .seq c_turretref04_Lags_12 .ret
def c_turretref04_Lags_14 : SCode := .seq c_turretref04_Lags_11 c_turretref04_Lags_13
def c_turretref04_Lags_15 : SCode := .seq c_turretref04_Lags_6 c_turretref04_Lags_14
def c_turretref04_Lags_16 : SCode := .seq c_turretref04_Lags_1 c_turretref04_Lags_15
def c_turretref04_Lags_17 : SCode := .seq c_turretref04_Lags_0 c_turretref04_Lags_16
@[simp] def rs_turretref04_Lags : List SRes := [.cell 6 true 2]
theorem law_turretref04_Lags (cs : List CV) (r : CV) (hl : cs.length ≤ 34) (h : STri (cfF Tryz.prog [] 34) c_turretref04_Lags_17 (initT 0 cs) [] (retQ rs_turretref04_Lags r)) : SC Tryz.prog 74 cs r :=
  sc_of [] follows Tryz.func74 rfl Tryz.ntmps74 (by decide) (by kernel_rfl) (by kernel_rfl) hl h
def c_turretref04_Force_0 : SCode := .reg [⟨(some 3), none, .box 54 (.tmp 0), [], false⟩,
  ⟨(some 6), none, .mov (.const (.int .i64 0)), [], false⟩] [1, 2, 3]
def c_turretref04_Force_1 : SCode := .reg [⟨(some 7), none, .mov (.tmp 1), [], false⟩,
  ⟨(some 8), none, .call 57 [(.tmp 7), (.const (.int .i64 3600))], [], false⟩,
  ⟨(some 9), none, .bin .lss (.tmp 8) (.const (.int .i64 1800)), [], false⟩] [2, 3, 9]
def c_turretref04_Force_2 : SCode := .reg [⟨(some 10), none, .mov (.tmp 2), [], false⟩,
  ⟨(some 11), none, .fld 3 (.tmp 3), [], false⟩,
  ⟨(some 12), none, .load false 1 (.tmp 11), [], false⟩,
  ⟨(some 13), none, .bin .add (.tmp 10) (.tmp 12), [], false⟩,
  ⟨(some 6), none, .mov (.tmp 13), [], false⟩] [6]
def c_turretref04_Force_3 : SCode := .seq c_turretref04_Force_2 .ret
def c_turretref04_Force_4 : SCode := .cond (.tmp 9) c_turretref04_Force_3 .skip
def c_turretref04_Force_5 : SCode := .seq c_turretref04_Force_1 c_turretref04_Force_4
def c_turretref04_Force_6 : SCode := .reg [⟨(some 14), none, .mov (.tmp 2), [], false⟩,
  ⟨(some 15), none, .fld 3 (.tmp 3), [], false⟩,
  ⟨(some 16), none, .load false 1 (.tmp 15), [], false⟩,
  ⟨(some 17), none, .bin .sub (.tmp 14) (.tmp 16), [], false⟩,
  ⟨(some 6), none, .mov (.tmp 17), [], false⟩] [6]
def c_turretref04_Force_7 : SCode := .seq c_turretref04_Force_6 .ret
def c_turretref04_Force_8 : SCode := .seq c_turretref04_Force_5 c_turretref04_Force_7
def c_turretref04_Force_9 : SCode := .seq c_turretref04_Force_0 c_turretref04_Force_8
@[simp] def rs_turretref04_Force : List SRes := [.tmp 6]
theorem law_turretref04_Force (cs : List CV) (r : CV) (hl : cs.length ≤ 18) (h : STri (cfF Tryz.prog [] 18) c_turretref04_Force_9 (initT 0 cs) [] (retQ rs_turretref04_Force r)) : SC Tryz.prog 95 cs r :=
  sc_of [] follows Tryz.func95 rfl Tryz.ntmps95 (by decide) (by kernel_rfl) (by kernel_rfl) hl h
end Go.Proofs.YtnfggkopledpcaaGreat
/- Dial's references, VI: spans of a list of bools; what can be shown. -/
namespace Go.Proofs.YtnfggkopledpcaaGreat
open Go.RowKit
def bsR (N : Nat) (f : Nat → Bool) : List (List CV) := (List.range N).map fun i => [B (f i)]
def bsC (N : Nat) (f : Nat → Bool) : CV := .sl 1 (bsR N f)
def setHi (o : List (Int × Int)) (n : Int) : List (Int × Int) := match o.getLast? with
  | some l => o.dropLast ++ [(l.1, n)]
  | none => []
def spK (f : Nat → Bool) (a : Int) : Nat → List (Int × Int)
  | 0 => []
  | i + 1 => if f i = true then (if i = 0 ∨ f (i - 1) = false then spK f a i ++ [(a + i, a + i)] else setHi (spK f a i) (a + i)) else spK f a i
structure SpOk (f : Nat → Bool) (a : Int) (i : Nat) (l : List (Int × Int)) : Prop where
  sep : Sep l
  mem : ∀ n, Memb l n ↔ ∃ j, j < i ∧ f j = true ∧ n = a + j
  far : 0 < i → f (i - 1) = false → ∀ x ∈ l, x.2 + 1 < a + i
  last : 0 < i → f (i - 1) = true → ∃ o m, l = o ++ [m] ∧ m.2 + 1 = a + i
  len : l.length ≤ i
theorem spK_ok (f : Nat → Bool) (a : Int) : ∀ i, SpOk f a i (spK f a i)
  | 0 => ⟨⟨by simp [spK], fun x hx => by simp [spK] at hx⟩, fun n => ⟨fun ⟨x, hx, _⟩ => by simp [spK] at hx, fun ⟨j, hj, _⟩ => by omega⟩, fun h => by omega, fun h => by omega, by simp [spK]⟩
  | i + 1 => by
    have ih := spK_ok f a i
    by_cases hf : f i = true
    · by_cases hc : i = 0 ∨ f (i - 1) = false
      · have e : spK f a (i + 1) = spK f a i ++ [(a + i, a + i)] := by simp only [spK]; rw [if_pos hf, if_pos hc]
        rw [e]
        have hfar : ∀ x ∈ spK f a i, x.2 + 1 < a + i := by
          rcases hc with rfl | hc
          · intro x hx; simp [spK] at hx
          · by_cases h0 : i = 0
            · subst h0; intro x hx; simp [spK] at hx
            · exact ih.far (by omega) hc
        refine ⟨sep_snoc.2 ⟨ih.sep, fun x hx => by simpa using hfar x hx, Int.le_refl _⟩, fun n => ?_, fun _ h => ?_, fun _ _ => ⟨_, _, rfl, by simp only; omega⟩, by have := ih.len; simp; omega⟩
        · rw [memb_snoc, ih.mem]
          constructor
          · rintro (⟨j, h1, h2, h3⟩ | ⟨h1, h2⟩)
            · exact ⟨j, by omega, h2, h3⟩
            · exact ⟨i, by omega, hf, by simp only at h1 h2; omega⟩
          · rintro ⟨j, h1, h2, h3⟩
            by_cases hji : j = i
            · subst hji; exact .inr ⟨by simp only; omega, by simp only; omega⟩
            · exact .inl ⟨j, by omega, h2, h3⟩
        · simp at h; rw [h] at hf; cases hf
      · have e : spK f a (i + 1) = setHi (spK f a i) (a + i) := by simp only [spK]; rw [if_pos hf, if_neg hc]
        have h0 : 0 < i := by omega
        have hp : f (i - 1) = true := by cases h : f (i - 1) <;> simp_all
        obtain ⟨o, m, ho, hm⟩ := ih.last h0 hp
        have hs : setHi (spK f a i) (a + i) = o ++ [(m.1, a + i)] := by rw [ho]; simp [setHi]
        rw [e, hs]
        have hsep := ih.sep
        have hmem := ih.mem
        have hlen := ih.len
        rw [ho] at hsep hmem hlen
        obtain ⟨s1, s2, s3⟩ := sep_snoc.1 hsep
        refine ⟨sep_snoc.2 ⟨s1, s2, by simp only; omega⟩, fun n => ?_, fun _ h => ?_, fun _ _ => ⟨_, _, rfl, by simp only; omega⟩, by simp at hlen ⊢; omega⟩
        · have hq := hmem n
          rw [memb_snoc] at hq ⊢
          simp only
          constructor
          · rintro (h | ⟨h1, h2⟩)
            · obtain ⟨j, g1, g2, g3⟩ := hq.1 (.inl h)
              exact ⟨j, by omega, g2, g3⟩
            · by_cases hn : n = a + i
              · exact ⟨i, by omega, hf, hn⟩
              · obtain ⟨j, g1, g2, g3⟩ := hq.1 (.inr ⟨h1, by omega⟩)
                exact ⟨j, by omega, g2, g3⟩
          · rintro ⟨j, h1, h2, h3⟩
            by_cases hji : j = i
            · subst hji; exact .inr ⟨by omega, by omega⟩
            · rcases hq.2 ⟨j, by omega, h2, h3⟩ with h | ⟨g1, g2⟩
              · exact .inl h
              · exact .inr ⟨g1, by omega⟩
        · simp at h; rw [h] at hf; cases hf
    · have e : spK f a (i + 1) = spK f a i := by simp only [spK]; rw [if_neg hf]
      rw [e]
      refine ⟨ih.sep, fun n => ?_, fun _ _ x hx => ?_, fun _ h => ?_, by have := ih.len; omega⟩
      · rw [ih.mem]
        constructor
        · rintro ⟨j, h1, h2, h3⟩
          exact ⟨j, by omega, h2, h3⟩
        · rintro ⟨j, h1, h2, h3⟩
          by_cases hji : j = i
          · subst hji; exact absurd h2 hf
          · exact ⟨j, by omega, h2, h3⟩
      · by_cases h0 : i = 0
        · subst h0; simp [spK] at hx
        · cases hp : f (i - 1) with
          | false => have := ih.far (by omega) hp x hx; omega
          | true =>
            obtain ⟨o, m, ho, hm⟩ := ih.last (by omega) hp
            have hsep := ih.sep
            rw [ho] at hsep hx
            obtain ⟨s1, s2, s3⟩ := sep_snoc.1 hsep
            rcases List.mem_append.1 hx with hx | hx
            · have := s2 x hx; omega
            · simp at hx; subst hx; omega
      · simp at h; exact absurd h hf
theorem bsR_len (N : Nat) (f : Nat → Bool) : (bsR N f).length = N := by simp [bsR]
theorem bsR_at (N : Nat) (f : Nat → Bool) (i : Nat) : ∀ h : i < (bsR N f).length, (bsR N f)[i]'h = [B (f i)] := fun h => by simp [bsR]
theorem rSame (l : List (Int × Int)) (hl : l.length ≤ 1000000) : SC Tryz.prog 15 [slS l, slS l] (B true) := by
  refine law_turretref04_Same _ _ (by simp) ?_
  (repeat' (first | ((first | with_reducible refine st_skip ?_ | with_reducible refine st_exit ?_); (try simp only [seqQ, blockQ, loopQ, forQ, whileQ, reduceIte, Nat.reduceEqDiff])) | (with_reducible refine st_ret ?_; ((try simp only [seqQ, blockQ, loopQ, forQ, whileQ]); first | (with_reducible refine retM_ret ?_) | refine retQ_ret ?_; simp)) | refine st_seq ?_ | refine st_block ?_ | ((first | refine st_reg ?_ | refine buildP_own ?_) <;> (simp -dsimp; (repeat (simp -dsimp (disch := (first | omega | assumption | (refine Bool.eq_false_iff.1 ?_; assumption))) only [wrap_in, if_pos, if_neg]; (try simp -dsimp))))) | ((first | refine guardP_of (fun hc => ?_) (fun hc => ?_) | refine st_cond rfl (fun hc => ?_) (fun hc => ?_)) <;> (try simp only [decide_eq_true_eq, decide_eq_false_iff_not, Bool.true_eq_false, Bool.false_eq_true, bne_iff_ne, ne_eq, bne_eq_false_iff_eq, beq_iff_eq, beq_eq_false_iff_ne, Bool.not_eq_true, Bool.not_eq_false, Bool.not_eq_eq_eq_not, Bool.not_true, Bool.not_false, Decidable.not_not] at hc) <;> (try (exfalso; first | omega | exact bool_tf hc (by assumption) | exact bool_ft hc (by assumption) | exact absurd (by assumption) hc)) <;> (first | with_reducible show STri _ _ _ _ _ _ | (simp -dsimp [hc]; (repeat (simp -dsimp (disch := (first | omega | assumption | (refine Bool.eq_false_iff.1 ?_; assumption))) only [wrap_in, if_pos, if_neg]; (try simp -dsimp [hc]))))))))
  refine st_for [] l.length (fun k T H => T = [(0, .c (slS l)), (1, .c (slS l)), (5, .c (I k))] ∧ H = []) (by simp) ⟨by simp, by simp⟩ ?_
  rintro k T H hk ⟨rfl, rfl⟩
  by_cases hlt : k < l.length
  · have hg : (l.map rowS)[k]? = some (rowS l[k]) := by simp [hlt]
    (repeat' (first | ((first | with_reducible refine st_skip ?_ | with_reducible refine st_exit ?_); (try simp only [seqQ, blockQ, loopQ, forQ, whileQ, reduceIte, Nat.reduceEqDiff])) | (with_reducible refine st_ret ?_; ((try simp only [seqQ, blockQ, loopQ, forQ, whileQ]); first | (with_reducible refine retM_ret ?_) | refine retQ_ret ?_; simp [hlt, hg])) | refine st_seq ?_ | refine st_block ?_ | ((first | refine st_reg ?_ | refine buildP_own ?_) <;> (simp -dsimp [hlt, hg]; (repeat (simp -dsimp (disch := (first | omega | assumption | (refine Bool.eq_false_iff.1 ?_; assumption))) only [wrap_in, if_pos, if_neg]; (try simp -dsimp [hlt, hg]))))) | ((first | refine guardP_of (fun hc => ?_) (fun hc => ?_) | refine st_cond rfl (fun hc => ?_) (fun hc => ?_)) <;> (try simp only [decide_eq_true_eq, decide_eq_false_iff_not, Bool.true_eq_false, Bool.false_eq_true, bne_iff_ne, ne_eq, bne_eq_false_iff_eq, beq_iff_eq, beq_eq_false_iff_ne, Bool.not_eq_true, Bool.not_eq_false, Bool.not_eq_eq_eq_not, Bool.not_true, Bool.not_false, Decidable.not_not] at hc) <;> (try (exfalso; first | omega | exact bool_tf hc (by assumption) | exact bool_ft hc (by assumption) | exact absurd (by assumption) hc)) <;> (first | with_reducible show STri _ _ _ _ _ _ | (simp -dsimp [hlt, hg, hc]; (repeat (simp -dsimp (disch := (first | omega | assumption | (refine Bool.eq_false_iff.1 ?_; assumption))) only [wrap_in, if_pos, if_neg]; (try simp -dsimp [hlt, hg, hc]))))))))
    exact ⟨by omega, by simp, by simp⟩
  · (repeat' (first | ((first | with_reducible refine st_skip ?_ | with_reducible refine st_exit ?_); (try simp only [seqQ, blockQ, loopQ, forQ, whileQ, reduceIte, Nat.reduceEqDiff])) | (with_reducible refine st_ret ?_; ((try simp only [seqQ, blockQ, loopQ, forQ, whileQ]); first | (with_reducible refine retM_ret ?_) | refine retQ_ret ?_; simp [hlt])) | refine st_seq ?_ | refine st_block ?_ | ((first | refine st_reg ?_ | refine buildP_own ?_) <;> (simp -dsimp [hlt]; (repeat (simp -dsimp (disch := (first | omega | assumption | (refine Bool.eq_false_iff.1 ?_; assumption))) only [wrap_in, if_pos, if_neg]; (try simp -dsimp [hlt]))))) | ((first | refine guardP_of (fun hc => ?_) (fun hc => ?_) | refine st_cond rfl (fun hc => ?_) (fun hc => ?_)) <;> (try simp only [decide_eq_true_eq, decide_eq_false_iff_not, Bool.true_eq_false, Bool.false_eq_true, bne_iff_ne, ne_eq, bne_eq_false_iff_eq, beq_iff_eq, beq_eq_false_iff_ne, Bool.not_eq_true, Bool.not_eq_false, Bool.not_eq_eq_eq_not, Bool.not_true, Bool.not_false, Decidable.not_not] at hc) <;> (try (exfalso; first | omega | exact bool_tf hc (by assumption) | exact bool_ft hc (by assumption) | exact absurd (by assumption) hc)) <;> (first | with_reducible show STri _ _ _ _ _ _ | (simp -dsimp [hlt, hc]; (repeat (simp -dsimp (disch := (first | omega | assumption | (refine Bool.eq_false_iff.1 ?_; assumption))) only [wrap_in, if_pos, if_neg]; (try simp -dsimp [hlt, hc]))))))))
    all_goals exact .refl _
theorem rSpans (N : Nat) (f : Nat → Bool) (a : Int) (hN : N ≤ 1000000) (a1 : -1000000000000 ≤ a) (a2 : a ≤ 1000000000000) : SC Tryz.prog 12 [bsC N f, I a] (slS (spK f a N)) := by
  refine law_turretref04_Spans _ _ (by simp) ?_
  have hbl := bsR_len N f
  unfold bsC
  (repeat' (first | ((first | with_reducible refine st_skip ?_ | with_reducible refine st_exit ?_); (try simp only [seqQ, blockQ, loopQ, forQ, whileQ, reduceIte, Nat.reduceEqDiff])) | (with_reducible refine st_ret ?_; ((try simp only [seqQ, blockQ, loopQ, forQ, whileQ]); first | (with_reducible refine retM_ret ?_) | refine retQ_ret ?_; simp [hbl])) | refine st_seq ?_ | refine st_block ?_ | ((first | refine st_reg ?_ | refine buildP_own ?_) <;> (simp -dsimp [hbl]; (repeat (simp -dsimp (disch := (first | omega | assumption | (refine Bool.eq_false_iff.1 ?_; assumption))) only [wrap_in, if_pos, if_neg]; (try simp -dsimp [hbl]))))) | ((first | refine guardP_of (fun hc => ?_) (fun hc => ?_) | refine st_cond rfl (fun hc => ?_) (fun hc => ?_)) <;> (try simp only [decide_eq_true_eq, decide_eq_false_iff_not, Bool.true_eq_false, Bool.false_eq_true, bne_iff_ne, ne_eq, bne_eq_false_iff_eq, beq_iff_eq, beq_eq_false_iff_ne, Bool.not_eq_true, Bool.not_eq_false, Bool.not_eq_eq_eq_not, Bool.not_true, Bool.not_false, Decidable.not_not] at hc) <;> (try (exfalso; first | omega | exact bool_tf hc (by assumption) | exact bool_ft hc (by assumption) | exact absurd (by assumption) hc)) <;> (first | with_reducible show STri _ _ _ _ _ _ | (simp -dsimp [hbl, hc]; (repeat (simp -dsimp (disch := (first | omega | assumption | (refine Bool.eq_false_iff.1 ?_; assumption))) only [wrap_in, if_pos, if_neg]; (try simp -dsimp [hbl, hc]))))))))
  refine st_for [7] N (fun i T H => T = [(0, .c (.sl 1 (bsR N f))), (1, .c (I a)), (5, .own 7 (spK f a i).length), (6, .c (I i))] ∧ H = [(7, .arr 23 2 ((spK f a i).map rowS))]) (by simp) ⟨by simp [spK], by simp [spK]⟩ ?_
  rintro i T H hi ⟨rfl, rfl⟩
  have hok := spK_ok f a i
  have hle := hok.len
  by_cases hlt : i < N
  · have hg := bsR_at N f i
    by_cases hf : f i = true
    · by_cases h0 : i = 0
      · subst h0
        have e : spK f a (0 + 1) = [(a + (0 : Nat), a + (0 : Nat))] := by simp [spK, hf]
        have e0 : spK f a 0 = [] := rfl
        rw [e0]
        rw [hf] at hg
        (repeat' (first | ((first | with_reducible refine st_skip ?_ | with_reducible refine st_exit ?_); (try simp only [seqQ, blockQ, loopQ, forQ, whileQ, reduceIte, Nat.reduceEqDiff])) | (with_reducible refine st_ret ?_; ((try simp only [seqQ, blockQ, loopQ, forQ, whileQ]); first | (with_reducible refine retM_ret ?_) | refine retQ_ret ?_; simp [hlt, hg, hbl])) | refine st_seq ?_ | refine st_block ?_ | ((first | refine st_reg ?_ | refine buildP_own ?_) <;> (simp -dsimp [hlt, hg, hbl]; (repeat (simp -dsimp (disch := (first | omega | assumption | (refine Bool.eq_false_iff.1 ?_; assumption))) only [wrap_in, if_pos, if_neg]; (try simp -dsimp [hlt, hg, hbl]))))) | ((first | refine guardP_of (fun hc => ?_) (fun hc => ?_) | refine st_cond rfl (fun hc => ?_) (fun hc => ?_)) <;> (try simp only [decide_eq_true_eq, decide_eq_false_iff_not, Bool.true_eq_false, Bool.false_eq_true, bne_iff_ne, ne_eq, bne_eq_false_iff_eq, beq_iff_eq, beq_eq_false_iff_ne, Bool.not_eq_true, Bool.not_eq_false, Bool.not_eq_eq_eq_not, Bool.not_true, Bool.not_false, Decidable.not_not] at hc) <;> (try (exfalso; first | omega | exact bool_tf hc (by assumption) | exact bool_ft hc (by assumption) | exact absurd (by assumption) hc)) <;> (first | with_reducible show STri _ _ _ _ _ _ | (simp -dsimp [hlt, hg, hbl, hc]; (repeat (simp -dsimp (disch := (first | omega | assumption | (refine Bool.eq_false_iff.1 ?_; assumption))) only [wrap_in, if_pos, if_neg]; (try simp -dsimp [hlt, hg, hbl, hc]))))))))
        exact ⟨by omega, by simp, by rw [e]; simp, by rw [e]; simp⟩
      · obtain ⟨p, rfl⟩ : ∃ p, i = p + 1 := ⟨i - 1, by omega⟩
        have hgp := bsR_at N f p
        have hpN : p < N := by omega
        rw [hf] at hg
        cases hp : f p with
        | false =>
          rw [hp] at hgp
          have e : spK f a (p + 1 + 1) = spK f a (p + 1) ++ [(a + (p + 1 : Nat), a + (p + 1 : Nat))] := by rw [spK, if_pos hf, if_pos (.inr (by simpa using hp))]
          generalize hoo : spK f a (p + 1) = o at *
          have hgl := last_get o [I (a + (p + 1 : Nat)), I (a + (p + 1 : Nat))]
          have hst := last_set o [I (a + (p + 1 : Nat)), I (a + (p + 1 : Nat))]
          (repeat' (first | ((first | with_reducible refine st_skip ?_ | with_reducible refine st_exit ?_); (try simp only [seqQ, blockQ, loopQ, forQ, whileQ, reduceIte, Nat.reduceEqDiff])) | (with_reducible refine st_ret ?_; ((try simp only [seqQ, blockQ, loopQ, forQ, whileQ]); first | (with_reducible refine retM_ret ?_) | refine retQ_ret ?_; simp [hlt, hpN, hg, hgp, hbl, hgl, hst])) | refine st_seq ?_ | refine st_block ?_ | ((first | refine st_reg ?_ | refine buildP_own ?_) <;> (simp -dsimp [hlt, hpN, hg, hgp, hbl, hgl, hst]; (repeat (simp -dsimp (disch := (first | omega | assumption | (refine Bool.eq_false_iff.1 ?_; assumption))) only [wrap_in, if_pos, if_neg]; (try simp -dsimp [hlt, hpN, hg, hgp, hbl, hgl, hst]))))) | ((first | refine guardP_of (fun hc => ?_) (fun hc => ?_) | refine st_cond rfl (fun hc => ?_) (fun hc => ?_)) <;> (try simp only [decide_eq_true_eq, decide_eq_false_iff_not, Bool.true_eq_false, Bool.false_eq_true, bne_iff_ne, ne_eq, bne_eq_false_iff_eq, beq_iff_eq, beq_eq_false_iff_ne, Bool.not_eq_true, Bool.not_eq_false, Bool.not_eq_eq_eq_not, Bool.not_true, Bool.not_false, Decidable.not_not] at hc) <;> (try (exfalso; first | omega | exact bool_tf hc (by assumption) | exact bool_ft hc (by assumption) | exact absurd (by assumption) hc)) <;> (first | with_reducible show STri _ _ _ _ _ _ | (simp -dsimp [hlt, hpN, hg, hgp, hbl, hgl, hst, hc]; (repeat (simp -dsimp (disch := (first | omega | assumption | (refine Bool.eq_false_iff.1 ?_; assumption))) only [wrap_in, if_pos, if_neg]; (try simp -dsimp [hlt, hpN, hg, hgp, hbl, hgl, hst, hc]))))))))
          exact ⟨by omega, by simp, by rw [e]; simp, by rw [e]; simp⟩
        | true =>
          rw [hp] at hgp
          obtain ⟨o, m, ho, hm⟩ := hok.last (by omega) (by simpa using hp)
          have e : spK f a (p + 1 + 1) = o ++ [(m.1, a + (p + 1 : Nat))] := by rw [spK, if_pos hf, if_neg (by simp [hp]), ho]; simp [setHi]
          rw [ho] at hle ⊢
          have hol : o.length + 1 ≤ p + 1 := by simpa using hle
          have hgl := last_get o [I m.1, I m.2]
          have hst := last_set o [I m.1, I m.2]
          (repeat' (first | ((first | with_reducible refine st_skip ?_ | with_reducible refine st_exit ?_); (try simp only [seqQ, blockQ, loopQ, forQ, whileQ, reduceIte, Nat.reduceEqDiff])) | (with_reducible refine st_ret ?_; ((try simp only [seqQ, blockQ, loopQ, forQ, whileQ]); first | (with_reducible refine retM_ret ?_) | refine retQ_ret ?_; simp [hlt, hpN, hg, hgp, hbl, hgl, hst])) | refine st_seq ?_ | refine st_block ?_ | ((first | refine st_reg ?_ | refine buildP_own ?_) <;> (simp -dsimp [hlt, hpN, hg, hgp, hbl, hgl, hst]; (repeat (simp -dsimp (disch := (first | omega | assumption | (refine Bool.eq_false_iff.1 ?_; assumption))) only [wrap_in, if_pos, if_neg]; (try simp -dsimp [hlt, hpN, hg, hgp, hbl, hgl, hst]))))) | ((first | refine guardP_of (fun hc => ?_) (fun hc => ?_) | refine st_cond rfl (fun hc => ?_) (fun hc => ?_)) <;> (try simp only [decide_eq_true_eq, decide_eq_false_iff_not, Bool.true_eq_false, Bool.false_eq_true, bne_iff_ne, ne_eq, bne_eq_false_iff_eq, beq_iff_eq, beq_eq_false_iff_ne, Bool.not_eq_true, Bool.not_eq_false, Bool.not_eq_eq_eq_not, Bool.not_true, Bool.not_false, Decidable.not_not] at hc) <;> (try (exfalso; first | omega | exact bool_tf hc (by assumption) | exact bool_ft hc (by assumption) | exact absurd (by assumption) hc)) <;> (first | with_reducible show STri _ _ _ _ _ _ | (simp -dsimp [hlt, hpN, hg, hgp, hbl, hgl, hst, hc]; (repeat (simp -dsimp (disch := (first | omega | assumption | (refine Bool.eq_false_iff.1 ?_; assumption))) only [wrap_in, if_pos, if_neg]; (try simp -dsimp [hlt, hpN, hg, hgp, hbl, hgl, hst, hc]))))))))
          exact ⟨by omega, by simp, by rw [e]; simp, by rw [e]; simp⟩
    · have hf' : f i = false := by cases h : f i <;> simp_all
      have e : spK f a (i + 1) = spK f a i := by rw [spK, if_neg hf]
      rw [hf'] at hg
      (repeat' (first | ((first | with_reducible refine st_skip ?_ | with_reducible refine st_exit ?_); (try simp only [seqQ, blockQ, loopQ, forQ, whileQ, reduceIte, Nat.reduceEqDiff])) | (with_reducible refine st_ret ?_; ((try simp only [seqQ, blockQ, loopQ, forQ, whileQ]); first | (with_reducible refine retM_ret ?_) | refine retQ_ret ?_; simp [hlt, hg, hbl])) | refine st_seq ?_ | refine st_block ?_ | ((first | refine st_reg ?_ | refine buildP_own ?_) <;> (simp -dsimp [hlt, hg, hbl]; (repeat (simp -dsimp (disch := (first | omega | assumption | (refine Bool.eq_false_iff.1 ?_; assumption))) only [wrap_in, if_pos, if_neg]; (try simp -dsimp [hlt, hg, hbl]))))) | ((first | refine guardP_of (fun hc => ?_) (fun hc => ?_) | refine st_cond rfl (fun hc => ?_) (fun hc => ?_)) <;> (try simp only [decide_eq_true_eq, decide_eq_false_iff_not, Bool.true_eq_false, Bool.false_eq_true, bne_iff_ne, ne_eq, bne_eq_false_iff_eq, beq_iff_eq, beq_eq_false_iff_ne, Bool.not_eq_true, Bool.not_eq_false, Bool.not_eq_eq_eq_not, Bool.not_true, Bool.not_false, Decidable.not_not] at hc) <;> (try (exfalso; first | omega | exact bool_tf hc (by assumption) | exact bool_ft hc (by assumption) | exact absurd (by assumption) hc)) <;> (first | with_reducible show STri _ _ _ _ _ _ | (simp -dsimp [hlt, hg, hbl, hc]; (repeat (simp -dsimp (disch := (first | omega | assumption | (refine Bool.eq_false_iff.1 ?_; assumption))) only [wrap_in, if_pos, if_neg]; (try simp -dsimp [hlt, hg, hbl, hc]))))))))
      exact ⟨by omega, by simp, by rw [e]; simp, by rw [e]; simp⟩
  · have hin : i = N := by omega
    subst hin
    (repeat' (first | ((first | with_reducible refine st_skip ?_ | with_reducible refine st_exit ?_); (try simp only [seqQ, blockQ, loopQ, forQ, whileQ, reduceIte, Nat.reduceEqDiff])) | (with_reducible refine st_ret ?_; ((try simp only [seqQ, blockQ, loopQ, forQ, whileQ]); first | (with_reducible refine retM_ret ?_) | refine retQ_ret ?_; simp [hlt, hbl])) | refine st_seq ?_ | refine st_block ?_ | ((first | refine st_reg ?_ | refine buildP_own ?_) <;> (simp -dsimp [hlt, hbl]; (repeat (simp -dsimp (disch := (first | omega | assumption | (refine Bool.eq_false_iff.1 ?_; assumption))) only [wrap_in, if_pos, if_neg]; (try simp -dsimp [hlt, hbl]))))) | ((first | refine guardP_of (fun hc => ?_) (fun hc => ?_) | refine st_cond rfl (fun hc => ?_) (fun hc => ?_)) <;> (try simp only [decide_eq_true_eq, decide_eq_false_iff_not, Bool.true_eq_false, Bool.false_eq_true, bne_iff_ne, ne_eq, bne_eq_false_iff_eq, beq_iff_eq, beq_eq_false_iff_ne, Bool.not_eq_true, Bool.not_eq_false, Bool.not_eq_eq_eq_not, Bool.not_true, Bool.not_false, Decidable.not_not] at hc) <;> (try (exfalso; first | omega | exact bool_tf hc (by assumption) | exact bool_ft hc (by assumption) | exact absurd (by assumption) hc)) <;> (first | with_reducible show STri _ _ _ _ _ _ | (simp -dsimp [hlt, hbl, hc]; (repeat (simp -dsimp (disch := (first | omega | assumption | (refine Bool.eq_false_iff.1 ?_; assumption))) only [wrap_in, if_pos, if_neg]; (try simp -dsimp [hlt, hbl, hc]))))))))
    all_goals exact .refl _
end Go.Proofs.YtnfggkopledpcaaGreat
/- DialTimes in plain Lean: what the references list is what is found. -/
namespace Go.Proofs.YtnfggkopledpcaaGreat
open Go.RowKit
def tmB (n : Nt) (i : Nat) : Bool := (List.range (n.w.ehi - n.w.elo + 1).toNat).any fun j => allCan n (downI (n.nlo + i + (n.w.elo + j)) n.w.jump)
theorem tmB_iff (n : Nt) (i : Nat) : tmB n i = true ↔ ∃ e, n.w.elo ≤ e ∧ e ≤ n.w.ehi ∧ allCan n (downI (n.nlo + i + e) n.w.jump) = true := by
  unfold tmB
  rw [List.any_eq_true]
  constructor
  · rintro ⟨j, hj, h⟩
    rw [List.mem_range] at hj
    exact ⟨n.w.elo + j, by omega, by omega, h⟩
  · rintro ⟨e, h1, h2, h3⟩
    refine ⟨(e - n.w.elo).toNat, List.mem_range.2 (by omega), ?_⟩
    rw [show n.w.elo + ((e - n.w.elo).toNat : Int) = e by omega]; exact h3
def tmN (n : Nt) : Nat := (n.nhi - n.nlo + 1).toNat
theorem times_eq {n : Nt} (ok : NtOk n) : spK (tmB n) n.nlo (tmN n) = timL n := by
  obtain ⟨s1, s2, _⟩ := timL_fine ok
  have hs := spK_ok (tmB n) n.nlo (tmN n)
  have h2 := ok.n2
  refine sep_unique hs.sep s1 fun a => ?_
  rw [hs.mem, s2, tim_iff ok]
  unfold tmN
  constructor
  · rintro ⟨j, h1, h2, rfl⟩
    exact ⟨by omega, (tmB_iff n j).1 h2⟩
  · rintro ⟨⟨h1, h2⟩, e⟩
    refine ⟨(a - n.nlo).toNat, by omega, (tmB_iff n _).2 ?_, by omega⟩
    rw [show n.nlo + ((a - n.nlo).toNat : Int) = a by omega]; exact e
theorem tim_nil {n : Nt} (ok : NtOk n) : timRaw n = [] ↔ timL n = [] := by
  obtain ⟨s1, s2, _⟩ := timL_fine ok
  constructor
  · intro h; unfold timL; rw [h]; simp [joinL, joinK]
  · intro h
    cases hr : timRaw n with
    | nil => rfl
    | cons x r =>
      have hx := timRaw_in (n := n) (x := x) (by rw [hr]; simp)
      have := (s2 x.1).2 ⟨x, by rw [hr]; simp, Int.le_refl _, hx.2.2⟩
      rw [h] at this
      obtain ⟨y, hy, _⟩ := this
      cases hy
def twoN (n : Nt) (i k : Nat) : Nt := { n with l := [gp n.l i, gp n.l k] }
theorem two_ok {n : Nt} (ok : NtOk n) {i k : Nat} (hi : i < n.l.length) (hk : k < n.l.length) : NtOk (twoN n i k) := by
  refine ⟨ok.w, by show 2 ≤ 20; decide, fun x hx => ?_, ok.n1, ok.n2, ok.n3, ok.n4, ok.w1, ok.w2, ok.w3⟩
  have hx : x ∈ [gp n.l i, gp n.l k] := hx
  have e1 : gp n.l i = n.l[i] := by simp [gp, hi]
  have e2 : gp n.l k = n.l[k] := by simp [gp, hk]
  simp only [List.mem_cons, List.not_mem_nil, or_false] at hx
  rcases hx with rfl | rfl
  · rw [e1]; exact ok.rd _ (List.getElem_mem hi)
  · rw [e2]; exact ok.rd _ (List.getElem_mem hk)
theorem meet_iff {n : Nt} (ok : NtOk n) {i k : Nat} (hi : i < n.l.length) (hk : k < n.l.length) : spK (tmB (twoN n i k)) 0 (tmN n) = [] ↔ noMeet n k i = true := by
  have dw := dw_sm ok.w
  have hs := spK_ok (tmB (twoN n i k)) 0 (tmN n)
  have e1 : spK (tmB (twoN n i k)) 0 (tmN n) = [] ↔ ∀ j, j < tmN n → tmB (twoN n i k) j = false := by
    constructor
    · intro h j hj
      cases hb : tmB (twoN n i k) j with
      | false => rfl
      | true =>
        have := (hs.mem (0 + j)).2 ⟨j, hj, hb, rfl⟩
        rw [h] at this
        obtain ⟨y, hy, _⟩ := this
        cases hy
    · intro h
      cases hr : spK (tmB (twoN n i k)) 0 (tmN n) with
      | nil => rfl
      | cons x r =>
        have hx := hs.sep.2 x (by rw [hr]; simp)
        obtain ⟨j, hj, hb, _⟩ := (hs.mem x.1).1 ⟨x, by rw [hr]; simp, Int.le_refl _, hx⟩
        rw [h j hj] at hb; cases hb
  rw [e1]
  unfold noMeet
  simp only [Bool.not_eq_true', List.any_eq_false, List.contains_eq_mem, decide_eq_true_eq]
  constructor
  · intro h d hd hd2
    obtain ⟨h3, h4⟩ := List.mem_filter.1 hd
    obtain ⟨_, h5⟩ := List.mem_filter.1 hd2
    obtain ⟨a, e, q1, q2, q3, q4, rfl⟩ := dr_from2 dw ok.n2 h3
    have hh := h (a - n.nlo).toNat (by unfold tmN; omega)
    have : tmB (twoN n i k) (a - n.nlo).toNat = true := (tmB_iff _ _).2 ⟨e, q3, q4, by
      show allCan (twoN n i k) (downI (n.nlo + ((a - n.nlo).toNat : Int) + e) n.w.jump) = true
      rw [show n.nlo + ((a - n.nlo).toNat : Int) = a by omega]
      refine List.all_eq_true.2 fun x hx => ?_
      have hx : x ∈ [gp n.l i, gp n.l k] := hx
      simp only [List.mem_cons, List.not_mem_nil, or_false] at hx
      rcases hx with rfl | rfl
      · exact h4
      · exact h5⟩
    rw [hh] at this; cases this
  · intro h j hj
    cases hb : tmB (twoN n i k) j with
    | false => rfl
    | true =>
      exfalso
      obtain ⟨e, q1, q2, q3⟩ := (tmB_iff _ _).1 hb
      have hall := List.all_eq_true.1 q3
      have h4 := hall (gp n.l i) (by show _ ∈ [gp n.l i, gp n.l k]; simp)
      have h5 := hall (gp n.l k) (by show _ ∈ [gp n.l i, gp n.l k]; simp)
      have hd : downI (n.nlo + j + e) n.w.jump ∈ drL n.w n.nlo n.nhi := dr_to2 dw (a := n.nlo + j) (by omega) (by have := ok.n2; unfold tmN at hj; omega) q1 q2
      exact h _ (List.mem_filter.2 ⟨hd, h4⟩) (List.mem_filter.2 ⟨hd, h5⟩)
end Go.Proofs.YtnfggkopledpcaaGreat
/- DialTimes in plain Lean, II: pairs. -/
namespace Go.Proofs.YtnfggkopledpcaaGreat
open Go.RowKit
def rpI (n : Nt) (i k : Nat) : List (Int × Int) := ((List.range k).filter fun k => decide (i < k) && noMeet n k i).map fun k : Nat => ((i : Int), (k : Int))
def rpO (n : Nt) (i : Nat) : List (Int × Int) := (List.range i).flatMap fun i' => rpI n i' n.l.length
theorem rpI_succ (n : Nt) (i k : Nat) : rpI n i (k + 1) = if i < k ∧ noMeet n k i = true then rpI n i k ++ [((i : Int), (k : Int))] else rpI n i k := by
  unfold rpI
  rw [List.range_succ, List.filter_append, List.map_append]
  by_cases h : i < k ∧ noMeet n k i = true
  · simp [h]
  · rw [if_neg h]
    have : (decide (i < k) && noMeet n k i) = false := by
      cases hb : (decide (i < k) && noMeet n k i) with
      | false => rfl
      | true => simp at hb; exact absurd hb h
    simp [this]
theorem rpI_low (n : Nt) (i : Nat) : ∀ {k : Nat}, k ≤ i + 1 → rpI n i k = []
  | 0, _ => rfl
  | k + 1, h => by rw [rpI_succ, if_neg (by omega), rpI_low n i (by omega)]
theorem rpO_succ (n : Nt) (i : Nat) : rpO n (i + 1) = rpO n i ++ rpI n i n.l.length := by
  unfold rpO
  rw [List.range_succ, List.flatMap_append]; simp
theorem rpI_len (n : Nt) (i k : Nat) : (rpI n i k).length ≤ k := by
  unfold rpI
  rw [List.length_map]
  exact Nat.le_trans (List.length_filter_le _ _) (by simp)
theorem rpO_len (n : Nt) : ∀ i, (rpO n i).length ≤ i * n.l.length := by
  intro i
  induction i with
  | zero => simp [rpO]
  | succ i ih =>
    rw [rpO_succ, List.length_append]
    have := rpI_len n i n.l.length
    rw [Nat.add_mul]; omega
theorem mem_rpO {n : Nt} {m : Nat} {x : Int × Int} : x ∈ rpO n m ↔ ∃ i k : Nat, i < m ∧ k < n.l.length ∧ i < k ∧ noMeet n k i = true ∧ x = ((i : Int), (k : Int)) := by
  unfold rpO rpI
  simp only [List.mem_flatMap, List.mem_range, List.mem_map, List.mem_filter, Bool.and_eq_true, decide_eq_true_eq]
  constructor
  · rintro ⟨i, h1, k, ⟨h2, h3, h4⟩, rfl⟩; exact ⟨i, k, h1, h2, h3, h4, rfl⟩
  · rintro ⟨i, k, h1, h2, h3, h4, rfl⟩; exact ⟨i, h1, k, ⟨h2, h3, h4⟩, rfl⟩
theorem mem_prRaw {n : Nt} {x : Int × Int} : x ∈ prRaw n ↔ ∃ i k : Nat, i < n.l.length ∧ k < i ∧ noMeet n i k = true ∧ x = ((k : Int), (i : Int)) := by
  unfold prRaw prOut prIn
  simp only [List.mem_flatMap, List.mem_range, List.mem_map, List.mem_filter]
  constructor
  · rintro ⟨i, h1, k, ⟨h2, h3⟩, rfl⟩; exact ⟨i, k, h1, h2, h3, rfl⟩
  · rintro ⟨i, k, h1, h2, h3, rfl⟩; exact ⟨i, h1, k, ⟨h2, h3⟩, rfl⟩
theorem prRaw_nodup (n : Nt) : (prRaw n).Nodup := by
  have : ∀ m, (prOut n m).Pairwise fun x y => x.2 < y.2 ∨ (x.2 = y.2 ∧ x.1 < y.1) := fun m => by
    induction m with
    | zero => simp [prOut]
    | succ m ih =>
      rw [prOut_succ, List.pairwise_append]
      refine ⟨ih, ?_, fun x hx y hy => ?_⟩
      · unfold prIn
        refine List.pairwise_map.2 (((List.pairwise_lt_range).sublist List.filter_sublist).imp fun h => .inr ⟨rfl, by simp only; omega⟩)
      · unfold prOut prIn at hx
        unfold prIn at hy
        simp only [List.mem_flatMap, List.mem_range, List.mem_map] at hx hy
        obtain ⟨i, h1, k, _, rfl⟩ := hx
        obtain ⟨k', _, rfl⟩ := hy
        left; simp only; omega
  refine (this n.l.length).imp fun h e => ?_
  subst e; omega
theorem rpO_sorted (n : Nt) : ∀ m, (rpO n m).Pairwise fun x y => ltP x y = true := fun m => by
  induction m with
  | zero => simp [rpO]
  | succ m ih =>
    rw [rpO_succ, List.pairwise_append]
    refine ⟨ih, ?_, fun x hx y hy => ?_⟩
    · unfold rpI
      refine List.pairwise_map.2 (((List.pairwise_lt_range).sublist List.filter_sublist).imp fun h => by simp [ltP]; omega)
    · obtain ⟨i, k, h1, _, _, _, rfl⟩ := mem_rpO.1 hx
      unfold rpI at hy
      simp only [List.mem_map] at hy
      obtain ⟨k', _, rfl⟩ := hy
      simp [ltP]; omega
theorem pairs_eq (n : Nt) : rpO n n.l.length = sortP (prRaw n) := by
  have hs := rpO_sorted n n.l.length
  have hnd : (rpO n n.l.length).Nodup := hs.imp fun h e => by subst e; simp [ltP] at h
  refine sortP_of ((List.perm_ext_iff_of_nodup hnd (prRaw_nodup n)).2 fun x => ?_) (hs.imp fun h => by simp [ltP] at h ⊢; omega)
  rw [mem_rpO, mem_prRaw]
  constructor
  · rintro ⟨i, k, h1, h2, h3, h4, rfl⟩; exact ⟨k, i, h2, h3, h4, rfl⟩
  · rintro ⟨i, k, h1, h2, h3, rfl⟩; exact ⟨k, i, by omega, h1, h2, h3, rfl⟩
theorem prRaw_le {n : Nt} (h : n.l.length ≤ 5) : (prRaw n).length ≤ 12 := by
  have : ∀ m, (prOut n m).length * 2 ≤ m * m := fun m => by
    induction m with
    | zero => simp [prOut]
    | succ m ih =>
      rw [prOut_succ, List.length_append]
      have h1 := prIn_len n m m
      have e : (m + 1) * (m + 1) = m * m + 2 * m + 1 := by rw [Nat.mul_add, Nat.add_mul]; omega
      omega
  have h1 := this n.l.length
  have h2 : n.l.length * n.l.length ≤ 5 * 5 := Nat.mul_le_mul h h
  unfold prRaw; omega
end Go.Proofs.YtnfggkopledpcaaGreat
/- Dial's references, I. -/
namespace Go.Proofs.YtnfggkopledpcaaGreat
open Go.RowKit
theorem rIn (n lo hi : Int) : SC Tryz.prog 24 [I n, I lo, I hi] (B (inB lo hi n)) := by
  refine law_turretref04_In _ _ (by simp) ?_
  (repeat' (first | ((first | with_reducible refine st_skip ?_ | with_reducible refine st_exit ?_); (try simp only [seqQ, blockQ, loopQ, forQ, whileQ, reduceIte, Nat.reduceEqDiff])) | (with_reducible refine st_ret ?_; ((try simp only [seqQ, blockQ, loopQ, forQ, whileQ]); first | (with_reducible refine retM_ret ?_) | refine retQ_ret ?_; simp)) | refine st_seq ?_ | refine st_block ?_ | ((first | refine st_reg ?_ | refine buildP_own ?_) <;> (simp -dsimp; (repeat (simp -dsimp (disch := (first | omega | assumption | (refine Bool.eq_false_iff.1 ?_; assumption))) only [wrap_in, if_pos, if_neg]; (try simp -dsimp))))) | ((first | refine guardP_of (fun hc => ?_) (fun hc => ?_) | refine st_cond rfl (fun hc => ?_) (fun hc => ?_)) <;> (try simp only [decide_eq_true_eq, decide_eq_false_iff_not, Bool.true_eq_false, Bool.false_eq_true, bne_iff_ne, ne_eq, bne_eq_false_iff_eq, beq_iff_eq, beq_eq_false_iff_ne, Bool.not_eq_true, Bool.not_eq_false, Bool.not_eq_eq_eq_not, Bool.not_true, Bool.not_false, Decidable.not_not] at hc) <;> (try (exfalso; first | omega | exact bool_tf hc (by assumption) | exact bool_ft hc (by assumption) | exact absurd (by assumption) hc)) <;> (first | with_reducible show STri _ _ _ _ _ _ | (simp -dsimp [hc]; (repeat (simp -dsimp (disch := (first | omega | assumption | (refine Bool.eq_false_iff.1 ?_; assumption))) only [wrap_in, if_pos, if_neg]; (try simp -dsimp [hc]))))))))
  all_goals (refine CLe.bool ?_; unfold inB; rw [Bool.eq_iff_iff]; simp; try omega)
theorem rSpan (lo hi least most : Int) : SC Tryz.prog 25 [cS lo hi, I least, I most] (B (spanB least most lo hi)) := by
  refine law_turretref04_Span _ _ (by simp) ?_
  (repeat' (first | ((first | with_reducible refine st_skip ?_ | with_reducible refine st_exit ?_); (try simp only [seqQ, blockQ, loopQ, forQ, whileQ, reduceIte, Nat.reduceEqDiff])) | (with_reducible refine st_ret ?_; ((try simp only [seqQ, blockQ, loopQ, forQ, whileQ]); first | (with_reducible refine retM_ret ?_) | refine retQ_ret ?_; simp)) | refine st_seq ?_ | refine st_block ?_ | ((first | refine st_reg ?_ | refine buildP_own ?_ | refine callP_b (rIn lo least hi) rfl ?_) <;> (simp -dsimp; (repeat (simp -dsimp (disch := (first | omega | assumption | (refine Bool.eq_false_iff.1 ?_; assumption))) only [wrap_in, if_pos, if_neg]; (try simp -dsimp))))) | ((first | refine guardP_of (fun hc => ?_) (fun hc => ?_) | refine st_cond rfl (fun hc => ?_) (fun hc => ?_)) <;> (try simp only [decide_eq_true_eq, decide_eq_false_iff_not, Bool.true_eq_false, Bool.false_eq_true, bne_iff_ne, ne_eq, bne_eq_false_iff_eq, beq_iff_eq, beq_eq_false_iff_ne, Bool.not_eq_true, Bool.not_eq_false, Bool.not_eq_eq_eq_not, Bool.not_true, Bool.not_false, Decidable.not_not] at hc) <;> (try (exfalso; first | omega | exact bool_tf hc (by assumption) | exact bool_ft hc (by assumption) | exact absurd (by assumption) hc)) <;> (first | with_reducible show STri _ _ _ _ _ _ | (simp -dsimp [hc]; (repeat (simp -dsimp (disch := (first | omega | assumption | (refine Bool.eq_false_iff.1 ?_; assumption))) only [wrap_in, if_pos, if_neg]; (try simp -dsimp [hc]))))))))
  all_goals (refine CLe.bool ?_; unfold spanB; simp only [inB, Bool.and_eq_true, Bool.and_eq_false_iff, decide_eq_true_eq, decide_eq_false_iff_not] at *; rw [Bool.eq_iff_iff]; simp; try omega)
theorem rWind (lo hi : Int) : SC Tryz.prog 26 [cS lo hi] (B (spanB (-10000) 10000 lo hi)) := by
  refine law_turretref04_Wind _ _ (by simp) ?_
  (repeat' (first | ((first | with_reducible refine st_skip ?_ | with_reducible refine st_exit ?_); (try simp only [seqQ, blockQ, loopQ, forQ, whileQ, reduceIte, Nat.reduceEqDiff])) | (with_reducible refine st_ret ?_; ((try simp only [seqQ, blockQ, loopQ, forQ, whileQ]); first | (with_reducible refine retM_ret ?_) | refine retQ_ret ?_; simp)) | refine st_seq ?_ | refine st_block ?_ | ((first | refine st_reg ?_ | refine buildP_own ?_ | refine callP_b (rSpan lo hi (-10000) 10000) rfl ?_) <;> (simp -dsimp; (repeat (simp -dsimp (disch := (first | omega | assumption | (refine Bool.eq_false_iff.1 ?_; assumption))) only [wrap_in, if_pos, if_neg]; (try simp -dsimp))))) | ((first | refine guardP_of (fun hc => ?_) (fun hc => ?_) | refine st_cond rfl (fun hc => ?_) (fun hc => ?_)) <;> (try simp only [decide_eq_true_eq, decide_eq_false_iff_not, Bool.true_eq_false, Bool.false_eq_true, bne_iff_ne, ne_eq, bne_eq_false_iff_eq, beq_iff_eq, beq_eq_false_iff_ne, Bool.not_eq_true, Bool.not_eq_false, Bool.not_eq_eq_eq_not, Bool.not_true, Bool.not_false, Decidable.not_not] at hc) <;> (try (exfalso; first | omega | exact bool_tf hc (by assumption) | exact bool_ft hc (by assumption) | exact absurd (by assumption) hc)) <;> (first | with_reducible show STri _ _ _ _ _ _ | (simp -dsimp [hc]; (repeat (simp -dsimp (disch := (first | omega | assumption | (refine Bool.eq_false_iff.1 ?_; assumption))) only [wrap_in, if_pos, if_neg]; (try simp -dsimp [hc]))))))))
  all_goals exact .refl _
theorem rMod (n b : Int) (h3 : 0 < b) (h4 : b ≤ 1000000000000) : SC Tryz.prog 57 [I n, I b] (I (n % b)) := by
  refine law_turretref04_Mod _ _ (by simp) ?_
  have hne : ¬ b = 0 := by omega
  obtain ⟨t1, t2⟩ := tmod_lt n b h3
  have h0 := Int.emod_nonneg n hne
  have h1 := Int.emod_lt_of_pos n h3
  have e : n.tmod b = n % b ∨ n.tmod b = n % b - b := by
    rw [Int.tmod_eq_emod]
    split
    · left; omega
    · right; omega
  (repeat' (first | ((first | with_reducible refine st_skip ?_ | with_reducible refine st_exit ?_); (try simp only [seqQ, blockQ, loopQ, forQ, whileQ, reduceIte, Nat.reduceEqDiff])) | (with_reducible refine st_ret ?_; ((try simp only [seqQ, blockQ, loopQ, forQ, whileQ]); first | (with_reducible refine retM_ret ?_) | refine retQ_ret ?_; simp [hne])) | refine st_seq ?_ | refine st_block ?_ | ((first | refine st_reg ?_ | refine buildP_own ?_) <;> (simp -dsimp [hne]; (repeat (simp -dsimp (disch := (first | omega | assumption | (refine Bool.eq_false_iff.1 ?_; assumption))) only [wrap_in, if_pos, if_neg]; (try simp -dsimp [hne]))))) | ((first | refine guardP_of (fun hc => ?_) (fun hc => ?_) | refine st_cond rfl (fun hc => ?_) (fun hc => ?_)) <;> (try simp only [decide_eq_true_eq, decide_eq_false_iff_not, Bool.true_eq_false, Bool.false_eq_true, bne_iff_ne, ne_eq, bne_eq_false_iff_eq, beq_iff_eq, beq_eq_false_iff_ne, Bool.not_eq_true, Bool.not_eq_false, Bool.not_eq_eq_eq_not, Bool.not_true, Bool.not_false, Decidable.not_not] at hc) <;> (try (exfalso; first | omega | exact bool_tf hc (by assumption) | exact bool_ft hc (by assumption) | exact absurd (by assumption) hc)) <;> (first | with_reducible show STri _ _ _ _ _ _ | (simp -dsimp [hne, hc]; (repeat (simp -dsimp (disch := (first | omega | assumption | (refine Bool.eq_false_iff.1 ?_; assumption))) only [wrap_in, if_pos, if_neg]; (try simp -dsimp [hne, hc]))))))))
  all_goals (refine CLe.int ?_; omega)
def refD (ls : List Lk) (k : Nat) : Int := (ls.take k).foldl (fun d l => d * l.num) 1
def refN (ls : List Lk) (k : Nat) : Int := (ls.take k).foldl (stepN (refD ls ls.length)) 0
def ceilI (n d : Int) : Int := if n.tmod d > 0 then n.tdiv d + 1 else n.tdiv d
def refSlackI (ls : List Lk) : Int := ceilI (refN ls ls.length) (refD ls ls.length * 1000)
theorem refD_succ {ls : List Lk} {k : Nat} (hlt : k < ls.length) : refD ls (k + 1) = refD ls k * ls[k].num := by
  unfold refD
  rw [List.take_succ_eq_append_getElem hlt, List.foldl_append]; rfl
theorem refN_succ {ls : List Lk} {k : Nat} (hlt : k < ls.length) : refN ls (k + 1) = stepN (refD ls ls.length) (refN ls k) ls[k] := by
  unfold refN
  rw [List.take_succ_eq_append_getElem hlt, List.foldl_append]; rfl
theorem refD_pow {ls : List Lk} (h : LkTo ls ls.length) : ∀ {k : Nat}, k ≤ ls.length → 1 ≤ refD ls k ∧ refD ls k ≤ 200 ^ k
  | 0, _ => by simp [refD]
  | k + 1, hk => by
    have hlt : k < ls.length := by omega
    obtain ⟨d1, d2⟩ := refD_pow h (k := k) (by omega)
    obtain ⟨_, ⟨h1, h2⟩, _⟩ := lk_spec (h ls[k] (by rw [List.take_length]; exact List.getElem_mem hlt))
    rw [refD_succ hlt, Int.pow_succ]
    refine ⟨?_, Int.mul_le_mul d2 h2 (by omega) (by omega)⟩
    have := Int.mul_le_mul d1 h1 (by omega) (by omega)
    simpa using this
theorem refD_le {ls : List Lk} (h : LkTo ls ls.length) (h4 : ls.length ≤ 4) {k : Nat} (hk : k ≤ ls.length) : 1 ≤ refD ls k ∧ refD ls k ≤ 1600000000 := by
  obtain ⟨h1, h2⟩ := refD_pow h hk
  refine ⟨h1, Int.le_trans h2 ?_⟩
  have : k = 0 ∨ k = 1 ∨ k = 2 ∨ k = 3 ∨ k = 4 := by omega
  rcases this with rfl | rfl | rfl | rfl | rfl <;> decide
theorem refN_le {ls : List Lk} (h : LkTo ls ls.length) (h4 : ls.length ≤ 4) : ∀ {k : Nat}, k ≤ ls.length → 0 ≤ refN ls k ∧ refN ls k ≤ k * 1152000000000000000
  | 0, _ => by simp [refN]
  | k + 1, hk => by
    have hlt : k < ls.length := by omega
    obtain ⟨D1, D2⟩ := refD_le h h4 (Nat.le_refl _)
    obtain ⟨d1, d2⟩ := refN_le h h4 (k := k) (by omega)
    obtain ⟨_, _, _, p1, p2⟩ := part_le D1 D2 (h ls[k] (by rw [List.take_length]; exact List.getElem_mem hlt))
    rw [refN_succ hlt]
    unfold stepN
    generalize ls[k].slack * 3600 * ls[k].den * (refD ls ls.length).tdiv ls[k].num = z at *
    constructor
    · omega
    · push_cast; omega
theorem rSlack' (ls : List Lk) (h4 : ls.length ≤ 4) (h : LkTo ls ls.length) : SC Tryz.prog 66 [slL ls] (I (refSlackI ls)) := by
  refine law_turretref04_Slack _ _ (by simp) ?_
  obtain ⟨D1, D2⟩ := refD_le h h4 (Nat.le_refl _)
  (repeat' (first | ((first | with_reducible refine st_skip ?_ | with_reducible refine st_exit ?_); (try simp only [seqQ, blockQ, loopQ, forQ, whileQ, reduceIte, Nat.reduceEqDiff])) | (with_reducible refine st_ret ?_; ((try simp only [seqQ, blockQ, loopQ, forQ, whileQ]); first | (with_reducible refine retM_ret ?_) | refine retQ_ret ?_; simp)) | refine st_seq ?_ | refine st_block ?_ | ((first | refine st_reg ?_ | refine buildP_own ?_) <;> (simp -dsimp; (repeat (simp -dsimp (disch := (first | omega | assumption | (refine Bool.eq_false_iff.1 ?_; assumption))) only [wrap_in, if_pos, if_neg]; (try simp -dsimp))))) | ((first | refine guardP_of (fun hc => ?_) (fun hc => ?_) | refine st_cond rfl (fun hc => ?_) (fun hc => ?_)) <;> (try simp only [decide_eq_true_eq, decide_eq_false_iff_not, Bool.true_eq_false, Bool.false_eq_true, bne_iff_ne, ne_eq, bne_eq_false_iff_eq, beq_iff_eq, beq_eq_false_iff_ne, Bool.not_eq_true, Bool.not_eq_false, Bool.not_eq_eq_eq_not, Bool.not_true, Bool.not_false, Decidable.not_not] at hc) <;> (try (exfalso; first | omega | exact bool_tf hc (by assumption) | exact bool_ft hc (by assumption) | exact absurd (by assumption) hc)) <;> (first | with_reducible show STri _ _ _ _ _ _ | (simp -dsimp [hc]; (repeat (simp -dsimp (disch := (first | omega | assumption | (refine Bool.eq_false_iff.1 ?_; assumption))) only [wrap_in, if_pos, if_neg]; (try simp -dsimp [hc]))))))))
  refine st_for [] ls.length (fun k T H => T = [(0, .c (.sl 3 (ls.map rowL))), (3, .c (I (refD ls k))), (4, .c (I 0)), (5, .c (I k))] ∧ H = []) (by simp) ⟨by simp [refD], rfl⟩ ?_
  rintro k T H hk ⟨rfl, rfl⟩
  by_cases hlt : k < ls.length
  · obtain ⟨s1, s2⟩ := refD_le h h4 (show k + 1 ≤ ls.length by omega)
    have hw : IntKind.i64.wrap (refD ls k * ls[k].num) = refD ls (k + 1) := by
      rw [← refD_succ hlt]; exact wrap_in _ (by omega) (by omega)
    (repeat' (first | ((first | with_reducible refine st_skip ?_ | with_reducible refine st_exit ?_); (try simp only [seqQ, blockQ, loopQ, forQ, whileQ, reduceIte, Nat.reduceEqDiff])) | (with_reducible refine st_ret ?_; ((try simp only [seqQ, blockQ, loopQ, forQ, whileQ]); first | (with_reducible refine retM_ret ?_) | refine retQ_ret ?_; simp [hlt, hw])) | refine st_seq ?_ | refine st_block ?_ | ((first | refine st_reg ?_ | refine buildP_own ?_) <;> (simp -dsimp [hlt, hw]; (repeat (simp -dsimp (disch := (first | omega | assumption | (refine Bool.eq_false_iff.1 ?_; assumption))) only [wrap_in, if_pos, if_neg]; (try simp -dsimp [hlt, hw]))))) | ((first | refine guardP_of (fun hc => ?_) (fun hc => ?_) | refine st_cond rfl (fun hc => ?_) (fun hc => ?_)) <;> (try simp only [decide_eq_true_eq, decide_eq_false_iff_not, Bool.true_eq_false, Bool.false_eq_true, bne_iff_ne, ne_eq, bne_eq_false_iff_eq, beq_iff_eq, beq_eq_false_iff_ne, Bool.not_eq_true, Bool.not_eq_false, Bool.not_eq_eq_eq_not, Bool.not_true, Bool.not_false, Decidable.not_not] at hc) <;> (try (exfalso; first | omega | exact bool_tf hc (by assumption) | exact bool_ft hc (by assumption) | exact absurd (by assumption) hc)) <;> (first | with_reducible show STri _ _ _ _ _ _ | (simp -dsimp [hlt, hw, hc]; (repeat (simp -dsimp (disch := (first | omega | assumption | (refine Bool.eq_false_iff.1 ?_; assumption))) only [wrap_in, if_pos, if_neg]; (try simp -dsimp [hlt, hw, hc]))))))))
    exact ⟨hlt, by simp, by simp, rfl⟩
  · have : k = ls.length := by omega
    subst this
    (repeat' (first | ((first | with_reducible refine st_skip ?_ | with_reducible refine st_exit ?_); (try simp only [seqQ, blockQ, loopQ, forQ, whileQ, reduceIte, Nat.reduceEqDiff])) | (with_reducible refine st_ret ?_; ((try simp only [seqQ, blockQ, loopQ, forQ, whileQ]); first | (with_reducible refine retM_ret ?_) | refine retQ_ret ?_; simp)) | refine st_seq ?_ | refine st_block ?_ | ((first | refine st_reg ?_ | refine buildP_own ?_) <;> (simp -dsimp; (repeat (simp -dsimp (disch := (first | omega | assumption | (refine Bool.eq_false_iff.1 ?_; assumption))) only [wrap_in, if_pos, if_neg]; (try simp -dsimp))))) | ((first | refine guardP_of (fun hc => ?_) (fun hc => ?_) | refine st_cond rfl (fun hc => ?_) (fun hc => ?_)) <;> (try simp only [decide_eq_true_eq, decide_eq_false_iff_not, Bool.true_eq_false, Bool.false_eq_true, bne_iff_ne, ne_eq, bne_eq_false_iff_eq, beq_iff_eq, beq_eq_false_iff_ne, Bool.not_eq_true, Bool.not_eq_false, Bool.not_eq_eq_eq_not, Bool.not_true, Bool.not_false, Decidable.not_not] at hc) <;> (try (exfalso; first | omega | exact bool_tf hc (by assumption) | exact bool_ft hc (by assumption) | exact absurd (by assumption) hc)) <;> (first | with_reducible show STri _ _ _ _ _ _ | (simp -dsimp [hc]; (repeat (simp -dsimp (disch := (first | omega | assumption | (refine Bool.eq_false_iff.1 ?_; assumption))) only [wrap_in, if_pos, if_neg]; (try simp -dsimp [hc]))))))))
    refine st_for [] ls.length (fun k T H => T = [(0, .c (.sl 3 (ls.map rowL))), (3, .c (I (refD ls ls.length))), (4, .c (I (refN ls k))), (6, .c (I k))] ∧ H = []) (by simp) ⟨by simp [refN], rfl⟩ ?_
    rintro k T H hk ⟨rfl, rfl⟩
    by_cases hlt : k < ls.length
    · have hv : lkB ls[k] = true := h _ (by rw [List.take_length]; exact List.getElem_mem hlt)
      obtain ⟨_, ⟨n1, n2⟩, _⟩ := lk_spec hv
      obtain ⟨⟨p1, p2⟩, ⟨p3, p4⟩, ⟨p5, p6⟩, p7, p8⟩ := part_le D1 D2 hv
      obtain ⟨m1, m2⟩ := refN_le h h4 hk
      have hm : (k : Int) ≤ 3 := by omega
      have hne : ¬ ls[k].num = 0 := by omega
      have hw1 : IntKind.i64.wrap (ls[k].slack * 3600) = ls[k].slack * 3600 := wrap_in _ (by omega) (by omega)
      have hw2 : IntKind.i64.wrap (ls[k].slack * 3600 * ls[k].den) = ls[k].slack * 3600 * ls[k].den := wrap_in _ (by omega) (by omega)
      have hw3 : IntKind.i64.wrap ((refD ls ls.length).tdiv ls[k].num) = (refD ls ls.length).tdiv ls[k].num := wrap_in _ (by omega) (by omega)
      have hw4 : IntKind.i64.wrap (ls[k].slack * 3600 * ls[k].den * (refD ls ls.length).tdiv ls[k].num) = ls[k].slack * 3600 * ls[k].den * (refD ls ls.length).tdiv ls[k].num := wrap_in _ (by omega) (by omega)
      have hw5 : IntKind.i64.wrap (refN ls k + ls[k].slack * 3600 * ls[k].den * (refD ls ls.length).tdiv ls[k].num) = refN ls (k + 1) := by
        rw [refN_succ hlt]; exact wrap_in _ (by omega) (by omega)
      (repeat' (first | ((first | with_reducible refine st_skip ?_ | with_reducible refine st_exit ?_); (try simp only [seqQ, blockQ, loopQ, forQ, whileQ, reduceIte, Nat.reduceEqDiff])) | (with_reducible refine st_ret ?_; ((try simp only [seqQ, blockQ, loopQ, forQ, whileQ]); first | (with_reducible refine retM_ret ?_) | refine retQ_ret ?_; simp [hlt, hne, hw1, hw2, hw3, hw4, hw5])) | refine st_seq ?_ | refine st_block ?_ | ((first | refine st_reg ?_ | refine buildP_own ?_) <;> (simp -dsimp [hlt, hne, hw1, hw2, hw3, hw4, hw5]; (repeat (simp -dsimp (disch := (first | omega | assumption | (refine Bool.eq_false_iff.1 ?_; assumption))) only [wrap_in, if_pos, if_neg]; (try simp -dsimp [hlt, hne, hw1, hw2, hw3, hw4, hw5]))))) | ((first | refine guardP_of (fun hc => ?_) (fun hc => ?_) | refine st_cond rfl (fun hc => ?_) (fun hc => ?_)) <;> (try simp only [decide_eq_true_eq, decide_eq_false_iff_not, Bool.true_eq_false, Bool.false_eq_true, bne_iff_ne, ne_eq, bne_eq_false_iff_eq, beq_iff_eq, beq_eq_false_iff_ne, Bool.not_eq_true, Bool.not_eq_false, Bool.not_eq_eq_eq_not, Bool.not_true, Bool.not_false, Decidable.not_not] at hc) <;> (try (exfalso; first | omega | exact bool_tf hc (by assumption) | exact bool_ft hc (by assumption) | exact absurd (by assumption) hc)) <;> (first | with_reducible show STri _ _ _ _ _ _ | (simp -dsimp [hlt, hne, hw1, hw2, hw3, hw4, hw5, hc]; (repeat (simp -dsimp (disch := (first | omega | assumption | (refine Bool.eq_false_iff.1 ?_; assumption))) only [wrap_in, if_pos, if_neg]; (try simp -dsimp [hlt, hne, hw1, hw2, hw3, hw4, hw5, hc]))))))))
      exact ⟨hlt, by simp, by simp, rfl⟩
    · have : k = ls.length := by omega
      subst this
      obtain ⟨m1, m2⟩ := refN_le h h4 (Nat.le_refl _)
      have hm : (ls.length : Int) ≤ 4 := by omega
      have hne : ¬ refD ls ls.length * 1000 = 0 := by omega
      have hq := Int.natAbs_tdiv_le_natAbs (refN ls ls.length) (refD ls ls.length * 1000)
      have hw6 : IntKind.i64.wrap ((refN ls ls.length).tdiv (refD ls ls.length * 1000)) = (refN ls ls.length).tdiv (refD ls ls.length * 1000) := wrap_in _ (by omega) (by omega)
      have hw7 : IntKind.i64.wrap ((refN ls ls.length).tdiv (refD ls ls.length * 1000) + 1) = (refN ls ls.length).tdiv (refD ls ls.length * 1000) + 1 := wrap_in _ (by omega) (by omega)
      (repeat' (first | ((first | with_reducible refine st_skip ?_ | with_reducible refine st_exit ?_); (try simp only [seqQ, blockQ, loopQ, forQ, whileQ, reduceIte, Nat.reduceEqDiff])) | (with_reducible refine st_ret ?_; ((try simp only [seqQ, blockQ, loopQ, forQ, whileQ]); first | (with_reducible refine retM_ret ?_) | refine retQ_ret ?_; simp [hne, hw6, hw7])) | refine st_seq ?_ | refine st_block ?_ | ((first | refine st_reg ?_ | refine buildP_own ?_) <;> (simp -dsimp [hne, hw6, hw7]; (repeat (simp -dsimp (disch := (first | omega | assumption | (refine Bool.eq_false_iff.1 ?_; assumption))) only [wrap_in, if_pos, if_neg]; (try simp -dsimp [hne, hw6, hw7]))))) | ((first | refine guardP_of (fun hc => ?_) (fun hc => ?_) | refine st_cond rfl (fun hc => ?_) (fun hc => ?_)) <;> (try simp only [decide_eq_true_eq, decide_eq_false_iff_not, Bool.true_eq_false, Bool.false_eq_true, bne_iff_ne, ne_eq, bne_eq_false_iff_eq, beq_iff_eq, beq_eq_false_iff_ne, Bool.not_eq_true, Bool.not_eq_false, Bool.not_eq_eq_eq_not, Bool.not_true, Bool.not_false, Decidable.not_not] at hc) <;> (try (exfalso; first | omega | exact bool_tf hc (by assumption) | exact bool_ft hc (by assumption) | exact absurd (by assumption) hc)) <;> (first | with_reducible show STri _ _ _ _ _ _ | (simp -dsimp [hne, hw6, hw7, hc]; (repeat (simp -dsimp (disch := (first | omega | assumption | (refine Bool.eq_false_iff.1 ?_; assumption))) only [wrap_in, if_pos, if_neg]; (try simp -dsimp [hne, hw6, hw7, hc]))))))))
      all_goals (refine CLe.int ?_; unfold refSlackI ceilI; split <;> first | rfl | (exfalso; omega))
end Go.Proofs.YtnfggkopledpcaaGreat
/- Dial's references, II: the slack is the reference's. -/
namespace Go.Proofs.YtnfggkopledpcaaGreat
open Go.RowKit
theorem den_ref {ls : List Lk} (h : LkTo ls ls.length) (h4 : ls.length ≤ 4) : ∀ {k : Nat}, k ≤ ls.length → (∃ c : Int, 1 ≤ c ∧ refD ls k = denK ls k * c) ∧ ∀ (j : Nat) (hj : j < k) (hj2 : j < ls.length), ls[j].num ∣ denK ls k
  | 0, _ => ⟨⟨1, by omega, by simp [refD, denK]⟩, fun j hj => by omega⟩
  | k + 1, hk => by
    have hlt : k < ls.length := by omega
    obtain ⟨⟨c, c1, c2⟩, hd⟩ := den_ref h h4 (k := k) (by omega)
    obtain ⟨_, ⟨n1, n2⟩, _⟩ := lk_spec (h ls[k] (by rw [List.take_length]; exact List.getElem_mem hlt))
    have hg := gcd_pos' (d := denK ls k) n1
    obtain ⟨q, hq⟩ : (Int.gcd (denK ls k) ls[k].num : Int) ∣ denK ls k := Int.gcd_dvd_left ..
    obtain ⟨r, hr⟩ : (Int.gcd (denK ls k) ls[k].num : Int) ∣ ls[k].num := Int.gcd_dvd_right ..
    have e : (denK ls k).tdiv (Int.gcd (denK ls k) ls[k].num) = q := by
      have : ∀ g x y : Int, 0 < g → x = g * y → x.tdiv g = y := fun g x y h0 h1 => by
        rw [h1]; exact Int.mul_tdiv_cancel_left y (by omega)
      exact this _ _ _ hg hq
    have e2 : denK ls (k + 1) = q * ls[k].num := by rw [denK_succ hlt]; unfold stepD; rw [e]
    refine ⟨⟨Int.gcd (denK ls k) ls[k].num * c, ?_, ?_⟩, fun j hj hj2 => ?_⟩
    · have := Int.mul_le_mul (show (1 : Int) ≤ Int.gcd (denK ls k) ls[k].num by omega) c1 (by omega) (by omega)
      simpa using this
    · rw [refD_succ hlt, c2, e2]
      generalize (Int.gcd (denK ls k) ls[k].num : Int) = g at *
      conv => lhs; rw [hq]
      simp only [Int.mul_assoc, Int.mul_comm, Int.mul_left_comm]
    · rw [e2]
      by_cases hjk : j = k
      · subst hjk; exact Int.dvd_mul_left _ _
      · have h1 := hd j (by omega) hj2
        have h2 : denK ls k ∣ q * ls[k].num := ⟨r, by
          generalize (Int.gcd (denK ls k) ls[k].num : Int) = g at *
          rw [hr, hq]
          simp only [Int.mul_assoc, Int.mul_comm, Int.mul_left_comm]⟩
        exact Int.dvd_trans h1 h2
theorem num_ref {ls : List Lk} (h : LkTo ls ls.length) (h4 : ls.length ≤ 4) {c : Int} (hc : refD ls ls.length = denK ls ls.length * c) (hd : ∀ (j : Nat) (hj : j < ls.length) (hj2 : j < ls.length), ls[j].num ∣ denK ls ls.length) : ∀ {k : Nat}, k ≤ ls.length → refN ls k = c * numK ls k
  | 0, _ => by simp [refN, numK]
  | k + 1, hk => by
    have hlt : k < ls.length := by omega
    have ih := num_ref h h4 hc hd (k := k) (by omega)
    obtain ⟨_, ⟨n1, n2⟩, _⟩ := lk_spec (h ls[k] (by rw [List.take_length]; exact List.getElem_mem hlt))
    obtain ⟨r, hr⟩ := hd k hlt hlt
    have e1 : (denK ls ls.length).tdiv ls[k].num = r := by rw [hr]; exact Int.mul_tdiv_cancel_left r (by omega)
    have e2 : (refD ls ls.length).tdiv ls[k].num = r * c := by rw [hc, hr, Int.mul_assoc]; exact Int.mul_tdiv_cancel_left (r * c) (by omega)
    rw [refN_succ hlt, numK_succ hlt, ih]
    unfold stepN
    rw [e1, e2, Int.mul_add]
    congr 1
    simp only [Int.mul_assoc, Int.mul_comm, Int.mul_left_comm]
theorem ceil_eq {n M c : Int} (hn : 0 ≤ n) (hM : 1 ≤ M) (hc : 1 ≤ c) : ceilI (c * n) (c * M) = overI n M := by
  have hcn : 0 ≤ c * n := Int.mul_nonneg (by omega) hn
  have hr0 := Int.emod_nonneg n (show M ≠ 0 by omega)
  have hr1 := Int.emod_lt_of_pos n (show 0 < M by omega)
  have hdm := Int.emod_add_mul_ediv n M
  have em : (c * n).tmod (c * M) = c * (n % M) := by
    rw [Int.tmod_eq_emod_of_nonneg hcn, Int.mul_emod_mul_of_pos _ _ (by omega)]
  have ed : (c * n).tdiv (c * M) = n / M := by
    rw [Int.tdiv_eq_ediv_of_nonneg hcn, Int.mul_ediv_mul_of_pos _ _ (by omega)]
  unfold ceilI overI
  rw [em, ed, Int.tdiv_eq_ediv_of_nonneg (by omega)]
  by_cases h0 : n % M = 0
  · rw [h0, Int.mul_zero, if_neg (by omega)]
    have e : n + M - 1 = (M - 1) + (n / M) * M := by rw [Int.mul_comm]; omega
    rw [e, Int.add_mul_ediv_right _ _ (by omega), Int.ediv_eq_zero_of_lt (a := M - 1) (b := M) (by omega) (by omega)]; omega
  · have hp : 0 < c * (n % M) := Int.mul_pos (by omega) (by omega)
    rw [if_pos hp]
    have e : n + M - 1 = (n % M - 1) + (n / M + 1) * M := by rw [Int.add_mul, Int.mul_comm (n / M)]; omega
    rw [e, Int.add_mul_ediv_right _ _ (by omega), Int.ediv_eq_zero_of_lt (a := n % M - 1) (b := M) (by omega) (by omega)]; omega
theorem slack_ref {ls : List Lk} (h : LkTo ls ls.length) (h4 : ls.length ≤ 4) : refSlackI ls = slackI ls := by
  obtain ⟨⟨c, c1, c2⟩, hd⟩ := den_ref h h4 (Nat.le_refl _)
  obtain ⟨D1, D2⟩ := den_le h4 (Nat.le_refl _) h
  obtain ⟨m1, _⟩ := numK_le h D1 D2 (Nat.le_refl _)
  unfold refSlackI slackI
  rw [num_ref h h4 c2 (fun j hj hj2 => hd j hj hj2) (Nat.le_refl _), c2, ← ceil_eq m1 (by omega) c1]
  congr 1
  rw [Int.mul_comm (denK ls ls.length) c, Int.mul_assoc, Int.mul_comm (denK ls ls.length)]
end Go.Proofs.YtnfggkopledpcaaGreat
/- Dial's references, III: faces, works. -/
namespace Go.Proofs.YtnfggkopledpcaaGreat
open Go.RowKit
theorem not_allLk {ls : List Lk} {k : Nat} (hlt : k < ls.length) (h : lkB ls[k] = false) : ls.all lkB = false := by
  rw [Bool.eq_false_iff]
  intro h2
  rw [List.all_eq_true] at h2
  rw [h2 _ (List.getElem_mem hlt)] at h; cases h
theorem fc_no {f : Fc} (h : fcB f = false) : CLe (B false) (B (fcOK f)) := CLe.bool (by simp [fcOK, h])
theorem rFace (f : Fc) (hl : f.links.length ≤ 1000000) : SC Tryz.prog 47 [cF f] (B (fcOK f)) := by
  refine law_turretref04_Face _ _ (by simp) ?_
  by_cases hsp : spanB (-3600) 3600 f.lo f.hi = true
  · by_cases h4 : f.links.length ≤ 4
    · have h4' : ¬ (f.links.length : Int) > 4 := by omega
      by_cases hw : inB (-10000) 10000 f.weight = true
      · by_cases hf : inB 0 10000 f.friction = true
        · (repeat' (first | ((first | with_reducible refine st_skip ?_ | with_reducible refine st_exit ?_); (try simp only [seqQ, blockQ, loopQ, forQ, whileQ, reduceIte, Nat.reduceEqDiff])) | (with_reducible refine st_ret ?_; ((try simp only [seqQ, blockQ, loopQ, forQ, whileQ]); first | (with_reducible refine retM_ret ?_) | refine retQ_ret ?_; simp [hsp, h4', hw, hf])) | refine st_seq ?_ | refine st_block ?_ | ((first | refine st_reg ?_ | refine buildP_own ?_ | refine callP_b (rSpan f.lo f.hi (-3600) 3600) rfl ?_ | refine callP_b (rIn f.weight (-10000) 10000) rfl ?_ | refine callP_b (rIn f.friction 0 10000) rfl ?_) <;> (simp -dsimp [hsp, h4', hw, hf]; (repeat (simp -dsimp (disch := (first | omega | assumption | (refine Bool.eq_false_iff.1 ?_; assumption))) only [wrap_in, if_pos, if_neg]; (try simp -dsimp [hsp, h4', hw, hf]))))) | ((first | refine guardP_of (fun hc => ?_) (fun hc => ?_) | refine st_cond rfl (fun hc => ?_) (fun hc => ?_)) <;> (try simp only [decide_eq_true_eq, decide_eq_false_iff_not, Bool.true_eq_false, Bool.false_eq_true, bne_iff_ne, ne_eq, bne_eq_false_iff_eq, beq_iff_eq, beq_eq_false_iff_ne, Bool.not_eq_true, Bool.not_eq_false, Bool.not_eq_eq_eq_not, Bool.not_true, Bool.not_false, Decidable.not_not] at hc) <;> (try (exfalso; first | omega | exact bool_tf hc (by assumption) | exact bool_ft hc (by assumption) | exact absurd (by assumption) hc)) <;> (first | with_reducible show STri _ _ _ _ _ _ | (simp -dsimp [hsp, h4', hw, hf, hc]; (repeat (simp -dsimp (disch := (first | omega | assumption | (refine Bool.eq_false_iff.1 ?_; assumption))) only [wrap_in, if_pos, if_neg]; (try simp -dsimp [hsp, h4', hw, hf, hc]))))))))
          refine st_for [1] f.links.length (fun k T H => LkTo f.links k ∧ T = [(1, .ptr 1 0), (3, .c (I k))] ∧ H = [(1, .box 54 [.c (I f.lo), .c (I f.hi), .c (.sl 3 (f.links.map rowL)), .c (I f.weight), .c (I f.friction)])]) (by simp) ⟨by simp [LkTo], by simp, by simp⟩ ?_
          rintro k T H hk ⟨ht, rfl, rfl⟩
          by_cases hlt : k < f.links.length
          · by_cases v1 : inB 0 1000 f.links[k].slack = true
            · by_cases v2 : inB 1 200 f.links[k].num = true
              · by_cases v3 : inB 1 200 f.links[k].den = true
                · (repeat' (first | ((first | with_reducible refine st_skip ?_ | with_reducible refine st_exit ?_); (try simp only [seqQ, blockQ, loopQ, forQ, whileQ, reduceIte, Nat.reduceEqDiff])) | (with_reducible refine st_ret ?_; ((try simp only [seqQ, blockQ, loopQ, forQ, whileQ]); first | (with_reducible refine retM_ret ?_) | refine retQ_ret ?_; simp [hlt, v1, v2, v3])) | refine st_seq ?_ | refine st_block ?_ | ((first | refine st_reg ?_ | refine buildP_own ?_ | refine callP_b (rIn f.links[k].slack 0 1000) rfl ?_ | refine callP_b (rIn f.links[k].num 1 200) rfl ?_ | refine callP_b (rIn f.links[k].den 1 200) rfl ?_) <;> (simp -dsimp [hlt, v1, v2, v3]; (repeat (simp -dsimp (disch := (first | omega | assumption | (refine Bool.eq_false_iff.1 ?_; assumption))) only [wrap_in, if_pos, if_neg]; (try simp -dsimp [hlt, v1, v2, v3]))))) | ((first | refine guardP_of (fun hc => ?_) (fun hc => ?_) | refine st_cond rfl (fun hc => ?_) (fun hc => ?_)) <;> (try simp only [decide_eq_true_eq, decide_eq_false_iff_not, Bool.true_eq_false, Bool.false_eq_true, bne_iff_ne, ne_eq, bne_eq_false_iff_eq, beq_iff_eq, beq_eq_false_iff_ne, Bool.not_eq_true, Bool.not_eq_false, Bool.not_eq_eq_eq_not, Bool.not_true, Bool.not_false, Decidable.not_not] at hc) <;> (try (exfalso; first | omega | exact bool_tf hc (by assumption) | exact bool_ft hc (by assumption) | exact absurd (by assumption) hc)) <;> (first | with_reducible show STri _ _ _ _ _ _ | (simp -dsimp [hlt, v1, v2, v3, hc]; (repeat (simp -dsimp (disch := (first | omega | assumption | (refine Bool.eq_false_iff.1 ?_; assumption))) only [wrap_in, if_pos, if_neg]; (try simp -dsimp [hlt, v1, v2, v3, hc]))))))))
                  exact ⟨hlt, by simp, lk_succ hlt ht (by simp [lkB, v1, v2, v3]), by simp, by simp⟩
                · (repeat' (first | ((first | with_reducible refine st_skip ?_ | with_reducible refine st_exit ?_); (try simp only [seqQ, blockQ, loopQ, forQ, whileQ, reduceIte, Nat.reduceEqDiff])) | (with_reducible refine st_ret ?_; ((try simp only [seqQ, blockQ, loopQ, forQ, whileQ]); first | (with_reducible refine retM_ret ?_) | refine retQ_ret ?_; simp [hlt, v1, v2, v3])) | refine st_seq ?_ | refine st_block ?_ | ((first | refine st_reg ?_ | refine buildP_own ?_ | refine callP_b (rIn f.links[k].slack 0 1000) rfl ?_ | refine callP_b (rIn f.links[k].num 1 200) rfl ?_ | refine callP_b (rIn f.links[k].den 1 200) rfl ?_) <;> (simp -dsimp [hlt, v1, v2, v3]; (repeat (simp -dsimp (disch := (first | omega | assumption | (refine Bool.eq_false_iff.1 ?_; assumption))) only [wrap_in, if_pos, if_neg]; (try simp -dsimp [hlt, v1, v2, v3]))))) | ((first | refine guardP_of (fun hc => ?_) (fun hc => ?_) | refine st_cond rfl (fun hc => ?_) (fun hc => ?_)) <;> (try simp only [decide_eq_true_eq, decide_eq_false_iff_not, Bool.true_eq_false, Bool.false_eq_true, bne_iff_ne, ne_eq, bne_eq_false_iff_eq, beq_iff_eq, beq_eq_false_iff_ne, Bool.not_eq_true, Bool.not_eq_false, Bool.not_eq_eq_eq_not, Bool.not_true, Bool.not_false, Decidable.not_not] at hc) <;> (try (exfalso; first | omega | exact bool_tf hc (by assumption) | exact bool_ft hc (by assumption) | exact absurd (by assumption) hc)) <;> (first | with_reducible show STri _ _ _ _ _ _ | (simp -dsimp [hlt, v1, v2, v3, hc]; (repeat (simp -dsimp (disch := (first | omega | assumption | (refine Bool.eq_false_iff.1 ?_; assumption))) only [wrap_in, if_pos, if_neg]; (try simp -dsimp [hlt, v1, v2, v3, hc]))))))))
                  all_goals exact fc_no (by have := not_allLk hlt (show lkB f.links[k] = false by simp [lkB, v3]); simp [fcB, this])
              · (repeat' (first | ((first | with_reducible refine st_skip ?_ | with_reducible refine st_exit ?_); (try simp only [seqQ, blockQ, loopQ, forQ, whileQ, reduceIte, Nat.reduceEqDiff])) | (with_reducible refine st_ret ?_; ((try simp only [seqQ, blockQ, loopQ, forQ, whileQ]); first | (with_reducible refine retM_ret ?_) | refine retQ_ret ?_; simp [hlt, v1, v2])) | refine st_seq ?_ | refine st_block ?_ | ((first | refine st_reg ?_ | refine buildP_own ?_ | refine callP_b (rIn f.links[k].slack 0 1000) rfl ?_ | refine callP_b (rIn f.links[k].num 1 200) rfl ?_) <;> (simp -dsimp [hlt, v1, v2]; (repeat (simp -dsimp (disch := (first | omega | assumption | (refine Bool.eq_false_iff.1 ?_; assumption))) only [wrap_in, if_pos, if_neg]; (try simp -dsimp [hlt, v1, v2]))))) | ((first | refine guardP_of (fun hc => ?_) (fun hc => ?_) | refine st_cond rfl (fun hc => ?_) (fun hc => ?_)) <;> (try simp only [decide_eq_true_eq, decide_eq_false_iff_not, Bool.true_eq_false, Bool.false_eq_true, bne_iff_ne, ne_eq, bne_eq_false_iff_eq, beq_iff_eq, beq_eq_false_iff_ne, Bool.not_eq_true, Bool.not_eq_false, Bool.not_eq_eq_eq_not, Bool.not_true, Bool.not_false, Decidable.not_not] at hc) <;> (try (exfalso; first | omega | exact bool_tf hc (by assumption) | exact bool_ft hc (by assumption) | exact absurd (by assumption) hc)) <;> (first | with_reducible show STri _ _ _ _ _ _ | (simp -dsimp [hlt, v1, v2, hc]; (repeat (simp -dsimp (disch := (first | omega | assumption | (refine Bool.eq_false_iff.1 ?_; assumption))) only [wrap_in, if_pos, if_neg]; (try simp -dsimp [hlt, v1, v2, hc]))))))))
                all_goals exact fc_no (by have := not_allLk hlt (show lkB f.links[k] = false by simp [lkB, v2]); simp [fcB, this])
            · (repeat' (first | ((first | with_reducible refine st_skip ?_ | with_reducible refine st_exit ?_); (try simp only [seqQ, blockQ, loopQ, forQ, whileQ, reduceIte, Nat.reduceEqDiff])) | (with_reducible refine st_ret ?_; ((try simp only [seqQ, blockQ, loopQ, forQ, whileQ]); first | (with_reducible refine retM_ret ?_) | refine retQ_ret ?_; simp [hlt, v1])) | refine st_seq ?_ | refine st_block ?_ | ((first | refine st_reg ?_ | refine buildP_own ?_ | refine callP_b (rIn f.links[k].slack 0 1000) rfl ?_) <;> (simp -dsimp [hlt, v1]; (repeat (simp -dsimp (disch := (first | omega | assumption | (refine Bool.eq_false_iff.1 ?_; assumption))) only [wrap_in, if_pos, if_neg]; (try simp -dsimp [hlt, v1]))))) | ((first | refine guardP_of (fun hc => ?_) (fun hc => ?_) | refine st_cond rfl (fun hc => ?_) (fun hc => ?_)) <;> (try simp only [decide_eq_true_eq, decide_eq_false_iff_not, Bool.true_eq_false, Bool.false_eq_true, bne_iff_ne, ne_eq, bne_eq_false_iff_eq, beq_iff_eq, beq_eq_false_iff_ne, Bool.not_eq_true, Bool.not_eq_false, Bool.not_eq_eq_eq_not, Bool.not_true, Bool.not_false, Decidable.not_not] at hc) <;> (try (exfalso; first | omega | exact bool_tf hc (by assumption) | exact bool_ft hc (by assumption) | exact absurd (by assumption) hc)) <;> (first | with_reducible show STri _ _ _ _ _ _ | (simp -dsimp [hlt, v1, hc]; (repeat (simp -dsimp (disch := (first | omega | assumption | (refine Bool.eq_false_iff.1 ?_; assumption))) only [wrap_in, if_pos, if_neg]; (try simp -dsimp [hlt, v1, hc]))))))))
              all_goals exact fc_no (by have := not_allLk hlt (show lkB f.links[k] = false by simp [lkB, v1]); simp [fcB, this])
          · have : k = f.links.length := by omega
            subst this
            have sr := rSlack' f.links h4 ht
            rw [slack_ref ht h4] at sr
            (repeat' (first | ((first | with_reducible refine st_skip ?_ | with_reducible refine st_exit ?_); (try simp only [seqQ, blockQ, loopQ, forQ, whileQ, reduceIte, Nat.reduceEqDiff])) | (with_reducible refine st_ret ?_; ((try simp only [seqQ, blockQ, loopQ, forQ, whileQ]); first | (with_reducible refine retM_ret ?_) | refine retQ_ret ?_; simp [hlt])) | refine st_seq ?_ | refine st_block ?_ | ((first | refine st_reg ?_ | refine buildP_own ?_ | refine callP_b (sr) rfl ?_) <;> (simp -dsimp [hlt]; (repeat (simp -dsimp (disch := (first | omega | assumption | (refine Bool.eq_false_iff.1 ?_; assumption))) only [wrap_in, if_pos, if_neg]; (try simp -dsimp [hlt]))))) | ((first | refine guardP_of (fun hc => ?_) (fun hc => ?_) | refine st_cond rfl (fun hc => ?_) (fun hc => ?_)) <;> (try simp only [decide_eq_true_eq, decide_eq_false_iff_not, Bool.true_eq_false, Bool.false_eq_true, bne_iff_ne, ne_eq, bne_eq_false_iff_eq, beq_iff_eq, beq_eq_false_iff_ne, Bool.not_eq_true, Bool.not_eq_false, Bool.not_eq_eq_eq_not, Bool.not_true, Bool.not_false, Decidable.not_not] at hc) <;> (try (exfalso; first | omega | exact bool_tf hc (by assumption) | exact bool_ft hc (by assumption) | exact absurd (by assumption) hc)) <;> (first | with_reducible show STri _ _ _ _ _ _ | (simp -dsimp [hlt, hc]; (repeat (simp -dsimp (disch := (first | omega | assumption | (refine Bool.eq_false_iff.1 ?_; assumption))) only [wrap_in, if_pos, if_neg]; (try simp -dsimp [hlt, hc]))))))))
            all_goals (refine CLe.bool ?_; simp [fcOK, fcB, hsp, h4, hw, hf, lkto_all ht])
        · (repeat' (first | ((first | with_reducible refine st_skip ?_ | with_reducible refine st_exit ?_); (try simp only [seqQ, blockQ, loopQ, forQ, whileQ, reduceIte, Nat.reduceEqDiff])) | (with_reducible refine st_ret ?_; ((try simp only [seqQ, blockQ, loopQ, forQ, whileQ]); first | (with_reducible refine retM_ret ?_) | refine retQ_ret ?_; simp [hsp, h4', hw, hf])) | refine st_seq ?_ | refine st_block ?_ | ((first | refine st_reg ?_ | refine buildP_own ?_ | refine callP_b (rSpan f.lo f.hi (-3600) 3600) rfl ?_ | refine callP_b (rIn f.weight (-10000) 10000) rfl ?_ | refine callP_b (rIn f.friction 0 10000) rfl ?_) <;> (simp -dsimp [hsp, h4', hw, hf]; (repeat (simp -dsimp (disch := (first | omega | assumption | (refine Bool.eq_false_iff.1 ?_; assumption))) only [wrap_in, if_pos, if_neg]; (try simp -dsimp [hsp, h4', hw, hf]))))) | ((first | refine guardP_of (fun hc => ?_) (fun hc => ?_) | refine st_cond rfl (fun hc => ?_) (fun hc => ?_)) <;> (try simp only [decide_eq_true_eq, decide_eq_false_iff_not, Bool.true_eq_false, Bool.false_eq_true, bne_iff_ne, ne_eq, bne_eq_false_iff_eq, beq_iff_eq, beq_eq_false_iff_ne, Bool.not_eq_true, Bool.not_eq_false, Bool.not_eq_eq_eq_not, Bool.not_true, Bool.not_false, Decidable.not_not] at hc) <;> (try (exfalso; first | omega | exact bool_tf hc (by assumption) | exact bool_ft hc (by assumption) | exact absurd (by assumption) hc)) <;> (first | with_reducible show STri _ _ _ _ _ _ | (simp -dsimp [hsp, h4', hw, hf, hc]; (repeat (simp -dsimp (disch := (first | omega | assumption | (refine Bool.eq_false_iff.1 ?_; assumption))) only [wrap_in, if_pos, if_neg]; (try simp -dsimp [hsp, h4', hw, hf, hc]))))))))
          all_goals exact fc_no (by simp [fcB, hf])
      · (repeat' (first | ((first | with_reducible refine st_skip ?_ | with_reducible refine st_exit ?_); (try simp only [seqQ, blockQ, loopQ, forQ, whileQ, reduceIte, Nat.reduceEqDiff])) | (with_reducible refine st_ret ?_; ((try simp only [seqQ, blockQ, loopQ, forQ, whileQ]); first | (with_reducible refine retM_ret ?_) | refine retQ_ret ?_; simp [hsp, h4', hw])) | refine st_seq ?_ | refine st_block ?_ | ((first | refine st_reg ?_ | refine buildP_own ?_ | refine callP_b (rSpan f.lo f.hi (-3600) 3600) rfl ?_ | refine callP_b (rIn f.weight (-10000) 10000) rfl ?_) <;> (simp -dsimp [hsp, h4', hw]; (repeat (simp -dsimp (disch := (first | omega | assumption | (refine Bool.eq_false_iff.1 ?_; assumption))) only [wrap_in, if_pos, if_neg]; (try simp -dsimp [hsp, h4', hw]))))) | ((first | refine guardP_of (fun hc => ?_) (fun hc => ?_) | refine st_cond rfl (fun hc => ?_) (fun hc => ?_)) <;> (try simp only [decide_eq_true_eq, decide_eq_false_iff_not, Bool.true_eq_false, Bool.false_eq_true, bne_iff_ne, ne_eq, bne_eq_false_iff_eq, beq_iff_eq, beq_eq_false_iff_ne, Bool.not_eq_true, Bool.not_eq_false, Bool.not_eq_eq_eq_not, Bool.not_true, Bool.not_false, Decidable.not_not] at hc) <;> (try (exfalso; first | omega | exact bool_tf hc (by assumption) | exact bool_ft hc (by assumption) | exact absurd (by assumption) hc)) <;> (first | with_reducible show STri _ _ _ _ _ _ | (simp -dsimp [hsp, h4', hw, hc]; (repeat (simp -dsimp (disch := (first | omega | assumption | (refine Bool.eq_false_iff.1 ?_; assumption))) only [wrap_in, if_pos, if_neg]; (try simp -dsimp [hsp, h4', hw, hc]))))))))
        all_goals exact fc_no (by simp [fcB, hw])
    · have h4' : (f.links.length : Int) > 4 := by omega
      (repeat' (first | ((first | with_reducible refine st_skip ?_ | with_reducible refine st_exit ?_); (try simp only [seqQ, blockQ, loopQ, forQ, whileQ, reduceIte, Nat.reduceEqDiff])) | (with_reducible refine st_ret ?_; ((try simp only [seqQ, blockQ, loopQ, forQ, whileQ]); first | (with_reducible refine retM_ret ?_) | refine retQ_ret ?_; simp [hsp, h4'])) | refine st_seq ?_ | refine st_block ?_ | ((first | refine st_reg ?_ | refine buildP_own ?_ | refine callP_b (rSpan f.lo f.hi (-3600) 3600) rfl ?_) <;> (simp -dsimp [hsp, h4']; (repeat (simp -dsimp (disch := (first | omega | assumption | (refine Bool.eq_false_iff.1 ?_; assumption))) only [wrap_in, if_pos, if_neg]; (try simp -dsimp [hsp, h4']))))) | ((first | refine guardP_of (fun hc => ?_) (fun hc => ?_) | refine st_cond rfl (fun hc => ?_) (fun hc => ?_)) <;> (try simp only [decide_eq_true_eq, decide_eq_false_iff_not, Bool.true_eq_false, Bool.false_eq_true, bne_iff_ne, ne_eq, bne_eq_false_iff_eq, beq_iff_eq, beq_eq_false_iff_ne, Bool.not_eq_true, Bool.not_eq_false, Bool.not_eq_eq_eq_not, Bool.not_true, Bool.not_false, Decidable.not_not] at hc) <;> (try (exfalso; first | omega | exact bool_tf hc (by assumption) | exact bool_ft hc (by assumption) | exact absurd (by assumption) hc)) <;> (first | with_reducible show STri _ _ _ _ _ _ | (simp -dsimp [hsp, h4', hc]; (repeat (simp -dsimp (disch := (first | omega | assumption | (refine Bool.eq_false_iff.1 ?_; assumption))) only [wrap_in, if_pos, if_neg]; (try simp -dsimp [hsp, h4', hc]))))))))
      all_goals exact fc_no (by simp [fcB, h4])
  · (repeat' (first | ((first | with_reducible refine st_skip ?_ | with_reducible refine st_exit ?_); (try simp only [seqQ, blockQ, loopQ, forQ, whileQ, reduceIte, Nat.reduceEqDiff])) | (with_reducible refine st_ret ?_; ((try simp only [seqQ, blockQ, loopQ, forQ, whileQ]); first | (with_reducible refine retM_ret ?_) | refine retQ_ret ?_; simp [hsp])) | refine st_seq ?_ | refine st_block ?_ | ((first | refine st_reg ?_ | refine buildP_own ?_ | refine callP_b (rSpan f.lo f.hi (-3600) 3600) rfl ?_) <;> (simp -dsimp [hsp]; (repeat (simp -dsimp (disch := (first | omega | assumption | (refine Bool.eq_false_iff.1 ?_; assumption))) only [wrap_in, if_pos, if_neg]; (try simp -dsimp [hsp]))))) | ((first | refine guardP_of (fun hc => ?_) (fun hc => ?_) | refine st_cond rfl (fun hc => ?_) (fun hc => ?_)) <;> (try simp only [decide_eq_true_eq, decide_eq_false_iff_not, Bool.true_eq_false, Bool.false_eq_true, bne_iff_ne, ne_eq, bne_eq_false_iff_eq, beq_iff_eq, beq_eq_false_iff_ne, Bool.not_eq_true, Bool.not_eq_false, Bool.not_eq_eq_eq_not, Bool.not_true, Bool.not_false, Decidable.not_not] at hc) <;> (try (exfalso; first | omega | exact bool_tf hc (by assumption) | exact bool_ft hc (by assumption) | exact absurd (by assumption) hc)) <;> (first | with_reducible show STri _ _ _ _ _ _ | (simp -dsimp [hsp, hc]; (repeat (simp -dsimp (disch := (first | omega | assumption | (refine Bool.eq_false_iff.1 ?_; assumption))) only [wrap_in, if_pos, if_neg]; (try simp -dsimp [hsp, hc]))))))))
    all_goals exact fc_no (by simp [fcB, hsp])
theorem rWorks' (w : Dw) (hw : DwLen w) : SC Tryz.prog 23 [cDw w] (B (dwB w)) := by
  refine law_turretref04_Works _ _ (by simp) ?_
  have hn := hw.n
  (repeat' (first | ((first | with_reducible refine st_skip ?_ | with_reducible refine st_exit ?_); (try simp only [seqQ, blockQ, loopQ, forQ, whileQ, reduceIte, Nat.reduceEqDiff])) | (with_reducible refine st_ret ?_; ((try simp only [seqQ, blockQ, loopQ, forQ, whileQ]); first | (with_reducible refine retM_ret ?_) | refine retQ_ret ?_; simp)) | refine st_seq ?_ | refine st_block ?_ | ((first | refine st_reg ?_ | refine buildP_own ?_) <;> (simp -dsimp; (repeat (simp -dsimp (disch := (first | omega | assumption | (refine Bool.eq_false_iff.1 ?_; assumption))) only [wrap_in, if_pos, if_neg]; (try simp -dsimp))))) | ((first | refine guardP_of (fun hc => ?_) (fun hc => ?_) | refine st_cond rfl (fun hc => ?_) (fun hc => ?_)) <;> (try simp only [decide_eq_true_eq, decide_eq_false_iff_not, Bool.true_eq_false, Bool.false_eq_true, bne_iff_ne, ne_eq, bne_eq_false_iff_eq, beq_iff_eq, beq_eq_false_iff_ne, Bool.not_eq_true, Bool.not_eq_false, Bool.not_eq_eq_eq_not, Bool.not_true, Bool.not_false, Decidable.not_not] at hc) <;> (try (exfalso; first | omega | exact bool_tf hc (by assumption) | exact bool_ft hc (by assumption) | exact absurd (by assumption) hc)) <;> (first | with_reducible show STri _ _ _ _ _ _ | (simp -dsimp [hc]; (repeat (simp -dsimp (disch := (first | omega | assumption | (refine Bool.eq_false_iff.1 ?_; assumption))) only [wrap_in, if_pos, if_neg]; (try simp -dsimp [hc]))))))))
  refine st_for [1] w.faces.length (fun k T H => FcTo w.faces k ∧ T = [(1, .ptr 1 0), (3, .c (I k))] ∧ H = [(1, .box 26 [.c (I w.jump), .c (I w.elo), .c (I w.ehi), .c (slF w.faces)])]) (by simp) ⟨by simp [FcTo], by simp, by simp⟩ ?_
  rintro k T H hk ⟨ht, rfl, rfl⟩
  by_cases hlt : k < w.faces.length
  · have hll := hw.l w.faces[k] (List.getElem_mem hlt)
    by_cases hv : fcOK w.faces[k] = true
    · (repeat' (first | ((first | with_reducible refine st_skip ?_ | with_reducible refine st_exit ?_); (try simp only [seqQ, blockQ, loopQ, forQ, whileQ, reduceIte, Nat.reduceEqDiff])) | (with_reducible refine st_ret ?_; ((try simp only [seqQ, blockQ, loopQ, forQ, whileQ]); first | (with_reducible refine retM_ret ?_) | refine retQ_ret ?_; simp [hlt, hv])) | refine st_seq ?_ | refine st_block ?_ | ((first | refine st_reg ?_ | refine buildP_own ?_ | refine callP_b (rFace w.faces[k] hll) rfl ?_) <;> (simp -dsimp [hlt, hv]; (repeat (simp -dsimp (disch := (first | omega | assumption | (refine Bool.eq_false_iff.1 ?_; assumption))) only [wrap_in, if_pos, if_neg]; (try simp -dsimp [hlt, hv]))))) | ((first | refine guardP_of (fun hc => ?_) (fun hc => ?_) | refine st_cond rfl (fun hc => ?_) (fun hc => ?_)) <;> (try simp only [decide_eq_true_eq, decide_eq_false_iff_not, Bool.true_eq_false, Bool.false_eq_true, bne_iff_ne, ne_eq, bne_eq_false_iff_eq, beq_iff_eq, beq_eq_false_iff_ne, Bool.not_eq_true, Bool.not_eq_false, Bool.not_eq_eq_eq_not, Bool.not_true, Bool.not_false, Decidable.not_not] at hc) <;> (try (exfalso; first | omega | exact bool_tf hc (by assumption) | exact bool_ft hc (by assumption) | exact absurd (by assumption) hc)) <;> (first | with_reducible show STri _ _ _ _ _ _ | (simp -dsimp [hlt, hv, hc]; (repeat (simp -dsimp (disch := (first | omega | assumption | (refine Bool.eq_false_iff.1 ?_; assumption))) only [wrap_in, if_pos, if_neg]; (try simp -dsimp [hlt, hv, hc]))))))))
      exact ⟨hlt, by simp, fc_succ hlt ht hv, by simp, by simp⟩
    · (repeat' (first | ((first | with_reducible refine st_skip ?_ | with_reducible refine st_exit ?_); (try simp only [seqQ, blockQ, loopQ, forQ, whileQ, reduceIte, Nat.reduceEqDiff])) | (with_reducible refine st_ret ?_; ((try simp only [seqQ, blockQ, loopQ, forQ, whileQ]); first | (with_reducible refine retM_ret ?_) | refine retQ_ret ?_; simp [hlt, hv])) | refine st_seq ?_ | refine st_block ?_ | ((first | refine st_reg ?_ | refine buildP_own ?_ | refine callP_b (rFace w.faces[k] hll) rfl ?_) <;> (simp -dsimp [hlt, hv]; (repeat (simp -dsimp (disch := (first | omega | assumption | (refine Bool.eq_false_iff.1 ?_; assumption))) only [wrap_in, if_pos, if_neg]; (try simp -dsimp [hlt, hv]))))) | ((first | refine guardP_of (fun hc => ?_) (fun hc => ?_) | refine st_cond rfl (fun hc => ?_) (fun hc => ?_)) <;> (try simp only [decide_eq_true_eq, decide_eq_false_iff_not, Bool.true_eq_false, Bool.false_eq_true, bne_iff_ne, ne_eq, bne_eq_false_iff_eq, beq_iff_eq, beq_eq_false_iff_ne, Bool.not_eq_true, Bool.not_eq_false, Bool.not_eq_eq_eq_not, Bool.not_true, Bool.not_false, Decidable.not_not] at hc) <;> (try (exfalso; first | omega | exact bool_tf hc (by assumption) | exact bool_ft hc (by assumption) | exact absurd (by assumption) hc)) <;> (first | with_reducible show STri _ _ _ _ _ _ | (simp -dsimp [hlt, hv, hc]; (repeat (simp -dsimp (disch := (first | omega | assumption | (refine Bool.eq_false_iff.1 ?_; assumption))) only [wrap_in, if_pos, if_neg]; (try simp -dsimp [hlt, hv, hc]))))))))
      all_goals (refine CLe.bool ?_; have := not_allOK hlt (by simpa using hv); simp [dwB, this])
  · have : k = w.faces.length := by omega
    subst this
    have hall : w.faces.all fcOK = true := by
      rw [List.all_eq_true]
      intro x hx
      exact ht x (by rw [List.take_length]; exact hx)
    by_cases hj : inB 1 3600 w.jump = true
    · have hj2 := hj
      simp only [inB, Bool.and_eq_true, decide_eq_true_eq] at hj2
      obtain ⟨j1, j2⟩ := hj2
      have hne : ¬ w.jump = 0 := by omega
      have htm : (3600 : Int).tmod w.jump = 3600 % w.jump := Int.tmod_eq_emod_of_nonneg (by omega)
      (repeat' (first | ((first | with_reducible refine st_skip ?_ | with_reducible refine st_exit ?_); (try simp only [seqQ, blockQ, loopQ, forQ, whileQ, reduceIte, Nat.reduceEqDiff])) | (with_reducible refine st_ret ?_; ((try simp only [seqQ, blockQ, loopQ, forQ, whileQ]); first | (with_reducible refine retM_ret ?_) | refine retQ_ret ?_; simp [hlt, hj, hne, htm])) | refine st_seq ?_ | refine st_block ?_ | ((first | refine st_reg ?_ | refine buildP_own ?_ | refine callP_b (rIn w.jump 1 3600) rfl ?_ | refine callP_b (rSpan w.elo w.ehi (-3600) 3600) rfl ?_ | refine callP_b (rIn w.faces.length 1 8) rfl ?_) <;> (simp -dsimp [hlt, hj, hne, htm]; (repeat (simp -dsimp (disch := (first | omega | assumption | (refine Bool.eq_false_iff.1 ?_; assumption))) only [wrap_in, if_pos, if_neg]; (try simp -dsimp [hlt, hj, hne, htm]))))) | ((first | refine guardP_of (fun hc => ?_) (fun hc => ?_) | refine st_cond rfl (fun hc => ?_) (fun hc => ?_)) <;> (try simp only [decide_eq_true_eq, decide_eq_false_iff_not, Bool.true_eq_false, Bool.false_eq_true, bne_iff_ne, ne_eq, bne_eq_false_iff_eq, beq_iff_eq, beq_eq_false_iff_ne, Bool.not_eq_true, Bool.not_eq_false, Bool.not_eq_eq_eq_not, Bool.not_true, Bool.not_false, Decidable.not_not] at hc) <;> (try (exfalso; first | omega | exact bool_tf hc (by assumption) | exact bool_ft hc (by assumption) | exact absurd (by assumption) hc)) <;> (first | with_reducible show STri _ _ _ _ _ _ | (simp -dsimp [hlt, hj, hne, htm, hc]; (repeat (simp -dsimp (disch := (first | omega | assumption | (refine Bool.eq_false_iff.1 ?_; assumption))) only [wrap_in, if_pos, if_neg]; (try simp -dsimp [hlt, hj, hne, htm, hc]))))))))
      all_goals (refine CLe.bool ?_; simp [dwB, *])
    · (repeat' (first | ((first | with_reducible refine st_skip ?_ | with_reducible refine st_exit ?_); (try simp only [seqQ, blockQ, loopQ, forQ, whileQ, reduceIte, Nat.reduceEqDiff])) | (with_reducible refine st_ret ?_; ((try simp only [seqQ, blockQ, loopQ, forQ, whileQ]); first | (with_reducible refine retM_ret ?_) | refine retQ_ret ?_; simp [hlt, hj])) | refine st_seq ?_ | refine st_block ?_ | ((first | refine st_reg ?_ | refine buildP_own ?_ | refine callP_b (rIn w.jump 1 3600) rfl ?_) <;> (simp -dsimp [hlt, hj]; (repeat (simp -dsimp (disch := (first | omega | assumption | (refine Bool.eq_false_iff.1 ?_; assumption))) only [wrap_in, if_pos, if_neg]; (try simp -dsimp [hlt, hj]))))) | ((first | refine guardP_of (fun hc => ?_) (fun hc => ?_) | refine st_cond rfl (fun hc => ?_) (fun hc => ?_)) <;> (try simp only [decide_eq_true_eq, decide_eq_false_iff_not, Bool.true_eq_false, Bool.false_eq_true, bne_iff_ne, ne_eq, bne_eq_false_iff_eq, beq_iff_eq, beq_eq_false_iff_ne, Bool.not_eq_true, Bool.not_eq_false, Bool.not_eq_eq_eq_not, Bool.not_true, Bool.not_false, Decidable.not_not] at hc) <;> (try (exfalso; first | omega | exact bool_tf hc (by assumption) | exact bool_ft hc (by assumption) | exact absurd (by assumption) hc)) <;> (first | with_reducible show STri _ _ _ _ _ _ | (simp -dsimp [hlt, hj, hc]; (repeat (simp -dsimp (disch := (first | omega | assumption | (refine Bool.eq_false_iff.1 ?_; assumption))) only [wrap_in, if_pos, if_neg]; (try simp -dsimp [hlt, hj, hc]))))))))
      all_goals (refine CLe.bool ?_; simp [dwB, hj])
end Go.Proofs.YtnfggkopledpcaaGreat
/- Dial's references, IV: hands. -/
namespace Go.Proofs.YtnfggkopledpcaaGreat
open Go.RowKit
theorem rDriven (w : Dw) (at' e : Int) (h1 : 1 ≤ w.jump) (h2 : w.jump ≤ 3600) (a1 : -1000000000000 ≤ at') (a2 : at' ≤ 1000000000000) (e1 : -1000000 ≤ e) (e2 : e ≤ 1000000) : SC Tryz.prog 73 [cDw w, I at', I e] (I (downI (at' + e) w.jump)) := by
  refine law_turretref04_Driven _ _ (by simp) ?_
  have h5 := Int.emod_nonneg (at' + e) (show w.jump ≠ 0 by omega)
  have h6 := Int.emod_lt_of_pos (at' + e) (show 0 < w.jump by omega)
  (repeat' (first | ((first | with_reducible refine st_skip ?_ | with_reducible refine st_exit ?_); (try simp only [seqQ, blockQ, loopQ, forQ, whileQ, reduceIte, Nat.reduceEqDiff])) | (with_reducible refine st_ret ?_; ((try simp only [seqQ, blockQ, loopQ, forQ, whileQ]); first | (with_reducible refine retM_ret ?_) | refine retQ_ret ?_; simp)) | refine st_seq ?_ | refine st_block ?_ | ((first | refine st_reg ?_ | refine buildP_own ?_ | refine callP_b (rMod (at' + e) w.jump (by omega) (by omega)) rfl ?_) <;> (simp -dsimp; (repeat (simp -dsimp (disch := (first | omega | assumption | (refine Bool.eq_false_iff.1 ?_; assumption))) only [wrap_in, if_pos, if_neg]; (try simp -dsimp))))) | ((first | refine guardP_of (fun hc => ?_) (fun hc => ?_) | refine st_cond rfl (fun hc => ?_) (fun hc => ?_)) <;> (try simp only [decide_eq_true_eq, decide_eq_false_iff_not, Bool.true_eq_false, Bool.false_eq_true, bne_iff_ne, ne_eq, bne_eq_false_iff_eq, beq_iff_eq, beq_eq_false_iff_ne, Bool.not_eq_true, Bool.not_eq_false, Bool.not_eq_eq_eq_not, Bool.not_true, Bool.not_false, Decidable.not_not] at hc) <;> (try (exfalso; first | omega | exact bool_tf hc (by assumption) | exact bool_ft hc (by assumption) | exact absurd (by assumption) hc)) <;> (first | with_reducible show STri _ _ _ _ _ _ | (simp -dsimp [hc]; (repeat (simp -dsimp (disch := (first | omega | assumption | (refine Bool.eq_false_iff.1 ?_; assumption))) only [wrap_in, if_pos, if_neg]; (try simp -dsimp [hc]))))))))
  all_goals exact .refl _
theorem rForce (f : Fc) (d n : Int) (h1 : -10000 ≤ f.weight) (h2 : f.weight ≤ 10000) (h3 : -1000000 ≤ n) (h4 : n ≤ 1000000) : SC Tryz.prog 95 [cF f, I d, I n] (I (n + forceI f d)) := by
  refine law_turretref04_Force _ _ (by simp) ?_
  (repeat' (first | ((first | with_reducible refine st_skip ?_ | with_reducible refine st_exit ?_); (try simp only [seqQ, blockQ, loopQ, forQ, whileQ, reduceIte, Nat.reduceEqDiff])) | (with_reducible refine st_ret ?_; ((try simp only [seqQ, blockQ, loopQ, forQ, whileQ]); first | (with_reducible refine retM_ret ?_) | refine retQ_ret ?_; simp)) | refine st_seq ?_ | refine st_block ?_ | ((first | refine st_reg ?_ | refine buildP_own ?_ | refine callP_b (rMod d 3600 (by omega) (by omega)) rfl ?_) <;> (simp -dsimp; (repeat (simp -dsimp (disch := (first | omega | assumption | (refine Bool.eq_false_iff.1 ?_; assumption))) only [wrap_in, if_pos, if_neg]; (try simp -dsimp))))) | ((first | refine guardP_of (fun hc => ?_) (fun hc => ?_) | refine st_cond rfl (fun hc => ?_) (fun hc => ?_)) <;> (try simp only [decide_eq_true_eq, decide_eq_false_iff_not, Bool.true_eq_false, Bool.false_eq_true, bne_iff_ne, ne_eq, bne_eq_false_iff_eq, beq_iff_eq, beq_eq_false_iff_ne, Bool.not_eq_true, Bool.not_eq_false, Bool.not_eq_eq_eq_not, Bool.not_true, Bool.not_false, Decidable.not_not] at hc) <;> (try (exfalso; first | omega | exact bool_tf hc (by assumption) | exact bool_ft hc (by assumption) | exact absurd (by assumption) hc)) <;> (first | with_reducible show STri _ _ _ _ _ _ | (simp -dsimp [hc]; (repeat (simp -dsimp (disch := (first | omega | assumption | (refine Bool.eq_false_iff.1 ?_; assumption))) only [wrap_in, if_pos, if_neg]; (try simp -dsimp [hc]))))))))
  all_goals (refine CLe.int ?_; unfold forceI; split <;> omega)
theorem rSlackF {f : Fc} (h : fcOK f = true) : SC Tryz.prog 66 [slL f.links] (I (slackI f.links)) := by
  unfold fcOK fcB at h
  simp only [Bool.and_eq_true, decide_eq_true_eq] at h
  obtain ⟨⟨⟨⟨⟨_, h4⟩, _⟩, _⟩, hl⟩, _⟩ := h
  have ht : LkTo f.links f.links.length := fun x hx => by
    rw [List.take_length] at hx
    exact List.all_eq_true.1 hl x hx
  have := rSlack' f.links h4 ht
  rwa [slack_ref ht h4] at this
theorem rLags (f : Fc) (hf : fcOK f = true) (d wlo whi : Int) (h5 : -1000000 ≤ wlo) (h6 : wlo ≤ 1000000) (h7 : -1000000 ≤ whi) (h8 : whi ≤ 1000000) :
    SC Tryz.prog 74 [cF f, I d, cS wlo whi] (cS (lagLo f (slackI f.links) d whi wlo) (lagHi f (slackI f.links) d wlo)) := by
  refine law_turretref04_Lags _ _ (by simp) ?_
  have hs := fc_sm hf
  have f1 := hs.h
  have f2 := hs.i
  obtain ⟨g1, g2⟩ := force_le f d hs.e hs.g
  have sf := rSlackF hf
  (repeat' (first | ((first | with_reducible refine st_skip ?_ | with_reducible refine st_exit ?_); (try simp only [seqQ, blockQ, loopQ, forQ, whileQ, reduceIte, Nat.reduceEqDiff])) | (with_reducible refine st_ret ?_; ((try simp only [seqQ, blockQ, loopQ, forQ, whileQ]); first | (with_reducible refine retM_ret ?_) | refine retQ_ret ?_; simp)) | refine st_seq ?_ | refine st_block ?_ | ((first | refine st_reg ?_ | refine buildP_own ?_ | refine callP_b (sf) rfl ?_ | refine callP_b (rForce f d wlo hs.e hs.g h5 h6) rfl ?_ | refine callP_b (rForce f d whi hs.e hs.g h7 h8) rfl ?_) <;> (simp -dsimp; (repeat (simp -dsimp (disch := (first | omega | assumption | (refine Bool.eq_false_iff.1 ?_; assumption))) only [wrap_in, if_pos, if_neg]; (try simp -dsimp))))) | ((first | refine guardP_of (fun hc => ?_) (fun hc => ?_) | refine st_cond rfl (fun hc => ?_) (fun hc => ?_)) <;> (try simp only [decide_eq_true_eq, decide_eq_false_iff_not, Bool.true_eq_false, Bool.false_eq_true, bne_iff_ne, ne_eq, bne_eq_false_iff_eq, beq_iff_eq, beq_eq_false_iff_ne, Bool.not_eq_true, Bool.not_eq_false, Bool.not_eq_eq_eq_not, Bool.not_true, Bool.not_false, Decidable.not_not] at hc) <;> (try (exfalso; first | omega | exact bool_tf hc (by assumption) | exact bool_ft hc (by assumption) | exact absurd (by assumption) hc)) <;> (first | with_reducible show STri _ _ _ _ _ _ | (simp -dsimp [hc]; (repeat (simp -dsimp (disch := (first | omega | assumption | (refine Bool.eq_false_iff.1 ?_; assumption))) only [wrap_in, if_pos, if_neg]; (try simp -dsimp [hc]))))))))
  all_goals (refine CLe.of_eq ?_; unfold lagLo lagHi; (repeat' split) <;> first | rfl | (exfalso; omega))
theorem rHands (w : Dw) (f : Fc) (hf : fcOK f = true) (at' e wlo whi : Int) (h1 : 1 ≤ w.jump) (h2 : w.jump ≤ 3600) (a1 : -1000000000000 ≤ at') (a2 : at' ≤ 1000000000000) (e1 : -1000000 ≤ e) (e2 : e ≤ 1000000) (h5 : -1000000 ≤ wlo) (h6 : wlo ≤ 1000000) (h7 : -1000000 ≤ whi) (h8 : whi ≤ 1000000) :
    SC Tryz.prog 56 [cDw w, cF f, I at', I e, cS wlo whi] (cS (handLo f (slackI f.links) (downI (at' + e) w.jump) wlo) (handHi f (slackI f.links) (downI (at' + e) w.jump) wlo whi)) := by
  refine law_turretref04_Hands _ _ (by simp) ?_
  have hs := fc_sm hf
  have f1 := hs.a
  have f2 := hs.b
  have f3 := hs.c
  have f4 := hs.d
  have f5 := hs.k
  obtain ⟨g1, g2, g3, g4⟩ := lag_le f (slackI f.links) (downI (at' + e) w.jump) wlo whi hs.j
  obtain ⟨d1, d2⟩ := down_le (n := at' + e) (b := w.jump) (by omega)
  (repeat' (first | ((first | with_reducible refine st_skip ?_ | with_reducible refine st_exit ?_); (try simp only [seqQ, blockQ, loopQ, forQ, whileQ, reduceIte, Nat.reduceEqDiff])) | (with_reducible refine st_ret ?_; ((try simp only [seqQ, blockQ, loopQ, forQ, whileQ]); first | (with_reducible refine retM_ret ?_) | refine retQ_ret ?_; simp)) | refine st_seq ?_ | refine st_block ?_ | ((first | refine st_reg ?_ | refine buildP_own ?_ | refine callP_b (rDriven w at' e h1 h2 a1 a2 e1 e2) rfl ?_ | refine callP_b (rLags f hf (downI (at' + e) w.jump) wlo whi h5 h6 h7 h8) rfl ?_) <;> (simp -dsimp; (repeat (simp -dsimp (disch := (first | omega | assumption | (refine Bool.eq_false_iff.1 ?_; assumption))) only [wrap_in, if_pos, if_neg]; (try simp -dsimp))))) | ((first | refine guardP_of (fun hc => ?_) (fun hc => ?_) | refine st_cond rfl (fun hc => ?_) (fun hc => ?_)) <;> (try simp only [decide_eq_true_eq, decide_eq_false_iff_not, Bool.true_eq_false, Bool.false_eq_true, bne_iff_ne, ne_eq, bne_eq_false_iff_eq, beq_iff_eq, beq_eq_false_iff_ne, Bool.not_eq_true, Bool.not_eq_false, Bool.not_eq_eq_eq_not, Bool.not_true, Bool.not_false, Decidable.not_not] at hc) <;> (try (exfalso; first | omega | exact bool_tf hc (by assumption) | exact bool_ft hc (by assumption) | exact absurd (by assumption) hc)) <;> (first | with_reducible show STri _ _ _ _ _ _ | (simp -dsimp [hc]; (repeat (simp -dsimp (disch := (first | omega | assumption | (refine Bool.eq_false_iff.1 ?_; assumption))) only [wrap_in, if_pos, if_neg]; (try simp -dsimp [hc]))))))))
  all_goals exact CLe.of_eq rfl
end Go.Proofs.YtnfggkopledpcaaGreat
/- DialTimes: the references. -/
namespace Go.Proofs.YtnfggkopledpcaaGreat
open Go.RowKit
theorem rRight {n : Nt} (hd : dwB n.w = true) {x : Int × Int} (hx : 0 ≤ x.1) (hx2 : x.1.toNat < n.w.faces.length) (a e : Int) (a1 : -100000000000 ≤ a) (a2 : a ≤ 100000000000) (e1 : -1000000 ≤ e) (e2 : e ≤ 1000000) (w1 : -10000 ≤ n.wlo) (w2 : n.wlo ≤ 10000) (w3 : -10000 ≤ n.whi) (w4 : n.whi ≤ 10000)
    (s1 : 0 ≤ x.2) (s2 : x.2 ≤ 43199) : SC Tryz.prog 35 [cDw n.w, cS x.1 x.2, I a, I e, cS n.wlo n.whi] (B (canB n x (downI (a + e) n.w.jump))) := by
  refine law_turretref04_Right _ _ (by simp) ?_
  obtain ⟨i, hi⟩ : ∃ i : Nat, x.1 = i := ⟨x.1.toNat, by omega⟩
  have hi2 : i < n.w.faces.length := by omega
  have hok := dw_face hd (List.getElem_mem hi2)
  have hsm := dw_sm hd
  have j1 := hsm.a
  have j2 := hsm.b
  have hfs := fc_sm hok
  have rh := rHands n.w n.w.faces[i] hok a e n.wlo n.whi j1 j2 (by omega) (by omega) e1 e2 (by omega) (by omega) (by omega) (by omega)
  have hcan : canB n x (downI (a + e) n.w.jump) = decide ((x.2 - handLo n.w.faces[i] (slackI n.w.faces[i].links) (downI (a + e) n.w.jump) n.wlo) % 43200 ≤ handHi n.w.faces[i] (slackI n.w.faces[i].links) (downI (a + e) n.w.jump) n.wlo n.whi - handLo n.w.faces[i] (slackI n.w.faces[i].links) (downI (a + e) n.w.jump) n.wlo) := by
    unfold canB
    have : n.w.faces.getD x.1.toNat .zero = n.w.faces[i] := by rw [hi]; simp [hi2]
    rw [this]
  obtain ⟨d1, d2⟩ := down_le (n := a + e) (b := n.w.jump) (by omega)
  obtain ⟨g1, g2, g3, g4⟩ := lag_le n.w.faces[i] (slackI n.w.faces[i].links) (downI (a + e) n.w.jump) n.wlo n.whi hfs.j
  have f1 := hfs.a
  have f2 := hfs.b
  have f3 := hfs.c
  have f4 := hfs.d
  have f5 := hfs.k
  have hb : (-200000000000 ≤ handLo n.w.faces[i] (slackI n.w.faces[i].links) (downI (a + e) n.w.jump) n.wlo ∧ handLo n.w.faces[i] (slackI n.w.faces[i].links) (downI (a + e) n.w.jump) n.wlo ≤ 200000000000) ∧ -200000000000 ≤ handHi n.w.faces[i] (slackI n.w.faces[i].links) (downI (a + e) n.w.jump) n.wlo n.whi ∧ handHi n.w.faces[i] (slackI n.w.faces[i].links) (downI (a + e) n.w.jump) n.wlo n.whi ≤ 200000000000 := by
    unfold handLo handHi; omega
  obtain ⟨⟨b1, b2⟩, b3, b4⟩ := hb
  have hgr : ∀ h : i < (n.w.faces.map rowF).length, (n.w.faces.map rowF)[i]'h = rowF n.w.faces[i] := fun h => by simp
  rw [hcan]
  clear hcan g1 g2 g3 g4 hfs hok
  generalize handLo n.w.faces[i] (slackI n.w.faces[i].links) (downI (a + e) n.w.jump) n.wlo = p at *
  generalize handHi n.w.faces[i] (slackI n.w.faces[i].links) (downI (a + e) n.w.jump) n.wlo n.whi = q at *
  have rm := rMod (x.2 - p) 43200 (by decide) (by decide)
  have m1 := Int.emod_nonneg (x.2 - p) (show (43200 : Int) ≠ 0 by decide)
  have m2 := Int.emod_lt_of_pos (x.2 - p) (show (0 : Int) < 43200 by decide)
  (repeat' (first | ((first | with_reducible refine st_skip ?_ | with_reducible refine st_exit ?_); (try simp only [seqQ, blockQ, loopQ, forQ, whileQ, reduceIte, Nat.reduceEqDiff])) | (with_reducible refine st_ret ?_; ((try simp only [seqQ, blockQ, loopQ, forQ, whileQ]); first | (with_reducible refine retM_ret ?_) | refine retQ_ret ?_; simp [hi, hi2, hgr])) | refine st_seq ?_ | refine st_block ?_ | ((first | refine st_reg ?_ | refine buildP_own ?_ | refine callP_b (rh) rfl ?_ | refine callP_b (rm) rfl ?_) <;> (simp -dsimp [hi, hi2, hgr]; (repeat (simp -dsimp (disch := (first | omega | assumption | (refine Bool.eq_false_iff.1 ?_; assumption))) only [wrap_in, if_pos, if_neg]; (try simp -dsimp [hi, hi2, hgr]))))) | ((first | refine guardP_of (fun hc => ?_) (fun hc => ?_) | refine st_cond rfl (fun hc => ?_) (fun hc => ?_)) <;> (try simp only [decide_eq_true_eq, decide_eq_false_iff_not, Bool.true_eq_false, Bool.false_eq_true, bne_iff_ne, ne_eq, bne_eq_false_iff_eq, beq_iff_eq, beq_eq_false_iff_ne, Bool.not_eq_true, Bool.not_eq_false, Bool.not_eq_eq_eq_not, Bool.not_true, Bool.not_false, Decidable.not_not] at hc) <;> (try (exfalso; first | omega | exact bool_tf hc (by assumption) | exact bool_ft hc (by assumption) | exact absurd (by assumption) hc)) <;> (first | with_reducible show STri _ _ _ _ _ _ | (simp -dsimp [hi, hi2, hgr, hc]; (repeat (simp -dsimp (disch := (first | omega | assumption | (refine Bool.eq_false_iff.1 ?_; assumption))) only [wrap_in, if_pos, if_neg]; (try simp -dsimp [hi, hi2, hgr, hc]))))))))
  all_goals exact .refl _
def tmP (n : Nt) (i j : Nat) : Bool := allCan n (downI (n.nlo + i + (n.w.elo + j)) n.w.jump)
def tmE (n : Nt) : Nat := (n.w.ehi - n.w.elo + 1).toNat
def tmJ (n : Nt) (i : Nat) : Nat := if (List.range (tmE n)).findIdx (tmP n i) < tmE n then (List.range (tmE n)).findIdx (tmP n i) + 1 else tmE n
theorem tmJ_le (n : Nt) (i : Nat) : tmJ n i ≤ tmE n := by
  unfold tmJ; split <;> omega
theorem tmJ_no {n : Nt} {i j : Nat} (h : j + 1 < tmJ n i) : tmP n i j = false := by
  have hl := List.findIdx_le_length (p := tmP n i) (xs := List.range (tmE n))
  rw [List.length_range] at hl
  have hj : j < (List.range (tmE n)).findIdx (tmP n i) := by
    unfold tmJ at h
    split at h <;> omega
  have := List.not_of_lt_findIdx hj
  simpa using this
theorem tmJ_last {n : Nt} {i j : Nat} (h : j + 1 = tmJ n i) : tmP n i j = tmB n i := by
  have hl := List.findIdx_le_length (p := tmP n i) (xs := List.range (tmE n))
  rw [List.length_range] at hl
  unfold tmJ at h
  split at h
  · rename_i hc
    have hj : j = (List.range (tmE n)).findIdx (tmP n i) := by omega
    have h1 := List.findIdx_getElem (p := tmP n i) (xs := List.range (tmE n)) (w := by simpa using hc)
    simp only [List.getElem_range] at h1
    rw [hj, h1]
    symm
    unfold tmB
    refine List.any_eq_true.2 ⟨_, List.mem_range.2 hc, ?_⟩
    exact h1
  · rename_i hc
    have he : (List.range (tmE n)).findIdx (tmP n i) = tmE n := by omega
    have hall : ∀ k, k < tmE n → tmP n i k = false := fun k hk => by
      have := List.not_of_lt_findIdx (p := tmP n i) (xs := List.range (tmE n)) (i := k) (by omega)
      simpa using this
    rw [hall j (by omega)]
    symm
    unfold tmB
    rw [List.any_eq_false]
    intro k hk
    have := hall k (List.mem_range.1 hk)
    simpa [tmP] using this
def allTo (n : Nt) (d : Int) (k : Nat) : Bool := (n.l.take k).all fun x => canB n x d
theorem allTo_succ {n : Nt} {d : Int} {k : Nat} (h : k < n.l.length) : allTo n d (k + 1) = (allTo n d k && canB n n.l[k] d) := by
  unfold allTo
  rw [List.take_succ_eq_append_getElem h, List.all_append]; simp
theorem allTo_all (n : Nt) (d : Int) : allTo n d n.l.length = allCan n d := by
  unfold allTo; rw [List.take_length]; rfl
def isK (n : Nt) (i : Nat) : Nat → Bool
  | 0 => false
  | j + 1 => tmP n i j
theorem bsR_succ (N : Nat) (f : Nat → Bool) : bsR (N + 1) f = bsR N f ++ [[B (f N)]] := by simp [bsR, List.range_succ]
set_option maxHeartbeats 4000000 in
set_option maxRecDepth 100000 in
theorem rTimes' {n : Nt} (ok : NtOk n) : SC Tryz.prog 13 [cDw n.w, slS n.l, cS n.nlo n.nhi, cS n.wlo n.whi] (bsC (tmN n) (tmB n)) := by
  refine law_turretref04_Times _ _ (by simp) ?_
  have hsm := dw_sm ok.w
  have j3 := hsm.c
  have j4 := hsm.f
  have j5 := hsm.g
  have n1 := ok.n1
  have n2 := ok.n2
  have n3 := ok.n3
  have n4 := ok.n4
  have w1 := ok.w1
  have w2 := ok.w2
  have w3 := ok.w3
  have hlen := ok.len
  (repeat' (first | ((first | with_reducible refine st_skip ?_ | with_reducible refine st_exit ?_); (try simp only [seqQ, blockQ, loopQ, forQ, whileQ, reduceIte, Nat.reduceEqDiff])) | (with_reducible refine st_ret ?_; ((try simp only [seqQ, blockQ, loopQ, forQ, whileQ]); first | (with_reducible refine retM_ret ?_) | refine retQ_ret ?_; simp)) | refine st_seq ?_ | refine st_block ?_ | ((first | refine st_reg ?_ | refine buildP_own ?_) <;> (simp -dsimp; (repeat (simp -dsimp (disch := (first | omega | assumption | (refine Bool.eq_false_iff.1 ?_; assumption))) only [wrap_in, if_pos, if_neg]; (try simp -dsimp))))) | ((first | refine guardP_of (fun hc => ?_) (fun hc => ?_) | refine st_cond rfl (fun hc => ?_) (fun hc => ?_)) <;> (try simp only [decide_eq_true_eq, decide_eq_false_iff_not, Bool.true_eq_false, Bool.false_eq_true, bne_iff_ne, ne_eq, bne_eq_false_iff_eq, beq_iff_eq, beq_eq_false_iff_ne, Bool.not_eq_true, Bool.not_eq_false, Bool.not_eq_eq_eq_not, Bool.not_true, Bool.not_false, Decidable.not_not] at hc) <;> (try (exfalso; first | omega | exact bool_tf hc (by assumption) | exact bool_ft hc (by assumption) | exact absurd (by assumption) hc)) <;> (first | with_reducible show STri _ _ _ _ _ _ | (simp -dsimp [hc]; (repeat (simp -dsimp (disch := (first | omega | assumption | (refine Bool.eq_false_iff.1 ?_; assumption))) only [wrap_in, if_pos, if_neg]; (try simp -dsimp [hc]))))))))
  refine st_for [4, 6, 7, 14] (tmN n) (fun i T H => T = [(1, .c (slS n.l)), (4, .ptr 4 0), (6, .ptr 6 0), (7, .ptr 7 0), (9, .own 14 i), (10, .c (I (n.nlo + i)))] ∧
    H = [(4, .box 26 [.c (I n.w.jump), .c (I n.w.elo), .c (I n.w.ehi), .c (slF n.w.faces)]), (6, .box 23 [.c (I n.nlo), .c (I n.nhi)]), (7, .box 23 [.c (I n.wlo), .c (I n.whi)]), (14, .arr 4 1 (bsR i (tmB n)))]) (by simp) ⟨by simp, by simp [bsR]⟩ ?_
  rintro i T H hi ⟨rfl, rfl⟩
  have hbl := bsR_len i (tmB n)
  by_cases hlt : i < tmN n
  · have hle : n.nlo + i ≤ n.nhi := by unfold tmN at hlt; omega
    have hE : 1 ≤ tmE n := by unfold tmE; omega
    (repeat' (first | ((first | with_reducible refine st_skip ?_ | with_reducible refine st_exit ?_); (try simp only [seqQ, blockQ, loopQ, forQ, whileQ, reduceIte, Nat.reduceEqDiff])) | (with_reducible refine st_ret ?_; ((try simp only [seqQ, blockQ, loopQ, forQ, whileQ]); first | (with_reducible refine retM_ret ?_) | refine retQ_ret ?_; simp [hle])) | refine st_seq ?_ | refine st_block ?_ | ((first | refine st_reg ?_ | refine buildP_own ?_) <;> (simp -dsimp [hle]; (repeat (simp -dsimp (disch := (first | omega | assumption | (refine Bool.eq_false_iff.1 ?_; assumption))) only [wrap_in, if_pos, if_neg]; (try simp -dsimp [hle]))))) | ((first | refine guardP_of (fun hc => ?_) (fun hc => ?_) | refine st_cond rfl (fun hc => ?_) (fun hc => ?_)) <;> (try simp only [decide_eq_true_eq, decide_eq_false_iff_not, Bool.true_eq_false, Bool.false_eq_true, bne_iff_ne, ne_eq, bne_eq_false_iff_eq, beq_iff_eq, beq_eq_false_iff_ne, Bool.not_eq_true, Bool.not_eq_false, Bool.not_eq_eq_eq_not, Bool.not_true, Bool.not_false, Decidable.not_not] at hc) <;> (try (exfalso; first | omega | exact bool_tf hc (by assumption) | exact bool_ft hc (by assumption) | exact absurd (by assumption) hc)) <;> (first | with_reducible show STri _ _ _ _ _ _ | (simp -dsimp [hle, hc]; (repeat (simp -dsimp (disch := (first | omega | assumption | (refine Bool.eq_false_iff.1 ?_; assumption))) only [wrap_in, if_pos, if_neg]; (try simp -dsimp [hle, hc]))))))))
    refine st_for [4, 6, 7, 14] (tmJ n i) (fun j T H => T = [(1, .c (slS n.l)), (4, .ptr 4 0), (6, .ptr 6 0), (7, .ptr 7 0), (9, .own 14 i), (10, .c (I (n.nlo + i))), (11, .c (B (isK n i j))), (12, .c (I (n.w.elo + j)))] ∧
      H = [(4, .box 26 [.c (I n.w.jump), .c (I n.w.elo), .c (I n.w.ehi), .c (slF n.w.faces)]), (6, .box 23 [.c (I n.nlo), .c (I n.nhi)]), (7, .box 23 [.c (I n.wlo), .c (I n.whi)]), (14, .arr 4 1 (bsR i (tmB n)))]) (by simp) ⟨by simp [isK], by simp⟩ ?_
    rintro j T H hj ⟨rfl, rfl⟩
    have hJ := tmJ_le n i
    by_cases hjt : j < tmJ n i
    · have hje : n.w.elo + j ≤ n.w.ehi := by unfold tmE at hJ; omega
      have his : isK n i j = false := by
        cases j with
        | zero => rfl
        | succ j => exact tmJ_no hjt
      obtain ⟨d, hd⟩ : ∃ d, d = downI (n.nlo + i + (n.w.elo + j)) n.w.jump := ⟨_, rfl⟩
      have hal : ∀ k (hk : k < n.l.length), SC Tryz.prog 35 [cDw n.w, cS n.l[k].1 n.l[k].2, I (n.nlo + i), I (n.w.elo + j), cS n.wlo n.whi] (B (canB n n.l[k] d)) := fun k hk => by
        have hr := ok.rd _ (List.getElem_mem hk)
        rw [hd]
        exact rRight ok.w hr.1.1 hr.1.2 _ _ (by omega) (by omega) (by omega) (by omega) w1 (by omega) (by omega) w3 hr.2.1 hr.2.2
      (repeat' (first | ((first | with_reducible refine st_skip ?_ | with_reducible refine st_exit ?_); (try simp only [seqQ, blockQ, loopQ, forQ, whileQ, reduceIte, Nat.reduceEqDiff])) | (with_reducible refine st_ret ?_; ((try simp only [seqQ, blockQ, loopQ, forQ, whileQ]); first | (with_reducible refine retM_ret ?_) | refine retQ_ret ?_; simp [hje, his])) | refine st_seq ?_ | refine st_block ?_ | ((first | refine st_reg ?_ | refine buildP_own ?_) <;> (simp -dsimp [hje, his]; (repeat (simp -dsimp (disch := (first | omega | assumption | (refine Bool.eq_false_iff.1 ?_; assumption))) only [wrap_in, if_pos, if_neg]; (try simp -dsimp [hje, his]))))) | ((first | refine guardP_of (fun hc => ?_) (fun hc => ?_) | refine st_cond rfl (fun hc => ?_) (fun hc => ?_)) <;> (try simp only [decide_eq_true_eq, decide_eq_false_iff_not, Bool.true_eq_false, Bool.false_eq_true, bne_iff_ne, ne_eq, bne_eq_false_iff_eq, beq_iff_eq, beq_eq_false_iff_ne, Bool.not_eq_true, Bool.not_eq_false, Bool.not_eq_eq_eq_not, Bool.not_true, Bool.not_false, Decidable.not_not] at hc) <;> (try (exfalso; first | omega | exact bool_tf hc (by assumption) | exact bool_ft hc (by assumption) | exact absurd (by assumption) hc)) <;> (first | with_reducible show STri _ _ _ _ _ _ | (simp -dsimp [hje, his, hc]; (repeat (simp -dsimp (disch := (first | omega | assumption | (refine Bool.eq_false_iff.1 ?_; assumption))) only [wrap_in, if_pos, if_neg]; (try simp -dsimp [hje, his, hc]))))))))
      refine st_for [4, 6, 7, 14] n.l.length (fun k T H => T = [(1, .c (slS n.l)), (4, .ptr 4 0), (6, .ptr 6 0), (7, .ptr 7 0), (9, .own 14 i), (10, .c (I (n.nlo + i))), (11, .c (B (allTo n d k))), (12, .c (I (n.w.elo + j))), (13, .c (I k))] ∧
        H = [(4, .box 26 [.c (I n.w.jump), .c (I n.w.elo), .c (I n.w.ehi), .c (slF n.w.faces)]), (6, .box 23 [.c (I n.nlo), .c (I n.nhi)]), (7, .box 23 [.c (I n.wlo), .c (I n.whi)]), (14, .arr 4 1 (bsR i (tmB n)))]) (by simp) ⟨by simp [allTo], by simp⟩ ?_
      rintro k T H hk ⟨rfl, rfl⟩
      by_cases hkt : k < n.l.length
      · have hr := hal k hkt
        have hst := allTo_succ (d := d) hkt
        have hgr : ∀ h : k < (n.l.map rowS).length, (n.l.map rowS)[k]'h = rowS n.l[k] := fun h => by simp
        generalize hb : allTo n d k = b at *
        generalize n.l[k] = y at *
        cases b with
        | false =>
          (repeat' (first | ((first | with_reducible refine st_skip ?_ | with_reducible refine st_exit ?_); (try simp only [seqQ, blockQ, loopQ, forQ, whileQ, reduceIte, Nat.reduceEqDiff])) | (with_reducible refine st_ret ?_; ((try simp only [seqQ, blockQ, loopQ, forQ, whileQ]); first | (with_reducible refine retM_ret ?_) | refine retQ_ret ?_; simp [hkt, hgr])) | refine st_seq ?_ | refine st_block ?_ | ((first | refine st_reg ?_ | refine buildP_own ?_) <;> (simp -dsimp [hkt, hgr]; (repeat (simp -dsimp (disch := (first | omega | assumption | (refine Bool.eq_false_iff.1 ?_; assumption))) only [wrap_in, if_pos, if_neg]; (try simp -dsimp [hkt, hgr]))))) | ((first | refine guardP_of (fun hc => ?_) (fun hc => ?_) | refine st_cond rfl (fun hc => ?_) (fun hc => ?_)) <;> (try simp only [decide_eq_true_eq, decide_eq_false_iff_not, Bool.true_eq_false, Bool.false_eq_true, bne_iff_ne, ne_eq, bne_eq_false_iff_eq, beq_iff_eq, beq_eq_false_iff_ne, Bool.not_eq_true, Bool.not_eq_false, Bool.not_eq_eq_eq_not, Bool.not_true, Bool.not_false, Decidable.not_not] at hc) <;> (try (exfalso; first | omega | exact bool_tf hc (by assumption) | exact bool_ft hc (by assumption) | exact absurd (by assumption) hc)) <;> (first | with_reducible show STri _ _ _ _ _ _ | (simp -dsimp [hkt, hgr, hc]; (repeat (simp -dsimp (disch := (first | omega | assumption | (refine Bool.eq_false_iff.1 ?_; assumption))) only [wrap_in, if_pos, if_neg]; (try simp -dsimp [hkt, hgr, hc]))))))))
          all_goals exact ⟨hkt, by simp, by simp [hst], by simp⟩
        | true =>
          (repeat' (first | ((first | with_reducible refine st_skip ?_ | with_reducible refine st_exit ?_); (try simp only [seqQ, blockQ, loopQ, forQ, whileQ, reduceIte, Nat.reduceEqDiff])) | (with_reducible refine st_ret ?_; ((try simp only [seqQ, blockQ, loopQ, forQ, whileQ]); first | (with_reducible refine retM_ret ?_) | refine retQ_ret ?_; simp [hkt, hgr])) | refine st_seq ?_ | refine st_block ?_ | ((first | refine st_reg ?_ | refine buildP_own ?_ | refine callP_b (hr) rfl ?_) <;> (simp -dsimp [hkt, hgr]; (repeat (simp -dsimp (disch := (first | omega | assumption | (refine Bool.eq_false_iff.1 ?_; assumption))) only [wrap_in, if_pos, if_neg]; (try simp -dsimp [hkt, hgr]))))) | ((first | refine guardP_of (fun hc => ?_) (fun hc => ?_) | refine st_cond rfl (fun hc => ?_) (fun hc => ?_)) <;> (try simp only [decide_eq_true_eq, decide_eq_false_iff_not, Bool.true_eq_false, Bool.false_eq_true, bne_iff_ne, ne_eq, bne_eq_false_iff_eq, beq_iff_eq, beq_eq_false_iff_ne, Bool.not_eq_true, Bool.not_eq_false, Bool.not_eq_eq_eq_not, Bool.not_true, Bool.not_false, Decidable.not_not] at hc) <;> (try (exfalso; first | omega | exact bool_tf hc (by assumption) | exact bool_ft hc (by assumption) | exact absurd (by assumption) hc)) <;> (first | with_reducible show STri _ _ _ _ _ _ | (simp -dsimp [hkt, hgr, hc]; (repeat (simp -dsimp (disch := (first | omega | assumption | (refine Bool.eq_false_iff.1 ?_; assumption))) only [wrap_in, if_pos, if_neg]; (try simp -dsimp [hkt, hgr, hc]))))))))
          all_goals exact ⟨hkt, by simp, by simp [hst], by simp⟩
      · have hke : k = n.l.length := by omega
        subst hke
        have hall := allTo_all n d
        have hP : isK n i (j + 1) = allCan n d := by rw [hd]; rfl
        (repeat' (first | ((first | with_reducible refine st_skip ?_ | with_reducible refine st_exit ?_); (try simp only [seqQ, blockQ, loopQ, forQ, whileQ, reduceIte, Nat.reduceEqDiff])) | (with_reducible refine st_ret ?_; ((try simp only [seqQ, blockQ, loopQ, forQ, whileQ]); first | (with_reducible refine retM_ret ?_) | refine retQ_ret ?_; simp [hall])) | refine st_seq ?_ | refine st_block ?_ | ((first | refine st_reg ?_ | refine buildP_own ?_) <;> (simp -dsimp [hall]; (repeat (simp -dsimp (disch := (first | omega | assumption | (refine Bool.eq_false_iff.1 ?_; assumption))) only [wrap_in, if_pos, if_neg]; (try simp -dsimp [hall]))))) | ((first | refine guardP_of (fun hc => ?_) (fun hc => ?_) | refine st_cond rfl (fun hc => ?_) (fun hc => ?_)) <;> (try simp only [decide_eq_true_eq, decide_eq_false_iff_not, Bool.true_eq_false, Bool.false_eq_true, bne_iff_ne, ne_eq, bne_eq_false_iff_eq, beq_iff_eq, beq_eq_false_iff_ne, Bool.not_eq_true, Bool.not_eq_false, Bool.not_eq_eq_eq_not, Bool.not_true, Bool.not_false, Decidable.not_not] at hc) <;> (try (exfalso; first | omega | exact bool_tf hc (by assumption) | exact bool_ft hc (by assumption) | exact absurd (by assumption) hc)) <;> (first | with_reducible show STri _ _ _ _ _ _ | (simp -dsimp [hall, hc]; (repeat (simp -dsimp (disch := (first | omega | assumption | (refine Bool.eq_false_iff.1 ?_; assumption))) only [wrap_in, if_pos, if_neg]; (try simp -dsimp [hall, hc]))))))))
        all_goals exact ⟨hjt, by simp, by simp [hP, hall] <;> omega, by simp⟩
    · have hje : j = tmJ n i := by omega
      have hpos : 1 ≤ j := by
        rw [hje]; unfold tmJ; split <;> omega
      obtain ⟨j', rfl⟩ : ∃ j', j = j' + 1 := ⟨j - 1, by omega⟩
      have hl := tmJ_last hje
      have his : isK n i (j' + 1) = tmB n i := hl
      have hs := bsR_succ i (tmB n)
      have hN : tmN n ≤ 7201 := by unfold tmN; omega
      have hA : i + 1 ≤ 9223372036854775807 := by omega
      have hB : (i + 1) * 1 ≤ 140737488355328 := by omega
      have hB2 : i + 1 ≤ 140737488355328 := by omega
      cases hb : tmB n i with
      | true =>
        rw [hb] at his
        (repeat' (first | ((first | with_reducible refine st_skip ?_ | with_reducible refine st_exit ?_); (try simp only [seqQ, blockQ, loopQ, forQ, whileQ, reduceIte, Nat.reduceEqDiff])) | (with_reducible refine st_ret ?_; ((try simp only [seqQ, blockQ, loopQ, forQ, whileQ]); first | (with_reducible refine retM_ret ?_) | refine retQ_ret ?_; simp [his, hbl, hA, hB, hB2])) | refine st_seq ?_ | refine st_block ?_ | ((first | refine st_reg ?_ | refine buildP_own ?_) <;> (simp -dsimp [his, hbl, hA, hB, hB2]; (repeat (simp -dsimp (disch := (first | omega | assumption | (refine Bool.eq_false_iff.1 ?_; assumption))) only [wrap_in, if_pos, if_neg]; (try simp -dsimp [his, hbl, hA, hB, hB2]))))) | ((first | refine guardP_of (fun hc => ?_) (fun hc => ?_) | refine st_cond rfl (fun hc => ?_) (fun hc => ?_)) <;> (try simp only [decide_eq_true_eq, decide_eq_false_iff_not, Bool.true_eq_false, Bool.false_eq_true, bne_iff_ne, ne_eq, bne_eq_false_iff_eq, beq_iff_eq, beq_eq_false_iff_ne, Bool.not_eq_true, Bool.not_eq_false, Bool.not_eq_eq_eq_not, Bool.not_true, Bool.not_false, Decidable.not_not] at hc) <;> (try (exfalso; first | omega | exact bool_tf hc (by assumption) | exact bool_ft hc (by assumption) | exact absurd (by assumption) hc)) <;> (first | with_reducible show STri _ _ _ _ _ _ | (simp -dsimp [his, hbl, hA, hB, hB2, hc]; (repeat (simp -dsimp (disch := (first | omega | assumption | (refine Bool.eq_false_iff.1 ?_; assumption))) only [wrap_in, if_pos, if_neg]; (try simp -dsimp [his, hbl, hA, hB, hB2, hc]))))))))
        all_goals exact ⟨hlt, by simp, by simp <;> omega, by rw [hs, hb]; simp⟩
      | false =>
        rw [hb] at his
        have hend : ¬ n.w.elo + ((j' : Int) + 1) ≤ n.w.ehi := by
          have hE : tmJ n i = tmE n := by
            unfold tmJ at hje ⊢
            split
            · rename_i hc
              exfalso
              rw [if_pos hc] at hje
              have h1 := List.findIdx_getElem (p := tmP n i) (xs := List.range (tmE n)) (w := by simpa using hc)
              simp only [List.getElem_range] at h1
              have : j' = (List.range (tmE n)).findIdx (tmP n i) := by omega
              rw [← this, hl, hb] at h1; cases h1
            · rfl
          unfold tmE at hE; omega
        have hend2 : ¬ n.w.elo + ((j' + 1 : Nat) : Int) ≤ n.w.ehi := by omega
        (repeat' (first | ((first | with_reducible refine st_skip ?_ | with_reducible refine st_exit ?_); (try simp only [seqQ, blockQ, loopQ, forQ, whileQ, reduceIte, Nat.reduceEqDiff])) | (with_reducible refine st_ret ?_; ((try simp only [seqQ, blockQ, loopQ, forQ, whileQ]); first | (with_reducible refine retM_ret ?_) | refine retQ_ret ?_; simp [his, hbl, hA, hB, hB2, hend, hend2])) | refine st_seq ?_ | refine st_block ?_ | ((first | refine st_reg ?_ | refine buildP_own ?_) <;> (simp -dsimp [his, hbl, hA, hB, hB2, hend, hend2]; (repeat (simp -dsimp (disch := (first | omega | assumption | (refine Bool.eq_false_iff.1 ?_; assumption))) only [wrap_in, if_pos, if_neg]; (try simp -dsimp [his, hbl, hA, hB, hB2, hend, hend2]))))) | ((first | refine guardP_of (fun hc => ?_) (fun hc => ?_) | refine st_cond rfl (fun hc => ?_) (fun hc => ?_)) <;> (try simp only [decide_eq_true_eq, decide_eq_false_iff_not, Bool.true_eq_false, Bool.false_eq_true, bne_iff_ne, ne_eq, bne_eq_false_iff_eq, beq_iff_eq, beq_eq_false_iff_ne, Bool.not_eq_true, Bool.not_eq_false, Bool.not_eq_eq_eq_not, Bool.not_true, Bool.not_false, Decidable.not_not] at hc) <;> (try (exfalso; first | omega | exact bool_tf hc (by assumption) | exact bool_ft hc (by assumption) | exact absurd (by assumption) hc)) <;> (first | with_reducible show STri _ _ _ _ _ _ | (simp -dsimp [his, hbl, hA, hB, hB2, hend, hend2, hc]; (repeat (simp -dsimp (disch := (first | omega | assumption | (refine Bool.eq_false_iff.1 ?_; assumption))) only [wrap_in, if_pos, if_neg]; (try simp -dsimp [his, hbl, hA, hB, hB2, hend, hend2, hc]))))))))
        all_goals exact ⟨hlt, by simp, by simp <;> omega, by rw [hs, hb]; simp⟩
  · have hie : i = tmN n := by omega
    subst hie
    have hle : ¬ n.nlo + (tmN n : Int) ≤ n.nhi := by unfold tmN; omega
    (repeat' (first | ((first | with_reducible refine st_skip ?_ | with_reducible refine st_exit ?_); (try simp only [seqQ, blockQ, loopQ, forQ, whileQ, reduceIte, Nat.reduceEqDiff])) | (with_reducible refine st_ret ?_; ((try simp only [seqQ, blockQ, loopQ, forQ, whileQ]); first | (with_reducible refine retM_ret ?_) | refine retQ_ret ?_; simp [hle, hbl])) | refine st_seq ?_ | refine st_block ?_ | ((first | refine st_reg ?_ | refine buildP_own ?_) <;> (simp -dsimp [hle, hbl]; (repeat (simp -dsimp (disch := (first | omega | assumption | (refine Bool.eq_false_iff.1 ?_; assumption))) only [wrap_in, if_pos, if_neg]; (try simp -dsimp [hle, hbl]))))) | ((first | refine guardP_of (fun hc => ?_) (fun hc => ?_) | refine st_cond rfl (fun hc => ?_) (fun hc => ?_)) <;> (try simp only [decide_eq_true_eq, decide_eq_false_iff_not, Bool.true_eq_false, Bool.false_eq_true, bne_iff_ne, ne_eq, bne_eq_false_iff_eq, beq_iff_eq, beq_eq_false_iff_ne, Bool.not_eq_true, Bool.not_eq_false, Bool.not_eq_eq_eq_not, Bool.not_true, Bool.not_false, Decidable.not_not] at hc) <;> (try (exfalso; first | omega | exact bool_tf hc (by assumption) | exact bool_ft hc (by assumption) | exact absurd (by assumption) hc)) <;> (first | with_reducible show STri _ _ _ _ _ _ | (simp -dsimp [hle, hbl, hc]; (repeat (simp -dsimp (disch := (first | omega | assumption | (refine Bool.eq_false_iff.1 ?_; assumption))) only [wrap_in, if_pos, if_neg]; (try simp -dsimp [hle, hbl, hc]))))))))
    all_goals exact .refl _
end Go.Proofs.YtnfggkopledpcaaGreat
/- DialTimes: the references, II. -/
namespace Go.Proofs.YtnfggkopledpcaaGreat
open Go.RowKit
def bxD (w : Dw) : Blk := .box 26 [.c (I w.jump), .c (I w.elo), .c (I w.ehi), .c (slF w.faces)]
def bxP (a b : Int) : Blk := .box 23 [.c (I a), .c (I b)]
attribute [simp] bxD bxP
set_option maxHeartbeats 2000000 in
theorem rNotes' (n : Nt) (hw : DwLen n.w) (hl : n.l.length ≤ 1000000) : SC Tryz.prog 6 [cDw n.w, slS n.l, cS n.nlo n.nhi, cS n.wlo n.whi] (I (ntErr n)) := by
  refine law_turretref04_Notes _ _ (by simp) ?_
  have hn := hw.n
  have rw' := rWorks' n.w hw
  by_cases hd : dwB n.w = true
  · rw [hd] at rw'
    by_cases h20 : n.l.length > 20
    · have h20' : (n.l.length : Int) > 20 := by omega
      have e : ntErr n = 5 := by unfold ntErr; simp [hd, h20]
      (repeat' (first | ((first | with_reducible refine st_skip ?_ | with_reducible refine st_exit ?_); (try simp only [seqQ, blockQ, loopQ, forQ, whileQ, reduceIte, Nat.reduceEqDiff])) | (with_reducible refine st_ret ?_; ((try simp only [seqQ, blockQ, loopQ, forQ, whileQ]); first | (with_reducible refine retM_ret ?_) | refine retQ_ret ?_; simp [h20', e])) | refine st_seq ?_ | refine st_block ?_ | ((first | refine st_reg ?_ | refine buildP_own ?_ | refine callP_b (rw') rfl ?_) <;> (simp -dsimp [h20', e]; (repeat (simp -dsimp (disch := (first | omega | assumption | (refine Bool.eq_false_iff.1 ?_; assumption))) only [wrap_in, if_pos, if_neg]; (try simp -dsimp [h20', e]))))) | ((first | refine guardP_of (fun hc => ?_) (fun hc => ?_) | refine st_cond rfl (fun hc => ?_) (fun hc => ?_)) <;> (try simp only [decide_eq_true_eq, decide_eq_false_iff_not, Bool.true_eq_false, Bool.false_eq_true, bne_iff_ne, ne_eq, bne_eq_false_iff_eq, beq_iff_eq, beq_eq_false_iff_ne, Bool.not_eq_true, Bool.not_eq_false, Bool.not_eq_eq_eq_not, Bool.not_true, Bool.not_false, Decidable.not_not] at hc) <;> (try (exfalso; first | omega | exact bool_tf hc (by assumption) | exact bool_ft hc (by assumption) | exact absurd (by assumption) hc)) <;> (first | with_reducible show STri _ _ _ _ _ _ | (simp -dsimp [h20', e, hc]; (repeat (simp -dsimp (disch := (first | omega | assumption | (refine Bool.eq_false_iff.1 ?_; assumption))) only [wrap_in, if_pos, if_neg]; (try simp -dsimp [h20', e, hc]))))))))
      all_goals exact .refl _
    · have h20' : ¬ (n.l.length : Int) > 20 := by omega
      (repeat' (first | ((first | with_reducible refine st_skip ?_ | with_reducible refine st_exit ?_); (try simp only [seqQ, blockQ, loopQ, forQ, whileQ, reduceIte, Nat.reduceEqDiff])) | (with_reducible refine st_ret ?_; ((try simp only [seqQ, blockQ, loopQ, forQ, whileQ]); first | (with_reducible refine retM_ret ?_) | refine retQ_ret ?_; simp [h20'])) | refine st_seq ?_ | refine st_block ?_ | ((first | refine st_reg ?_ | refine buildP_own ?_ | refine callP_b (rw') rfl ?_) <;> (simp -dsimp [h20']; (repeat (simp -dsimp (disch := (first | omega | assumption | (refine Bool.eq_false_iff.1 ?_; assumption))) only [wrap_in, if_pos, if_neg]; (try simp -dsimp [h20']))))) | ((first | refine guardP_of (fun hc => ?_) (fun hc => ?_) | refine st_cond rfl (fun hc => ?_) (fun hc => ?_)) <;> (try simp only [decide_eq_true_eq, decide_eq_false_iff_not, Bool.true_eq_false, Bool.false_eq_true, bne_iff_ne, ne_eq, bne_eq_false_iff_eq, beq_iff_eq, beq_eq_false_iff_ne, Bool.not_eq_true, Bool.not_eq_false, Bool.not_eq_eq_eq_not, Bool.not_true, Bool.not_false, Decidable.not_not] at hc) <;> (try (exfalso; first | omega | exact bool_tf hc (by assumption) | exact bool_ft hc (by assumption) | exact absurd (by assumption) hc)) <;> (first | with_reducible show STri _ _ _ _ _ _ | (simp -dsimp [h20', hc]; (repeat (simp -dsimp (disch := (first | omega | assumption | (refine Bool.eq_false_iff.1 ?_; assumption))) only [wrap_in, if_pos, if_neg]; (try simp -dsimp [h20', hc]))))))))
      refine st_for [4, 6, 7] n.l.length (fun k T H => RdTo n.w.faces.length n.l k ∧ T = [(1, .c (.sl 2 (n.l.map rowS))), (4, .ptr 4 0), (6, .ptr 6 0), (7, .ptr 7 0), (9, .c (I k))] ∧ H = [(4, bxD n.w), (6, bxP n.nlo n.nhi), (7, bxP n.wlo n.whi)]) (by simp) ⟨by simp [RdTo], by simp, by simp⟩ ?_
      rintro k T H hk ⟨ht, rfl, rfl⟩
      by_cases hlt : k < n.l.length
      · have hgr : ∀ h : k < (n.l.map rowS).length, (n.l.map rowS)[k]'h = rowS n.l[k] := fun h => by simp
        have r1 := rIn n.l[k].1 0 (n.w.faces.length - 1)
        have r2 := rIn n.l[k].2 0 43199
        by_cases hf : inB 0 (n.w.faces.length - 1) n.l[k].1 = true
        · by_cases hs : inB 0 43199 n.l[k].2 = true
          · have he : rdE n.w.faces.length n.l[k] = 0 := by unfold rdE; rw [if_neg (by simp [hf]), if_neg (by simp [hs])]
            have hsu := rd_succ hlt ht he
            rw [hf] at r1
            rw [hs] at r2
            generalize n.l[k] = y at *
            (repeat' (first | ((first | with_reducible refine st_skip ?_ | with_reducible refine st_exit ?_); (try simp only [seqQ, blockQ, loopQ, forQ, whileQ, reduceIte, Nat.reduceEqDiff])) | (with_reducible refine st_ret ?_; ((try simp only [seqQ, blockQ, loopQ, forQ, whileQ]); first | (with_reducible refine retM_ret ?_) | refine retQ_ret ?_; simp [hlt, hgr])) | refine st_seq ?_ | refine st_block ?_ | ((first | refine st_reg ?_ | refine buildP_own ?_ | refine callP_b (r1) rfl ?_ | refine callP_b (r2) rfl ?_) <;> (simp -dsimp [hlt, hgr]; (repeat (simp -dsimp (disch := (first | omega | assumption | (refine Bool.eq_false_iff.1 ?_; assumption))) only [wrap_in, if_pos, if_neg]; (try simp -dsimp [hlt, hgr]))))) | ((first | refine guardP_of (fun hc => ?_) (fun hc => ?_) | refine st_cond rfl (fun hc => ?_) (fun hc => ?_)) <;> (try simp only [decide_eq_true_eq, decide_eq_false_iff_not, Bool.true_eq_false, Bool.false_eq_true, bne_iff_ne, ne_eq, bne_eq_false_iff_eq, beq_iff_eq, beq_eq_false_iff_ne, Bool.not_eq_true, Bool.not_eq_false, Bool.not_eq_eq_eq_not, Bool.not_true, Bool.not_false, Decidable.not_not] at hc) <;> (try (exfalso; first | omega | exact bool_tf hc (by assumption) | exact bool_ft hc (by assumption) | exact absurd (by assumption) hc)) <;> (first | with_reducible show STri _ _ _ _ _ _ | (simp -dsimp [hlt, hgr, hc]; (repeat (simp -dsimp (disch := (first | omega | assumption | (refine Bool.eq_false_iff.1 ?_; assumption))) only [wrap_in, if_pos, if_neg]; (try simp -dsimp [hlt, hgr, hc]))))))))
            all_goals exact ⟨hlt, by simp, hsu, by simp, by simp⟩
          · have he : rdE n.w.faces.length n.l[k] = 2 := by unfold rdE; rw [if_neg (by simp [hf]), if_pos (by simpa using hs)]
            have e : ntErr n = 2 := by
              have := rd_at hlt ht (by rw [he]; decide)
              rw [he] at this
              unfold ntErr
              rw [if_neg (by simp [hd]), if_neg h20, if_pos (by rw [this]; decide), this]
            rw [hf] at r1
            rw [show inB 0 43199 n.l[k].2 = false by simpa using hs] at r2
            generalize n.l[k] = y at *
            (repeat' (first | ((first | with_reducible refine st_skip ?_ | with_reducible refine st_exit ?_); (try simp only [seqQ, blockQ, loopQ, forQ, whileQ, reduceIte, Nat.reduceEqDiff])) | (with_reducible refine st_ret ?_; ((try simp only [seqQ, blockQ, loopQ, forQ, whileQ]); first | (with_reducible refine retM_ret ?_) | refine retQ_ret ?_; simp [hlt, hgr, e])) | refine st_seq ?_ | refine st_block ?_ | ((first | refine st_reg ?_ | refine buildP_own ?_ | refine callP_b (r1) rfl ?_ | refine callP_b (r2) rfl ?_) <;> (simp -dsimp [hlt, hgr, e]; (repeat (simp -dsimp (disch := (first | omega | assumption | (refine Bool.eq_false_iff.1 ?_; assumption))) only [wrap_in, if_pos, if_neg]; (try simp -dsimp [hlt, hgr, e]))))) | ((first | refine guardP_of (fun hc => ?_) (fun hc => ?_) | refine st_cond rfl (fun hc => ?_) (fun hc => ?_)) <;> (try simp only [decide_eq_true_eq, decide_eq_false_iff_not, Bool.true_eq_false, Bool.false_eq_true, bne_iff_ne, ne_eq, bne_eq_false_iff_eq, beq_iff_eq, beq_eq_false_iff_ne, Bool.not_eq_true, Bool.not_eq_false, Bool.not_eq_eq_eq_not, Bool.not_true, Bool.not_false, Decidable.not_not] at hc) <;> (try (exfalso; first | omega | exact bool_tf hc (by assumption) | exact bool_ft hc (by assumption) | exact absurd (by assumption) hc)) <;> (first | with_reducible show STri _ _ _ _ _ _ | (simp -dsimp [hlt, hgr, e, hc]; (repeat (simp -dsimp (disch := (first | omega | assumption | (refine Bool.eq_false_iff.1 ?_; assumption))) only [wrap_in, if_pos, if_neg]; (try simp -dsimp [hlt, hgr, e, hc]))))))))
            all_goals exact .refl _
        · have he : rdE n.w.faces.length n.l[k] = 7 := by unfold rdE; rw [if_pos (by simpa using hf)]
          have e : ntErr n = 7 := by
            have := rd_at hlt ht (by rw [he]; decide)
            rw [he] at this
            unfold ntErr
            rw [if_neg (by simp [hd]), if_neg h20, if_pos (by rw [this]; decide), this]
          rw [show inB 0 (n.w.faces.length - 1) n.l[k].1 = false by simpa using hf] at r1
          generalize n.l[k] = y at *
          (repeat' (first | ((first | with_reducible refine st_skip ?_ | with_reducible refine st_exit ?_); (try simp only [seqQ, blockQ, loopQ, forQ, whileQ, reduceIte, Nat.reduceEqDiff])) | (with_reducible refine st_ret ?_; ((try simp only [seqQ, blockQ, loopQ, forQ, whileQ]); first | (with_reducible refine retM_ret ?_) | refine retQ_ret ?_; simp [hlt, hgr, e])) | refine st_seq ?_ | refine st_block ?_ | ((first | refine st_reg ?_ | refine buildP_own ?_ | refine callP_b (r1) rfl ?_) <;> (simp -dsimp [hlt, hgr, e]; (repeat (simp -dsimp (disch := (first | omega | assumption | (refine Bool.eq_false_iff.1 ?_; assumption))) only [wrap_in, if_pos, if_neg]; (try simp -dsimp [hlt, hgr, e]))))) | ((first | refine guardP_of (fun hc => ?_) (fun hc => ?_) | refine st_cond rfl (fun hc => ?_) (fun hc => ?_)) <;> (try simp only [decide_eq_true_eq, decide_eq_false_iff_not, Bool.true_eq_false, Bool.false_eq_true, bne_iff_ne, ne_eq, bne_eq_false_iff_eq, beq_iff_eq, beq_eq_false_iff_ne, Bool.not_eq_true, Bool.not_eq_false, Bool.not_eq_eq_eq_not, Bool.not_true, Bool.not_false, Decidable.not_not] at hc) <;> (try (exfalso; first | omega | exact bool_tf hc (by assumption) | exact bool_ft hc (by assumption) | exact absurd (by assumption) hc)) <;> (first | with_reducible show STri _ _ _ _ _ _ | (simp -dsimp [hlt, hgr, e, hc]; (repeat (simp -dsimp (disch := (first | omega | assumption | (refine Bool.eq_false_iff.1 ?_; assumption))) only [wrap_in, if_pos, if_neg]; (try simp -dsimp [hlt, hgr, e, hc]))))))))
          all_goals exact .refl _
      · have hke : k = n.l.length := by omega
        subst hke
        have hr0 := rd_none ht
        have r3 := rSpan n.nlo n.nhi 0 3155760000
        have r4 := rWind n.wlo n.whi
        have hnt : ntErr n = if spanB 0 3155760000 n.nlo n.nhi = false ∨ n.nhi - n.nlo > 7200 then 3 else if spanB (-10000) 10000 n.wlo n.whi = false then 2 else 0 := by
          unfold ntErr
          rw [if_neg (by simp [hd]), if_neg h20, if_neg (by rw [hr0]; simp)]
        by_cases hsp : spanB 0 3155760000 n.nlo n.nhi = true
        · have hb : (0 ≤ n.nlo ∧ n.nlo ≤ 3155760000) ∧ 0 ≤ n.nhi ∧ n.nhi ≤ 3155760000 := by
            have := hsp
            unfold spanB at this
            simp only [Bool.and_eq_true, decide_eq_true_eq] at this
            omega
          rw [hsp] at r3
          by_cases h7 : n.nhi - n.nlo > 7200
          · have e : ntErr n = 3 := by rw [hnt, if_pos (.inr h7)]
            (repeat' (first | ((first | with_reducible refine st_skip ?_ | with_reducible refine st_exit ?_); (try simp only [seqQ, blockQ, loopQ, forQ, whileQ, reduceIte, Nat.reduceEqDiff])) | (with_reducible refine st_ret ?_; ((try simp only [seqQ, blockQ, loopQ, forQ, whileQ]); first | (with_reducible refine retM_ret ?_) | refine retQ_ret ?_; simp [hlt, h7, e])) | refine st_seq ?_ | refine st_block ?_ | ((first | refine st_reg ?_ | refine buildP_own ?_ | refine callP_b (r3) rfl ?_) <;> (simp -dsimp [hlt, h7, e]; (repeat (simp -dsimp (disch := (first | omega | assumption | (refine Bool.eq_false_iff.1 ?_; assumption))) only [wrap_in, if_pos, if_neg]; (try simp -dsimp [hlt, h7, e]))))) | ((first | refine guardP_of (fun hc => ?_) (fun hc => ?_) | refine st_cond rfl (fun hc => ?_) (fun hc => ?_)) <;> (try simp only [decide_eq_true_eq, decide_eq_false_iff_not, Bool.true_eq_false, Bool.false_eq_true, bne_iff_ne, ne_eq, bne_eq_false_iff_eq, beq_iff_eq, beq_eq_false_iff_ne, Bool.not_eq_true, Bool.not_eq_false, Bool.not_eq_eq_eq_not, Bool.not_true, Bool.not_false, Decidable.not_not] at hc) <;> (try (exfalso; first | omega | exact bool_tf hc (by assumption) | exact bool_ft hc (by assumption) | exact absurd (by assumption) hc)) <;> (first | with_reducible show STri _ _ _ _ _ _ | (simp -dsimp [hlt, h7, e, hc]; (repeat (simp -dsimp (disch := (first | omega | assumption | (refine Bool.eq_false_iff.1 ?_; assumption))) only [wrap_in, if_pos, if_neg]; (try simp -dsimp [hlt, h7, e, hc]))))))))
            all_goals exact .refl _
          · by_cases hwi : spanB (-10000) 10000 n.wlo n.whi = true
            · have e : ntErr n = 0 := by rw [hnt, if_neg (by simp [hsp]; omega), if_neg (by simp [hwi])]
              rw [hwi] at r4
              (repeat' (first | ((first | with_reducible refine st_skip ?_ | with_reducible refine st_exit ?_); (try simp only [seqQ, blockQ, loopQ, forQ, whileQ, reduceIte, Nat.reduceEqDiff])) | (with_reducible refine st_ret ?_; ((try simp only [seqQ, blockQ, loopQ, forQ, whileQ]); first | (with_reducible refine retM_ret ?_) | refine retQ_ret ?_; simp [hlt, h7, e])) | refine st_seq ?_ | refine st_block ?_ | ((first | refine st_reg ?_ | refine buildP_own ?_ | refine callP_b (r3) rfl ?_ | refine callP_b (r4) rfl ?_) <;> (simp -dsimp [hlt, h7, e]; (repeat (simp -dsimp (disch := (first | omega | assumption | (refine Bool.eq_false_iff.1 ?_; assumption))) only [wrap_in, if_pos, if_neg]; (try simp -dsimp [hlt, h7, e]))))) | ((first | refine guardP_of (fun hc => ?_) (fun hc => ?_) | refine st_cond rfl (fun hc => ?_) (fun hc => ?_)) <;> (try simp only [decide_eq_true_eq, decide_eq_false_iff_not, Bool.true_eq_false, Bool.false_eq_true, bne_iff_ne, ne_eq, bne_eq_false_iff_eq, beq_iff_eq, beq_eq_false_iff_ne, Bool.not_eq_true, Bool.not_eq_false, Bool.not_eq_eq_eq_not, Bool.not_true, Bool.not_false, Decidable.not_not] at hc) <;> (try (exfalso; first | omega | exact bool_tf hc (by assumption) | exact bool_ft hc (by assumption) | exact absurd (by assumption) hc)) <;> (first | with_reducible show STri _ _ _ _ _ _ | (simp -dsimp [hlt, h7, e, hc]; (repeat (simp -dsimp (disch := (first | omega | assumption | (refine Bool.eq_false_iff.1 ?_; assumption))) only [wrap_in, if_pos, if_neg]; (try simp -dsimp [hlt, h7, e, hc]))))))))
              all_goals exact .refl _
            · have hwi' : spanB (-10000) 10000 n.wlo n.whi = false := by simpa using hwi
              have e : ntErr n = 2 := by rw [hnt, if_neg (by simp [hsp]; omega), if_pos hwi']
              rw [hwi'] at r4
              (repeat' (first | ((first | with_reducible refine st_skip ?_ | with_reducible refine st_exit ?_); (try simp only [seqQ, blockQ, loopQ, forQ, whileQ, reduceIte, Nat.reduceEqDiff])) | (with_reducible refine st_ret ?_; ((try simp only [seqQ, blockQ, loopQ, forQ, whileQ]); first | (with_reducible refine retM_ret ?_) | refine retQ_ret ?_; simp [hlt, h7, e])) | refine st_seq ?_ | refine st_block ?_ | ((first | refine st_reg ?_ | refine buildP_own ?_ | refine callP_b (r3) rfl ?_ | refine callP_b (r4) rfl ?_) <;> (simp -dsimp [hlt, h7, e]; (repeat (simp -dsimp (disch := (first | omega | assumption | (refine Bool.eq_false_iff.1 ?_; assumption))) only [wrap_in, if_pos, if_neg]; (try simp -dsimp [hlt, h7, e]))))) | ((first | refine guardP_of (fun hc => ?_) (fun hc => ?_) | refine st_cond rfl (fun hc => ?_) (fun hc => ?_)) <;> (try simp only [decide_eq_true_eq, decide_eq_false_iff_not, Bool.true_eq_false, Bool.false_eq_true, bne_iff_ne, ne_eq, bne_eq_false_iff_eq, beq_iff_eq, beq_eq_false_iff_ne, Bool.not_eq_true, Bool.not_eq_false, Bool.not_eq_eq_eq_not, Bool.not_true, Bool.not_false, Decidable.not_not] at hc) <;> (try (exfalso; first | omega | exact bool_tf hc (by assumption) | exact bool_ft hc (by assumption) | exact absurd (by assumption) hc)) <;> (first | with_reducible show STri _ _ _ _ _ _ | (simp -dsimp [hlt, h7, e, hc]; (repeat (simp -dsimp (disch := (first | omega | assumption | (refine Bool.eq_false_iff.1 ?_; assumption))) only [wrap_in, if_pos, if_neg]; (try simp -dsimp [hlt, h7, e, hc]))))))))
              all_goals exact .refl _
        · have hsp' : spanB 0 3155760000 n.nlo n.nhi = false := by simpa using hsp
          have e : ntErr n = 3 := by rw [hnt, if_pos (.inl hsp')]
          rw [hsp'] at r3
          (repeat' (first | ((first | with_reducible refine st_skip ?_ | with_reducible refine st_exit ?_); (try simp only [seqQ, blockQ, loopQ, forQ, whileQ, reduceIte, Nat.reduceEqDiff])) | (with_reducible refine st_ret ?_; ((try simp only [seqQ, blockQ, loopQ, forQ, whileQ]); first | (with_reducible refine retM_ret ?_) | refine retQ_ret ?_; simp [hlt, e])) | refine st_seq ?_ | refine st_block ?_ | ((first | refine st_reg ?_ | refine buildP_own ?_ | refine callP_b (r3) rfl ?_) <;> (simp -dsimp [hlt, e]; (repeat (simp -dsimp (disch := (first | omega | assumption | (refine Bool.eq_false_iff.1 ?_; assumption))) only [wrap_in, if_pos, if_neg]; (try simp -dsimp [hlt, e]))))) | ((first | refine guardP_of (fun hc => ?_) (fun hc => ?_) | refine st_cond rfl (fun hc => ?_) (fun hc => ?_)) <;> (try simp only [decide_eq_true_eq, decide_eq_false_iff_not, Bool.true_eq_false, Bool.false_eq_true, bne_iff_ne, ne_eq, bne_eq_false_iff_eq, beq_iff_eq, beq_eq_false_iff_ne, Bool.not_eq_true, Bool.not_eq_false, Bool.not_eq_eq_eq_not, Bool.not_true, Bool.not_false, Decidable.not_not] at hc) <;> (try (exfalso; first | omega | exact bool_tf hc (by assumption) | exact bool_ft hc (by assumption) | exact absurd (by assumption) hc)) <;> (first | with_reducible show STri _ _ _ _ _ _ | (simp -dsimp [hlt, e, hc]; (repeat (simp -dsimp (disch := (first | omega | assumption | (refine Bool.eq_false_iff.1 ?_; assumption))) only [wrap_in, if_pos, if_neg]; (try simp -dsimp [hlt, e, hc]))))))))
          all_goals exact .refl _
  · have hd' : dwB n.w = false := by simpa using hd
    have e : ntErr n = 2 := by unfold ntErr; simp [hd']
    rw [hd'] at rw'
    (repeat' (first | ((first | with_reducible refine st_skip ?_ | with_reducible refine st_exit ?_); (try simp only [seqQ, blockQ, loopQ, forQ, whileQ, reduceIte, Nat.reduceEqDiff])) | (with_reducible refine st_ret ?_; ((try simp only [seqQ, blockQ, loopQ, forQ, whileQ]); first | (with_reducible refine retM_ret ?_) | refine retQ_ret ?_; simp [e])) | refine st_seq ?_ | refine st_block ?_ | ((first | refine st_reg ?_ | refine buildP_own ?_ | refine callP_b (rw') rfl ?_) <;> (simp -dsimp [e]; (repeat (simp -dsimp (disch := (first | omega | assumption | (refine Bool.eq_false_iff.1 ?_; assumption))) only [wrap_in, if_pos, if_neg]; (try simp -dsimp [e]))))) | ((first | refine guardP_of (fun hc => ?_) (fun hc => ?_) | refine st_cond rfl (fun hc => ?_) (fun hc => ?_)) <;> (try simp only [decide_eq_true_eq, decide_eq_false_iff_not, Bool.true_eq_false, Bool.false_eq_true, bne_iff_ne, ne_eq, bne_eq_false_iff_eq, beq_iff_eq, beq_eq_false_iff_ne, Bool.not_eq_true, Bool.not_eq_false, Bool.not_eq_eq_eq_not, Bool.not_true, Bool.not_false, Decidable.not_not] at hc) <;> (try (exfalso; first | omega | exact bool_tf hc (by assumption) | exact bool_ft hc (by assumption) | exact absurd (by assumption) hc)) <;> (first | with_reducible show STri _ _ _ _ _ _ | (simp -dsimp [e, hc]; (repeat (simp -dsimp (disch := (first | omega | assumption | (refine Bool.eq_false_iff.1 ?_; assumption))) only [wrap_in, if_pos, if_neg]; (try simp -dsimp [e, hc]))))))))
    all_goals exact .refl _
theorem sPairsNo (n : Nt) (hw : DwLen n.w) (hl : n.l.length ≤ 1000000) (h : ¬ ntErr n = 0) : SC Tryz.prog 10 [cDw n.w, slS n.l, cS n.nlo n.nhi, cS n.wlo n.whi] (.tup [slS [], I (ntErr n)]) := by
  refine mlaw_dial_Pairs _ _ (by simp) ?_
  have jn := sNotesNo hw hl h
  (repeat' (first | ((first | with_reducible refine st_skip ?_ | with_reducible refine st_exit ?_); (try simp only [seqQ, blockQ, loopQ, forQ, whileQ, reduceIte, Nat.reduceEqDiff])) | (with_reducible refine st_ret ?_; ((try simp only [seqQ, blockQ, loopQ, forQ, whileQ]); first | (with_reducible refine retM_ret ?_) | refine retQ_ret ?_; simp [h])) | refine st_seq ?_ | refine st_block ?_ | ((first | refine st_reg ?_ | refine buildP_own ?_ | refine callP_b (jn) rfl ?_) <;> (simp -dsimp [h]; (repeat (simp -dsimp (disch := (first | omega | assumption | (refine Bool.eq_false_iff.1 ?_; assumption))) only [wrap_in, if_pos, if_neg]; (try simp -dsimp [h]))))) | ((first | refine guardP_of (fun hc => ?_) (fun hc => ?_) | refine st_cond rfl (fun hc => ?_) (fun hc => ?_)) <;> (try simp only [decide_eq_true_eq, decide_eq_false_iff_not, Bool.true_eq_false, Bool.false_eq_true, bne_iff_ne, ne_eq, bne_eq_false_iff_eq, beq_iff_eq, beq_eq_false_iff_ne, Bool.not_eq_true, Bool.not_eq_false, Bool.not_eq_eq_eq_not, Bool.not_true, Bool.not_false, Decidable.not_not] at hc) <;> (try (exfalso; first | omega | exact bool_tf hc (by assumption) | exact bool_ft hc (by assumption) | exact absurd (by assumption) hc)) <;> (first | with_reducible show STri _ _ _ _ _ _ | (simp -dsimp [h, hc]; (repeat (simp -dsimp (disch := (first | omega | assumption | (refine Bool.eq_false_iff.1 ?_; assumption))) only [wrap_in, if_pos, if_neg]; (try simp -dsimp [h, hc]))))))))
  exact .tup _ _ (.cons _ _ _ _ (.nil _) (.cons _ _ _ _ (.refl _) .nil))
set_option maxHeartbeats 4000000 in
set_option maxRecDepth 100000 in
theorem rPairs' {n : Nt} (ok : NtOk n) : SC Tryz.prog 14 [cDw n.w, slS n.l, cS n.nlo n.nhi, cS n.wlo n.whi] (slS (rpO n n.l.length)) := by
  refine law_turretref04_Pairs _ _ (by simp) ?_
  have n1 := ok.n1
  have n2 := ok.n2
  have n3 := ok.n3
  have n4 := ok.n4
  have h20 := ok.len
  have hN : tmN n ≤ 7201 := by unfold tmN; omega
  (repeat' (first | ((first | with_reducible refine st_skip ?_ | with_reducible refine st_exit ?_); (try simp only [seqQ, blockQ, loopQ, forQ, whileQ, reduceIte, Nat.reduceEqDiff])) | (with_reducible refine st_ret ?_; ((try simp only [seqQ, blockQ, loopQ, forQ, whileQ]); first | (with_reducible refine retM_ret ?_) | refine retQ_ret ?_; simp)) | refine st_seq ?_ | refine st_block ?_ | ((first | refine st_reg ?_ | refine buildP_own ?_) <;> (simp -dsimp; (repeat (simp -dsimp (disch := (first | omega | assumption | (refine Bool.eq_false_iff.1 ?_; assumption))) only [wrap_in, if_pos, if_neg]; (try simp -dsimp))))) | ((first | refine guardP_of (fun hc => ?_) (fun hc => ?_) | refine st_cond rfl (fun hc => ?_) (fun hc => ?_)) <;> (try simp only [decide_eq_true_eq, decide_eq_false_iff_not, Bool.true_eq_false, Bool.false_eq_true, bne_iff_ne, ne_eq, bne_eq_false_iff_eq, beq_iff_eq, beq_eq_false_iff_ne, Bool.not_eq_true, Bool.not_eq_false, Bool.not_eq_eq_eq_not, Bool.not_true, Bool.not_false, Decidable.not_not] at hc) <;> (try (exfalso; first | omega | exact bool_tf hc (by assumption) | exact bool_ft hc (by assumption) | exact absurd (by assumption) hc)) <;> (first | with_reducible show STri _ _ _ _ _ _ | (simp -dsimp [hc]; (repeat (simp -dsimp (disch := (first | omega | assumption | (refine Bool.eq_false_iff.1 ?_; assumption))) only [wrap_in, if_pos, if_neg]; (try simp -dsimp [hc]))))))))
  refine st_for [4, 6, 7, 12] n.l.length (fun i T H => T = [(1, .c (slS n.l)), (4, .ptr 4 0), (6, .ptr 6 0), (7, .ptr 7 0), (9, .own 12 (rpO n i).length), (10, .c (I i))] ∧ H = [(4, bxD n.w), (6, bxP n.nlo n.nhi), (7, bxP n.wlo n.whi), (12, .arr 50 2 ((rpO n i).map rowS))]) (by simp) ⟨by simp [rpO], by simp [rpO]⟩ ?_
  rintro i T H hi ⟨rfl, rfl⟩
  have hol := rpO_len n i
  have hm1 : i * n.l.length ≤ 20 * 20 := Nat.mul_le_mul (by omega) (by omega)
  by_cases hlt : i < n.l.length
  · have hlow := rpI_low n i (k := i + 1) (Nat.le_refl _)
    (repeat' (first | ((first | with_reducible refine st_skip ?_ | with_reducible refine st_exit ?_); (try simp only [seqQ, blockQ, loopQ, forQ, whileQ, reduceIte, Nat.reduceEqDiff])) | (with_reducible refine st_ret ?_; ((try simp only [seqQ, blockQ, loopQ, forQ, whileQ]); first | (with_reducible refine retM_ret ?_) | refine retQ_ret ?_; simp [hlt])) | refine st_seq ?_ | refine st_block ?_ | ((first | refine st_reg ?_ | refine buildP_own ?_) <;> (simp -dsimp [hlt]; (repeat (simp -dsimp (disch := (first | omega | assumption | (refine Bool.eq_false_iff.1 ?_; assumption))) only [wrap_in, if_pos, if_neg]; (try simp -dsimp [hlt]))))) | ((first | refine guardP_of (fun hc => ?_) (fun hc => ?_) | refine st_cond rfl (fun hc => ?_) (fun hc => ?_)) <;> (try simp only [decide_eq_true_eq, decide_eq_false_iff_not, Bool.true_eq_false, Bool.false_eq_true, bne_iff_ne, ne_eq, bne_eq_false_iff_eq, beq_iff_eq, beq_eq_false_iff_ne, Bool.not_eq_true, Bool.not_eq_false, Bool.not_eq_eq_eq_not, Bool.not_true, Bool.not_false, Decidable.not_not] at hc) <;> (try (exfalso; first | omega | exact bool_tf hc (by assumption) | exact bool_ft hc (by assumption) | exact absurd (by assumption) hc)) <;> (first | with_reducible show STri _ _ _ _ _ _ | (simp -dsimp [hlt, hc]; (repeat (simp -dsimp (disch := (first | omega | assumption | (refine Bool.eq_false_iff.1 ?_; assumption))) only [wrap_in, if_pos, if_neg]; (try simp -dsimp [hlt, hc]))))))))
    refine st_for [4, 6, 7, 12] (n.l.length - (i + 1)) (fun j T H => T = [(1, .c (slS n.l)), (4, .ptr 4 0), (6, .ptr 6 0), (7, .ptr 7 0), (9, .own 12 ((rpO n i).length + (rpI n i (i + 1 + j)).length)), (10, .c (I i)), (11, .c (I ((i : Int) + 1 + j)))] ∧ H = [(4, bxD n.w), (6, bxP n.nlo n.nhi), (7, bxP n.wlo n.whi), (12, .arr 50 2 ((rpO n i ++ rpI n i (i + 1 + j)).map rowS))]) (by simp) ⟨by simp [hlow], by simp [hlow]⟩ ?_
    rintro j T H hj ⟨rfl, rfl⟩
    have hil := rpI_len n i (i + 1 + j)
    by_cases hjt : j < n.l.length - (i + 1)
    · have hk : i + 1 + j < n.l.length := by omega
      have hk2 : (i : Int) + 1 + j < n.l.length := by omega
      have ht := rTimes' (two_ok ok hlt hk)
      have hs := rSpans (tmN n) (tmB (twoN n i (i + 1 + j))) 0 (by omega) (by decide) (by decide)
      have hme := meet_iff ok hlt hk
      have hsu := rpI_succ n i (i + 1 + j)
      have hA : (rpO n i).length + (rpI n i (i + 1 + j)).length + 1 ≤ 9223372036854775807 := by omega
      have hB : ((rpO n i).length + (rpI n i (i + 1 + j)).length + 1) * 16 ≤ 140737488355328 := by omega
      have hg1 : ∀ h : i < (n.l.map rowS).length, (n.l.map rowS)[i]'h = rowS (gp n.l i) := fun h => by simp [gp, hlt]
      have hg2 : ∀ h : i + 1 + j < (n.l.map rowS).length, (n.l.map rowS)[i + 1 + j]'h = rowS (gp n.l (i + 1 + j)) := fun h => by simp [gp, hk]
      have htn : ((i : Int) + 1 + (j : Int)).toNat = i + 1 + j := by omega
      have hcast : (i : Int) + 1 + (j : Int) = ((i + 1 + j : Nat) : Int) := by omega
      have ht : SC Tryz.prog 13 [cDw n.w, slS [gp n.l i, gp n.l (i + 1 + j)], cS n.nlo n.nhi, cS n.wlo n.whi] (bsC (tmN n) (tmB (twoN n i (i + 1 + j)))) := ht
      have heq : i + 1 + (j + 1) = (i + 1 + j) + 1 := by omega
      generalize gp n.l i = y at *
      generalize gp n.l (i + 1 + j) = z at *
      by_cases hno : noMeet n (i + 1 + j) i = true
      · have hnil := hme.2 hno
        rw [hnil] at hs
        rw [if_pos ⟨by omega, hno⟩] at hsu
        (repeat' (first | ((first | with_reducible refine st_skip ?_ | with_reducible refine st_exit ?_); (try simp only [seqQ, blockQ, loopQ, forQ, whileQ, reduceIte, Nat.reduceEqDiff])) | (with_reducible refine st_ret ?_; ((try simp only [seqQ, blockQ, loopQ, forQ, whileQ]); first | (with_reducible refine retM_ret ?_) | refine retQ_ret ?_; simp [hlt, hk, hk2, hg1, hg2, htn, hA, hB])) | refine st_seq ?_ | refine st_block ?_ | ((first | refine st_reg ?_ | refine buildP_frz ?_ | refine callP_b (ht) rfl ?_ | refine callP_b (hs) rfl ?_) <;> (simp -dsimp [hlt, hk, hk2, hg1, hg2, htn, hA, hB]; (repeat (simp -dsimp (disch := (first | omega | assumption | (refine Bool.eq_false_iff.1 ?_; assumption))) only [wrap_in, if_pos, if_neg]; (try simp -dsimp [hlt, hk, hk2, hg1, hg2, htn, hA, hB]))))) | ((first | refine guardP_of (fun hc => ?_) (fun hc => ?_) | refine st_cond rfl (fun hc => ?_) (fun hc => ?_)) <;> (try simp only [decide_eq_true_eq, decide_eq_false_iff_not, Bool.true_eq_false, Bool.false_eq_true, bne_iff_ne, ne_eq, bne_eq_false_iff_eq, beq_iff_eq, beq_eq_false_iff_ne, Bool.not_eq_true, Bool.not_eq_false, Bool.not_eq_eq_eq_not, Bool.not_true, Bool.not_false, Decidable.not_not] at hc) <;> (try (exfalso; first | omega | exact bool_tf hc (by assumption) | exact bool_ft hc (by assumption) | exact absurd (by assumption) hc)) <;> (first | with_reducible show STri _ _ _ _ _ _ | (simp -dsimp [hlt, hk, hk2, hg1, hg2, htn, hA, hB, hc]; (repeat (simp -dsimp (disch := (first | omega | assumption | (refine Bool.eq_false_iff.1 ?_; assumption))) only [wrap_in, if_pos, if_neg]; (try simp -dsimp [hlt, hk, hk2, hg1, hg2, htn, hA, hB, hc]))))))))
        all_goals exact ⟨hjt, by simp, by rw [heq, hsu]; simp <;> omega, by rw [heq, hsu]; simp⟩
      · have hne : spK (tmB (twoN n i (i + 1 + j))) 0 (tmN n) ≠ [] := fun h => hno (hme.1 h)
        have hlen : ¬ (spK (tmB (twoN n i (i + 1 + j))) 0 (tmN n)).length = 0 := fun h => hne (List.length_eq_zero_iff.1 h)
        rw [if_neg (fun h => hno h.2)] at hsu
        generalize spK (tmB (twoN n i (i + 1 + j))) 0 (tmN n) = sp at *
        (repeat' (first | ((first | with_reducible refine st_skip ?_ | with_reducible refine st_exit ?_); (try simp only [seqQ, blockQ, loopQ, forQ, whileQ, reduceIte, Nat.reduceEqDiff])) | (with_reducible refine st_ret ?_; ((try simp only [seqQ, blockQ, loopQ, forQ, whileQ]); first | (with_reducible refine retM_ret ?_) | refine retQ_ret ?_; simp [hlt, hk, hk2, hg1, hg2, htn, hlen, hne])) | refine st_seq ?_ | refine st_block ?_ | ((first | refine st_reg ?_ | refine buildP_frz ?_ | refine callP_b (ht) rfl ?_ | refine callP_b (hs) rfl ?_) <;> (simp -dsimp [hlt, hk, hk2, hg1, hg2, htn, hlen, hne]; (repeat (simp -dsimp (disch := (first | omega | assumption | (refine Bool.eq_false_iff.1 ?_; assumption))) only [wrap_in, if_pos, if_neg]; (try simp -dsimp [hlt, hk, hk2, hg1, hg2, htn, hlen, hne]))))) | ((first | refine guardP_of (fun hc => ?_) (fun hc => ?_) | refine st_cond rfl (fun hc => ?_) (fun hc => ?_)) <;> (try simp only [decide_eq_true_eq, decide_eq_false_iff_not, Bool.true_eq_false, Bool.false_eq_true, bne_iff_ne, ne_eq, bne_eq_false_iff_eq, beq_iff_eq, beq_eq_false_iff_ne, Bool.not_eq_true, Bool.not_eq_false, Bool.not_eq_eq_eq_not, Bool.not_true, Bool.not_false, Decidable.not_not] at hc) <;> (try (exfalso; first | omega | exact bool_tf hc (by assumption) | exact bool_ft hc (by assumption) | exact absurd (by assumption) hc)) <;> (first | with_reducible show STri _ _ _ _ _ _ | (simp -dsimp [hlt, hk, hk2, hg1, hg2, htn, hlen, hne, hc]; (repeat (simp -dsimp (disch := (first | omega | assumption | (refine Bool.eq_false_iff.1 ?_; assumption))) only [wrap_in, if_pos, if_neg]; (try simp -dsimp [hlt, hk, hk2, hg1, hg2, htn, hlen, hne, hc]))))))))
        all_goals exact ⟨hjt, by simp, by rw [heq, hsu]; simp <;> omega, by rw [heq, hsu]; simp⟩
    · have hjn : i + 1 + j = n.l.length := by omega
      have hk2 : ¬ (i : Int) + 1 + j < n.l.length := by omega
      have hos := rpO_succ n i
      rw [hjn]
      (repeat' (first | ((first | with_reducible refine st_skip ?_ | with_reducible refine st_exit ?_); (try simp only [seqQ, blockQ, loopQ, forQ, whileQ, reduceIte, Nat.reduceEqDiff])) | (with_reducible refine st_ret ?_; ((try simp only [seqQ, blockQ, loopQ, forQ, whileQ]); first | (with_reducible refine retM_ret ?_) | refine retQ_ret ?_; simp [hlt, hk2])) | refine st_seq ?_ | refine st_block ?_ | ((first | refine st_reg ?_ | refine buildP_own ?_) <;> (simp -dsimp [hlt, hk2]; (repeat (simp -dsimp (disch := (first | omega | assumption | (refine Bool.eq_false_iff.1 ?_; assumption))) only [wrap_in, if_pos, if_neg]; (try simp -dsimp [hlt, hk2]))))) | ((first | refine guardP_of (fun hc => ?_) (fun hc => ?_) | refine st_cond rfl (fun hc => ?_) (fun hc => ?_)) <;> (try simp only [decide_eq_true_eq, decide_eq_false_iff_not, Bool.true_eq_false, Bool.false_eq_true, bne_iff_ne, ne_eq, bne_eq_false_iff_eq, beq_iff_eq, beq_eq_false_iff_ne, Bool.not_eq_true, Bool.not_eq_false, Bool.not_eq_eq_eq_not, Bool.not_true, Bool.not_false, Decidable.not_not] at hc) <;> (try (exfalso; first | omega | exact bool_tf hc (by assumption) | exact bool_ft hc (by assumption) | exact absurd (by assumption) hc)) <;> (first | with_reducible show STri _ _ _ _ _ _ | (simp -dsimp [hlt, hk2, hc]; (repeat (simp -dsimp (disch := (first | omega | assumption | (refine Bool.eq_false_iff.1 ?_; assumption))) only [wrap_in, if_pos, if_neg]; (try simp -dsimp [hlt, hk2, hc]))))))))
      all_goals exact ⟨hlt, by simp, by rw [hos]; simp, by rw [hos]; simp⟩
  · have hie : i = n.l.length := by omega
    subst hie
    (repeat' (first | ((first | with_reducible refine st_skip ?_ | with_reducible refine st_exit ?_); (try simp only [seqQ, blockQ, loopQ, forQ, whileQ, reduceIte, Nat.reduceEqDiff])) | (with_reducible refine st_ret ?_; ((try simp only [seqQ, blockQ, loopQ, forQ, whileQ]); first | (with_reducible refine retM_ret ?_) | refine retQ_ret ?_; simp [hlt])) | refine st_seq ?_ | refine st_block ?_ | ((first | refine st_reg ?_ | refine buildP_own ?_) <;> (simp -dsimp [hlt]; (repeat (simp -dsimp (disch := (first | omega | assumption | (refine Bool.eq_false_iff.1 ?_; assumption))) only [wrap_in, if_pos, if_neg]; (try simp -dsimp [hlt]))))) | ((first | refine guardP_of (fun hc => ?_) (fun hc => ?_) | refine st_cond rfl (fun hc => ?_) (fun hc => ?_)) <;> (try simp only [decide_eq_true_eq, decide_eq_false_iff_not, Bool.true_eq_false, Bool.false_eq_true, bne_iff_ne, ne_eq, bne_eq_false_iff_eq, beq_iff_eq, beq_eq_false_iff_ne, Bool.not_eq_true, Bool.not_eq_false, Bool.not_eq_eq_eq_not, Bool.not_true, Bool.not_false, Decidable.not_not] at hc) <;> (try (exfalso; first | omega | exact bool_tf hc (by assumption) | exact bool_ft hc (by assumption) | exact absurd (by assumption) hc)) <;> (first | with_reducible show STri _ _ _ _ _ _ | (simp -dsimp [hlt, hc]; (repeat (simp -dsimp (disch := (first | omega | assumption | (refine Bool.eq_false_iff.1 ?_; assumption))) only [wrap_in, if_pos, if_neg]; (try simp -dsimp [hlt, hc]))))))))
    all_goals exact .refl _
end Go.Proofs.YtnfggkopledpcaaGreat
