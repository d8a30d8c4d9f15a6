/- Part 2 of a proof: Heard, Bring, LibC, Meet, Meet2, Tune, Sched, Bell, TuneC, Fits, Fill, But, Few, Rack, Fewest, Plan, Sv, Sop. -/
import Derived.Test.YtdgplebmlggmcaaJ1
import Derived.Deep.RegionWith
import Derived.Maps.OwnRows
import Derived.Maps.RangeWalk
import Derived.OrdersHeld
import Derived.StillTail
import Derived.Tactics
import Derived.StillTailTactics
set_option linter.unusedSimpArgs false
set_option linter.unusedVariables false
/- slices.EqualFunc at blows and bells; Heard. -/
namespace Go.Proofs.Ytdgplebmlggmcaa
open Go.RowKit

theorem sameBell_any (p : Int × Int) (y : Int) (w : World) :
    Calls Try.prog 67 #[.agg #[.int .i64 p.1, .int .i64 p.2], .int .i64 y] w fun e w' => e = .returned (.bool (p.2 == y)) ∧ Ext w w' := by
  go_enter Try.func67, Try.ntmps67
  go_wp2
  go_ret
  exact ⟨rfl, by (repeat (first | with_reducible exact Ext.refl _ | with_reducible assumption | with_reducible refine Ext.alloc ?_ _ | with_reducible refine Ext.drew ?_ | with_reducible refine Ext.drewN ?_ _ | (with_reducible refine Ext.setCell ?_ ?hsc _; case hsc => (simp <;> omega)) | with_reducible refine Ext.trans ?_ (by assumption)))⟩

def bellsEq (xs : List (Int × Int)) (ys : List Int) : Bool := decide (xs.map Prod.snd = ys)

set_option maxHeartbeats 1000000 in
theorem equalFunc_any (xs : List (Int × Int)) (a : Option Addr) (c : Nat) (ys : List Int) (a' : Option Addr) (c' : Nat) (w : World) (hx : Row 2 encP w a c xs) (hy : Row 1 encI w a' c' ys) :
    Calls Try.prog 66 #[.slice a xs.length c, .slice a' ys.length c', .func (.func 67) #[] #[]] w fun e w' => e = .returned (.bool (bellsEq xs ys)) ∧ Ext w w' := by
  have hlx := hx.len
  have hly := hy.len
  have HX := Lib.hid hx
  have HY := Lib.hid hy
  clear hx hy
  by_cases hl : xs.length = ys.length
  · have HL := Lib.hid hl
    have h1 : (xs.length != ys.length) = false := by simp [hl]
    have h2 : ((xs.length : Int) != (ys.length : Int)) = false := by simp [hl]
    clear hl
    go_enter Try.func66, Try.ntmps66
    go_wp2
    go_loopw [17] (fun i wr => ∃ k : Nat, k ≤ xs.length ∧ i = .int .i64 k ∧ (xs.take k).map Prod.snd = ys.take k ∧ Ext w wr) (fun i _ => xs.length - (intOf i).toNat)
    case atStart => exact ⟨0, Nat.zero_le _, rfl, by simp, Ext.refl _⟩
    case round =>
      obtain ⟨k, hk, rfl, he, hxr⟩ := hrel
      have HE := Lib.hid he
      clear he
      by_cases hlt : k < xs.length
      · have hlt2 : k < ys.length := by have := HL.out; omega
        obtain ⟨b, off, rfl, hbl, k0, k1⟩ := (HX.out.ext hxr).cellP k hlt
        obtain ⟨b', off', rfl, hbl', k2⟩ := (HY.out.ext hxr).cellI k hlt2
        have HT : Hid ((xs.take (k + 1)).map Prod.snd = (xs.take k).map Prod.snd ++ [xs[k].2] ∧ ys.take (k + 1) = ys.take k ++ [ys[k]]) :=
          ⟨by rw [List.take_succ_eq_append_getElem hlt, List.map_append]; rfl, by rw [List.take_succ_eq_append_getElem hlt2]⟩
        have HN : Hid (xs[k].2 ≠ ys[k] → xs.map Prod.snd ≠ ys) := fun hne heq => by
          apply hne
          have : (xs.map Prod.snd)[k]? = ys[k]? := by rw [heq]
          simpa [List.getElem?_eq_getElem hlt, List.getElem?_eq_getElem hlt2] using this
        generalize xs[k] = p at *
        generalize ys[k] = y at *
        have HS := fun W => Lib.hid (sameBell_any p y W)
        by_cases hpy : p.2 = y
        · have hb : (p.2 == y) = true := by simp [hpy]
          have HP := Lib.hid hpy
          clear hpy
          go_wp2_with (refine (HS _).out.mono ?_; rintro e w2 ⟨rfl, hb2⟩)
          go_roundw
          case rel => exact ⟨k + 1, by omega, by go_num, by rw [HT.out.1, HT.out.2, HE.out, HP.out], by (repeat (first | with_reducible exact Ext.refl _ | with_reducible assumption | with_reducible refine Ext.alloc ?_ _ | with_reducible refine Ext.drew ?_ | with_reducible refine Ext.drewN ?_ _ | (with_reducible refine Ext.setCell ?_ ?hsc _; case hsc => (simp <;> omega)) | with_reducible refine Ext.trans ?_ (by assumption)))⟩
          case measure => simp [intOf]; omega
        · have hb : (p.2 == y) = false := by simp [hpy]
          have HP := Lib.hid hpy
          clear hpy
          go_wp2_with (refine (HS _).out.mono ?_; rintro e w2 ⟨rfl, hb2⟩)
          go_ret
          exact ⟨by unfold bellsEq; rw [decide_eq_false (HN.out HP.out)]; rfl, by (repeat (first | with_reducible exact Ext.refl _ | with_reducible assumption | with_reducible refine Ext.alloc ?_ _ | with_reducible refine Ext.drew ?_ | with_reducible refine Ext.drewN ?_ _ | (with_reducible refine Ext.setCell ?_ ?hsc _; case hsc => (simp <;> omega)) | with_reducible refine Ext.trans ?_ (by assumption)))⟩
      · go_wp2
        go_ret
        have h3 := HE.out
        rw [List.take_of_length_le (by omega), List.take_of_length_le (by have := HL.out; omega)] at h3
        exact ⟨by unfold bellsEq; rw [decide_eq_true h3]; rfl, hxr⟩
  · have HL := Lib.hid hl
    have h1 : (xs.length != ys.length) = true := by simp [hl]
    have h2 : ((xs.length : Int) != (ys.length : Int)) = true := by simp; omega
    clear hl
    go_enter Try.func66, Try.ntmps66
    go_wp2
    go_ret
    exact ⟨by unfold bellsEq; rw [decide_eq_false (fun h => HL.out (by rw [← h, List.length_map]))]; rfl, Ext.refl _⟩

/-- The error of Heard, and the sections. -/
def heardErr (c : Wk) (t n : Int) (bells : List Int) : Int := if runErr c t n 0 = 0 then (if 400 < bells.length then 5 else 0) else runErr c t n 0
def heardTo (c : Wk) (t m : Int) (bells : List Int) (k : Nat) : List Int := ((List.range k).filter fun (s : Nat) => bellsEq (blowsL c t (s : Int) m) bells).map fun (s : Nat) => (s : Int)
def heardL (c : Wk) (t n : Int) (bells : List Int) : List Int := if heardErr c t n bells = 0 then heardTo c t (c.runs.getD n.toNat 0) bells c.sections.toNat else []

theorem heardTo_succ (c : Wk) (t m : Int) (bells : List Int) (k : Nat) : heardTo c t m bells (k + 1) = heardTo c t m bells k ++ if bellsEq (blowsL c t k m) bells then [(k : Int)] else [] := by
  unfold heardTo
  rw [List.range_succ, List.filter_append, List.map_append]
  cases h : bellsEq (blowsL c t k m) bells <;> simp [h]

theorem heardTo_len (c : Wk) (t m : Int) (bells : List Int) (k : Nat) : (heardTo c t m bells k).length ≤ k := by
  unfold heardTo; rw [List.length_map]; exact Nat.le_trans (List.length_filter_le _ _) (by simp)

theorem newRun_bad' (c : Wk) (a1 : Option Addr) (c1 : Nat) (a2 : Option Addr) (c2 : Nat) (a3 : Option Addr) (c3 : Nat) (t n s : Int) (w : World) (hw : RdW w c a1 c1 a2 c2 a3 c3) (he : runErr c t n s ≠ 0) :
    Calls Try.prog 60 #[(.agg #[.int .i64 c.steps, .int .i64 c.sections, .slice a1 c.runs.length c1, .int .i64 c.tunes, .slice a2 c.hammers.length c2, .slice a3 c.pins.length c3]), .int .i64 t, .int .i64 n, .int .i64 s] w fun e w' => e = .returned (.tuple #[.agg #[.int .i64 0, .int .i64 0, .slice none 0 0, .int .i64 0, .slice none 0 0, .slice none 0 0, .int .i64 0, .int .i64 0, .int .i64 0], .int .i64 (runErr c t n s)]) ∧ Ext w w' := by
  cases hok : worksOk c
  · refine (newRun_bad c a1 c1 a2 c2 a3 c3 t n s _ hw hok).mono ?_
    rintro e w2 ⟨rfl, hb⟩
    exact ⟨by unfold runErr; rw [hok]; rfl, hb⟩
  · cases hin : (inn 0 (c.tunes - 1) t && inn 0 (c.runs.length - 1) n && inn 0 (c.sections - 1) s)
    · refine (newRun_none c a1 c1 a2 c2 a3 c3 t n s _ hw hok hin).mono ?_
      rintro e w2 ⟨rfl, hb⟩
      exact ⟨by unfold runErr; rw [hok, hin]; rfl, hb⟩
    · exact absurd (by unfold runErr; rw [hok, hin]; rfl) he

theorem Try.infoI : (Try.prog.info? 3).map (fun i => (i.zero, i.size, i.bytes)) = some (some (.int .i64 0), 1, 8) := by kernel_rfl

set_option maxRecDepth 100000 in
set_option maxHeartbeats 2000000 in
theorem heard_any (c : Wk) (a1 : Option Addr) (c1 : Nat) (a2 : Option Addr) (c2 : Nat) (a3 : Option Addr) (c3 : Nat) (t n : Int) (bells : List Int) (ab : Option Addr) (cb : Nat) (w : World) (hw : RdW w c a1 c1 a2 c2 a3 c3) (hbl : Row 1 encI w ab cb bells) :
    Calls Try.prog 28 #[(.agg #[.int .i64 c.steps, .int .i64 c.sections, .slice a1 c.runs.length c1, .int .i64 c.tunes, .slice a2 c.hammers.length c2, .slice a3 c.pins.length c3]), .int .i64 t, .int .i64 n, .slice ab bells.length cb] w (RetL2 1 encI (heardL c t n bells) (heardErr c t n bells) w) := by
  have hx0 : Ext w (w.alloc (.cells #[.int .i64 c.steps, .int .i64 c.sections, .slice a1 c.runs.length c1, .int .i64 c.tunes, .slice a2 c.hammers.length c2, .slice a3 c.pins.length c3] 26)) := (Ext.refl w).alloc _
  have hw0 := hw.ext _ _ _ _ _ _ _ hx0
  have hbn := hbl.len
  obtain ⟨iI, hi, hz0, hz1, hz2⟩ := info_parts Try.infoI
  by_cases he : runErr c t n 0 = 0
  · obtain ⟨hok, ht, hn, hs⟩ := runErr_ok he
    have HN := Lib.hid (newRun_ok c a1 c1 a2 c2 a3 c3 t n 0 _ hw0 hok ht hn hs)
    have hm := runIn_ok hok hn
    obtain ⟨s1, s2, s3, s4, _⟩ := partsOk_bounds (worksOk_bounds' hok)
    have HB := fun s W (hW : Ext w W) (hs' : inn 0 (c.sections - 1) s = true) => Lib.hid (blows_any c a1 c1 a2 c2 a3 c3 t s (c.runs.getD n.toNat 0) W (hw.ext _ _ _ _ _ _ _ hW) hok ht hs' hm)
    unfold runVal at HB
    have HBL := Lib.hid hbl
    by_cases h4 : 400 < bells.length
    · have HP : Hid (heardL c t n bells = [] ∧ heardErr c t n bells = 5) := by
        have h5 : heardErr c t n bells = 5 := by unfold heardErr; rw [if_pos he, if_pos h4]
        exact ⟨by unfold heardL; rw [h5]; rfl, h5⟩
      clear he hok ht hn hs hw hw0 hm HB hbl
      go_enter Try.func28, Try.ntmps28
      go_wp2_with (go_at_call 60; refine HN.out.mono ?_; rintro e w2 ⟨rfl, hb2⟩; have hx2 := hx0.trans hb2)
      go_ret2
      rw [HP.out.1, HP.out.2]
      exact ⟨_, rfl, OwnL.sl (OwnL.nil 1 encI 0 _) encI_len, fun b hb => (by cases hb), by (repeat (first | with_reducible exact Ext.refl _ | with_reducible assumption | with_reducible refine Ext.alloc ?_ _ | with_reducible refine Ext.drew ?_ | with_reducible refine Ext.drewN ?_ _ | (with_reducible refine Ext.setCell ?_ ?hsc _; case hsc => (simp <;> omega)) | with_reducible refine Ext.trans ?_ (by assumption)))⟩
    · have HP : Hid (heardL c t n bells = heardTo c t (c.runs.getD n.toNat 0) bells c.sections.toNat ∧ heardErr c t n bells = 0) := by
        have h5 : heardErr c t n bells = 0 := by unfold heardErr; rw [if_pos he, if_neg h4]
        exact ⟨by unfold heardL; rw [h5]; rfl, h5⟩
      clear he hok ht hn hs hw hw0 hm hbl
      generalize c.runs.getD n.toNat 0 = y at *
      go_enter Try.func28, Try.ntmps28
      go_wp2_with (go_at_call 60; refine HN.out.mono ?_; rintro e w2 ⟨rfl, hb2⟩; have hx2 := hx0.trans hb2)
      have hR := heap_alloc_new w2 (.cells #[.int .i64 c.steps, .int .i64 c.sections, .slice a1 c.runs.length c1, .int .i64 c.tunes, .slice a2 c.hammers.length c2, .slice a3 c.pins.length c3, .int .i64 t, .int .i64 0, .int .i64 y] 122)
      have hx3 : Ext w (w2.alloc (.cells #[.int .i64 c.steps, .int .i64 c.sections, .slice a1 c.runs.length c1, .int .i64 c.tunes, .slice a2 c.hammers.length c2, .slice a3 c.pins.length c3, .int .i64 t, .int .i64 0, .int .i64 y] 122)) := hx2.alloc _
      have hwB := hx2.size
      clear hb2 hx2 HN hx0
      generalize (w2.alloc (.cells #[.int .i64 c.steps, .int .i64 c.sections, .slice a1 c.runs.length c1, .int .i64 c.tunes, .slice a2 c.hammers.length c2, .slice a3 c.pins.length c3, .int .i64 t, .int .i64 0, .int .i64 y] 122)) = W1 at *
      generalize w2.heap.size = B at *
      have HR := Lib.hid hR
      have HX3 := Lib.hid hx3
      clear hR hx3
      go_loopw [8, 30] (fun v i wr => ∃ (k : Nat) (s0 : Int), (k : Int) ≤ c.sections ∧ i = .int .i64 k ∧ OwnL 1 encI 3 wr v (heardTo c t y bells k) ∧ (∀ b, v.ownBlock = some b → w.heap.size ≤ b) ∧ Ext w wr ∧
          wr.heap[B]? = some (.cells #[.int .i64 c.steps, .int .i64 c.sections, .slice a1 c.runs.length c1, .int .i64 c.tunes, .slice a2 c.hammers.length c2, .slice a3 c.pins.length c3, .int .i64 t, .int .i64 s0, .int .i64 y] 122 (0, 0)))
        (fun _ i _ => c.sections.toNat - (intOf i).toNat)
      case atStart => exact ⟨0, 0, by omega, rfl, by simpa [heardTo] using OwnL.nil 1 encI 3 W1, (fun b hb => by simp [Value.ownBlock] at hb), HX3.out, HR.out⟩
      case round =>
        obtain ⟨k, s0, hk, rfl, ho, hlow, hxr, hB⟩ := hrel
        have HLW := Lib.hid hlow
        clear hlow
        by_cases hlt : (k : Int) < c.sections
        · have HO := Lib.hid ho
          have hBl := lt_of hB
          have e0 := cells_of hB 0 rfl
          have e1 := cells_of hB 1 rfl
          have e2 := cells_of hB 2 rfl
          have e3 := cells_of hB 3 rfl
          have e4 := cells_of hB 4 rfl
          have e5 := cells_of hB 5 rfl
          have e6 := cells_of hB 6 rfl
          have e7 := cells_of hB 7 rfl
          have e8 := cells_of hB 8 rfl
          have f7 := free_of hB 7
          have hB2 : (wr.setCell ⟨B, 7, none⟩ (.int .i64 k)).heap[B]? = some (.cells #[.int .i64 c.steps, .int .i64 c.sections, .slice a1 c.runs.length c1, .int .i64 c.tunes, .slice a2 c.hammers.length c2, .slice a3 c.pins.length c3, .int .i64 t, .int .i64 k, .int .i64 y] 122 (0, 0)) := set_one 7 _ hB rfl
          have hks := keeps_setCell (n₀ := w.heap.size) (B := 0) (T := [122]) hB (by simp) hwB 7 (.int .i64 k)
          have hx4 : Ext w (wr.setCell ⟨B, 7, none⟩ (.int .i64 k)) := hks.base.ext hxr (Nat.le_refl _)
          have ho4 := ho.keepsC hks.base (by decide)
          have HKS := Lib.hid hks
          clear hks ho
          have HB4 := fun W (hW : Ext w W) => HB k W hW (inn_iff.2 ⟨by omega, by omega⟩)
          have HT := Lib.hid (heardTo_succ c t y bells k)
          have HTL := Lib.hid (heardTo_len c t y bells k)
          have HX4 := Lib.hid hx4
          have HO4 := Lib.hid ho4
          have HB2 := Lib.hid hB2
          clear hx4 ho4 hB2 HB
          go_wp2_with (go_at_call 61; refine (HB4 _ HX4.out).out.mono ?_; rintro e w3 ⟨v, rfl, h1, h2⟩; have H1 := Lib.hid h1; obtain ⟨va, vc, hv, hrow⟩ := h1.sl encP_len; subst hv; have HE := Lib.hid (equalFunc_any _ va vc bells ab cb w3 hrow (HBL.out.ext (HX4.out.trans h2))); have HB3 := Lib.hid (h2.at' HB2.out); have HO3 := Lib.hid (HO4.out.kept h2); have HX5 := Lib.hid (HX4.out.trans h2); clear h1 h2 hrow HB4)
          cases hbe : bellsEq (blowsL c t k y) bells
          · have HBE := Lib.hid hbe
            clear hbe
            refine HE.out.mono ?_
            rintro e w4 ⟨rfl, hx6⟩
            rw [HBE.out]
            go_wp2
            go_roundw
            case rel => exact ⟨k + 1, k, by omega, by go_num, by rw [HT.out, HBE.out]; simpa using HO3.out.kept hx6, HLW.out, HX5.out.trans hx6, hx6.at' HB3.out⟩
            case measure => simp [intOf]; omega
          · have HBE := Lib.hid hbe
            clear hbe
            refine HE.out.mono ?_
            rintro e w4 ⟨rfl, hx6⟩
            rw [HBE.out]
            have hB6 := hx6.at' HB3.out
            have g7 := cells_of hB6 7 rfl
            have HB6 := Lib.hid hB6
            have hn4 := heap_lt' hB6
            clear hB6
            have HTL2 : Hid ((heardTo c t y bells k).length ≤ 1000) := by show (heardTo c t y bells k).length ≤ 1000; have := HTL.out; omega
            go_wp2_with (at_builtin; refine wpList_append_one rfl _ _ 22 rfl 1 encI encI_len encI_one (by decide) 3 iI _ 8 Try.underlying22 hi hz0 hz1 hz2 rfl _ _ rfl ((HO3.out.kept hx6).kept (by (repeat (first | with_reducible exact Ext.refl _ | with_reducible assumption | with_reducible refine Ext.alloc ?_ _ | with_reducible refine Ext.drew ?_ | with_reducible refine Ext.drewN ?_ _ | (with_reducible refine Ext.setCell ?_ ?hsc _; case hsc => (simp <;> omega)) | with_reducible refine Ext.trans ?_ (by assumption))))) _ _ (k : Int) rfl ⟨_, _, heap_alloc_new _ _, rfl⟩ (by omega) (by unfold maxLen; omega) (by have := HTL2.out; unfold maxLen; omega) (by have := HTL2.out; omega) ?_; intro v' w5 hown' hgrow')
            go_roundw
            case rel => exact ⟨k + 1, k, by omega, by go_num, by rw [HT.out, HBE.out]; exact hown', hgrow'.low HLW.out (by have := (HX5.out.trans hx6).size; simp; omega), hgrow'.ext_low ((HX5.out.trans hx6).alloc _) HLW.out, (Grew.keeps (n₀ := 0) (B := 0) (T := [3]) hgrow' ((HO3.out.kept hx6).kept ((Ext.refl _).alloc _)) (by simp) (Nat.zero_le _) (fun _ _ => Nat.zero_le _)).base.cells _ _ _ _ (((Ext.refl w4).alloc _).at' HB6.out) (by decide)⟩
            case measure => simp [intOf]; omega
        · have hk2 : c.sections.toNat = k := by omega
          have e1 := cells_of hB 1 rfl
          go_wp2
          go_ret2
          rw [HP.out.1, HP.out.2, hk2]
          exact ⟨_, rfl, ho.sl encI_len, HLW.out, hxr⟩
  · have HN := Lib.hid (newRun_bad' c a1 c1 a2 c2 a3 c3 t n 0 _ hw0 he)
    have HP : Hid (heardL c t n bells = [] ∧ heardErr c t n bells = runErr c t n 0) := by
      have h5 : heardErr c t n bells = runErr c t n 0 := by unfold heardErr; rw [if_neg he]
      exact ⟨by unfold heardL; rw [h5, if_neg he], h5⟩
    have he1 : (runErr c t n 0 != 0) = true := by simpa using he
    have he0 : ¬ runErr c t n 0 = 0 := he
    generalize runErr c t n 0 = er at *
    clear he he0 hw hw0 hbl
    go_enter Try.func28, Try.ntmps28
    go_wp2_with (go_at_call 60; refine HN.out.mono ?_; rintro e w2 ⟨rfl, hb2⟩; have hx2 := hx0.trans hb2)
    go_ret2
    rw [HP.out.1, HP.out.2]
    exact ⟨_, rfl, OwnL.sl (OwnL.nil 1 encI 0 _) encI_len, fun b hb => (by cases hb), by (repeat (first | with_reducible exact Ext.refl _ | with_reducible assumption | with_reducible refine Ext.alloc ?_ _ | with_reducible refine Ext.drew ?_ | with_reducible refine Ext.drewN ?_ _ | (with_reducible refine Ext.setCell ?_ ?hsc _; case hsc => (simp <;> omega)) | with_reducible refine Ext.trans ?_ (by assumption)))⟩

end Go.Proofs.Ytdgplebmlggmcaa
/- Bring of package chime. -/
namespace Go.Proofs.Ytdgplebmlggmcaa
open Go.RowKit

def bringStep (c : Wk) (t s : Int) (acc : Int × Int) (n : Nat) : Int × Int :=
  if acc.2 < 0 ∨ ((strikes c t s n).length : Int) < acc.2 then ((n : Int), ((strikes c t s n).length : Int)) else acc
/-- The numbers below m with a rest. -/
def withRest (e f m : Nat) : List Nat := (List.range m).filter fun n => n % e == f
def everyOf (c : Wk) : Nat := Nat.gcd c.runs.sum.toNat c.sections.toNat
def firstOf (c : Wk) (n s : Int) : Nat := (((c.runs.take n.toNat).sum - s) % (everyOf c : Int)).toNat
def bringOk (c : Wk) (t n s : Int) : Int × Int := (withRest (everyOf c) (firstOf c n s) c.sections.toNat).foldl (bringStep c t s) (0, -1)
def bringL (c : Wk) (t n s : Int) : Int × Int := if runErr c t n s = 0 then bringOk c t n s else (0, 0)

theorem withRest_first (e f : Nat) (hf : f < e) : withRest e f f = [] := by
  unfold withRest
  rw [List.filter_eq_nil_iff]
  intro n hn
  have := List.mem_range.1 hn
  rw [Nat.mod_eq_of_lt (by omega)]
  simp; omega

theorem withRest_next (e f n m : Nat) (hn : n % e = f) (h1 : n < m) (h2 : m ≤ n + e) : withRest e f m = withRest e f n ++ [n] := by
  obtain ⟨d, rfl⟩ : ∃ d, m = n + 1 + d := ⟨m - n - 1, by omega⟩
  induction d with
  | zero =>
    unfold withRest
    rw [Nat.add_zero, List.range_succ, List.filter_append]
    simp [hn]
  | succ d ih =>
    have h3 := ih (by omega) (by omega)
    have h4 : withRest e f (n + 1 + (d + 1)) = withRest e f (n + 1 + d) := by
      unfold withRest
      rw [← Nat.add_assoc, List.range_succ, List.filter_append]
      have : ((n + 1 + d) % e == f) = false := by
        have h5 : (n + (1 + d)) % e ≠ n % e := by
          intro h6
          have h7 : (1 + d) % e = 0 := by
            have := Nat.sub_mod_eq_zero_of_mod_eq h6
            simpa using this
          rw [Nat.mod_eq_of_lt (by omega)] at h7
          omega
        rw [← hn, Nat.add_assoc]
        simpa using h5
      simp [this]
    rw [h4, h3]

theorem runs_sum (c : Wk) (hok : worksOk c = true) : ∀ k, 0 ≤ (c.runs.take k).sum ∧ (c.runs.take k).sum ≤ 1000 * k := by
  obtain ⟨_, s2, _, s4, _, _, _, hr, _⟩ := partsOk_bounds (worksOk_bounds' hok)
  intro k
  induction k with
  | zero => simp
  | succ k ih =>
    by_cases hk : k < c.runs.length
    · rw [sum_take _ _ hk]
      have := hr _ (List.getElem_mem hk)
      omega
    · rw [List.take_of_length_le (by omega)]
      rw [List.take_of_length_le (by omega)] at ih
      omega

theorem runs_sum_all (c : Wk) (hok : worksOk c = true) : 1 ≤ c.runs.sum ∧ c.runs.sum ≤ 8000 := by
  obtain ⟨_, s2, _, s4, _, r1, r2, hr, _⟩ := partsOk_bounds (worksOk_bounds' hok)
  have h1 := runs_sum c hok c.runs.length
  rw [List.take_length] at h1
  have h2 := sum_take c.runs (c.runs.length - 1) (by omega)
  rw [show c.runs.length - 1 + 1 = c.runs.length by omega, List.take_length] at h2
  have h3 := runs_sum c hok (c.runs.length - 1)
  have h4 := hr _ (List.getElem_mem (show c.runs.length - 1 < c.runs.length by omega))
  omega

theorem blowsL_len (c : Wk) (t s n : Int) : (blowsL c t s n).length = (strikes c t s n).length := by
  unfold blowsL; rw [List.length_map, List.length_mergeSort]

def bringTo (c : Wk) (t s : Int) (e f m : Nat) : Int × Int := (withRest e f m).foldl (bringStep c t s) (0, -1)
theorem bringTo_next (c : Wk) (t s : Int) (e f n m : Nat) (hn : n % e = f) (h1 : n < m) (h2 : m ≤ n + e) : bringTo c t s e f m = bringStep c t s (bringTo c t s e f n) n := by
  unfold bringTo
  rw [withRest_next e f n m hn h1 h2, List.foldl_append]; rfl

def RetB (x : Int × Int) (err : Int) (w : World) (e : Ending) (w' : World) : Prop := e = .returned (.tuple #[.int .i64 x.1, .int .i64 x.2, .int .i64 err]) ∧ Ext w w'

set_option maxRecDepth 100000 in
set_option maxHeartbeats 2000000 in
theorem bring_any (c : Wk) (a1 : Option Addr) (c1 : Nat) (a2 : Option Addr) (c2 : Nat) (a3 : Option Addr) (c3 : Nat) (t n s : Int) (w : World) (hw : RdW w c a1 c1 a2 c2 a3 c3) :
    Calls Try.prog 23 #[(.agg #[.int .i64 c.steps, .int .i64 c.sections, .slice a1 c.runs.length c1, .int .i64 c.tunes, .slice a2 c.hammers.length c2, .slice a3 c.pins.length c3]), .int .i64 t, .int .i64 n, .int .i64 s] w (RetB (bringL c t n s) (runErr c t n s) w) := by
  have hx0 : Ext w (w.alloc (.cells #[.int .i64 c.steps, .int .i64 c.sections, .slice a1 c.runs.length c1, .int .i64 c.tunes, .slice a2 c.hammers.length c2, .slice a3 c.pins.length c3] 26)) := (Ext.refl w).alloc _
  have hw0 := hw.ext _ _ _ _ _ _ _ hx0
  by_cases he : runErr c t n s = 0
  · obtain ⟨hok, ht, hn, hs⟩ := runErr_ok he
    have HN := Lib.hid (newRun_ok c a1 c1 a2 c2 a3 c3 t n s _ hw0 hok ht hn hs)
    obtain ⟨s1, s2, s3, s4, _, r1, r2, _⟩ := partsOk_bounds (worksOk_bounds' hok)
    have HB := fun m W (hW : Ext w W) (hm : inn 0 c.sections m = true) => Lib.hid (blows_any c a1 c1 a2 c2 a3 c3 t s m W (hw.ext _ _ _ _ _ _ _ hW) hok ht hs hm)
    obtain ⟨n0, n1⟩ := inn_iff.1 hn
    obtain ⟨h0, h1⟩ := inn_iff.1 hs
    obtain ⟨j, rfl⟩ := Int.eq_ofNat_of_zero_le n0
    have hjl : j < c.runs.length := by omega
    have hsum := runs_sum c hok
    obtain ⟨u1, u2⟩ := runs_sum_all c hok
    have htb : ∀ k, -1000000000000000 ≤ (c.runs.take k).sum ∧ (c.runs.take k).sum ≤ 1000000000000000 := fun k => by
      have h3 := hsum (min k c.runs.length)
      have h4 : c.runs.take (min k c.runs.length) = c.runs.take k := by
        by_cases h5 : k ≤ c.runs.length
        · rw [Nat.min_eq_left h5]
        · rw [Nat.min_eq_right (by omega), List.take_length, List.take_of_length_le (by omega)]
      rw [h4] at h3
      have : min k c.runs.length ≤ 8 := by omega
      omega
    have HT := fun W (hW : Ext w W) => Lib.hid (total_any c.runs a1 c1 W (hw.runs.ext hW) htb)
    have HJ := fun W (hW : Ext w W) => Lib.hid (show Calls Try.prog 63 #[.slice a1 j c1] W fun e w' => e = .returned (.int .i64 (c.runs.take j).sum) ∧ W = w' by
      have h3 := total_any (c.runs.take j) a1 c1 W ((hw.runs.ext hW).take j) (fun k => by rw [List.take_take]; exact htb _)
      rw [show (c.runs.take j).length = j by rw [List.length_take]; omega] at h3
      exact h3)
    obtain ⟨v1, v2⟩ := hsum j
    obtain ⟨p, hp⟩ := Int.eq_ofNat_of_zero_le (show 0 ≤ c.runs.sum by omega)
    obtain ⟨q, hq⟩ := Int.eq_ofNat_of_zero_le (show 0 ≤ c.sections by omega)
    have hev : everyOf c = Nat.gcd p q := by unfold everyOf; rw [hp, hq]; rfl
    have hgq : Nat.gcd p q ≤ q := Nat.gcd_le_right p (by omega)
    have hg0 : 0 < Nat.gcd p q := Nat.gcd_pos_of_pos_right p (by omega)
    have HG := fun W => Lib.hid (gcd_any p q W (by omega) (by omega))
    have HM := fun W => Lib.hid (modulo_any ((c.runs.take j).sum - s) (Nat.gcd p q : Nat) W (by omega) (by omega))
    have hf0 := Int.emod_nonneg ((c.runs.take j).sum - s) (show ((Nat.gcd p q : Nat) : Int) ≠ 0 by omega)
    have hf1 := Int.emod_lt_of_pos ((c.runs.take j).sum - s) (show 0 < ((Nat.gcd p q : Nat) : Int) by omega)
    obtain ⟨f, hf⟩ := Int.eq_ofNat_of_zero_le hf0
    have HFO : Hid (bringL c t j s = bringTo c t s (Nat.gcd p q) f q ∧ runErr c t j s = 0) := by
      refine ⟨?_, he⟩
      unfold bringL bringOk bringTo
      rw [if_pos he, hev]
      have : firstOf c j s = f := by unfold firstOf; rw [hev, Int.toNat_natCast, hf]; rfl
      rw [this, hq]; rfl
    rw [hf] at HM hf1
    rw [hp] at HT
    have HQ := Lib.hid hq
    have hsq : c.sections = (q : Int) := hq
    have hpl := (worksOk_bounds hok).2.2.2.2.1
    have HSL := fun m => Lib.hid (Nat.le_trans (strikes_len c t s m) hpl)
    have HBL := fun m => Lib.hid (blowsL_len c t s m)
    unfold runVal at HB
    have hjc : (j : Int) ≤ (c1 : Int) := by have := hw.runs.cap; omega
    have hfe : f < Nat.gcd p q := by omega
    have hq1000 : q ≤ 1000 := by omega
    have hfm : f % Nat.gcd p q = f := Nat.mod_eq_of_lt hfe
    have HF := Lib.hid hfm
    clear hfm
    clear he hok ht hn hs hw hw0 hp hev hsum htb hf0 hq hf u1 u2
    generalize (c.runs.take j).sum = sj at *
    generalize Nat.gcd p q = ev at *
    generalize c.runs.getD (j : Int).toNat 0 = y at *
    clear hsq
    go_enter Try.func23, Try.ntmps23
    go_wp2_with (go_at_call 60; refine HN.out.mono ?_; rintro e w2 ⟨rfl, hb2⟩; have hx2 := hx0.trans hb2)
    have hA := hb2.at' (heap_alloc_new w (.cells #[.int .i64 c.steps, .int .i64 c.sections, .slice a1 c.runs.length c1, .int .i64 c.tunes, .slice a2 c.hammers.length c2, .slice a3 c.pins.length c3] 26))
    have hR := heap_alloc_new w2 (.cells #[.int .i64 c.steps, .int .i64 c.sections, .slice a1 c.runs.length c1, .int .i64 c.tunes, .slice a2 c.hammers.length c2, .slice a3 c.pins.length c3, .int .i64 t, .int .i64 s, .int .i64 y] 122)
    have hA2 := ((Ext.refl w2).alloc (.cells #[.int .i64 c.steps, .int .i64 c.sections, .slice a1 c.runs.length c1, .int .i64 c.tunes, .slice a2 c.hammers.length c2, .slice a3 c.pins.length c3, .int .i64 t, .int .i64 s, .int .i64 y] 122)).at' hA
    have hx3 : Ext w (w2.alloc (.cells #[.int .i64 c.steps, .int .i64 c.sections, .slice a1 c.runs.length c1, .int .i64 c.tunes, .slice a2 c.hammers.length c2, .slice a3 c.pins.length c3, .int .i64 t, .int .i64 s, .int .i64 y] 122)) := hx2.alloc _
    have hwB := hx2.size
    clear hb2 hx2 HN hx0 hA
    generalize (w2.alloc (.cells #[.int .i64 c.steps, .int .i64 c.sections, .slice a1 c.runs.length c1, .int .i64 c.tunes, .slice a2 c.hammers.length c2, .slice a3 c.pins.length c3, .int .i64 t, .int .i64 s, .int .i64 y] 122)) = W1 at *
    generalize w2.heap.size = B at *
    have e1 := cells_of hA2 1 rfl
    have e2 := cells_of hA2 2 rfl
    have hAl := lt_of hA2
    have HR := Lib.hid hR
    have HX3 := Lib.hid hx3
    have HA := Lib.hid hA2
    clear hR hx3 hA2
    refine (wpIn_wide (n := 3)).1 ?_
    (refine wpIn_tail 6 rfl (by kernel_rfl) (by kernel_rfl) ?_; simp only [List.take_succ_cons, List.take_zero, List.drop_succ_cons, List.drop_zero]; (repeat (refine wpQuietIn_step (fun _ _ _ _ => trivial) (fun K hK => ?_); rw [if_pos (by go_simp)]; apply quietIn_val; (focus (intro wq hwq; obtain ⟨hrq1, hrq2⟩ := hwq.rulesD; first | (go_simp; done) | (go_simp; rfl) | (go_simp; ( first | (refine (callsIn_wide.2 (HT _ (HX3.out.trans ((Ext.refl _).drew.trans hwq))).out).mono ?_; rintro e w3 ⟨rfl, rfl⟩; exact ⟨rfl, hwq⟩) | (rw [HQ.out]; refine (callsIn_wide.2 (HG _).out).mono ?_; rintro e w3 ⟨rfl, hb3⟩; exact ⟨rfl, hwq.trans hb3⟩))))); go_simp; refine hK _ ?_; clear hK K)); refine wpQuietIn_nil ?_; intro wq hwq)
    gi_wp2
    have hxq : Ext W1 wq := (Ext.refl W1).drew.trans hwq
    have HXQ := Lib.hid (HX3.out.trans hxq)
    have hA3 := hxq.at' HA.out
    have HRQ := Lib.hid (hxq.at' HR.out)
    have hB4 := lt_of HRQ.out
    clear e1 e2 hwq
    have e1 := cells_of hA3 1 rfl
    have e2 := cells_of hA3 2 rfl
    have hAl2 := lt_of hA3
    have HA3 := Lib.hid hA3
    clear hA3 hxq
    go_wp2_with (first
      | (go_at_call 63; refine (HJ _ HXQ.out).out.mono ?_; rintro e w3 ⟨rfl, rfl⟩)
      | (go_at_call 64; refine (HM _).out.mono ?_; rintro e w3 ⟨rfl, rfl⟩))
    have HM1 := Lib.hid (show bringTo c t s ev f f = (0, -1) by unfold bringTo; rw [withRest_first ev f hfe]; rfl)
    go_loopw [8, 9, 14] (fun ks bs ns wr => ∃ m : Nat, ns = .int .i64 m ∧ m % ev = f ∧ f ≤ m ∧ m < q + ev ∧ ks = .int .i64 (bringTo c t s ev f m).1 ∧ bs = .int .i64 (bringTo c t s ev f m).2 ∧ Ext w wr ∧
        wr.heap[w.heap.size]? = some (.cells #[.int .i64 c.steps, .int .i64 c.sections, .slice a1 c.runs.length c1, .int .i64 c.tunes, .slice a2 c.hammers.length c2, .slice a3 c.pins.length c3] 26 (0, 0)) ∧
        ∃ z : Int, wr.heap[B]? = some (.cells #[.int .i64 c.steps, .int .i64 c.sections, .slice a1 c.runs.length c1, .int .i64 c.tunes, .slice a2 c.hammers.length c2, .slice a3 c.pins.length c3, .int .i64 t, .int .i64 s, .int .i64 z] 122 (0, 0)))
      (fun _ _ ns _ => q - (intOf ns).toNat)
    case atStart => exact ⟨f, rfl, HF.out, Nat.le_refl _, by omega, by rw [HM1.out], by rw [HM1.out], HXQ.out, HA3.out, y, HRQ.out⟩
    case round =>
      obtain ⟨m, rfl, hm, hfm, hmq, rfl, rfl, hxr, hA4, z, hB5⟩ := hrel
      have HMF := Lib.hid hm
      clear hm
      by_cases hlt : m < q
      · have hlt2 : (m : Int) < c.sections := by rw [HQ.out]; omega
        have HST := Lib.hid (bringTo_next c t s ev f m (m + ev) HMF.out (by omega) (Nat.le_refl _))
        have g1 := cells_of hA4 1 rfl
        have hAl3 := lt_of hA4
        have hBl := lt_of hB5
        have d0 := cells_of hB5 0 rfl
        have d1 := cells_of hB5 1 rfl
        have d2 := cells_of hB5 2 rfl
        have d3 := cells_of hB5 3 rfl
        have d4 := cells_of hB5 4 rfl
        have d5 := cells_of hB5 5 rfl
        have d6 := cells_of hB5 6 rfl
        have d7 := cells_of hB5 7 rfl
        have d8 := cells_of hB5 8 rfl
        have f8 := free_of hB5 8
        have hB6 : (wr.setCell ⟨B, 8, none⟩ (.int .i64 m)).heap[B]? = some (.cells #[.int .i64 c.steps, .int .i64 c.sections, .slice a1 c.runs.length c1, .int .i64 c.tunes, .slice a2 c.hammers.length c2, .slice a3 c.pins.length c3, .int .i64 t, .int .i64 s, .int .i64 m] 122 (0, 0)) := set_one 8 _ hB5 rfl
        have hks := keeps_setCell (n₀ := w.heap.size) (B := 0) (T := [122]) hB5 (by simp) hwB 8 (.int .i64 m)
        have hx4 : Ext w (wr.setCell ⟨B, 8, none⟩ (.int .i64 m)) := hks.base.ext hxr (Nat.le_refl _)
        have hA5 := hks.base.cells _ _ _ _ hA4 (by decide)
        have HX4 := Lib.hid hx4
        have HA5 := Lib.hid hA5
        have HB6 := Lib.hid hB6
        have HBm := fun W (hW : Ext w W) => HB m W hW (inn_iff.2 ⟨by omega, by omega⟩)
        have HSLm := (HSL m).out
        have HBLm := HBL m
        clear hA4 hB5 hks hx4 hA5 hB6 hxr HB HSL HBL
        generalize bringTo c t s ev f m = acc at *
        generalize hmany : (strikes c t s m).length = many at *
        have HMANY := Lib.hid hmany
        clear hmany
        have HY : Hid ((acc.2 < 0 ∨ (many : Int) < acc.2) → bringTo c t s ev f (m + ev) = ((m : Int), (many : Int))) := fun h => by rw [HST.out]; unfold bringStep; rw [HMANY.out, if_pos h]
        have HNO : Hid (¬ (acc.2 < 0 ∨ (many : Int) < acc.2) → bringTo c t s ev f (m + ev) = acc) := fun h => by rw [HST.out]; unfold bringStep; rw [HMANY.out, if_neg h]
        clear HST HMANY
        have hcases : (acc.2 < 0 ∧ ¬ (many : Int) < acc.2) ∨ (¬ acc.2 < 0 ∧ (many : Int) < acc.2) ∨ (¬ acc.2 < 0 ∧ ¬ (many : Int) < acc.2) := by omega
        rcases hcases with ⟨hb1, hb2⟩ | ⟨hb1, hb2⟩ | ⟨hb1, hb2⟩
        all_goals
          go_wp2_with (go_at_call 61; refine (HBm _ HX4.out).out.mono ?_; rintro e w3 ⟨v, rfl, h1, h2⟩; obtain ⟨va, vc, rfl⟩ := h1.is; rw [HBLm.out]; have HX5 := Lib.hid (HX4.out.trans h2); have HA6 := Lib.hid (h2.at' HA5.out); have HB7 := Lib.hid (h2.at' HB6.out); clear h1 h2)
        all_goals
          go_roundw
          case rel =>
            first
              | exact ⟨m + ev, by go_num, by rw [Nat.add_mod_right]; exact HMF.out, by omega, by omega, by rw [HY.out (by omega)], by rw [HY.out (by omega)], HX5.out, HA6.out, m, HB7.out⟩
              | exact ⟨m + ev, by go_num, by rw [Nat.add_mod_right]; exact HMF.out, by omega, by omega, by rw [HNO.out (by omega)], by rw [HNO.out (by omega)], HX5.out, HA6.out, m, HB7.out⟩
          case measure => simp [intOf]; omega
      · have hlt2 : ¬ (m : Int) < c.sections := by rw [HQ.out]; omega
        have g1 := cells_of hA4 1 rfl
        have hAl3 := lt_of hA4
        have HEND : Hid (bringTo c t s ev f m = bringTo c t s ev f q) := by
          have h5 : m - ev + ev = m := by
            rcases Nat.lt_or_ge m ev with h6 | h6
            · have := HMF.out; rw [Nat.mod_eq_of_lt h6] at this; omega
            · omega
          have h6 : (m - ev) % ev = f := by have := HMF.out; rw [← h5, Nat.add_mod_right] at this; exact this
          have h7 := bringTo_next c t s ev f (m - ev) m h6 (by omega) (by omega)
          have h8 := bringTo_next c t s ev f (m - ev) q h6 (by omega) (by omega)
          show bringTo c t s ev f m = bringTo c t s ev f q
          rw [h7, h8]
        go_wp2
        go_ret3
        rw [HFO.out.1, HFO.out.2, ← HEND.out]
        exact ⟨rfl, hxr⟩
  · have HN := Lib.hid (newRun_bad' c a1 c1 a2 c2 a3 c3 t n s _ hw0 he)
    have HP : Hid (bringL c t n s = (0, 0)) := by show bringL c t n s = (0, 0); unfold bringL; rw [if_neg he]
    have he1 : (runErr c t n s != 0) = true := by simpa using he
    have he0 : ¬ runErr c t n s = 0 := he
    generalize runErr c t n s = er at *
    clear he he0 hw hw0
    go_enter Try.func23, Try.ntmps23
    go_wp2_with (go_at_call 60; refine HN.out.mono ?_; rintro e w2 ⟨rfl, hb2⟩; have hx2 := hx0.trans hb2)
    go_ret3
    rw [HP.out]
    exact ⟨rfl, by (repeat (first | with_reducible exact Ext.refl _ | with_reducible assumption | with_reducible refine Ext.alloc ?_ _ | with_reducible refine Ext.drew ?_ | with_reducible refine Ext.drewN ?_ _ | (with_reducible refine Ext.setCell ?_ ?hsc _; case hsc => (simp <;> omega)) | with_reducible refine Ext.trans ?_ (by assumption)))⟩

end Go.Proofs.Ytdgplebmlggmcaa
/- slices.IndexFunc and slices.ContainsFunc at cams. -/
namespace Go.Proofs.Ytdgplebmlggmcaa
open Go.RowKit


set_option maxHeartbeats 400000 in
theorem IndexFunc_Cam (g : Nat) (cb : Array Value) (eg : ∀ args w, (callFunc g args).run Try.prog w = .ok (.enter g args) w) (p : Int × Int × Int → Bool) (xs : List (Int × Int × Int)) (a : Option Addr) (c : Nat) (w : World)
    (hr : Row 3 encS w a c xs) (hp : Pred Try.prog g cb valS p xs w) :
    Calls Try.prog 95 #[.slice a xs.length c, .func (.func g) #[] cb] w fun e w' => e = .returned (.int .i64 (idxP p xs)) ∧ Ext w w' := by
  have hlen := hr.len
  have HP : Hid (Pred Try.prog g cb valS p xs w) := hp
  have HR : Hid (Row 3 encS w a c xs) := hr
  clear hp hr
  go_enter Try.func95, Try.ntmps95
  go_wp2
  go_loopw [8] (fun i wr => ∃ k : Nat, k ≤ xs.length ∧ i = .int .i64 k ∧ Ext w wr ∧ ∀ y ∈ xs.take k, p y = false) (fun i _ => xs.length - (intOf i).toNat)
  case atStart => exact ⟨0, Nat.zero_le _, rfl, Ext.refl _, by simp⟩
  case round =>
    obtain ⟨k, hk, rfl, hb, ht⟩ := hrel
    have HT := Lib.hid ht
    clear ht
    by_cases hlt : k < xs.length
    · obtain ⟨b, off, rfl, hbl, hc0, hd0, he0⟩ := HR.out.cellS k hlt
      have hc := (hb.cell (off + k * 3) hbl).trans hc0
      have hd := (hb.cell (off + k * 3 + 1) hbl).trans hd0
      have he := (hb.cell (off + k * 3 + 2) hbl).trans he0
      clear hc0 hd0 he0
      have HP' := Lib.hid (HP.out xs[k] (List.getElem_mem hlt))
      have HI := Lib.hid (idxP_found p xs k hlt HT.out)
      have HG := Lib.hid (take_grow p xs k hlt HT.out)
      generalize xs[k] = y at *
      cases hy : p y
      · have HY := Lib.hid hy
        clear hy
        go_wp2_with (refine (HP'.out _ hb).mono ?_; rintro e w2 ⟨rfl, hb2⟩; rw [HY.out])
        go_roundw
        case rel => exact ⟨k + 1, by omega, by go_num, hb.trans hb2, HG.out HY.out⟩
        case measure => simp [intOf]; omega
      · have HY := Lib.hid hy
        clear hy
        go_wp2_with (refine (HP'.out _ hb).mono ?_; rintro e w2 ⟨rfl, hb2⟩; rw [HY.out])
        go_ret
        exact ⟨by rw [HI.out HY.out]; rfl, hb.trans hb2⟩
    · go_wp2
      go_ret
      exact ⟨by rw [idxP_none p xs (by rw [List.take_of_length_le (by omega)] at HT; exact HT.out)]; rfl, hb⟩

theorem ContainsFunc_Cam (g : Nat) (cb : Array Value) (eg : ∀ args w, (callFunc g args).run Try.prog w = .ok (.enter g args) w) (p : Int × Int × Int → Bool) (xs : List (Int × Int × Int)) (a : Option Addr) (c : Nat) (w : World)
    (hr : Row 3 encS w a c xs) (hp : Pred Try.prog g cb valS p xs w) :
    Calls Try.prog 73 #[.slice a xs.length c, .func (.func g) #[] cb] w fun e w' => e = .returned (.bool (xs.any p)) ∧ Ext w w' := by
  have hc := Lib.hid (IndexFunc_Cam g cb eg p xs a c w hr hp)
  have hn := Lib.hid (idxP_nonneg p xs)
  clear hr hp
  go_enter Try.func73, Try.ntmps73
  go_wp2_with (go_at_call 95; refine hc.out.mono ?_; rintro e w2 ⟨rfl, hb2⟩)
  go_ret
  exact ⟨by rw [hn.out]; rfl, hb2⟩

end Go.Proofs.Ytdgplebmlggmcaa
/- Meet of package chime: cams. A cam: its steps, and from which step to which its figure is out. -/
namespace Go.Proofs.Ytdgplebmlggmcaa
open Go.RowKit

def camOk (x : Int × Int × Int) : Bool := inn 1 100 x.1 && (inn 0 (x.1 - 1) x.2.1 && inn 0 (x.1 - 1) x.2.2) && decide (x.2.1 ≤ x.2.2)
def camOut (x : Int × Int × Int) (n : Int) : Bool := inn x.2.1 x.2.2 (n % x.1)

theorem within_two (lo hi x y : Int) (W : World) (b : Nat) (hb : W.heap.size = b) :
    Calls Try.prog 52 #[.int .i64 lo, .int .i64 hi, .slice (some ⟨b, 0, none⟩) 2 2] (W.alloc (.cells #[.int .i64 x, .int .i64 y] 3)) fun e w' => e = .returned (.bool (inn lo hi x && inn lo hi y)) ∧ Ext (W.alloc (.cells #[.int .i64 x, .int .i64 y] 3)) w' := by
  subst hb
  have h := within_any lo hi [x, y] (some ⟨W.heap.size, 0, none⟩) 2 (W.alloc (.cells #[.int .i64 x, .int .i64 y] 3)) ⟨Nat.le_refl _, by unfold maxLen; omega, fun j hj => ⟨_, _, rfl, by simp, fun i hi => by
    have hi0 : i = 0 := by omega
    subst hi0
    obtain ⟨_, f0, f1⟩ := fact_two W x y 3
    have hj2 : j < 2 := hj
    rcases (show j = 0 ∨ j = 1 by omega) with rfl | rfl
    · exact f0
    · exact f1⟩⟩
  simpa using h

set_option maxHeartbeats 1000000 in
theorem camValid_any (x : Int × Int × Int) (w : World) :
    Calls Try.prog 75 #[valS x] w fun e w' => e = .returned (.bool (camOk x)) ∧ Ext w w' := by
  unfold valS camOk
  cases h1 : inn 1 100 x.1
  · go_enter Try.func75, Try.ntmps75
    go_wp2_with ((go_at_call 52; (with_reducible refine (within_one _ _ _ _ _ (by simp)).mono ?_); rintro e w2 ⟨rfl, hb2⟩; obtain ⟨hr1, hr2⟩ := hb2.rules; have hz2 := hb2.size; (try simp at hz2); (try have hl0 : w.heap.size < w2.heap.size := by omega); (try have hl0 : w.heap.size ≤ w2.heap.size := by omega); (try have hl1 : w.heap.size + 1 < w2.heap.size := by omega); (try have hl1 : w.heap.size + 1 ≤ w2.heap.size := by omega)))
    go_ret
    exact ⟨rfl, by (repeat (first | with_reducible exact Ext.refl _ | with_reducible assumption | with_reducible refine Ext.alloc ?_ _ | with_reducible refine Ext.drew ?_ | with_reducible refine Ext.drewN ?_ _ | (with_reducible refine Ext.setCell ?_ ?hsc _; case hsc => (simp <;> omega)) | with_reducible refine Ext.trans ?_ (by assumption)))⟩
  obtain ⟨p1, p2⟩ := inn_iff.1 h1
  cases h2 : (inn 0 (x.1 - 1) x.2.1 && inn 0 (x.1 - 1) x.2.2)
  · go_enter Try.func75, Try.ntmps75
    go_wp2_with ((go_at_call 52; (first | (with_reducible refine (within_one _ _ _ _ _ (by simp)).mono ?_) | (with_reducible refine (within_two _ _ _ _ _ _ (by simp)).mono ?_)); rintro e w2 ⟨rfl, hb2⟩; obtain ⟨hr1, hr2⟩ := hb2.rules; have hz2 := hb2.size; (try simp at hz2); (try have hl0 : w.heap.size < w2.heap.size := by omega); (try have hl0 : w.heap.size ≤ w2.heap.size := by omega); (try have hl1 : w.heap.size + 1 < w2.heap.size := by omega); (try have hl1 : w.heap.size + 1 ≤ w2.heap.size := by omega)))
    go_ret
    exact ⟨rfl, by (repeat (first | with_reducible exact Ext.refl _ | with_reducible assumption | with_reducible refine Ext.alloc ?_ _ | with_reducible refine Ext.drew ?_ | with_reducible refine Ext.drewN ?_ _ | (with_reducible refine Ext.setCell ?_ ?hsc _; case hsc => (simp <;> omega)) | with_reducible refine Ext.trans ?_ (by assumption)))⟩
  · cases h3 : decide (x.2.1 ≤ x.2.2)
    all_goals
      go_enter Try.func75, Try.ntmps75
      go_wp2_with ((go_at_call 52; (first | (with_reducible refine (within_one _ _ _ _ _ (by simp)).mono ?_) | (with_reducible refine (within_two _ _ _ _ _ _ (by simp)).mono ?_)); rintro e w2 ⟨rfl, hb2⟩; obtain ⟨hr1, hr2⟩ := hb2.rules; have hz2 := hb2.size; (try simp at hz2); (try have hl0 : w.heap.size < w2.heap.size := by omega); (try have hl0 : w.heap.size ≤ w2.heap.size := by omega); (try have hl1 : w.heap.size + 1 < w2.heap.size := by omega); (try have hl1 : w.heap.size + 1 ≤ w2.heap.size := by omega)))
      go_ret
      exact ⟨rfl, by (repeat (first | with_reducible exact Ext.refl _ | with_reducible assumption | with_reducible refine Ext.alloc ?_ _ | with_reducible refine Ext.drew ?_ | with_reducible refine Ext.drewN ?_ _ | (with_reducible refine Ext.setCell ?_ ?hsc _; case hsc => (simp <;> omega)) | with_reducible refine Ext.trans ?_ (by assumption)))⟩

theorem within_oneD (lo hi x : Int) (W : World) (b : Nat) (hb : W.heap.size = b) :
    Calls Try.prog 52 #[.int .i64 lo, .int .i64 hi, .slice (some ⟨b, 0, none⟩) 1 1] (W.alloc (.cells #[.int .i64 x] 3)).drew fun e w' => e = .returned (.bool (inn lo hi x)) ∧ Ext (W.alloc (.cells #[.int .i64 x] 3)).drew w' :=
  within_one lo hi x W.drew b hb

set_option maxRecDepth 100000 in
set_option maxHeartbeats 2000000 in
theorem camOut_any (x : Int × Int × Int) (n : Int) (w : World) (h0 : 0 ≤ n) (h1 : n ≤ 1000000000000) (hx : camOk x = true) :
    Calls Try.prog 77 #[valS x, .int .i64 n] w fun e w' => e = .returned (.bool (camOut x n)) ∧ Ext w w' := by
  unfold camOk at hx
  simp only [Bool.and_eq_true, inn_iff, decide_eq_true_eq] at hx
  obtain ⟨⟨⟨p1, p2⟩, ⟨q1, q2⟩, r1, r2⟩, p3⟩ := hx
  unfold valS camOut
  have hz : (x.1 == 0) = false := by simp; omega
  have hz2 : ¬ x.1 = 0 := by omega
  have ht : n.tmod x.1 = n % x.1 := Int.tmod_eq_emod_of_nonneg h0
  go_enter Try.func77, Try.ntmps77
  go_wp2
  have ha := heap_alloc_new w (.cells #[.int .i64 x.1, .int .i64 x.2.1, .int .i64 x.2.2] 142)
  have hx1 : Ext w (w.alloc (.cells #[.int .i64 x.1, .int .i64 x.2.1, .int .i64 x.2.2] 142)) := (Ext.refl w).alloc _
  generalize w.alloc (.cells #[.int .i64 x.1, .int .i64 x.2.1, .int .i64 x.2.2] 142) = W1 at *
  have c0 : W1.cell? ⟨w.heap.size, 0, none⟩ = some (.int .i64 x.1) := cells_of ha 0 rfl
  have c1 : W1.cell? ⟨w.heap.size, 1, none⟩ = some (.int .i64 x.2.1) := cells_of ha 1 rfl
  have c2 : W1.cell? ⟨w.heap.size, 2, none⟩ = some (.int .i64 x.2.2) := cells_of ha 2 rfl
  have hl := lt_of ha
  clear ha
  go_region_with (go_at_call 52; (with_reducible refine (within_oneD _ _ _ _ _ (by simp)).mono ?_); rintro e w2 ⟨rfl, hb2⟩)
  all_goals
    go_wp2
    go_ret
    exact ⟨rfl, by (repeat (first | with_reducible exact Ext.refl _ | with_reducible assumption | with_reducible refine Ext.alloc ?_ _ | with_reducible refine Ext.drew ?_ | with_reducible refine Ext.drewN ?_ _ | (with_reducible refine Ext.setCell ?_ ?hsc _; case hsc => (simp <;> omega)) | with_reducible refine Ext.trans ?_ (by assumption)))⟩

end Go.Proofs.Ytdgplebmlggmcaa
/- Meet of package chime. -/
namespace Go.Proofs.Ytdgplebmlggmcaa
open Go.RowKit

theorem noCam_any (x : Int × Int × Int) (w : World) :
    Calls Try.prog 74 #[valS x] w fun e w' => e = .returned (.bool (!camOk x)) ∧ Ext w w' := by
  have hc : ∀ W, Hid (Calls Try.prog 75 #[.agg #[.int .i64 x.1, .int .i64 x.2.1, .int .i64 x.2.2]] W fun e w' => e = .returned (.bool (camOk x)) ∧ Ext W w') := fun W => camValid_any x W
  unfold valS
  go_enter Try.func74, Try.ntmps74
  go_wp2_with (go_at_call 75; refine (hc _).out.mono ?_; rintro e w2 ⟨rfl, hb2⟩)
  go_ret
  exact ⟨rfl, by (repeat (first | with_reducible exact Ext.refl _ | with_reducible assumption | with_reducible refine Ext.alloc ?_ _ | with_reducible refine Ext.drew ?_ | with_reducible refine Ext.drewN ?_ _ | (with_reducible refine Ext.setCell ?_ ?hsc _; case hsc => (simp <;> omega)) | with_reducible refine Ext.trans ?_ (by assumption)))⟩

theorem notOut_any (x : Int × Int × Int) (f n : Int) (B1 B2 : Nat) (w : World) (h1 : w.cell? ⟨B1, 0, none⟩ = some (.int .i64 f)) (h2 : w.cell? ⟨B2, 0, none⟩ = some (.int .i64 n)) (hl1 : B1 < w.heap.size) (hl2 : B2 < w.heap.size) (f0 : 0 ≤ f) (f1 : f ≤ 3155760000) (n0 : 0 ≤ n) (n1 : n ≤ 1000000) (hx : camOk x = true) :
    Calls Try.prog 76 #[valS x, .pointer (some ⟨B1, 0, none⟩), .pointer (some ⟨B2, 0, none⟩)] w fun e w' => e = .returned (.bool (!camOut x (f + n))) ∧ Ext w w' := by
  have hc : ∀ W, Hid (Calls Try.prog 77 #[.agg #[.int .i64 x.1, .int .i64 x.2.1, .int .i64 x.2.2], .int .i64 (f + n)] W fun e w' => e = .returned (.bool (camOut x (f + n))) ∧ Ext W w') := fun W => camOut_any x (f + n) W (by omega) (by omega) hx
  unfold valS
  go_enter Try.func76, Try.ntmps76
  go_wp2_with (go_at_call 77; refine (hc _).out.mono ?_; rintro e w2 ⟨rfl, hb2⟩)
  go_ret
  exact ⟨rfl, by (repeat (first | with_reducible exact Ext.refl _ | with_reducible assumption | with_reducible refine Ext.alloc ?_ _ | with_reducible refine Ext.drew ?_ | with_reducible refine Ext.drewN ?_ _ | (with_reducible refine Ext.setCell ?_ ?hsc _; case hsc => (simp <;> omega)) | with_reducible refine Ext.trans ?_ (by assumption)))⟩

/-- After how many steps all cams stand as at first. -/
def turnOf (l : List (Int × Int × Int)) : Nat := l.foldl (fun t x => Nat.lcm t x.1.toNat) 1
def allOut (l : List (Int × Int × Int)) (n : Int) : Bool := l.all fun x => camOut x n
def meetErr (l : List (Int × Int × Int)) (f : Int) : Int := if 3 < l.length then 5 else if !l.all camOk then 2 else if !inn 0 3155760000 f then 3 else 0
def meetOk (l : List (Int × Int × Int)) (f : Int) : Int × Int := match (List.range (turnOf l)).find? fun (n : Nat) => allOut l (f + n) with
  | some n => (f + n, 0)
  | none => (0, 7)
def meetR (l : List (Int × Int × Int)) (f : Int) : Int × Int := if meetErr l f = 0 then meetOk l f else (0, meetErr l f)

theorem turnOf_take (l : List (Int × Int × Int)) (k : Nat) (hk : k < l.length) : turnOf (l.take (k + 1)) = Nat.lcm (turnOf (l.take k)) l[k].1.toNat := by
  unfold turnOf
  rw [List.take_succ_eq_append_getElem hk, List.foldl_append]; rfl

theorem lcm_le {a b : Nat} : Nat.lcm a b ≤ a * b := by
  unfold Nat.lcm
  exact Nat.div_le_self _ _

theorem turnOf_bound (l : List (Int × Int × Int)) (h : ∀ x ∈ l, camOk x = true) : ∀ k, 0 < turnOf (l.take k) ∧ turnOf (l.take k) ≤ 100 ^ min k l.length := by
  intro k
  induction k with
  | zero => simp [turnOf]
  | succ k ih =>
    by_cases hk : k < l.length
    · rw [turnOf_take l k hk]
      have hx := h _ (List.getElem_mem hk)
      unfold camOk at hx
      simp only [Bool.and_eq_true, inn_iff, decide_eq_true_eq] at hx
      obtain ⟨⟨⟨p1, p2⟩, _⟩, _⟩ := hx
      have hs0 : 0 < l[k].1.toNat := by omega
      have hs1 : l[k].1.toNat ≤ 100 := by omega
      refine ⟨Nat.lcm_pos ih.1 hs0, Nat.le_trans (lcm_le) ?_⟩
      have e1 : min k l.length = k := by omega
      have e2 : min (k + 1) l.length = k + 1 := by omega
      rw [e1] at ih
      rw [e2, Nat.pow_succ]
      exact Nat.mul_le_mul ih.2 hs1
    · rw [List.take_of_length_le (by omega)]
      rw [List.take_of_length_le (by omega)] at ih
      rw [show min (k + 1) l.length = min k l.length by omega]
      exact ih

theorem lcm_step (t s : Nat) : t / Nat.gcd t s * s = Nat.lcm t s := by
  unfold Nat.lcm
  rw [Nat.div_mul_right_comm (Nat.gcd_dvd_left t s)]

theorem find_range_none {p : Nat → Bool} {k : Nat} (h : ∀ n, n < k → p n = false) : (List.range k).find? p = none := by
  rw [List.find?_eq_none]
  intro n hn
  rw [h n (List.mem_range.1 hn)]; simp

theorem find_range_some {p : Nat → Bool} {k m : Nat} (hm : m < k) (hp : p m = true) (h : ∀ n, n < m → p n = false) : (List.range k).find? p = some m := by
  obtain ⟨d, rfl⟩ : ∃ d, k = m + 1 + d := ⟨k - m - 1, by omega⟩
  have h1 : (List.range (m + 1)).find? p = some m := by
    rw [List.range_succ, List.find?_append, find_range_none h]
    simp [hp]
  induction d with
  | zero => exact h1
  | succ d ih =>
    rw [← Nat.add_assoc, List.range_succ, List.find?_append, ih (by omega)]
    rfl

theorem meetOk_none {l : List (Int × Int × Int)} {f : Int} (h : ∀ n, n < turnOf l → allOut l (f + (n : Int)) = false) : meetOk l f = (0, 7) := by
  unfold meetOk
  rw [find_range_none h]
theorem meetOk_some {l : List (Int × Int × Int)} {f : Int} {m : Nat} (hm : m < turnOf l) (hp : allOut l (f + (m : Int)) = true) (h : ∀ n, n < m → allOut l (f + (n : Int)) = false) : meetOk l f = (f + m, 0) := by
  unfold meetOk
  rw [find_range_some hm hp h]

def RetE (x : Int × Int) (w : World) (e : Ending) (w' : World) : Prop := e = .returned (.tuple #[.int .i64 x.1, .int .i64 x.2]) ∧ Ext w w'

set_option maxRecDepth 100000 in
set_option maxHeartbeats 2000000 in
theorem meet_any (l : List (Int × Int × Int)) (a : Option Addr) (c : Nat) (f : Int) (w : World) (hr : Row 3 encS w a c l) :
    Calls Try.prog 40 #[.slice a l.length c, .int .i64 f] w (RetE (meetR l f) w) := by
  have hlen := hr.len
  have HR := Lib.hid hr
  have HV := fun W (hW : Ext w W) => Lib.hid (show Calls Try.prog 73 #[.slice a l.length c, .func (.func 74) #[] #[]] W fun e w' => e = .returned (.bool (!l.all camOk)) ∧ Ext W w' by
    have := ContainsFunc_Cam 74 #[] (enters_of Try.func74 (by kernel_rfl) rfl) (fun x => !camOk x) l a c W (hr.ext hW) (fun x _ W2 _ => noCam_any x W2)
    rw [not_all] at this
    exact this)
  clear hr
  by_cases h3 : 3 < l.length
  · have HP : Hid (meetR l f = (0, 5)) := by show meetR l f = (0, 5); unfold meetR meetErr; rw [if_pos h3]; rfl
    have h3' : (3 : Int) < (l.length : Int) := by omega
    go_enter Try.func40, Try.ntmps40
    go_wp2
    go_ret2
    rw [HP.out]
    exact ⟨rfl, by (repeat (first | with_reducible exact Ext.refl _ | with_reducible assumption | with_reducible refine Ext.alloc ?_ _ | with_reducible refine Ext.drew ?_ | with_reducible refine Ext.drewN ?_ _ | (with_reducible refine Ext.setCell ?_ ?hsc _; case hsc => (simp <;> omega)) | with_reducible refine Ext.trans ?_ (by assumption)))⟩
  cases hv : l.all camOk
  · have HP : Hid (meetR l f = (0, 2)) := by show meetR l f = (0, 2); unfold meetR meetErr; rw [if_neg h3, hv]; rfl
    have HVV := Lib.hid hv
    clear hv
    go_enter Try.func40, Try.ntmps40
    go_wp2_with (go_at_call 73; refine (HV _ (by (repeat (first | with_reducible exact Ext.refl _ | with_reducible assumption | with_reducible refine Ext.alloc ?_ _ | with_reducible refine Ext.drew ?_ | with_reducible refine Ext.drewN ?_ _ | (with_reducible refine Ext.setCell ?_ ?hsc _; case hsc => (simp <;> omega)) | with_reducible refine Ext.trans ?_ (by assumption))))).out.mono ?_; rintro e w2 ⟨rfl, hb2⟩; rw [HVV.out])
    go_ret2
    rw [HP.out]
    exact ⟨rfl, by (repeat (first | with_reducible exact Ext.refl _ | with_reducible assumption | with_reducible refine Ext.alloc ?_ _ | with_reducible refine Ext.drew ?_ | with_reducible refine Ext.drewN ?_ _ | (with_reducible refine Ext.setCell ?_ ?hsc _; case hsc => (simp <;> omega)) | with_reducible refine Ext.trans ?_ (by assumption)))⟩
  cases hf : inn 0 3155760000 f
  · have HP : Hid (meetR l f = (0, 3)) := by show meetR l f = (0, 3); unfold meetR meetErr; rw [if_neg h3, hv, hf]; rfl
    have HVV := Lib.hid hv
    have HF := Lib.hid hf
    clear hv hf
    go_enter Try.func40, Try.ntmps40
    go_wp2_with (first | (go_at_call 73; refine (HV _ (by (repeat (first | with_reducible exact Ext.refl _ | with_reducible assumption | with_reducible refine Ext.alloc ?_ _ | with_reducible refine Ext.drew ?_ | with_reducible refine Ext.drewN ?_ _ | (with_reducible refine Ext.setCell ?_ ?hsc _; case hsc => (simp <;> omega)) | with_reducible refine Ext.trans ?_ (by assumption))))).out.mono ?_; rintro e w2 ⟨rfl, hb2⟩; rw [HVV.out]; obtain ⟨hr1, hr2⟩ := hb2.rules; have hz2 := hb2.size; (try simp at hz2); (try have hl0 : w.heap.size < w2.heap.size := by omega); (try have hl0 : w.heap.size ≤ w2.heap.size := by omega); (try have hl1 : w.heap.size + 1 < w2.heap.size := by omega); (try have hl1 : w.heap.size + 1 ≤ w2.heap.size := by omega)) | ((go_at_call 52; (with_reducible refine (within_one _ _ _ _ _ (by simp)).mono ?_); rintro e w2 ⟨rfl, hb2⟩; obtain ⟨hr1, hr2⟩ := hb2.rules; have hz2 := hb2.size; (try simp at hz2); (try have hl0 : w.heap.size < w2.heap.size := by omega); (try have hl0 : w.heap.size ≤ w2.heap.size := by omega); (try have hl1 : w.heap.size + 1 < w2.heap.size := by omega); (try have hl1 : w.heap.size + 1 ≤ w2.heap.size := by omega)); rw [HF.out]))
    go_ret2
    rw [HP.out]
    exact ⟨rfl, by (repeat (first | with_reducible exact Ext.refl _ | with_reducible assumption | with_reducible refine Ext.alloc ?_ _ | with_reducible refine Ext.drew ?_ | with_reducible refine Ext.drewN ?_ _ | (with_reducible refine Ext.setCell ?_ ?hsc _; case hsc => (simp <;> omega)) | with_reducible refine Ext.trans ?_ (by assumption)))⟩
  have HP : Hid (meetR l f = meetOk l f) := by show meetR l f = meetOk l f; unfold meetR; rw [show meetErr l f = 0 by unfold meetErr; rw [if_neg h3, hv, hf]; rfl]; rfl
  obtain ⟨f0, f1⟩ := inn_iff.1 hf
  have hall : ∀ x ∈ l, camOk x = true := List.all_eq_true.1 hv
  have hT := turnOf_bound l hall
  have HA := Lib.hid hall
  have HVV := Lib.hid hv
  have HF := Lib.hid hf
  have HTT := Lib.hid hT
  clear hv hf hall hT
  go_enter Try.func40, Try.ntmps40
  go_wp2_with (first | (go_at_call 73; refine (HV _ (by (repeat (first | with_reducible exact Ext.refl _ | with_reducible assumption | with_reducible refine Ext.alloc ?_ _ | with_reducible refine Ext.drew ?_ | with_reducible refine Ext.drewN ?_ _ | (with_reducible refine Ext.setCell ?_ ?hsc _; case hsc => (simp <;> omega)) | with_reducible refine Ext.trans ?_ (by assumption))))).out.mono ?_; rintro e w2 ⟨rfl, hb2⟩; rw [HVV.out]; obtain ⟨hr1, hr2⟩ := hb2.rules; have hz2 := hb2.size; (try simp at hz2); (try have hl0 : w.heap.size < w2.heap.size := by omega); (try have hl0 : w.heap.size ≤ w2.heap.size := by omega); (try have hl1 : w.heap.size + 1 < w2.heap.size := by omega); (try have hl1 : w.heap.size + 1 ≤ w2.heap.size := by omega)) | ((go_at_call 52; (with_reducible refine (within_one _ _ _ _ _ (by simp)).mono ?_); rintro e w2 ⟨rfl, hb2⟩; obtain ⟨hr1, hr2⟩ := hb2.rules; have hz2 := hb2.size; (try simp at hz2); (try have hl0 : w.heap.size < w2.heap.size := by omega); (try have hl0 : w.heap.size ≤ w2.heap.size := by omega); (try have hl1 : w.heap.size + 1 < w2.heap.size := by omega); (try have hl1 : w.heap.size + 1 ≤ w2.heap.size := by omega)); rw [HF.out]))
  have hxA : Ext (w.alloc (.cells #[.int .i64 f] 3)) w2 := by (repeat (first | with_reducible exact Ext.refl _ | with_reducible assumption | with_reducible refine Ext.alloc ?_ _ | with_reducible refine Ext.drew ?_ | with_reducible refine Ext.drewN ?_ _ | (with_reducible refine Ext.setCell ?_ ?hsc _; case hsc => (simp <;> omega)) | with_reducible refine Ext.trans ?_ (by assumption)))
  have hB := hxA.at' (heap_alloc_new w (.cells #[.int .i64 f] 3))
  have HXW := Lib.hid (((Ext.refl w).alloc (.cells #[.int .i64 f] 3)).trans hxA)
  have HB := Lib.hid hB
  clear hxA hB hr1 hr2 hb2 hz2 hl0 hl1
  go_loopw [6, 24] (fun t i wr => ∃ k : Nat, k ≤ l.length ∧ i = .int .i64 k ∧ t = .int .i64 (turnOf (l.take k)) ∧ Ext w wr ∧ wr.heap[w.heap.size]? = some (.cells #[.int .i64 f] 3 (0, 0))) (fun _ i _ => l.length - (intOf i).toNat)
  case atStart => exact ⟨0, Nat.zero_le _, rfl, by simp [turnOf], HXW.out, HB.out⟩
  case round =>
    obtain ⟨k, hk, rfl, rfl, hxr, hBr⟩ := hrel
    by_cases hlt : k < l.length
    · obtain ⟨b, off, rfl, hbl, k0, k1, k2⟩ := (HR.out.ext hxr).cellS k hlt
      have HT := Lib.hid (turnOf_take l k hlt)
      have hx := HA.out _ (List.getElem_mem hlt)
      obtain ⟨t0, t1⟩ := HTT.out k
      obtain ⟨t2, t3⟩ := HTT.out (k + 1)
      have e3 : ∀ m, 100 ^ min m l.length ≤ 1000000 := fun m => Nat.le_trans (Nat.pow_le_pow_right (by omega) (show min m l.length ≤ 3 by omega)) (by decide)
      have t1' := Nat.le_trans t1 (e3 k)
      have t3' := Nat.le_trans t3 (e3 (k + 1))
      rw [HT.out] at t3'
      clear t1 t2 t3 e3
      generalize l[k] = x at *
      generalize turnOf (l.take k) = T at *
      unfold camOk at hx
      simp only [Bool.and_eq_true, inn_iff, decide_eq_true_eq] at hx
      obtain ⟨⟨⟨p1, p2⟩, _⟩, _⟩ := hx
      obtain ⟨S, hS⟩ := Int.eq_ofNat_of_zero_le (show 0 ≤ x.1 by omega)
      have hS2 : x.1.toNat = S := by omega
      rw [hS2] at HT t3'
      rw [hS] at k0
      have hs0 : 0 < S := by omega
      have hg0 : 0 < Nat.gcd T S := Nat.gcd_pos_of_pos_left S t0
      have hd1 : T / Nat.gcd T S * S = Nat.lcm T S := lcm_step T S
      have HG := fun W => Lib.hid (gcd_any T S W (by omega) (by omega))
      have hd0 : T / Nat.gcd T S ≤ T := Nat.div_le_self _ _
      have hq : ((T : Int)).tdiv ((Nat.gcd T S : Nat) : Int) = ((T / Nat.gcd T S : Nat) : Int) := by
        rw [Int.tdiv_eq_ediv_of_nonneg (by omega)]; rfl
      have hz1 : ¬ ((Nat.gcd T S : Nat) : Int) = 0 := by omega
      have hz2' : ¬ Nat.gcd T S = 0 := by omega
      have hq2 : ((T / Nat.gcd T S : Nat) : Int) * (S : Int) = ((Nat.lcm T S : Nat) : Int) := by rw [← hd1]; exact (Int.natCast_mul _ _).symm
      clear hd1
      generalize Nat.gcd T S = g at *
      generalize Nat.lcm T S = L at *
      generalize T / g = D at *
      have hw1 : IntKind.i64.wrap ((D : Int)) = (D : Int) := IntWalk.i64_in _ (by omega)
      have hw2 : IntKind.i64.wrap ((L : Int)) = (L : Int) := IntWalk.i64_in _ (by omega)
      have hxs : x.1 = (S : Int) := hS
      clear hS p1 p2 hS2
      go_wp2
      have hx5 : Ext wr (wr.alloc (.cells #[.int .i64 S, .int .i64 x.2.1, .int .i64 x.2.2] 80)) := (Ext.refl wr).alloc _
      have hb5 := heap_alloc_new wr (.cells #[.int .i64 S, .int .i64 x.2.1, .int .i64 x.2.2] 80)
      generalize wr.alloc (.cells #[.int .i64 S, .int .i64 x.2.1, .int .i64 x.2.2] 80) = W5 at *
      have d0 := cells_of hb5 0 rfl
      have hl5 := lt_of hb5
      clear hb5 k0 k1 k2 hxs
      have HX5 := Lib.hid hx5
      have HBr := Lib.hid hBr
      have HXR := Lib.hid hxr
      clear hx5 hBr hxr hg0 t0 hd0
      refine (wpIn_wide (n := 3)).1 ?_
      (refine wpIn_tail 9 rfl (by kernel_rfl) (by kernel_rfl) ?_; simp only [List.take_succ_cons, List.take_zero, List.drop_succ_cons, List.drop_zero]; (repeat (refine wpQuietIn_step (fun _ _ _ _ => trivial) (fun K hK => ?_); rw [if_pos (by go_simp)]; apply quietIn_val; (focus (intro wq hwq; obtain ⟨hrq1, hrq2⟩ := hwq.rulesD; first | (go_simp; done) | (go_simp; rfl) | (go_simp; ( refine (callsIn_wide.2 (HG _).out).mono ?_; rintro e w3 ⟨rfl, hb3⟩; exact ⟨rfl, hwq.trans hb3⟩)))); go_simp; refine hK _ ?_; clear hK K)); refine wpQuietIn_nil ?_; intro wq hwq)
      have hxq : Ext wr wq := HX5.out.trans ((Ext.refl W5).drew.trans hwq)
      have HXQ := Lib.hid hxq
      clear hwq hxq d0
      gi_wp2
      go_wp2
      go_roundw
      case rel => exact ⟨k + 1, by omega, by go_num, by rw [HT.out], HXR.out.trans HXQ.out, HXQ.out.at' HBr.out⟩
      case measure => simp [intOf]; omega
    · obtain rfl : k = l.length := by omega
      obtain ⟨wo, rfl⟩ : ∃ wo : World, wo = wr := ⟨_, rfl⟩
      have hTb := HTT.out l.length
      rw [List.take_length] at hTb
      have hT6 : turnOf l ≤ 1000000 := Nat.le_trans hTb.2 (Nat.le_trans (Nat.pow_le_pow_right (by omega) (show min l.length l.length ≤ 3 by omega)) (by decide))
      clear hTb
      have hBl := lt_of hBr
      rw [List.take_length]
      have HXR := Lib.hid hxr
      have HBr := Lib.hid hBr
      have HLE := Lib.hid (show turnOf l = turnOf l from rfl)
      have HN := Lib.hid (@meetOk_none l f)
      have HSM := Lib.hid (fun m => @meetOk_some l f m)
      clear hxr hBr
      obtain ⟨T, hT⟩ : ∃ T, turnOf l = T := ⟨_, rfl⟩
      simp only [hT] at hT6 HN HSM ⊢
      have HTE := Lib.hid hT
      clear hT
      go_wp2
      go_loopw [39] (fun i wr => ∃ n : Nat, n ≤ T ∧ i = .int .i64 n ∧ Ext wo wr ∧ ∀ m, m < n → allOut l (f + (m : Int)) = false) (fun i _ => T - (intOf i).toNat)
      case atStart => exact ⟨0, Nat.zero_le _, rfl, Ext.refl _, by omega⟩
      case round =>
        obtain ⟨n, hn, rfl, hxx, hno⟩ := hrel
        have HNO := Lib.hid hno
        clear hno
        by_cases hlt : n < T
        · have HC := fun W (hW : Ext wo W) (hc1 : W.cell? ⟨wr.heap.size, 0, none⟩ = some (.int .i64 n)) (hlx : wr.heap.size < W.heap.size) => Lib.hid (show Calls Try.prog 73 #[.slice a l.length c, .func (.func 76) #[] #[.pointer (some ⟨w.heap.size, 0, none⟩), .pointer (some ⟨wr.heap.size, 0, none⟩)]] W fun e w' => e = .returned (.bool (!allOut l (f + n))) ∧ Ext W w' by
            have := ContainsFunc_Cam 76 #[.pointer (some ⟨w.heap.size, 0, none⟩), .pointer (some ⟨wr.heap.size, 0, none⟩)] (enters_of Try.func76 (by kernel_rfl) rfl) (fun x => !camOut x (f + n)) l a c W (HR.out.ext (HXR.out.trans hW)) (fun x hx W2 hW2 =>
              notOut_any x f n w.heap.size wr.heap.size W2 (((hW.trans hW2).cell 0 hBl).trans (cells_of HBr.out 0 rfl)) ((hW2.cell 0 hlx).trans hc1) (Nat.lt_of_lt_of_le hBl (hW.trans hW2).size) (Nat.lt_of_lt_of_le hlx hW2.size) f0 f1 (by omega) (by omega) (HA.out x hx))
            rw [not_all] at this
            exact this)
          cases hao : allOut l (f + (n : Int))
          · have HAO := Lib.hid hao
            clear hao
            go_wp2_with (go_at_call 73; refine (HC _ (hxx.alloc _) (fact_int _ _ _) (by simp)).out.mono ?_; rintro e w3 ⟨rfl, hb3⟩; rw [HAO.out])
            go_roundw
            case rel => exact ⟨n + 1, by omega, by go_num, (hxx.alloc _).trans hb3, fun m hm => (Nat.lt_or_eq_of_le (Nat.le_of_lt_succ hm)).elim (HNO.out m) (fun h => by rw [h]; exact HAO.out)⟩
            case measure => simp [intOf]; omega
          · have HAO := Lib.hid hao
            clear hao
            go_wp2_with (go_at_call 73; refine (HC _ (hxx.alloc _) (fact_int _ _ _) (by simp)).out.mono ?_; rintro e w3 ⟨rfl, hb3⟩; rw [HAO.out]; have HX3 := Lib.hid (HXR.out.trans ((hxx.alloc (.cells #[.int .i64 n] 3)).trans hb3)); have c1 := (hb3.cell 0 (by simp)).trans (fact_int wr n 3); have c0 := (((hxx.alloc (.cells #[.int .i64 n] 3)).trans hb3).cell 0 hBl).trans (cells_of HBr.out 0 rfl); have l1 : wr.heap.size < w3.heap.size := (by have := hb3.size; simp at this; omega))
            go_ret2
            rw [HP.out, HSM.out n hlt HAO.out HNO.out]
            exact ⟨rfl, HX3.out⟩
        · go_wp2
          go_ret2
          rw [HP.out, HN.out (fun m hm => HNO.out m (by omega))]
          exact ⟨rfl, HXR.out.trans hxx⟩

end Go.Proofs.Ytdgplebmlggmcaa
/- Tunes: isBlow, and which blows each bell has. A tune: steps, blows, and the rest of its hammers. -/
namespace Go.Proofs.Ytdgplebmlggmcaa
open Go.RowKit Go.Maps

def blowOk (s : Int) (b : Int × Int) : Bool := inn 0 (s - 1) b.1 && inn 0 15 b.2

set_option maxHeartbeats 1000000 in
theorem isBlow_any (s r : Int) (av : Option Addr) (n c : Nat) (b : Int × Int) (w : World) (h1 : 1 ≤ s) (h2 : s ≤ 1000) :
    Calls Try.prog 89 #[.agg #[.int .i64 s, .slice av n c, .int .i64 r], valP b] w fun e w' => e = .returned (.bool (blowOk s b)) ∧ Ext w w' := by
  unfold valP blowOk
  cases hx : inn 0 (s - 1) b.1
  all_goals
    go_enter Try.func89, Try.ntmps89
    go_wp2_with (first | (go_at_call 52; (with_reducible refine (within_one _ _ _ _ _ (by simp)).mono ?_); rintro e w2 ⟨rfl, hb2⟩; obtain ⟨hr1, hr2⟩ := hb2.rules; have hz2 := hb2.size; (try simp at hz2); (try have hl0 : w.heap.size < w2.heap.size := by omega); (try have hl0 : w.heap.size ≤ w2.heap.size := by omega); (try have hl1 : w.heap.size + 1 < w2.heap.size := by omega); (try have hl1 : w.heap.size + 1 ≤ w2.heap.size := by omega)) | (go_at_call 78; refine (isBell_any _ _).mono ?_; rintro e w2 ⟨rfl, hb2⟩; obtain ⟨hr1, hr2⟩ := hb2.rules; have hz2 := hb2.size; (try simp at hz2); (try have hl0 : w.heap.size < w2.heap.size := by omega); (try have hl0 : w.heap.size ≤ w2.heap.size := by omega); (try have hl1 : w.heap.size + 1 < w2.heap.size := by omega); (try have hl1 : w.heap.size + 1 ≤ w2.heap.size := by omega)))
    go_ret
    exact ⟨rfl, by (repeat (first | with_reducible exact Ext.refl _ | with_reducible assumption | with_reducible refine Ext.alloc ?_ _ | with_reducible refine Ext.drew ?_ | with_reducible refine Ext.drewN ?_ _ | (with_reducible refine Ext.setCell ?_ ?hsc _; case hsc => (simp <;> omega)) | with_reducible refine Ext.trans ?_ (by assumption)))⟩

theorem noBlow_any (s r : Int) (av : Option Addr) (n c : Nat) (B : Nat) (b : Int × Int) (w : World) (hl : B < w.heap.size) (c0 : w.cell? ⟨B, 0, none⟩ = some (.int .i64 s)) (c1 : w.cell? ⟨B, 1, none⟩ = some (.slice av n c)) (c2 : w.cell? ⟨B, 2, none⟩ = some (.int .i64 r)) (h1 : 1 ≤ s) (h2 : s ≤ 1000) :
    Calls Try.prog 88 #[valP b, .pointer (some ⟨B, 0, none⟩)] w fun e w' => e = .returned (.bool (!blowOk s b)) ∧ Ext w w' := by
  have hc : ∀ W, Hid (Calls Try.prog 89 #[.agg #[.int .i64 s, .slice av n c, .int .i64 r], .agg #[.int .i64 b.1, .int .i64 b.2]] W fun e w' => e = .returned (.bool (blowOk s b)) ∧ Ext W w') := fun W => isBlow_any s r av n c b W h1 h2
  unfold valP
  go_enter Try.func88, Try.ntmps88
  go_wp2_with (go_at_call 89; refine (hc _).out.mono ?_; rintro e w2 ⟨rfl, hb2⟩)
  go_ret
  exact ⟨rfl, by (repeat (first | with_reducible exact Ext.refl _ | with_reducible assumption | with_reducible refine Ext.alloc ?_ _ | with_reducible refine Ext.drew ?_ | with_reducible refine Ext.drewN ?_ _ | (with_reducible refine Ext.setCell ?_ ?hsc _; case hsc => (simp <;> omega)) | with_reducible refine Ext.trans ?_ (by assumption)))⟩

/-- The bell of a blow. -/
def bellOf (bl : List (Int × Int)) (k : Nat) : Int := (bl.getD k (0, 0)).2
/-- The numbers of the first k blows that a bell has. -/
def ofBell (bl : List (Int × Int)) (k : Nat) (b : Int) : List Int := ((List.range k).filter fun i => bellOf bl i == b).map fun (i : Nat) => (i : Int)

theorem ofBell_succ (bl : List (Int × Int)) (k : Nat) (b : Int) : ofBell bl (k + 1) b = ofBell bl k b ++ if bellOf bl k == b then [(k : Int)] else [] := by
  unfold ofBell
  rw [List.range_succ, List.filter_append, List.map_append]
  cases h : bellOf bl k == b <;> simp [h]

theorem ofBell_len (bl : List (Int × Int)) (k : Nat) (b : Int) : (ofBell bl k b).length ≤ k := by
  unfold ofBell; rw [List.length_map]; exact Nat.le_trans (List.length_filter_le _ _) (by simp)

/-- The blows of each bell, as the map that byBell makes. -/
def bellsD (bl : List (Int × Int)) : Nat → DataW Nat
  | 0 => .map []
  | k + 1 => (bellsD bl k).put (.int .i64 (bellOf bl k)) (.slice (ChangeShapes.lits .i64 (ofBell bl (k + 1) (bellOf bl k))) [])

theorem zeroI (w : World) : (zeroValue 22).run Try.prog w = .ok (.slice none 0 0) w := by kernel_rfl
theorem keyedI : Keyed Try.prog 3 := int_keyed Try.underlying3

theorem isKey_int (b : Int) : WideAt.IsKeyLit (.int .i64 b) := by simp [WideAt.IsKeyLit]

theorem bellsD_map (bl : List (Int × Int)) : ∀ k, IsMap (bellsD bl k)
  | 0 => isMap_empty
  | k + 1 => (bellsD_map bl k).put _ _

theorem ofBell_same (bl : List (Int × Int)) (k : Nat) : ofBell bl (k + 1) (bellOf bl k) = ofBell bl k (bellOf bl k) ++ [(k : Int)] := by rw [ofBell_succ]; simp
theorem ofBell_other (bl : List (Int × Int)) (k : Nat) (b : Int) (h : ¬ bellOf bl k = b) : ofBell bl (k + 1) b = ofBell bl k b := by
  rw [ofBell_succ, show (bellOf bl k == b) = false by simpa using h]; simp

theorem bellsD_at (bl : List (Int × Int)) (b : Int) (z : DataW Nat) : ∀ k, (bellsD bl k).atKey (.int .i64 b) z = if ofBell bl k b = [] then z else .slice (ChangeShapes.lits .i64 (ofBell bl k b)) []
  | 0 => by rw [if_pos (show ofBell bl 0 b = [] from rfl)]; rfl
  | k + 1 => by
    rw [bellsD]
    by_cases h : bellOf bl k = b
    · subst h
      rw [atKey_put_same (bellsD_map bl k) (isKey_int _), if_neg (by rw [ofBell_same]; simp)]
    · rw [atKey_put_other (by simp; exact fun e => h e.symm), bellsD_at bl b z k, ofBell_other bl k b h]

theorem bellsD_has (bl : List (Int × Int)) (b : Int) : ∀ k, Maps.has (bellsD bl k) (.int .i64 b) = !(ofBell bl k b).isEmpty
  | 0 => rfl
  | k + 1 => by
    rw [bellsD]
    by_cases h : bellOf bl k = b
    · subst h
      rw [has_put_same (bellsD_map bl k) (isKey_int _), ofBell_same]
      simp
    · rw [has_put_other (by simp; exact fun e => h e.symm), bellsD_has bl b k, ofBell_other bl k b h]

theorem lits_inj {xs ys : List Int} (h : (ChangeShapes.lits .i64 xs : List (DataW Nat)) = ChangeShapes.lits .i64 ys) : xs = ys := by
  unfold ChangeShapes.lits at h
  exact (List.map_inj_right (fun a b e => by cases e; rfl)).1 h

/-- What the look-up has found. -/
theorem found_is (bl : List (Int × Int)) (k : Nat) (b : Int) {w : World} {base : Nat} {e : TypeId} {v : Value} {zs : List Int} (ho : w.ownsInts base e .i64 v zs) (hat : (bellsD bl k).atKey (.int .i64 b) .nil = rowDatum .i64 v zs) : zs = ofBell bl k b := by
  rw [bellsD_at] at hat
  rcases ho.datum (H := Nat) with ⟨h1, h2⟩ | h1
  · rw [h1] at hat
    by_cases h3 : ofBell bl k b = []
    · rw [h2, h3]
    · rw [if_neg h3] at hat; cases hat
  · rw [h1] at hat
    by_cases h3 : ofBell bl k b = []
    · rw [if_pos h3] at hat; cases hat
    · rw [if_neg h3] at hat
      injection hat with e1 e2
      exact (lits_inj e1).symm

end Go.Proofs.Ytdgplebmlggmcaa
/- A region that draws its order, walked by a plan: an operation that reads may be taken as soon as it may come up; any other is taken when it alone may come up. S is what the reads count on; the last operation need not keep it. -/
namespace Go.Proofs.Ytdgplebmlggmcaa
open Go.RowKit

section
variable {P : Program} {ops : Array Oper} {md : Region.Mode} {S : World → Prop} {Q : Exit → Act → World → Prop} {last : Nat}

/-- Whatever order is picked from here on; S holds behind every operation but the last. -/
def anyF (P : Program) (md : Region.Mode) (ops : Array Oper) (Q : Exit → Act → World → Prop) (S : World → Prop) (last : Nat) : Nat → Array Bool → Act → World → Prop
  | 0, listed, a, w => Region.ready md ops listed = [] ∧ Q .normal a w
  | fuel + 1, listed, a, w => (Region.ready md ops listed = [] → Q .normal a w) ∧
    ∀ i ∈ Region.ready md ops listed, wpOp P ops Q i (fun a' w' => (i ≠ last → S w') ∧ anyF P md ops Q S last fuel (listed.setIfInBounds i true) a' w') a w

theorem any_of_F : ∀ (fuel : Nat) (listed : Array Bool) (a : Act) (w : World), anyF P md ops Q S last fuel listed a w → wpAny P md ops Q fuel listed a w
  | 0, _, _, _, h => h
  | fuel + 1, _, _, _, h => ⟨h.1, fun i hi => wpOp_mono (fun a' w' h' => any_of_F fuel _ a' w' h'.2) (h.2 i hi)⟩

theorem unlisted {listed : Array Bool} {i : Nat} (h : listed.getD i true = false) : listed.getD i false = false := getD_both h

theorem anyF_first {i : Nat} {oi : Oper} {v : Value} (hi : ops[i]? = some oi) (hsel : ∀ (j : Nat) (o : Oper) cs b, ops[j]? = some o → o.op ≠ .select cs b)
    (hQ : ∀ c a w, Q (.panic c) (a.put oi.dst v) w → Q (.panic c) a w) (hil : i ≠ last) (hla : Region.waitsFor md ops last i = true) :
    ∀ (fuel : Nat) (listed : Array Bool) (a : Act) (w : World),
      (∀ j oj, ops[j]? = some oj → j ≠ i → listed.getD j true = false → (∀ e ∈ oj.after, Region.binds md e = true → e.on ≠ i) → oi.apart ops oj = true) →
      i ∈ Region.ready md ops listed → YieldsIf P ops S oi v a → S w →
      anyF P md ops Q S last fuel (listed.setIfInBounds i true) (a.put oi.dst v) w → anyF P md ops Q S last (fuel + 1) listed a w := by
  intro fuel
  induction fuel with
  | zero =>
    intro listed a w _ hr hy hS H
    refine ⟨fun h => (by rw [h] at hr; cases hr), fun j hj => ?_⟩
    by_cases hji : j = i
    · subst hji; exact hy.wpOp hi hS ⟨fun _ => hS, H⟩
    · have h1 := ready_mono hj hji
      rw [H.1] at h1
      cases h1
  | succ fuel ih =>
    intro listed a w hfree hr hy hS H
    refine ⟨fun h => (by rw [h] at hr; cases hr), fun j hj => ?_⟩
    by_cases hji : j = i
    · subst hji; exact hy.wpOp hi hS ⟨fun _ => hS, H⟩
    · have h1 := H.2 j (ready_mono hj hji)
      obtain ⟨hjun, oj, hoj, hall⟩ := mem_ready.1 hj
      have hnot : ∀ e ∈ oj.after, Region.binds md e = true → e.on ≠ i := fun e he hb heq => by
        have h2 := hall e he hb
        rw [heq, unlisted (mem_ready.1 hr).1] at h2
        cases h2
      have hjl : j ≠ last := fun e => by
        subst e
        obtain ⟨ol, hol, e, he, hb, hon⟩ := Region.waitsFor_spec hla
        rw [hoj] at hol; cases hol
        exact hnot e he hb hon
      have h2 := wpOp_putIf hoj (hfree j oj hoj hji hjun hnot) (fun cs b => hsel i oi cs b hi) (fun cs b => hsel j oj cs b hoj) hQ hy h1
      have hfree' : ∀ k ok, ops[k]? = some ok → k ≠ i → (listed.setIfInBounds j true).getD k true = false →
          (∀ e ∈ ok.after, Region.binds md e = true → e.on ≠ i) → oi.apart ops ok = true := fun k ok hk hki hun hno => by
        refine hfree k ok hk hki ?_ hno
        by_cases hjk : j = k
        · subst hjk; exact hjun
        · rw [getD_set_ne true hjk] at hun; exact hun
      refine wpOp_mono (fun a' w' h3 => ⟨fun _ => h3.2.1 hjl, ih (listed.setIfInBounds j true) a' w' hfree' (ready_mono hr (Ne.symm hji)) h3.1 (h3.2.1 hjl) ?_⟩) h2
      rw [Array.setIfInBounds_comm _ _ hji]
      exact h3.2.2

/-- Whether a plan serves whatever order is drawn: (i, true): operation i is taken early. -/
def planB (md : Region.Mode) (ops : Array Oper) (last : Nat) : List (Nat × Bool) → Array Bool → Bool
  | [], listed => (Region.ready md ops listed).isEmpty
  | (i, true) :: r, listed => (Region.ready md ops listed).contains i && Region.free md ops listed i && decide (i ≠ last) && Region.waitsFor md ops last i && planB md ops last r (listed.setIfInBounds i true)
  | (i, false) :: r, listed => decide (Region.ready md ops listed = [i]) && planB md ops last r (listed.setIfInBounds i true)

/-- The walk by the plan. -/
def planned (P : Program) (ops : Array Oper) (S : World → Prop) (Q : Exit → Act → World → Prop) (last : Nat) : List (Nat × Bool) → Act → World → Prop
  | [], a, w => Q .normal a w
  | (i, true) :: r, a, w => S w ∧ ∃ o v, ops[i]? = some o ∧ YieldsIf P ops S o v a ∧ planned P ops S Q last r (a.put o.dst v) w
  | (i, false) :: r, a, w => wpOp P ops Q i (fun a' w' => (i ≠ last → S w') ∧ planned P ops S Q last r a' w') a w

theorem F_of_planned (hs : Region.noSelect ops = true) (hQ : ∀ c a d v w, Q (.panic c) (a.put d v) w → Q (.panic c) a w) : ∀ (l : List (Nat × Bool)) (listed : Array Bool) (a : Act) (w : World),
    planB md ops last l listed = true → planned P ops S Q last l a w → anyF P md ops Q S last l.length listed a w
  | [], listed, _, _, hB, h => ⟨by simpa [planB] using hB, h⟩
  | (i, true) :: r, listed, a, w, hB, h => by
    simp only [planB, Bool.and_eq_true, decide_eq_true_eq] at hB
    obtain ⟨⟨⟨⟨h1, h2⟩, h3⟩, h4⟩, h5⟩ := hB
    obtain ⟨hS, o, v, hi, hy, hK⟩ := h
    exact anyF_first hi (Region.noSelect_spec hs) (fun c a w => hQ c a o.dst v w) h3 h4 r.length listed a w (Region.free_spec hi h2) (by simpa using h1) hy hS (F_of_planned hs hQ r _ _ _ h5 hK)
  | (i, false) :: r, listed, a, w, hB, h => by
    simp only [planB, Bool.and_eq_true, decide_eq_true_eq] at hB
    refine ⟨fun h0 => (by rw [hB.1] at h0; cases h0), fun j hj => ?_⟩
    rw [hB.1] at hj
    obtain rfl : j = i := by simpa using hj
    exact wpOp_mono (fun a' w' h' => ⟨h'.1, F_of_planned hs hQ r _ _ _ hB.2 h'.2⟩) h

/-- Q, but 'False' at a panic. -/
def calm (Q : Exit → Act → World → Prop) : Exit → Act → World → Prop
  | .panic _, _, _ => False
  | e, a, w => Q e a w

theorem planned_nil {a : Act} {w : World} (h : Q .normal a w) : planned P ops S (calm Q) last [] a w := h

theorem wp_planned {id : Nat} {a : Act} {w : World} {l : List Oper} (plan : List (Nat × Bool)) (last : Nat) (S : World → Prop) (hm : P.follows .mixedOrders = true) (hlen : plan.length = l.length)
    (hB : (Region.noSelect l.toArray && planB .any l.toArray last plan (Array.replicate l.toArray.size false)) = true)
    (h : planned P l.toArray S (calm Q) last plan a w.drew) : (Code.region id l.toArray true).wp P Q a w := by
  rw [Bool.and_eq_true] at hB
  refine Code.wp_mono (Q := calm Q) (fun e a w h => ?_) (wp_region_any hm (any_of_F (S := S) (last := last) _ _ _ _ ?_))
  · cases e <;> first | exact h | exact (h : False).elim
  · have := F_of_planned (md := .any) (Q := calm Q) hB.1 (fun _ _ _ _ _ h => h) plan _ a w.drew hB.2 h
    rw [hlen] at this
    simpa using this

/-- An early operation. -/
theorem planned_read {i : Nat} {r : List (Nat × Bool)} {a : Act} {w : World} (o : Oper) (hi : ops[i]? = some o) (hS : S w)
    (h : ∀ K : Act → World → Prop, (∀ a w, planned P ops S Q last r a w → K a w) → if Region.wanted o (yielded ops a.tmps) then ∃ v, (∀ w', S w' → (execOp a.eval o).run P w' = .ok (.value v) w') ∧ K (a.put o.dst v) w else K (a.put o.dst undef) w) :
    planned P ops S Q last ((i, true) :: r) a w := by
  have h' := h _ (fun _ _ h => h)
  by_cases hw : Region.wanted o (yielded ops a.tmps) = true
  · rw [if_pos hw] at h'
    obtain ⟨v, hv, hK⟩ := h'
    exact ⟨hS, o, v, hi, .inl ⟨hw, hv⟩, hK⟩
  · rw [if_neg hw] at h'
    exact ⟨hS, o, undef, hi, .inr ⟨by simpa using hw, rfl⟩, h'⟩

theorem plan_val {o : Oper} {a : Act} {w : World} {K : Act → World → Prop} {v : Value} (h : ∀ w', S w' → (execOp a.eval o).run P w' = .ok (.value v) w') (hK : K (a.put o.dst v) w) : ∃ v, (∀ w', S w' → (execOp a.eval o).run P w' = .ok (.value v) w') ∧ K (a.put o.dst v) w := ⟨v, h, hK⟩

theorem oper_then {o : Oper} {a : Act} {w : World} {K : Act → World → Prop} (hh : o.wp P a w K (Exit.then K Q)) : o.wp P a w K Q := by
  unfold Oper.wp at *
  generalize (execOp a.eval o).run P w = r at *
  cases r with
  | ok x w' =>
    cases x <;> simp only [Oper.upon] at * <;> first
      | exact hh
      | exact hh.mono fun e w'' h => by
          cases e with
          | returned v => exact h
          | panicked chain => exact h
          | outgrown => exact h
  | halt x w' => cases x <;> simp only [Oper.upon] at * <;> exact hh

/-- An operation that comes up alone: it is walked as everywhere. -/
theorem planned_op {i : Nat} {r : List (Nat × Bool)} {a : Act} {w : World} (o : Oper) (hi : ops[i]? = some o)
    (h : ∀ K : Act → World → Prop, (∀ a w, (i ≠ last → S w) → planned P ops S Q last r a w → K a w) → wpList P ops (Exit.then K Q) [o] a w) : planned P ops S Q last ((i, false) :: r) a w := by
  have h' := h (fun a w => (i ≠ last → S w) ∧ planned P ops S Q last r a w) (fun _ _ h1 h2 => ⟨h1, h2⟩)
  show wpOp P ops Q i _ a w
  unfold wpOp
  simp only [hi]
  unfold wpList at h'
  by_cases hw : Region.wanted o (yielded ops a.tmps) = true
  · rw [if_pos hw] at h' ⊢
    exact h'.imp (fun h1 => oper_then h1) (fun ⟨h1, h2⟩ => ⟨h1, h2⟩)
  · rw [if_neg hw] at h' ⊢
    exact h'

end
end Go.Proofs.Ytdgplebmlggmcaa
/- byBell: the numbers of the blows of each bell. -/
namespace Go.Proofs.Ytdgplebmlggmcaa
open Go.RowKit Go.Maps

theorem pairwise_one {α : Type} {r : α → α → Prop} {l : List α} (h : l.Pairwise r) {x y : α} (hx : x ∈ l) (hy : y ∈ l) (h1 : ¬ r x y) (h2 : ¬ r y x) : x = y := by
  obtain ⟨i, hi, rfl⟩ := List.getElem_of_mem hx
  obtain ⟨j, hj, rfl⟩ := List.getElem_of_mem hy
  rcases Nat.lt_trichotomy i j with h3 | h3 | h3
  · exact absurd (List.pairwise_iff_getElem.1 h i j hi hj h3) h1
  · subst h3; rfl
  · exact absurd (List.pairwise_iff_getElem.1 h j i hj hi h3) h2

/-- A look-up gives one value in whatever world holds the map as it is. -/
theorem groups_at {P : Program} {w : World} {k t E e : TypeId} {base b n : Nat} {q : IntKind} {D : DataW Nat} {key : Value} {kl : Lit} (h : w.ownsGroups P k base e q b n D) (K : Keyed P k) (ht : P.underlying t = some (.map k E)) (hz : ∀ w, (zeroValue E).run P w = .ok (.slice none 0 0) w) (hn : n < maxLen) (hkey : keyOf P k key = some kl) :
    ∃ v zs, (∀ w', w'.heap[b]? = w.heap[b]? → (Instr.lookup t (.map (some b)) key false).run P w' = .ok v w') ∧ D.atKey kl .nil = rowDatum q v zs ∧ w.ownsInts base e q v zs ∧ zs.length ≤ n ∧ w.groupBack P t k base e q b n D key kl v := by
  obtain ⟨v, zs, h1, h2, h3, h4, h5⟩ := h.at K ht (hz w) hn hkey
  refine ⟨v, zs, fun w' hw' => ?_, h2, h3, h4, h5⟩
  obtain ⟨es, clock, hb, F, _⟩ := h
  have hp := ((MapKept.stamped_iff es clock).1 F.stamped).2.2
  rcases Maps.fit_look false K ht (hz w) hb F hkey with ⟨r1, n1, _⟩ | ⟨e0, y, m1, k1, r1, _⟩
  · rcases Maps.fit_look false K ht (hz w') (hw'.trans hb) F hkey with ⟨r2, _, _⟩ | ⟨e1, y1, m2, k2, _⟩
    · rw [r1] at h1
      rw [r2]
      injection h1 with e1 e2
      rw [e1]
    · exact absurd k2 (n1 e1 m2)
  · rcases Maps.fit_look false K ht (hz w') (hw'.trans hb) F hkey with ⟨_, n2, _⟩ | ⟨e1, y1, m2, k2, r2, _⟩
    · exact absurd k1 (n2 e0 m1)
    · have : e0 = e1 := pairwise_one hp m1 m2 (fun h => h (by rw [k1, k2])) (fun h => h (by rw [k1, k2]))
      subst this
      rw [r1] at h1
      rw [r2]
      injection h1 with e1 e2
      rw [e1]

theorem cell_new_one (w : World) (v : Value) (t : TypeId) : ∀ j u, [v][j]? = some u → (w.alloc (.cells #[v] t)).cell? ((⟨w.heap.size, 0, none⟩ : Addr).add j) = some u := by
  intro j u hu
  have hj : j = 0 := by
    rcases Nat.eq_zero_or_pos j with h | h
    · exact h
    · rw [List.getElem?_eq_none (by simp; omega)] at hu; cases hu
  subst hj
  have hadd : (⟨w.heap.size, 0, none⟩ : Addr).add 0 = ⟨w.heap.size, 0, none⟩ := by unfold Addr.add; split <;> simp_all
  rw [hadd, cells_of (heap_alloc_new w (.cells #[v] t)) 0 rfl]
  simpa using hu

set_option maxRecDepth 100000 in
set_option maxHeartbeats 4000000 in
theorem byBell_any (s r : Int) (av : Option Addr) (c : Nat) (bl : List (Int × Int)) (w : World) (hb : Row 2 encP w av c bl) (hl60 : bl.length ≤ 60) (hok : ∀ x ∈ bl, in64 x.2) :
    Calls Try.prog 92 #[.agg #[.int .i64 s, .slice av bl.length c, .int .i64 r]] w fun e w' => ∃ B, e = .returned (.map (some B)) ∧ w'.ownsGroups Try.prog 3 (B + 1) 3 .i64 B bl.length (bellsD bl bl.length) ∧ w.heap.size ≤ B ∧ Ext w w' := by
  have hmm := @run_makeMap Try.prog
  obtain ⟨i0, hi, hz0, hz1, hz2⟩ := info_parts Try.infoI
  have HR := Lib.hid hb
  have HK := Lib.hid hok
  clear hb hok
  go_enter Try.func92, Try.ntmps92
  go_wp2
  have hx0 : Ext w ((w.alloc (.cells #[.int .i64 s, .slice av bl.length c, .int .i64 r] 132)).alloc (.map #[] 0)) := ((Ext.refl w).alloc _).alloc _
  have hm0 : ((w.alloc (.cells #[.int .i64 s, .slice av bl.length c, .int .i64 r] 132)).alloc (.map #[] 0)).ownsGroups (H := Nat) Try.prog 3 (w.heap.size + 1 + 1) 3 .i64 (w.heap.size + 1) 0 (.map []) := by
    have := World.ownsGroups_made (H := Nat) (w.alloc (.cells #[.int .i64 s, .slice av bl.length c, .int .i64 r] 132)) Try.prog 3 3 .i64
    simpa using this
  have hs0 : w.heap.size + 1 + 1 ≤ ((w.alloc (.cells #[.int .i64 s, .slice av bl.length c, .int .i64 r] 132)).alloc (.map #[] 0)).heap.size := by simp
  generalize ((w.alloc (.cells #[.int .i64 s, .slice av bl.length c, .int .i64 r] 132)).alloc (.map #[] 0)) = W1 at *
  have HM0 := Lib.hid hm0
  have HX0 := Lib.hid hx0
  clear hm0 hx0
  go_loopw [11] (fun i wr => ∃ k : Nat, k ≤ bl.length ∧ i = .int .i64 k ∧ wr.ownsGroups Try.prog 3 (w.heap.size + 1 + 1) 3 .i64 (w.heap.size + 1) k (bellsD bl k) ∧ Ext w wr ∧ w.heap.size + 1 + 1 ≤ wr.heap.size)
    (fun i _ => bl.length - (intOf i).toNat)
  case atStart => exact ⟨0, Nat.zero_le _, rfl, HM0.out, HX0.out, hs0⟩
  case round =>
    obtain ⟨k, hk, rfl, hown, hxr, hws⟩ := hrel
    by_cases hlt : k < bl.length
    · obtain ⟨b, off, rfl, hbl, k0, k1⟩ := (HR.out.ext hxr).cellP k hlt
      have hin := HK.out _ (List.getElem_mem hlt)
      have HBO : Hid (bellOf bl k = bl[k].2) := by show bellOf bl k = bl[k].2; unfold bellOf; rw [List.getD_eq_getElem?_getD, List.getElem?_eq_getElem hlt]; rfl
      generalize bl[k] = x at *
      go_wp2
      have hb5 := heap_alloc_new wr (.cells #[.int .i64 x.1, .int .i64 x.2] 66)
      have hx5 : Ext wr (wr.alloc (.cells #[.int .i64 x.1, .int .i64 x.2] 66)) := (Ext.refl wr).alloc _
      obtain ⟨v, zs, hrun, hat, hoi, hzl, hback⟩ := groups_at hown keyedI Try.underlying159 zeroI (by unfold maxLen; omega) (keyOf_int_mk Try.underlying3 hin.wf)
      have hbw : (wr.alloc (.cells #[.int .i64 x.1, .int .i64 x.2] 66)).heap[w.heap.size + 1]? = wr.heap[w.heap.size + 1]? := hx5.block' (by omega)
      have hz5 : (wr.alloc (.cells #[.int .i64 x.1, .int .i64 x.2] 66)).heap.size = wr.heap.size + 1 := by simp
      have hgw5 : wr.grownBy (wr.alloc (.cells #[.int .i64 x.1, .int .i64 x.2] 66)) v.ownBlock := World.grownBy_alloc _ _ _
      generalize (wr.alloc (.cells #[.int .i64 x.1, .int .i64 x.2] 66)) = W5 at *
      obtain ⟨B5, hB5⟩ : ∃ B5, B5 = wr.heap.size := ⟨_, rfl⟩
      rw [← hB5] at hb5 hz5 ⊢
      have HB5 := Lib.hid hB5
      have HZ5 := Lib.hid hz5
      have HAT := Lib.hid hat
      have HOI := Lib.hid hoi
      have HBK := Lib.hid hback
      have HGW := Lib.hid hgw5
      have HRUN := Lib.hid hrun
      have HXR := Lib.hid hxr
      have HOW := Lib.hid hown
      have hle : wr.heap.size ≤ W5.heap.size := hx5.size
      have HX5 := Lib.hid hx5
      have HBW := Lib.hid hbw
      have HB50 := Lib.hid hb5
      clear hat hoi hback hgw5 hrun hxr hx5 k0 k1 hown hB5 hz5 hbw hb5
      have hS5 : (fun w' : World => w'.heap[B5]? = some (.cells #[.int .i64 x.1, .int .i64 x.2] 66 (0, 0)) ∧ w'.heap[w.heap.size + 1]? = wr.heap[w.heap.size + 1]?) W5.drew := ⟨HB50.out, HBW.out⟩
      refine wp_planned [(0, true), (1, true), (2, true), (3, true), (4, true), (5, true), (6, true), (7, true), (8, false), (9, false), (10, false)] 10
        (fun w' => w'.heap[B5]? = some (.cells #[.int .i64 x.1, .int .i64 x.2] 66 (0, 0)) ∧ w'.heap[w.heap.size + 1]? = wr.heap[w.heap.size + 1]?) (by kernel_rfl) rfl (by kernel_rfl) ?_
      (repeat (refine planned_read _ rfl (by assumption) (fun K hK => ?_); first | (rw [if_pos (by go_simp)]; apply plan_val; (focus (intro wq hwq; have q0 := cells_of hwq.1 0 rfl; have q1 := cells_of hwq.1 1 rfl; have ql := HRUN.out wq hwq.2; first | (go_simp; done) | (go_simp; rfl))); go_simp; refine hK _ _ ?_; clear hK K) | (rw [if_neg (by go_simp)]; go_simp; refine hK _ _ ?_; clear hK K)))
      clear hS5
      refine planned_op _ rfl (fun K hK => ?_)
      go_wp2
      have hx6 : Ext W5 (W5.alloc (.cells #[.int .i64 k] 3)).drew := ((Ext.refl W5).alloc _).drew
      have hb6 := hx6.at' HB50.out
      have hw6 := (hx6.block' (b := w.heap.size + 1) (by omega)).trans HBW.out
      refine hK _ _ (fun _ => ⟨hb6, hw6⟩) ?_
      clear hK K
      have hg6 : wr.grownBy (W5.alloc (.cells #[.int .i64 k] 3)).drew v.ownBlock := HGW.out.trans ⟨hx6.os, hx6.tape, hx6.output, hx6.size, fun k hk _ => hx6.block k hk⟩
      have hoi6 : (W5.alloc (.cells #[.int .i64 k] 3)).drew.ownsInts (w.heap.size + 1 + 1) 3 .i64 v zs := by
        obtain ⟨h1, h2⟩ := HOI.out
        exact ⟨World.ownsRow.kept h1 (w' := (W5.alloc (.cells #[.int .i64 k] 3)).drew) (row := none) ⟨(HX5.out.trans hx6).os, (HX5.out.trans hx6).tape, (HX5.out.trans hx6).output, (HX5.out.trans hx6).size, fun k hk _ => (HX5.out.trans hx6).block k hk⟩ (by cases hv : v.ownBlock <;> simp), h2⟩
      have hel := cell_new_one W5 (.int .i64 k) 3
      have hz6 : (W5.alloc (.cells #[.int .i64 k] 3)).drew.heap.size = W5.heap.size + 1 := by simp
      have hel6 : ∀ j u, [Value.int .i64 k][j]? = some u → (W5.alloc (.cells #[.int .i64 k] 3)).drew.cell? ((⟨W5.heap.size, 0, none⟩ : Addr).add j) = some u := hel
      generalize (W5.alloc (.cells #[.int .i64 k] 3)).drew = W6 at *
      have HB6 := Lib.hid hb6
      have HW6 := Lib.hid hw6
      have HG6 := Lib.hid hg6
      have HO6 := Lib.hid hoi6
      have HEL := Lib.hid hel6
      have HZ6 := Lib.hid hz6
      clear hb6 hw6 hg6 hoi6 hel hel6 hx6 hz6
      refine planned_op _ rfl (fun K hK => ?_)
      refine wpList_append_own_at _ rfl _ _ 22 rfl (w.heap.size + 1 + 1) 3 i0 (.int .i64 0) 1 8 Try.underlying22 hi hz0 hz1 hz2 rfl (by decide) _ _ _ rfl HO6.out.1 ⟨W5.heap.size, 0, none⟩ 1 1 [.int .i64 k] rfl rfl HEL.out (fun u hu => by simp at hu; subst hu; rfl) (by unfold maxLen; omega) (by omega) (by have := HZ6.out; omega) ?_
      intro v' w7 hown' hgrow hnil hloc
      have HO7 : Hid (w7.ownsRow (w.heap.size + 1 + 1) 3 1 v' (zs.length + 1) (zs.map (Value.int .i64) ++ [.int .i64 k])) := Lib.hid hown'
      have HG7 : Hid (W6.grownBy w7 v.ownBlock) := Lib.hid hgrow
      have HL7 : Hid (v'.ownBlock = v.ownBlock ∨ v'.ownBlock = some W6.heap.size) := Lib.hid hloc
      clear hown' hgrow hloc hnil
      show K _ _
      go_simp
      refine hK _ _ (fun _ => ?_) ?_
      · have hv := HOI.out.1
        refine ⟨(HG7.out.block _ (by have := HZ6.out; have := HZ5.out; have := HB5.out; omega) (fun e => ?_)).trans HB6.out, (HG7.out.block _ (by have := HZ6.out; omega) (fun e => ?_)).trans HW6.out⟩
        · have := (hv.lt _ e.symm).2; have := HB5.out; omega
        · have := (hv.lt _ e.symm).1; omega
      clear hK K
      refine planned_op _ rfl (fun K hK => ?_)
      have hzs := found_is bl k x.2 HOI.out HAT.out
      have hkw : (Lit.int .i64 (k : Int)).wf = true := in64.wf (by unfold in64; omega)
      have HO8 := Lib.hid (HO6.out.appended HO7.out hkw)
      have hgall := HG6.out.trans HG7.out
      refine wpList_mapUpdate_back _ rfl _ _ _ 159 rfl HBK.out rfl rfl rfl hgall HO8.out (by simp; omega) ?_ ?_
      · rcases HL7.out with h | h
        · exact .inl h
        · exact .inr ⟨_, h, by have := HX5.out.size; have := HZ6.out; omega⟩
      intro w8 hown8 hg8
      have HOW8 : Hid (w8.ownsGroups Try.prog 3 (w.heap.size + 1 + 1) 3 .i64 (w.heap.size + 1) (k + 1) (bellsD bl (k + 1))) := by
        have h1 : rowDatum (H := Nat) .i64 v' (zs ++ [(k : Int)]) = .slice (ChangeShapes.lits .i64 (zs ++ [(k : Int)])) [] := HO8.out.datum_pos (by simp)
        have h2 : (bellsD bl k).put (.int .i64 x.2) (rowDatum .i64 v' (zs ++ [(k : Int)])) = bellsD bl (k + 1) := by
          rw [h1, bellsD, ofBell_same, HBO.out, hzs]
        rw [← h2]; exact hown8
      have HG8 := Lib.hid hg8
      have HX8 : Hid (Ext w w8) := by
        show Ext w w8
        exact Below.groups (B := w.heap.size) HXR.out HOI.out hgall hg8 (by omega) (by omega) (by omega)
      clear hown8 hg8 hgall
      show K _ _
      go_simp
      refine hK _ _ (fun h => absurd rfl h) ?_
      clear hK K
      refine planned_nil ?_
      go_wp2
      exact ⟨⟨k + 1, hlt, by simp, HOW8.out, HX8.out, by have := HG8.out.size; have := HG7.out.size; have := HZ6.out; omega⟩, by simp [intOf] <;> omega⟩
    · have hke : k = bl.length := by omega
      subst hke
      go_wp2
      go_ret
      exact ⟨_, rfl, hown, by omega, hxr⟩

end Go.Proofs.Ytdgplebmlggmcaa
/- A loop over the blows of each bell; tune.check. -/
namespace Go.Proofs.Ytdgplebmlggmcaa
open Go.RowKit Go.Maps

theorem ownsInts_shape {w : World} {base : Nat} {e : TypeId} {q : IntKind} {ad : Option Addr} {n c : Nat} {zs : List Int} (h : w.ownsInts base e q (.slice ad n c) zs) : n = zs.length := by
  rcases h.1.2 with ⟨h1, h0⟩ | ⟨g, cap, cur, hv, _⟩
  · simp only [Value.slice.injEq] at h1; omega
  · simp only [Value.slice.injEq] at hv; exact hv.2.1

theorem ownsInts_slice {w : World} {base : Nat} {e : TypeId} {q : IntKind} {v : Value} {zs : List Int} (h : w.ownsInts base e q v zs) : ∃ ad n c, v = .slice ad n c := by
  rcases h.1.2 with ⟨h1, h0⟩ | ⟨g, cap, cur, hv, _⟩
  · exact ⟨_, _, _, h1⟩
  · exact ⟨_, _, _, hv⟩

theorem wpList_next_bells (w : World) {ops : Array Oper} {rest : List Oper} {o : Oper} {a : Act} {Q : Exit → Act → World → Prop} (hg : o.guard = none) (it : Operand) (hop : o.op = Op.next it false)
    (w0 : World) (base B r n : Nat) (bl : List (Int × Int)) (k : Nat) (left : Lit → Bool) (cnt : Nat) (hit : a.eval it = .pointer (some ⟨r, 0, none⟩)) (h : w.ranges Try.prog 3 (rowElem (H := Nat) w0 base 3 .i64) B r n (bellsD bl k) left cnt)
    (hDone : cnt = 0 → (∀ kl, left kl = false) → wpList Try.prog ops Q rest (a.put o.dst (.tuple #[.bool false])) w)
    (hMore : ∀ (x : Int) (ad : Option Addr) (c : Nat) (w' : World) (cnt' : Nat), left (.int .i64 x) = true → ofBell bl k x ≠ [] → w0.ownsInts base 3 .i64 (.slice ad (ofBell bl k x).length c) (ofBell bl k x) →
      w'.ranges Try.prog 3 (rowElem (H := Nat) w0 base 3 .i64) B r n (bellsD bl k) (fun z => left z && !z.sameKey (.int .i64 x)) cnt' → cnt' < cnt → w.grownBy w' (some r) → w'.heap.size = w.heap.size →
      (Instr.entry (.pointer (some ⟨r, 0, none⟩))).run Try.prog w' = .ok (.tuple #[.int .i64 x, .slice ad (ofBell bl k x).length c]) w' → wpList Try.prog ops Q rest (a.put o.dst (.tuple #[.bool true, .int .i64 x, .slice ad (ofBell bl k x).length c])) w') :
    wpList Try.prog ops Q (o :: rest) a w := by
  refine wpList_next_ranges w hg it hop 3 keyedI (rowElem (H := Nat) w0 base 3 .i64) (Value.int .i64) (fun z : Option Addr × Nat × Nat => Value.slice z.1 z.2.1 z.2.2) (fun key kl hkey => by obtain ⟨x, rfl, _⟩ := Maps.keyOf_int_inv Try.underlying3 hkey; exact ⟨x, rfl⟩)
    (fun v y hv => by obtain ⟨zs, ho, _⟩ := rowElem_inv hv; obtain ⟨ad, m, c, rfl⟩ := ownsInts_slice ho; exact ⟨(ad, m, c), rfl⟩)
    B r n (bellsD bl k) left cnt hit h hDone (fun x z kl y w' cnt' hkey hlk hv hat hrg hlt hgr hsz hen => ?_)
  obtain ⟨x', ex, rfl, hwx⟩ := Maps.keyOf_int_inv Try.underlying3 hkey
  cases ex
  obtain ⟨ad, m, c⟩ := z
  obtain ⟨zs, ho, rfl⟩ := rowElem_inv hv
  have hzs := found_is bl k x ho (hat .nil)
  have hm := ownsInts_shape ho
  subst hzs
  dsimp only at hm ho hen hat ⊢
  subst hm
  refine hMore x ad c w' cnt' hlk ?_ ho hrg hlt hgr hsz hen
  intro h0
  have h1 := hat (.map [])
  rw [bellsD_at, if_pos h0] at h1
  rcases ho.datum (H := Nat) with ⟨h2, _⟩ | h2
  · rw [h2] at h1; cases h1
  · rw [h2] at h1; cases h1

theorem ofBell_mem {bl : List (Int × Int)} {x : Int} (h : ofBell bl bl.length x ≠ []) : ∃ b ∈ bl, b.2 = x := by
  unfold ofBell at h
  obtain ⟨y, hy⟩ := List.exists_mem_of_ne_nil _ h
  obtain ⟨i, hi, _⟩ := List.mem_map.1 hy
  obtain ⟨h1, h2⟩ := List.mem_filter.1 hi
  have hl : i < bl.length := List.mem_range.1 h1
  refine ⟨bl[i], List.getElem_mem hl, ?_⟩
  have : bellOf bl i = bl[i].2 := by unfold bellOf; rw [List.getD_eq_getElem?_getD, List.getElem?_eq_getElem hl]; rfl
  rw [← this]; simpa using h2

theorem ofBell_has {bl : List (Int × Int)} {b : Int × Int} (h : b ∈ bl) : ofBell bl bl.length b.2 ≠ [] := by
  obtain ⟨i, hl, rfl⟩ := List.getElem_of_mem h
  have hb : bellOf bl i = bl[i].2 := by unfold bellOf; rw [List.getD_eq_getElem?_getD, List.getElem?_eq_getElem hl]; rfl
  refine List.ne_nil_of_mem (a := (i : Int)) ?_
  unfold ofBell
  exact List.mem_map.2 ⟨i, List.mem_filter.2 ⟨List.mem_range.2 hl, by simp [hb]⟩, rfl⟩

def sameOk (bl : List (Int × Int)) : Bool := bl.all fun b => decide ((ofBell bl bl.length b.2).length ≤ 8)
def blowsOk (s : Int) (bl : List (Int × Int)) : Bool := inn 1 1000 s && decide (bl.length ≤ 60) && bl.all (blowOk s) && decide bl.Nodup
def tuneErr (s : Int) (bl : List (Int × Int)) (r : Int) : Int := if !blowsOk s bl then 2 else if !sameOk bl then 2 else if !inn 0 s r then 3 else 0

theorem sameOk_no {bl : List (Int × Int)} {x : Int} (h0 : ofBell bl bl.length x ≠ []) (h : 8 < (ofBell bl bl.length x).length) : sameOk bl = false := by
  obtain ⟨b, hb, rfl⟩ := ofBell_mem h0
  cases hs : sameOk bl
  · rfl
  · have := List.all_eq_true.1 hs b hb
    simp at this; omega

theorem sameOk_yes {bl : List (Int × Int)} (h : ∀ x, ofBell bl bl.length x ≠ [] → (ofBell bl bl.length x).length ≤ 8) : sameOk bl = true :=
  List.all_eq_true.2 fun b hb => by simpa using h b.2 (ofBell_has hb)

theorem sameKey_int (x y : Int) : (Lit.int .i64 y).sameKey (.int .i64 x) = (y == x) := by
  by_cases h : y = x <;> simp [Lit.sameKey, h]


/-- The arms of the walk. -/
theorem blowsOk_bounds {s : Int} {bl : List (Int × Int)} (h : blowsOk s bl = true) : 1 ≤ s ∧ s ≤ 1000 ∧ bl.length ≤ 60 ∧ (∀ x ∈ bl, 0 ≤ x.1 ∧ x.1 ≤ s - 1 ∧ 0 ≤ x.2 ∧ x.2 ≤ 15) ∧ bl.Nodup := by
  unfold blowsOk at h
  simp only [Bool.and_eq_true, decide_eq_true_eq, inn_iff, List.all_eq_true] at h
  obtain ⟨⟨⟨⟨h1, h2⟩, h3⟩, h4⟩, h5⟩ := h
  refine ⟨h1, h2, h3, fun x hx => ?_, h5⟩
  have := h4 x hx
  unfold blowOk at this
  simp only [Bool.and_eq_true, inn_iff] at this
  exact ⟨this.1.1, this.1.2, this.2.1, this.2.2⟩

set_option maxRecDepth 100000 in
set_option maxHeartbeats 4000000 in
theorem tuneCheck_any (s r : Int) (av : Option Addr) (c : Nat) (bl : List (Int × Int)) (w : World) (hb : Row 2 encP w av c bl) :
    Calls Try.prog 68 #[.agg #[.int .i64 s, .slice av bl.length c, .int .i64 r]] w fun e w' => e = .returned (.int .i64 (tuneErr s bl r)) ∧ Ext w w' := by
  have hlen := hb.len
  have HR := Lib.hid hb
  clear hb
  cases h1 : inn 1 1000 s
  · have HP : Hid (tuneErr s bl r = 2) := by show tuneErr s bl r = 2; unfold tuneErr blowsOk; rw [h1]; rfl
    have H1 := Lib.hid h1
    clear h1
    go_enter Try.func68, Try.ntmps68
    go_wp2_with (first | ((go_at_call 52; (with_reducible refine (within_one _ _ _ _ _ (by simp)).mono ?_); rintro e w2 ⟨rfl, hb2⟩; obtain ⟨hr1, hr2⟩ := hb2.rules; have hz2 := hb2.size; (try simp at hz2); (try have hl0 : w.heap.size < w2.heap.size := by omega); (try have hl0 : w.heap.size ≤ w2.heap.size := by omega); (try have hl1 : w.heap.size + 1 < w2.heap.size := by omega); (try have hl1 : w.heap.size + 1 ≤ w2.heap.size := by omega)); rw [H1.out]))
    go_ret
    rw [HP.out]
    exact ⟨rfl, by (repeat (first | with_reducible exact Ext.refl _ | with_reducible assumption | with_reducible refine Ext.alloc ?_ _ | with_reducible refine Ext.drew ?_ | with_reducible refine Ext.drewN ?_ _ | (with_reducible refine Ext.setCell ?_ ?hsc _; case hsc => (simp <;> omega)) | with_reducible refine Ext.trans ?_ (by assumption)))⟩
  obtain ⟨s1, s2⟩ := inn_iff.1 h1
  have H1 := Lib.hid h1
  clear h1
  by_cases h2 : bl.length ≤ 60
  case neg =>
    have HP : Hid (tuneErr s bl r = 2) := by show tuneErr s bl r = 2; unfold tuneErr blowsOk; rw [decide_eq_false h2]; simp
    have h2' : (60 : Int) < bl.length := by omega
    go_enter Try.func68, Try.ntmps68
    go_wp2_with (first | ((go_at_call 52; (with_reducible refine (within_one _ _ _ _ _ (by simp)).mono ?_); rintro e w2 ⟨rfl, hb2⟩; obtain ⟨hr1, hr2⟩ := hb2.rules; have hz2 := hb2.size; (try simp at hz2); (try have hl0 : w.heap.size < w2.heap.size := by omega); (try have hl0 : w.heap.size ≤ w2.heap.size := by omega); (try have hl1 : w.heap.size + 1 < w2.heap.size := by omega); (try have hl1 : w.heap.size + 1 ≤ w2.heap.size := by omega)); rw [H1.out]))
    go_ret
    rw [HP.out]
    exact ⟨rfl, by (repeat (first | with_reducible exact Ext.refl _ | with_reducible assumption | with_reducible refine Ext.alloc ?_ _ | with_reducible refine Ext.drew ?_ | with_reducible refine Ext.drewN ?_ _ | (with_reducible refine Ext.setCell ?_ ?hsc _; case hsc => (simp <;> omega)) | with_reducible refine Ext.trans ?_ (by assumption)))⟩
  have HC0 : ∀ W, Ext (w.alloc (.cells #[.int .i64 s, .slice av bl.length c, .int .i64 r] 132)) W → Hid (w.heap.size < W.heap.size ∧ W.cell? ⟨w.heap.size, 0, none⟩ = some (.int .i64 s) ∧ W.cell? ⟨w.heap.size, 1, none⟩ = some (.slice av bl.length c) ∧ W.cell? ⟨w.heap.size, 2, none⟩ = some (.int .i64 r)) := fun W hW => by
    have hw0 := hW.at' (heap_alloc_new w (.cells #[.int .i64 s, .slice av bl.length c, .int .i64 r] 132))
    exact ⟨lt_of hw0, cells_of hw0 0 rfl, cells_of hw0 1 rfl, cells_of hw0 2 rfl⟩
  have HQ := fun W (hW : Ext (w.alloc (.cells #[.int .i64 s, .slice av bl.length c, .int .i64 r] 132)) W) => Lib.hid (show Calls Try.prog 90 #[.slice av bl.length c, .func (.func 88) #[] #[.pointer (some ⟨w.heap.size, 0, none⟩)]] W fun e w' => e = .returned (.bool (!bl.all (blowOk s))) ∧ Ext W w' by
    have hw0 := heap_alloc_new w (.cells #[.int .i64 s, .slice av bl.length c, .int .i64 r] 132)
    have := ContainsFunc_Blow 88 #[.pointer (some ⟨w.heap.size, 0, none⟩)] (enters_of Try.func88 (by kernel_rfl) rfl) (fun h => !blowOk s h) bl av c W (HR.out.ext (((Ext.refl w).alloc _).trans hW)) (fun h _ W2 hW2 =>
      noBlow_any s r av bl.length c w.heap.size h W2 (lt_of ((hW.trans hW2).at' hw0)) (cells_of ((hW.trans hW2).at' hw0) 0 rfl) (cells_of ((hW.trans hW2).at' hw0) 1 rfl) (cells_of ((hW.trans hW2).at' hw0) 2 rfl) s1 s2)
    rw [not_all] at this
    exact this)
  cases h3 : bl.all (blowOk s)
  · have HP : Hid (tuneErr s bl r = 2) := by show tuneErr s bl r = 2; unfold tuneErr blowsOk; rw [h3]; simp
    have H3 := Lib.hid h3
    clear h3
    go_enter Try.func68, Try.ntmps68
    go_wp2_with (first | ((go_at_call 52; (with_reducible refine (within_one _ _ _ _ _ (by simp)).mono ?_); rintro e w2 ⟨rfl, hb2⟩; obtain ⟨hr1, hr2⟩ := hb2.rules; have hz2 := hb2.size; (try simp at hz2); (try have hl0 : w.heap.size < w2.heap.size := by omega); (try have hl0 : w.heap.size ≤ w2.heap.size := by omega); (try have hl1 : w.heap.size + 1 < w2.heap.size := by omega); (try have hl1 : w.heap.size + 1 ≤ w2.heap.size := by omega)); rw [H1.out]) | (go_at_call 90; refine (HQ _ (by (repeat (first | with_reducible exact Ext.refl _ | with_reducible assumption | with_reducible refine Ext.alloc ?_ _ | with_reducible refine Ext.drew ?_ | with_reducible refine Ext.drewN ?_ _ | (with_reducible refine Ext.setCell ?_ ?hsc _; case hsc => (simp <;> omega)) | with_reducible refine Ext.trans ?_ (by assumption))))).out.mono ?_; rintro e w3 ⟨rfl, hb3⟩; rw [H3.out]; obtain ⟨_, _, _, _⟩ := (HC0 w3 (by (repeat (first | with_reducible exact Ext.refl _ | with_reducible assumption | with_reducible refine Ext.alloc ?_ _ | with_reducible refine Ext.drew ?_ | with_reducible refine Ext.drewN ?_ _ | (with_reducible refine Ext.setCell ?_ ?hsc _; case hsc => (simp <;> omega)) | with_reducible refine Ext.trans ?_ (by assumption))))).out))
    go_ret
    rw [HP.out]
    exact ⟨rfl, by (repeat (first | with_reducible exact Ext.refl _ | with_reducible assumption | with_reducible refine Ext.alloc ?_ _ | with_reducible refine Ext.drew ?_ | with_reducible refine Ext.drewN ?_ _ | (with_reducible refine Ext.setCell ?_ ?hsc _; case hsc => (simp <;> omega)) | with_reducible refine Ext.trans ?_ (by assumption)))⟩
  have hbd : ∀ x ∈ bl, (0 ≤ x.1 ∧ x.1 ≤ s - 1) ∧ 0 ≤ x.2 ∧ x.2 ≤ 15 := fun x hx => by
    have := List.all_eq_true.1 h3 x hx
    unfold blowOk at this
    simp only [Bool.and_eq_true, inn_iff] at this
    exact ⟨⟨this.1.1, this.1.2⟩, this.2.1, this.2.2⟩
  have H3 := Lib.hid h3
  clear h3
  have HD := fun W (hW : Ext w W) => Lib.hid (distinct_Blow bl av c W (HR.out.ext hW) (fun p hp => by have := hbd p hp; unfold in64; omega))
  have HB := fun W (hW : Ext w W) => Lib.hid (byBell_any s r av c bl W (HR.out.ext hW) h2 (fun p hp => by have := hbd p hp; unfold in64; omega))
  clear hbd
  cases h4 : decide bl.Nodup
  · have HP : Hid (tuneErr s bl r = 2) := by show tuneErr s bl r = 2; unfold tuneErr blowsOk; rw [h4]; simp
    have H4 := Lib.hid h4
    clear h4
    go_enter Try.func68, Try.ntmps68
    go_wp2_with (first | ((go_at_call 52; (with_reducible refine (within_one _ _ _ _ _ (by simp)).mono ?_); rintro e w2 ⟨rfl, hb2⟩; obtain ⟨hr1, hr2⟩ := hb2.rules; have hz2 := hb2.size; (try simp at hz2); (try have hl0 : w.heap.size < w2.heap.size := by omega); (try have hl0 : w.heap.size ≤ w2.heap.size := by omega); (try have hl1 : w.heap.size + 1 < w2.heap.size := by omega); (try have hl1 : w.heap.size + 1 ≤ w2.heap.size := by omega)); rw [H1.out]) | (go_at_call 90; refine (HQ _ (by (repeat (first | with_reducible exact Ext.refl _ | with_reducible assumption | with_reducible refine Ext.alloc ?_ _ | with_reducible refine Ext.drew ?_ | with_reducible refine Ext.drewN ?_ _ | (with_reducible refine Ext.setCell ?_ ?hsc _; case hsc => (simp <;> omega)) | with_reducible refine Ext.trans ?_ (by assumption))))).out.mono ?_; rintro e w3 ⟨rfl, hb3⟩; rw [H3.out]; obtain ⟨_, _, _, _⟩ := (HC0 w3 (by (repeat (first | with_reducible exact Ext.refl _ | with_reducible assumption | with_reducible refine Ext.alloc ?_ _ | with_reducible refine Ext.drew ?_ | with_reducible refine Ext.drewN ?_ _ | (with_reducible refine Ext.setCell ?_ ?hsc _; case hsc => (simp <;> omega)) | with_reducible refine Ext.trans ?_ (by assumption))))).out) | (go_at_call 91; refine (HD _ (by (repeat (first | with_reducible exact Ext.refl _ | with_reducible assumption | with_reducible refine Ext.alloc ?_ _ | with_reducible refine Ext.drew ?_ | with_reducible refine Ext.drewN ?_ _ | (with_reducible refine Ext.setCell ?_ ?hsc _; case hsc => (simp <;> omega)) | with_reducible refine Ext.trans ?_ (by assumption))))).out.mono ?_; rintro e w4 ⟨rfl, hb4⟩; rw [H4.out]; obtain ⟨_, _, _, _⟩ := (HC0 w4 (by (repeat (first | with_reducible exact Ext.refl _ | with_reducible assumption | with_reducible refine Ext.alloc ?_ _ | with_reducible refine Ext.drew ?_ | with_reducible refine Ext.drewN ?_ _ | (with_reducible refine Ext.setCell ?_ ?hsc _; case hsc => (simp <;> omega)) | with_reducible refine Ext.trans ?_ (by assumption))))).out))
    go_ret
    rw [HP.out]
    exact ⟨rfl, by (repeat (first | with_reducible exact Ext.refl _ | with_reducible assumption | with_reducible refine Ext.alloc ?_ _ | with_reducible refine Ext.drew ?_ | with_reducible refine Ext.drewN ?_ _ | (with_reducible refine Ext.setCell ?_ ?hsc _; case hsc => (simp <;> omega)) | with_reducible refine Ext.trans ?_ (by assumption)))⟩
  have HP : Hid (tuneErr s bl r = if !sameOk bl then 2 else if !inn 0 s r then 3 else 0) := by show tuneErr s bl r = _; unfold tuneErr blowsOk; rw [H1.out, decide_eq_true h2, H3.out, h4]; rfl
  have H4 := Lib.hid h4
  clear h4
  go_enter Try.func68, Try.ntmps68
  go_wp2_with (first | ((go_at_call 52; (with_reducible refine (within_one _ _ _ _ _ (by simp)).mono ?_); rintro e w2 ⟨rfl, hb2⟩; obtain ⟨hr1, hr2⟩ := hb2.rules; have hz2 := hb2.size; (try simp at hz2); (try have hl0 : w.heap.size < w2.heap.size := by omega); (try have hl0 : w.heap.size ≤ w2.heap.size := by omega); (try have hl1 : w.heap.size + 1 < w2.heap.size := by omega); (try have hl1 : w.heap.size + 1 ≤ w2.heap.size := by omega)); rw [H1.out]; obtain ⟨_, _, _, _⟩ := (HC0 w2 (by (repeat (first | with_reducible exact Ext.refl _ | with_reducible assumption | with_reducible refine Ext.alloc ?_ _ | with_reducible refine Ext.drew ?_ | with_reducible refine Ext.drewN ?_ _ | (with_reducible refine Ext.setCell ?_ ?hsc _; case hsc => (simp <;> omega)) | with_reducible refine Ext.trans ?_ (by assumption))))).out) | (go_at_call 90; refine (HQ _ (by (repeat (first | with_reducible exact Ext.refl _ | with_reducible assumption | with_reducible refine Ext.alloc ?_ _ | with_reducible refine Ext.drew ?_ | with_reducible refine Ext.drewN ?_ _ | (with_reducible refine Ext.setCell ?_ ?hsc _; case hsc => (simp <;> omega)) | with_reducible refine Ext.trans ?_ (by assumption))))).out.mono ?_; rintro e w3 ⟨rfl, hb3⟩; rw [H3.out]; obtain ⟨_, _, _, _⟩ := (HC0 w3 (by (repeat (first | with_reducible exact Ext.refl _ | with_reducible assumption | with_reducible refine Ext.alloc ?_ _ | with_reducible refine Ext.drew ?_ | with_reducible refine Ext.drewN ?_ _ | (with_reducible refine Ext.setCell ?_ ?hsc _; case hsc => (simp <;> omega)) | with_reducible refine Ext.trans ?_ (by assumption))))).out) | (go_at_call 91; refine (HD _ (by (repeat (first | with_reducible exact Ext.refl _ | with_reducible assumption | with_reducible refine Ext.alloc ?_ _ | with_reducible refine Ext.drew ?_ | with_reducible refine Ext.drewN ?_ _ | (with_reducible refine Ext.setCell ?_ ?hsc _; case hsc => (simp <;> omega)) | with_reducible refine Ext.trans ?_ (by assumption))))).out.mono ?_; rintro e w4 ⟨rfl, hb4⟩; rw [H4.out]; obtain ⟨_, _, _, _⟩ := (HC0 w4 (by (repeat (first | with_reducible exact Ext.refl _ | with_reducible assumption | with_reducible refine Ext.alloc ?_ _ | with_reducible refine Ext.drew ?_ | with_reducible refine Ext.drewN ?_ _ | (with_reducible refine Ext.setCell ?_ ?hsc _; case hsc => (simp <;> omega)) | with_reducible refine Ext.trans ?_ (by assumption))))).out))
  refine (HB _ (by (repeat (first | with_reducible exact Ext.refl _ | with_reducible assumption | with_reducible refine Ext.alloc ?_ _ | with_reducible refine Ext.drew ?_ | with_reducible refine Ext.drewN ?_ _ | (with_reducible refine Ext.setCell ?_ ?hsc _; case hsc => (simp <;> omega)) | with_reducible refine Ext.trans ?_ (by assumption))))).out.mono ?_
  rintro e W5 ⟨B, rfl, hown, hB, hx5⟩
  have HX5 : Hid (Ext w W5) := by show Ext w W5; exact Ext.trans (by (repeat (first | with_reducible exact Ext.refl _ | with_reducible assumption | with_reducible refine Ext.alloc ?_ _ | with_reducible refine Ext.drew ?_ | with_reducible refine Ext.drewN ?_ _ | (with_reducible refine Ext.setCell ?_ ?hsc _; case hsc => (simp <;> omega)) | with_reducible refine Ext.trans ?_ (by assumption)))) hx5
  have HXB : Hid (Ext (w.alloc (.cells #[.int .i64 s, .slice av bl.length c, .int .i64 r] 132)) W5) := by
    show Ext _ _
    refine Ext.trans ?_ hx5
    (repeat (first | with_reducible exact Ext.refl _ | with_reducible assumption | with_reducible refine Ext.alloc ?_ _ | with_reducible refine Ext.drew ?_ | with_reducible refine Ext.drewN ?_ _ | (with_reducible refine Ext.setCell ?_ ?hsc _; case hsc => (simp <;> omega)) | with_reducible refine Ext.trans ?_ (by assumption)))
  have HC5 := HC0 W5 (by refine Ext.trans ?_ hx5; (repeat (first | with_reducible exact Ext.refl _ | with_reducible assumption | with_reducible refine Ext.alloc ?_ _ | with_reducible refine Ext.drew ?_ | with_reducible refine Ext.drewN ?_ _ | (with_reducible refine Ext.setCell ?_ ?hsc _; case hsc => (simp <;> omega)) | with_reducible refine Ext.trans ?_ (by assumption))))
  have HOW := Lib.hid (show W5.ownsMap Try.prog 3 (rowElem (H := Nat) W5 (B + 1) 3 .i64) B bl.length (bellsD bl bl.length) by
    obtain ⟨es, clock, g1, g2, g3, g4, _⟩ := hown
    exact ⟨es, clock, g1, g2, g3, g4⟩)
  obtain ⟨l5, _, _, _⟩ := HC5.out
  clear hown hx5 hb2 hb3 hb4 hr1 hr2 HQ HD HB H3 H4
  go_wp2_with (first | (at_range; refine wpList_range_own _ rfl _ 159 rfl 3 22 keyedI Try.underlying159 _ B bl.length _ rfl HOW.out ?_; intro w6 hrg6 hg6 hs6) | go_in)
  go_frame
  have hx6 : Ext W5 w6 := ⟨hg6.os, hg6.tape, hg6.output, hg6.size, fun k hk => hg6.block k hk (by simp)⟩
  have HRG6 := Lib.hid hrg6
  have HX6 := Lib.hid hx6
  have HC0' := HC0
  clear hrg6 hx6 hg6
  go_loopw [] (fun wr => ∃ (left : Lit → Bool) (cnt : Nat), wr.ranges Try.prog 3 (rowElem (H := Nat) W5 (B + 1) 3 .i64) B W5.heap.size bl.length (bellsD bl bl.length) left cnt ∧ Ext W5 wr ∧ ∀ x, ofBell bl bl.length x ≠ [] → left (.int .i64 x) = false → (ofBell bl bl.length x).length ≤ 8)
    (fun wr => wr.rangeLeft B W5.heap.size)
  case atStart =>
    refine ⟨_, _, HRG6.out, HX6.out, fun x h0 hl => ?_⟩
    rw [bellsD_has] at hl
    simp at hl
    exact absurd hl h0
  case round =>
    obtain ⟨left, cnt, hrg, hxw, hle⟩ := hrel
    obtain ⟨lw, cw0, cw1, cw2⟩ := (HC0 wr (by
      refine Ext.trans ?_ hxw
      exact HXB.out)).out
    go_wp2_with (first | (at_next; refine wpList_next_bells _ rfl _ rfl W5 (B + 1) B W5.heap.size bl.length bl bl.length left cnt rfl hrg ?_ ?_) | go_in)
    · intro _ hl0
      have HS : Hid (sameOk bl = true) := sameOk_yes fun x h0 => hle x h0 (hl0 _)
      have HXW := Lib.hid (HX5.out.trans hxw)
      clear hle hxw hrg hl0
      cases hi : inn 0 s r
      all_goals
        have HI := Lib.hid hi
        clear hi
        go_wp2_with (first | (go_at_call 52; (with_reducible refine (within_one _ _ _ _ _ (by simp)).mono ?_); rintro e w9 ⟨rfl, hb9⟩; rw [HI.out]))
        go_ret
        rw [HP.out, HS.out, HI.out]
        exact ⟨rfl, Ext.trans HXW.out (Ext.trans ((Ext.refl _).alloc _) hb9)⟩
    · intro x ad cc w1 cnt1 hlx hne hoi hrg1 hlt hg1 hs1 hen
      have hx1 : Ext W5 w1 := Ext.grown hxw hg1 (fun k hk => by cases hk; exact Nat.le_refl _)
      have HLE := Lib.hid hle
      have HNE := Lib.hid hne
      have HX1 := Lib.hid hx1
      have HRG1 := Lib.hid hrg1
      have HRG := Lib.hid hrg
      have HLT := Lib.hid hlt
      have HBG := Lib.hid (@sameOk_no bl x)
      have hlb : (ofBell bl bl.length x).length ≤ 60 := Nat.le_trans (ofBell_len bl bl.length x) h2
      clear hle hne hx1 hrg1 hrg hxw hg1 hs1 hlt hlx hoi
      obtain ⟨L, hL⟩ : ∃ L, ofBell bl bl.length x = L := ⟨_, rfl⟩
      rw [hL] at hlb hen ⊢
      have HLL := Lib.hid hL
      clear hL
      by_cases h8 : L.length ≤ 8
      · go_wp2
        go_roundw
        case rel =>
          refine ⟨_, cnt1, HRG1.out, HX1.out, fun y h0 hl => ?_⟩
          rw [sameKey_int] at hl
          by_cases hy : y = x
          · subst hy; rw [HLL.out]; exact h8
          · rw [show (y == x) = false by simpa using hy] at hl
            exact HLE.out y h0 (by simpa using hl)
        case measure => rw [HRG1.out.left_eq, HRG.out.left_eq]; exact HLT.out
      · have h8' : (8 : Int) < (L.length : Int) := by omega
        go_wp2
        go_ret
        rw [HP.out, HBG.out HNE.out (by rw [HLL.out]; omega)]
        exact ⟨rfl, HX5.out.trans HX1.out⟩

end Go.Proofs.Ytdgplebmlggmcaa
/- part.fits: whether a hammer can strike the next blow of a bell. -/
namespace Go.Proofs.Ytdgplebmlggmcaa
open Go.RowKit

/-- Step of the i-th blow of a bell: ns are the numbers of its blows. -/
def atOf (bl : List (Int × Int)) (ns : List Int) (i : Nat) : Int := (bl.getD (ns.getD i 0).toNat (0, 0)).1
def clashAt (s r : Int) (at' : Nat → Int) (hs : List Int) (h : Int) (i : Nat) : Bool := hs.getD i 0 == h && decide (apartI (at' i) (at' hs.length) s < r)
def fitsB (s r : Int) (at' : Nat → Int) (hs : List Int) (h : Int) : Bool := (List.range hs.length).all fun i => !clashAt s r at' hs h i

theorem fitsB_no {s r : Int} {at' : Nat → Int} {hs : List Int} {h : Int} {i : Nat} (hi : i < hs.length) (hc : clashAt s r at' hs h i = true) : fitsB s r at' hs h = false := by
  cases hf : fitsB s r at' hs h
  · rfl
  · have := List.all_eq_true.1 hf i (List.mem_range.2 hi)
    rw [hc] at this; cases this

theorem fitsB_yes {s r : Int} {at' : Nat → Int} {hs : List Int} {h : Int} (hc : ∀ i, i < hs.length → clashAt s r at' hs h i = false) : fitsB s r at' hs h = true :=
  List.all_eq_true.2 fun i hi => by rw [hc i (List.mem_range.1 hi)]; rfl

theorem getI {xs : List Int} {i : Nat} (hi : i < xs.length) : xs.getD i 0 = xs[i] := by
  rw [List.getD_eq_getElem?_getD, List.getElem?_eq_getElem hi]; rfl
theorem getP {xs : List (Int × Int)} {i : Nat} (hi : i < xs.length) : xs.getD i (0, 0) = xs[i] := by
  rw [List.getD_eq_getElem?_getD, List.getElem?_eq_getElem hi]; rfl

/-- The blow that a number names. -/
theorem blowAt {w : World} {av an : Option Addr} {c cn : Nat} {bl : List (Int × Int)} {ns : List Int} {s : Int} (hb : Row 2 encP w av c bl) (hn : Row 1 encI w an cn ns) (hidx : ∀ n ∈ ns, 0 ≤ n ∧ n < bl.length) (hat : ∀ x ∈ bl, 0 ≤ x.1 ∧ x.1 ≤ s - 1) (i : Nat) (hi : i < ns.length) :
    ∃ bn on bb ob, an = some ⟨bn, on, none⟩ ∧ av = some ⟨bb, ob, none⟩ ∧ bn < w.heap.size ∧ bb < w.heap.size ∧ ∃ j : Nat, j < bl.length ∧ w.cell? ⟨bn, on + i, none⟩ = some (.int .i64 j) ∧ w.cell? ⟨bb, ob + j * 2, none⟩ = some (.int .i64 (atOf bl ns i)) ∧ 0 ≤ atOf bl ns i ∧ atOf bl ns i ≤ s - 1 := by
  obtain ⟨bn, on, h1, h2, h3⟩ := hn.cellI i hi
  obtain ⟨n0, n1⟩ := hidx _ (List.getElem_mem hi)
  obtain ⟨j, hj⟩ := Int.eq_ofNat_of_zero_le n0
  have hjl : j < bl.length := by omega
  obtain ⟨bb, ob, g1, g2, g3, _⟩ := hb.cellP j hjl
  have e : atOf bl ns i = bl[j].1 := by unfold atOf; rw [getI hi, hj, Int.toNat_natCast, getP hjl]
  obtain ⟨q1, q2⟩ := hat _ (List.getElem_mem hjl)
  exact ⟨bn, on, bb, ob, h1, g1, h2, g2, j, hjl, by rw [h3, hj], by rw [g3, e], by rw [e]; exact q1, by rw [e]; exact q2⟩

/-- A part of a tune, in block B. -/
def partC (s r : Int) (av : Option Addr) (n c : Nat) (an : Option Addr) (m cn : Nat) (vh : Value) : Array Value := #[.int .i64 s, .slice av n c, .int .i64 r, .slice an m cn, vh]

set_option maxRecDepth 100000 in
set_option maxHeartbeats 4000000 in
theorem fits_any (s r : Int) (av an ah : Option Addr) (c cn ch : Nat) (bl : List (Int × Int)) (ns hs : List Int) (h : Int) (B : Nat) (w : World) (hB : w.heap[B]? = some (.cells (partC s r av bl.length c an ns.length cn (.slice ah hs.length ch)) 163 (0, 0)))
    (hb : Row 2 encP w av c bl) (hn : Row 1 encI w an cn ns) (hh : Row 1 encI w ah ch hs) (hlt : hs.length < ns.length) (hidx : ∀ n ∈ ns, 0 ≤ n ∧ n < bl.length) (hat : ∀ x ∈ bl, 0 ≤ x.1 ∧ x.1 ≤ s - 1) (s1 : 1 ≤ s) (s2 : s ≤ 1000) :
    Calls Try.prog 101 #[.pointer (some ⟨B, 0, none⟩), .int .i64 h] w fun e w' => e = .returned (.bool (fitsB s r (atOf bl ns) hs h)) ∧ Ext w w' := by
  unfold partC at hB
  have hl1 := hb.len
  have hl2 := hn.len
  have hl3 := hh.len
  have HBA := fun i hi => Lib.hid (blowAt hb hn hidx hat i hi)
  obtain ⟨bn, on, bb, ob, rfl, rfl, hbn, hbb, j, hjl, cn0, cb0, a0, a1⟩ := (HBA hs.length hlt).out
  have HH := Lib.hid hh
  have HNO := fun i hi hc => Lib.hid (@fitsB_no s r (atOf bl ns) hs h i hi hc)
  have HYES := fun hc => Lib.hid (@fitsB_yes s r (atOf bl ns) hs h hc)
  have HB := Lib.hid hB
  have HCL : ∀ i x, hs.getD i 0 = x → Hid (clashAt s r (atOf bl ns) hs h i = (x == h && decide (apartI (atOf bl ns i) (atOf bl ns hs.length) s < r))) := fun i x hx => by
    show clashAt s r (atOf bl ns) hs h i = _
    unfold clashAt; rw [hx]
  have hBl := lt_of hB
  obtain ⟨A, hA⟩ : ∃ A, A = atOf bl ns hs.length := ⟨_, rfl⟩
  simp only [← hA] at cb0 a0 a1 HCL
  clear hb hn hh hidx hat hB hA
  have k0 := cells_of HB.out 0 rfl
  have k1 := cells_of HB.out 1 rfl
  have k2 := cells_of HB.out 2 rfl
  have k3 := cells_of HB.out 3 rfl
  have k4 := cells_of HB.out 4 rfl
  have hj1 : (j : Int) < (bl.length : Int) := by omega
  have hlt1 : (hs.length : Int) < (ns.length : Int) := by omega
  go_enter Try.func101, Try.ntmps101
  go_wp2
  go_quiet (fail)
  go_wp2
  clear cn0 cb0
  go_loopw [33] (fun i wr => ∃ k : Nat, k ≤ hs.length ∧ i = .int .i64 k ∧ Ext w wr ∧ ∀ m, m < k → clashAt s r (atOf bl ns) hs h m = false) (fun i _ => hs.length - (intOf i).toNat)
  case atStart => exact ⟨0, Nat.zero_le _, rfl, (Ext.refl _).drewN _, by omega⟩
  case round =>
    obtain ⟨k, hk, rfl, hxr, hno⟩ := hrel
    have HN := Lib.hid hno
    have HXR := Lib.hid hxr
    clear hno
    by_cases hkl : k < hs.length
    · obtain ⟨bh, oh, rfl, hbh, ch0⟩ := (HH.out.ext hxr).cellI k hkl
      obtain ⟨bn', on', bb', ob', e1, e2, _, _, i, hil, cn1, cb1, b0, b1⟩ := (HBA k (by omega)).out
      cases e1
      cases e2
      have cn2 := (hxr.cell (on + k) hbn).trans cn1
      have cb2 := (hxr.cell (ob + i * 2) hbb).trans cb1
      have q0 := (hxr.cell 0 hBl).trans k0
      have q1 := (hxr.cell 1 hBl).trans k1
      have q2 := (hxr.cell 2 hBl).trans k2
      have q3 := (hxr.cell 3 hBl).trans k3
      have q4 := (hxr.cell 4 hBl).trans k4
      have HCK := HCL k _ (getI hkl)
      have hi1 : (i : Int) < (bl.length : Int) := by omega
      have hk1 : (k : Int) < (ns.length : Int) := by omega
      have HCN := HNO k hkl
      generalize hs[k] = y at *
      generalize atOf bl ns k = Z at *
      have HAP := fun W => Lib.hid ((apart_any Z A s W b0 (by omega) a0 (by omega) (by omega) (by omega)).mono (R' := fun e w' => e = .returned (.int .i64 (apartI Z A s)) ∧ ∃ n, w' = W.drewN n) (fun e w' h => ⟨h.1, 0, by rw [← h.2]; rfl⟩))
      clear cn1 cb1 hxr HBA HCL HNO k0 k1 k2 k3 k4
      by_cases hy : y = h
      · subst hy
        rw [show (y == y) = true by simp, Bool.true_and] at HCK
        obtain ⟨P, hP⟩ : ∃ P, P = apartI Z A s := ⟨_, rfl⟩
        simp only [← hP] at HCK HAP
        clear hP
        by_cases hr : P < r
        · rw [decide_eq_true hr] at HCK
          go_wp2
          go_quiet (refine Calls.quiet_of (HAP _).out)
          go_wp2
          go_ret
          rw [(HCN HCK.out).out]
          exact ⟨rfl, HXR.out.drewN _⟩
        · have hrd : decide (P < r) = false := decide_eq_false hr
          have hrl : r ≤ P := by omega
          rw [hrd] at HCK
          go_wp2
          go_quiet (refine Calls.quiet_of (HAP _).out)
          go_wp2
          go_roundw
          case rel => exact ⟨k + 1, by omega, by go_num, HXR.out.drewN _, fun m hm => (Nat.lt_or_eq_of_le (Nat.le_of_lt_succ hm)).elim (HN.out m) (fun e => by rw [e]; exact HCK.out)⟩
          case measure => simp [intOf]; omega
      · have hy1 : (y == h) = false := by simpa using hy
        have hy2 : decide (y = h) = false := decide_eq_false hy
        rw [hy1, Bool.false_and] at HCK
        go_wp2
        go_quiet (fail)
        go_wp2
        go_roundw
        case rel => exact ⟨k + 1, by omega, by go_num, HXR.out.drewN _, fun m hm => (Nat.lt_or_eq_of_le (Nat.le_of_lt_succ hm)).elim (HN.out m) (fun e => by rw [e]; exact HCK.out)⟩
        case measure => simp [intOf]; omega
    · have hke : k = hs.length := by omega
      subst hke
      go_wp2
      go_ret
      rw [(HYES HN.out).out]
      exact ⟨rfl, hxr⟩

end Go.Proofs.Ytdgplebmlggmcaa
/- part.fill: the smallest list of so many hammers for the blows of a bell. -/
namespace Go.Proofs.Ytdgplebmlggmcaa
open Go.RowKit

def fillS (F : List Int → Int → Bool) (many : Nat) : Nat → List Int → Option (List Int)
  | 0, hs => some hs
  | n + 1, hs => (List.range many).findSome? fun (h : Nat) => if F hs (h : Int) then fillS F many n (hs ++ [(h : Int)]) else none

def fillStep (F : List Int → Int → Bool) (many n : Nat) (hs : List Int) (h : Nat) : Option (List Int) := if F hs (h : Int) then fillS F many n (hs ++ [(h : Int)]) else none

theorem findSome_none {α : Type} {f : Nat → Option α} : ∀ {k : Nat}, (∀ m, m < k → f m = none) → (List.range k).findSome? f = none := by
  intro k h
  rw [List.findSome?_eq_none_iff]
  intro x hx
  exact h x (List.mem_range.1 hx)

theorem findSome_some {α : Type} {f : Nat → Option α} {k m : Nat} {x : α} (hm : m < k) (hx : f m = some x) (h : ∀ n, n < m → f n = none) : (List.range k).findSome? f = some x := by
  obtain ⟨d, rfl⟩ : ∃ d, k = m + 1 + d := ⟨k - m - 1, by omega⟩
  have h1 : (List.range (m + 1)).findSome? f = some x := by
    rw [List.range_succ, List.findSome?_append, findSome_none h]
    simp [hx]
  clear hm
  induction d with
  | zero => exact h1
  | succ d ih => rw [← Nat.add_assoc, List.range_succ, List.findSome?_append, ih]; rfl

theorem fillS_none {F : List Int → Int → Bool} {many n : Nat} {hs : List Int} (h : ∀ m, m < many → fillStep F many n hs m = none) : fillS F many (n + 1) hs = none := by
  unfold fillS; exact findSome_none h
theorem fillS_some {F : List Int → Int → Bool} {many n : Nat} {hs out : List Int} {m : Nat} (hm : m < many) (hx : fillStep F many n hs m = some out) (h : ∀ k, k < m → fillStep F many n hs k = none) : fillS F many (n + 1) hs = some out := by
  unfold fillS; exact findSome_some hm hx h

theorem OwnL.row {w : World} {ah : Option Addr} {n ch : Nat} {hs : List Int} (h : OwnL 1 encI 3 w (.slice ah n ch) hs) : n = hs.length ∧ Row 1 encI w ah ch hs := by
  obtain ⟨a, c, e, hr⟩ := h.sl encI_len
  simp only [Value.slice.injEq] at e
  obtain ⟨rfl, rfl, rfl⟩ := e
  exact ⟨rfl, hr⟩

theorem OwnL.cap {w : World} {ah : Option Addr} {n ch : Nat} {hs : List Int} (o : OwnL 1 encI 3 w (.slice ah n ch) hs) : n ≤ ch ∧ ch ≤ maxLen := by
  rcases o.2 with ⟨h1, h2⟩ | ⟨g, cap, cur, hv, hb, hg, hn, hcap, hsz, ht⟩
  · simp only [Value.slice.injEq] at h1
    obtain ⟨_, rfl, rfl⟩ := h1
    exact ⟨Nat.le_refl _, Nat.zero_le _⟩
  · simp only [Value.slice.injEq] at hv
    obtain ⟨rfl, rfl, rfl⟩ := hv
    exact ⟨hn, hcap⟩

theorem OwnL.cut {w : World} {ah : Option Addr} {n ch : Nat} {hs : List Int} {h : Int} (o : OwnL 1 encI 3 w (.slice ah n ch) (hs ++ [h])) : OwnL 1 encI 3 w (.slice ah hs.length ch) hs := by
  have hl : ∀ xs : List Int, (xs.flatMap encI).length = xs.length * 1 := fun xs => flat_len encI_len xs
  refine ⟨hl hs, ?_⟩
  rcases o.2 with ⟨h1, h2⟩ | ⟨g, cap, cur, hv, hb, hg, hn, hcap, hsz, ht⟩
  · simp at h2
  · simp only [Value.slice.injEq] at hv
    obtain ⟨rfl, rfl, rfl⟩ := hv
    refine .inr ⟨g, ch, cur, rfl, hb, hg, by simp at hn; omega, hcap, hsz, ?_⟩
    have h1 := congrArg (List.take (hs.length * 1)) ht
    rw [List.take_take, List.flatMap_append] at h1
    rw [show min (hs.length * 1) ((hs ++ [h]).length * 1) = hs.length * 1 by simp] at h1
    rw [h1, List.take_append_of_le_length (by rw [hl]; omega), List.take_of_length_le (by rw [hl]; omega)]

theorem OwnL.beside {w : World} {v : Value} {hs : List Int} (o : OwnL 1 encI 3 w v hs) (B i : Nat) (u : Value) (hne : ∀ g, v.ownBlock = some g → B < g) : OwnL 1 encI 3 (w.setCell ⟨B, i, none⟩ u) v hs := by
  refine ⟨o.1, ?_⟩
  rcases o.2 with h | ⟨g, cap, cur, rfl, hb, hg, hr⟩
  · exact .inl h
  · have := hne g rfl
    exact .inr ⟨g, cap, cur, rfl, hb, (Below.heap_setCell w ⟨B, i, none⟩ u g (by dsimp only; omega)).trans hg, hr⟩

/-- A part of a tune in block B, with the hammers hs. -/
def PartAt (w0 : World) (B : Nat) (s r : Int) (av : Option Addr) (n c : Nat) (an : Option Addr) (m cn : Nat) (hs : List Int) (w : World) : Prop :=
  Ext w0 w ∧ ∃ ah ch, w.heap[B]? = some (.cells #[.int .i64 s, .slice av n c, .int .i64 r, .slice an m cn, .slice ah hs.length ch] 163 (0, 0)) ∧ OwnL 1 encI 3 w (.slice ah hs.length ch) hs ∧ ∀ g, (Value.slice ah hs.length ch).ownBlock = some g → B < g

section
variable {w0 : World} {B : Nat} {s r : Int} {av : Option Addr} {n c : Nat} {an : Option Addr} {m cn : Nat} {hs : List Int}
theorem PartAt.call {w w' : World} (h : PartAt w0 B s r av n c an m cn hs w) (e : Ext w w') : PartAt w0 B s r av n c an m cn hs w' := by
  obtain ⟨h1, ah, ch, h2, h3, h4⟩ := h
  exact ⟨h1.trans e, ah, ch, e.at' h2, h3.kept e, h4⟩

theorem PartAt.cut {w : World} {ah : Option Addr} {l ch : Nat} {h : Int} (hw : w0.heap.size ≤ B) (h1 : Ext w0 w) {x : Value} (h2 : w.heap[B]? = some (.cells #[.int .i64 s, .slice av n c, .int .i64 r, .slice an m cn, x] 163 (0, 0))) (h3 : OwnL 1 encI 3 w (.slice ah l ch) (hs ++ [h])) (h4 : ∀ g, (Value.slice ah l ch).ownBlock = some g → B < g) :
    PartAt w0 B s r av n c an m cn hs (w.setCell ⟨B, 4, none⟩ (.slice ah hs.length ch)) :=
  ⟨h1.setCell hw _, ah, ch, set_one 4 _ h2 rfl, h3.cut.beside B 4 _ (fun g hg => h4 g (by cases ah <;> exact hg)), fun g hg => h4 g (by cases ah <;> exact hg)⟩

theorem PartAt.push {w : World} {v : Value} (hw : w0.heap.size ≤ B) (h1 : Ext w0 w) {x : Value} (h2 : w.heap[B]? = some (.cells #[.int .i64 s, .slice av n c, .int .i64 r, .slice an m cn, x] 163 (0, 0))) (h3 : OwnL 1 encI 3 w v hs) (h4 : ∀ g, v.ownBlock = some g → B < g) :
    PartAt w0 B s r av n c an m cn hs (w.setCell ⟨B, 4, none⟩ v) := by
  obtain ⟨ah, l, ch, rfl⟩ := h3.is3
  obtain ⟨rfl, _⟩ := h3.row
  exact ⟨h1.setCell hw _, ah, ch, set_one 4 _ h2 rfl, h3.beside B 4 _ h4, h4⟩
end

set_option maxRecDepth 100000 in
set_option maxHeartbeats 4000000 in
theorem fill_any (w0 : World) (s r : Int) (av an : Option Addr) (c cn : Nat) (bl : List (Int × Int)) (ns : List Int) (B many : Nat) (hb : Row 2 encP w0 av c bl) (hn : Row 1 encI w0 an cn ns) (hidx : ∀ n ∈ ns, 0 ≤ n ∧ n < bl.length) (hat : ∀ x ∈ bl, 0 ≤ x.1 ∧ x.1 ≤ s - 1) (s1 : 1 ≤ s) (s2 : s ≤ 1000) (hm : many ≤ 60) (hw : w0.heap.size ≤ B) (hns : ns.length ≤ 60) :
    ∀ (n : Nat) (hs : List Int) (w : World), hs.length + n = ns.length → PartAt w0 B s r av bl.length c an ns.length cn hs w →
    Calls Try.prog 93 #[.pointer (some ⟨B, 0, none⟩), .int .i64 many] w fun e w' => e = .returned (.bool (fillS (fitsB s r (atOf bl ns)) many n hs).isSome) ∧ PartAt w0 B s r av bl.length c an ns.length cn ((fillS (fitsB s r (atOf bl ns)) many n hs).getD hs) w' := by
  obtain ⟨i0, hi, hz0, hz1, hz2⟩ := info_parts Try.infoI
  have HF := fun hs h w (hp : PartAt w0 B s r av bl.length c an ns.length cn hs w) hlt => Lib.hid (show Calls Try.prog 101 #[.pointer (some ⟨B, 0, none⟩), .int .i64 h] w fun e w' => e = .returned (.bool (fitsB s r (atOf bl ns) hs h)) ∧ Ext w w' by
    obtain ⟨h1, ah, ch, h2, h3, h4⟩ := hp
    exact fits_any s r av an ah c cn ch bl ns hs h B w h2 (hb.ext h1) (hn.ext h1) h3.row.2 hlt hidx hat s1 s2)
  have hl2 := hn.len
  clear hb hn hidx hat s1 s2
  intro n
  induction n with
  | zero =>
    intro hs w hl hp
    obtain ⟨hx, ah, ch, hB, ho, hg⟩ := hp
    have hll : ((hs.length : Int) == (ns.length : Int)) = true := by simp; omega
    have hle : hs.length = ns.length := by omega
    have k3 := cells_of hB 3 rfl
    have k4 := cells_of hB 4 rfl
    have hBl := lt_of hB
    have HP := Lib.hid (show PartAt w0 B s r av bl.length c an ns.length cn hs w from ⟨hx, ah, ch, hB, ho, hg⟩)
    clear hx hB ho hg
    go_enter Try.func93, Try.ntmps93
    go_wp2
    go_quiet (fail)
    go_wp2
    go_ret
    exact ⟨rfl, HP.out.call ((Ext.refl _).drewN _)⟩
  | succ n ih =>
    intro hs w hl hp
    have IH := Lib.hid ih
    clear ih
    have HP := Lib.hid hp
    have HNO := Lib.hid (@fillS_none (fitsB s r (atOf bl ns)) many n hs)
    have HSO := fun m out => Lib.hid (@fillS_some (fitsB s r (atOf bl ns)) many n hs out m)
    have HST : ∀ m : Nat, Hid (fillStep (fitsB s r (atOf bl ns)) many n hs m = if fitsB s r (atOf bl ns) hs (m : Int) then fillS (fitsB s r (atOf bl ns)) many n (hs ++ [(m : Int)]) else none) := fun m => (rfl : _ = _)
    obtain ⟨hx, ah, ch, hB, ho, hg⟩ := hp
    have hll : ((hs.length : Int) == (ns.length : Int)) = false := by simp; omega
    have hld : decide ((hs.length : Int) = (ns.length : Int)) = false := by simp; omega
    have hle : hs.length < ns.length := by omega
    have k3 := cells_of hB 3 rfl
    have k4 := cells_of hB 4 rfl
    have hBl := lt_of hB
    clear hx hB ho hg
    go_enter Try.func93, Try.ntmps93
    go_wp2
    go_quiet (fail)
    go_wp2
    clear k3 k4
    go_loopw [18] (fun i wr => ∃ k : Nat, k ≤ many ∧ i = .int .i64 k ∧ PartAt w0 B s r av bl.length c an ns.length cn hs wr ∧ ∀ m, m < k → fillStep (fitsB s r (atOf bl ns)) many n hs m = none) (fun i _ => many - (intOf i).toNat)
    case atStart => exact ⟨0, Nat.zero_le _, rfl, HP.out.call ((Ext.refl _).drewN _), by omega⟩
    case round =>
      obtain ⟨k, hk, rfl, hp, hno⟩ := hrel
      have HN := Lib.hid hno
      have HPR := Lib.hid hp
      clear hno
      by_cases hkm : k < many
      · have HFF := (HF hs (k : Int) wr hp hle).out
        have HSK := HST k
        have HI := Lib.hid (IH.out (hs ++ [(k : Int)]))
        cases hf : fitsB s r (atOf bl ns) hs (k : Int)
        · rw [hf, if_neg (by simp)] at HSK
          rw [hf] at HFF
          have HFK := Lib.hid HFF
          clear HFF hf
          go_wp2_with (go_at_call 101; refine HFK.out.mono ?_; rintro e w2 ⟨rfl, hb2⟩)
          go_roundw
          case rel => exact ⟨k + 1, by omega, by go_num, HPR.out.call hb2, fun m hm => (Nat.lt_or_eq_of_le (Nat.le_of_lt_succ hm)).elim (HN.out m) (fun e => by rw [e]; exact HSK.out)⟩
          case measure => simp [intOf]; omega
        · rw [hf, if_pos rfl] at HSK
          rw [hf] at HFF
          have HFK := Lib.hid HFF
          clear HFF hf
          go_wp2_with (first | go_at_call 101; refine HFK.out.mono ?_; rintro e w2 ⟨rfl, hb2⟩; obtain ⟨hx, ah', ch', hB, ho, hg⟩ := HPR.out.call hb2; have q4 := cells_of hB 4 rfl; have hBl2 := lt_of hB; have HO := Lib.hid ho; have HBB := Lib.hid hB; have HGG := Lib.hid hg; have HXX := Lib.hid hx; clear hb2 ho hB hg hx | (at_builtin; refine wpList_append_one rfl _ _ 22 rfl 1 encI encI_len encI_one (by decide) 3 i0 _ 8 Try.underlying22 hi hz0 hz1 hz2 rfl _ _ rfl (HO.out.kept ((Ext.refl _).alloc _)) _ _ (k : Int) rfl ⟨_, _, heap_alloc_new _ _, rfl⟩ (by omega) (by unfold maxLen; omega) (by unfold maxLen; omega) (by omega) ?_; intro v' w7 hown' hgrow'; obtain ⟨a7, n7, c7, rfl⟩ := hown'.is3; have hgw : Grew (w2.alloc (.cells #[.int .i64 k] 3)) (.slice ah' hs.length ch') w7 (.slice a7 n7 c7) := hgrow'; have hB7 := (hgw.block _ (by simp; omega) (fun e => by have := HGG.out _ e; omega)).trans ((heap_alloc_old _ _ hBl2).trans HBB.out); have hx7 : Ext w0 w7 := hgw.ext_low (HXX.out.alloc _) (fun g hg => by have := HGG.out _ hg; omega); have f7 := free_of hB7 4; have q7 := cells_of hB7 4 rfl; have hBl7 := lt_of hB7; have HP8 := Lib.hid (PartAt.push hw hx7 hB7 hown' (fun g hg => hgw.low (n := B + 1) (fun g hg => HGG.out g hg) (by simp; omega) g hg)); clear hown' hgrow' hgw hB7 hx7))
          refine (HI.out _ (by simp; omega) HP8.out).mono ?_
          rintro e w9 ⟨rfl, hp9⟩
          clear HP8 HI HO HBB HGG HXX HFK
          cases hfs : fillS (fitsB s r (atOf bl ns)) many n (hs ++ [(k : Int)]) with
          | some out =>
            rw [hfs] at HSK hp9
            have HP9 := Lib.hid hp9
            clear hp9 hfs
            go_wp2
            go_ret
            rw [(HSO k out).out hkm HSK.out HN.out]
            exact ⟨rfl, HP9.out⟩
          | none =>
            rw [hfs] at HSK hp9
            rw [Option.getD_none] at hp9
            obtain ⟨hx, a8, c8, hB, ho, hg⟩ := hp9
            rw [show (hs ++ [(k : Int)]).length = hs.length + 1 by simp] at hB ho hg
            obtain ⟨hcap, hcap2⟩ := ho.cap
            have hwr : IntKind.i64.wrap ((hs.length : Nat) : Int) = (hs.length : Int) := IntWalk.i64_in _ (by omega)
            have hc1 : (hs.length : Int) ≤ (c8 : Int) := by omega
            have hc2 : hs.length ≤ c8 := by omega
            have hc3 : (hs.length : Int) ≤ 9223372036854775807 := by omega
            have HX9 := Lib.hid hx
            have HB9 := Lib.hid hB
            have HO9 := Lib.hid ho
            have HG9 := Lib.hid hg
            have p4 := cells_of hB 4 rfl
            have f4 := free_of hB 4
            have hBl9 := lt_of hB
            clear hx hB ho hg hfs
            go_wp2
            go_still_tail 14, (by kernel_rfl)
            change wpList _ _ _ _ _ w9.drew
            have HBD : Hid (w9.drew.heap[B]? = some (.cells #[.int .i64 s, .slice av bl.length c, .int .i64 r, .slice an ns.length cn, .slice a8 (hs.length + 1) c8] 163 (0, 0))) := HB9.out
            have HPC := Lib.hid (PartAt.cut hw HX9.out.drew HBD.out (HO9.out.kept (Ext.refl w9).drew) HG9.out)
            clear p4 f4 hBl9 HB9 HX9 HO9 HG9
            have p4 := cells_of HBD.out 4 rfl
            have f4 := free_of HBD.out 4
            have hBl9 := lt_of HBD.out
            generalize w9.drew = W3 at *
            go_wp2
            go_roundw
            case rel => exact ⟨k + 1, by omega, by go_num, HPC.out, fun m hm => (Nat.lt_or_eq_of_le (Nat.le_of_lt_succ hm)).elim (HN.out m) (fun e => by rw [e]; exact HSK.out)⟩
            case measure => simp [intOf]; omega
      · have hke : k = many := by omega
        subst hke
        go_wp2
        go_ret
        rw [HNO.out HN.out]
        exact ⟨rfl, HPR.out⟩

end Go.Proofs.Ytdgplebmlggmcaa
/- Worlds in which all is as it was but some blocks; a world cut to its first blocks; arrays of sixteen; what fewest answers. -/
namespace Go.Proofs.Ytdgplebmlggmcaa
open Go.RowKit

/-- From a to w nothing has turned but the blocks p. -/
structure But (a : World) (p : Nat → Prop) (w : World) : Prop where
  os : w.os = a.os
  tape : w.tape = a.tape
  output : w.output = a.output
  size : a.heap.size ≤ w.heap.size
  block : ∀ k, k < a.heap.size → ¬ p k → w.heap[k]? = a.heap[k]?

theorem But.refl (a : World) (p : Nat → Prop) : But a p a := ⟨rfl, rfl, rfl, Nat.le_refl _, fun _ _ _ => rfl⟩
theorem But.call {a w w' : World} {p : Nat → Prop} (h : But a p w) (e : Ext w w') : But a p w' :=
  ⟨e.os.trans h.os, e.tape.trans h.tape, e.output.trans h.output, Nat.le_trans h.size e.size, fun k hk hp => (e.block' (Nat.lt_of_lt_of_le hk h.size)).trans (h.block k hk hp)⟩
theorem But.of_ext {a w : World} {p : Nat → Prop} (e : Ext a w) : But a p w := (But.refl a p).call e
theorem But.trans {a b c : World} {p : Nat → Prop} (h : But a p b) (k : But b p c) : But a p c :=
  ⟨k.os.trans h.os, k.tape.trans h.tape, k.output.trans h.output, Nat.le_trans h.size k.size, fun j hj hp => (k.block j (Nat.lt_of_lt_of_le hj h.size) hp).trans (h.block j hj hp)⟩
theorem But.set {a w : World} {p : Nat → Prop} (h : But a p w) (b o : Nat) (v : Value) (hb : p b) : But a p (w.setCell ⟨b, o, none⟩ v) := by
  have hx : Below b w (w.setCell ⟨b, o, none⟩ v) := (Below.refl b w).setCell (p := ⟨b, o, none⟩) (Nat.le_refl _) v
  exact ⟨hx.os.trans h.os, hx.tape.trans h.tape, hx.output.trans h.output, Nat.le_trans h.size hx.size, fun k hk hp => (Below.heap_setCell w ⟨b, o, none⟩ v k (fun e => hp (by rw [e]; exact hb))).trans (h.block k hk hp)⟩
theorem But.ext {u a w : World} {p : Nat → Prop} (h : But a p w) (e : Ext u a) (hp : ∀ k, p k → u.heap.size ≤ k) : Ext u w :=
  ⟨h.os.trans e.os, h.tape.trans e.tape, h.output.trans e.output, Nat.le_trans e.size h.size, fun k hk => (h.block k (Nat.lt_of_lt_of_le hk e.size) (fun hpk => by have := hp k hpk; omega)).trans (e.block k hk)⟩
theorem But.at' {a w : World} {p : Nat → Prop} (h : But a p w) {b : Nat} {o : Obj} (hb : a.heap[b]? = some o) (hp : ¬ p b) : w.heap[b]? = some o := (h.block b (heap_lt hb) hp).trans hb

theorem Row.but {α : Type} {k : Nat} {enc : α → List Value} {a w : World} {ad : Option Addr} {c : Nat} {xs : List α} {p : Nat → Prop} (h : Row k enc a ad c xs) (e : But a p w) (hp : ∀ b off, ad = some ⟨b, off, none⟩ → ¬ p b) : Row k enc w ad c xs :=
  ⟨h.cap, h.top, fun j hj => by
    obtain ⟨b, off, ha, hb, hc⟩ := h.at' j hj
    exact ⟨b, off, ha, Nat.lt_of_lt_of_le hb e.size, fun i hi => (World.cell?_of_block (w := a) (w' := w) (a := ⟨b, off + j * k + i, none⟩) (e.block b hb (hp b off ha))).trans (hc i hi)⟩⟩

/-- The world with its first n blocks alone. -/
def cutTo (w : World) (n : Nat) : World := { w with heap := w.heap.extract 0 n }

theorem cutTo_size (w : World) (n : Nat) (h : n ≤ w.heap.size) : (cutTo w n).heap.size = n := by simp [cutTo]; omega
theorem cutTo_at (w : World) (n k : Nat) (h : k < n) : (cutTo w n).heap[k]? = w.heap[k]? := by
  unfold cutTo
  rcases Nat.lt_or_ge k w.heap.size with h' | h'
  · rw [Array.getElem?_extract, if_pos (by omega), Nat.zero_add]
  · rw [Array.getElem?_eq_none h', Array.getElem?_eq_none (by simp; omega)]
theorem cutTo_ext (w : World) (n : Nat) (h : n ≤ w.heap.size) : Ext (cutTo w n) w :=
  ⟨rfl, rfl, rfl, by rw [cutTo_size w n h]; exact h, fun k hk => by rw [cutTo_size w n h] at hk; exact (cutTo_at w n k hk).symm⟩
theorem ext_cutTo {a w : World} {n : Nat} (e : Ext a w) (h1 : a.heap.size ≤ n) (h2 : n ≤ w.heap.size) : Ext a (cutTo w n) :=
  ⟨e.os, e.tape, e.output, by rw [cutTo_size w n h2]; exact h1, fun k hk => (cutTo_at w n k (by omega)).trans (e.block k hk)⟩
theorem But.cutTo {a w : World} {p : Nat → Prop} {n : Nat} (e : But a p w) (h1 : a.heap.size ≤ n) (h2 : n ≤ w.heap.size) : But a p (cutTo w n) :=
  ⟨e.os, e.tape, e.output, by rw [cutTo_size w n h2]; exact h1, fun k hk hp => (cutTo_at w n k (by omega)).trans (e.block k hk hp)⟩
/-- A call that has turned nothing below block n. -/
theorem But.low {a w w' : World} {p : Nat → Prop} {n : Nat} (e : But a p w) (h1 : a.heap.size ≤ n) (h2 : n ≤ w.heap.size) (x : Ext (Proofs.Ytdgplebmlggmcaa.cutTo w n) w') : But a p w' :=
  (e.cutTo h1 h2).call x

theorem ranges_of {H : Type} {P : Program} {k : TypeId} {R : Value → Option (DataW H × List MemPlace)} {w w' : World} {b r n : Nat} {D : DataW H} {left : Lit → Bool} {cnt : Nat} (h : w.ranges P k R b r n D left cnt) (h1 : w'.heap[b]? = w.heap[b]?) (h2 : w'.heap[r]? = w.heap[r]?) : w'.ranges P k R b r n D left cnt := by
  obtain ⟨es, clock, since, seen, c0, hb, F, hs, hD, hr, rest⟩ := h
  exact ⟨es, clock, since, seen, c0, h1.trans hb, F, hs, hD, h2.trans hr, rest⟩

theorem ownsInts_row {w : World} {base : Nat} {ad : Option Addr} {n c : Nat} {zs : List Int} (h : w.ownsInts base 3 .i64 (.slice ad n c) zs) : Row 1 encI w ad c zs := by
  have hmap : ∀ l : List Int, l.flatMap encI = l.map (Value.int .i64) := fun l => by induction l with | nil => rfl | cons a l ih => rw [List.flatMap_cons, ih]; rfl
  have o : OwnL 1 encI 3 w (.slice ad n c) zs := by
    unfold OwnL
    rw [hmap zs]
    obtain ⟨⟨h1, h2⟩, _⟩ := h
    refine ⟨h1, ?_⟩
    rcases h2 with h2 | ⟨g, cap, cur, e1, e2, r⟩
    · exact .inl h2
    · exact .inr ⟨g, cap, cur, e1, Nat.zero_le _, r⟩
  exact o.row.2

theorem low_at {w w' : World} {n k : Nat} (x : Ext (cutTo w n) w') (h1 : n ≤ w.heap.size) (hk : k < n) : w'.heap[k]? = w.heap[k]? :=
  (x.block' (by rw [cutTo_size w n h1]; exact hk)).trans (cutTo_at w n k hk)

theorem OwnL.at_block {α : Type} {k : Nat} {enc : α → List Value} {e : TypeId} {w w' : World} {v : Value} {xs : List α} (o : OwnL k enc e w v xs) (h : ∀ g, v.ownBlock = some g → w'.heap[g]? = w.heap[g]?) : OwnL k enc e w' v xs := by
  refine ⟨o.1, ?_⟩
  rcases o.2 with h1 | ⟨g, cap, cur, rfl, hb, hg, hr⟩
  · exact .inl h1
  · exact .inr ⟨g, cap, cur, rfl, hb, (h g rfl).trans hg, hr⟩

/-- The same part, seen from another world below. -/
theorem PartAt.rebase {w0 : World} {B : Nat} {s r : Int} {av : Option Addr} {n c : Nat} {an : Option Addr} {m cn : Nat} {hs : List Int} {w w' : World} (h : PartAt w0 B s r av n c an m cn hs w) (hk : ∀ k, B ≤ k → k < w.heap.size → w'.heap[k]? = w.heap[k]?) :
    PartAt (cutTo w' B) B s r av n c an m cn hs w' := by
  obtain ⟨_, ah, ch, h2, h3, h4⟩ := h
  have h2' := (hk B (Nat.le_refl _) (heap_lt h2)).trans h2
  exact ⟨cutTo_ext w' B (Nat.le_of_lt (heap_lt h2')), ah, ch, h2', h3.at_block (fun g hg => hk g (Nat.le_of_lt (h4 g hg)) (h3.lt g hg)), h4⟩

theorem PartAt.new {w : World} {s r : Int} {av : Option Addr} {n c : Nat} {an : Option Addr} {m cn : Nat} : PartAt (cutTo (w.alloc (.cells #[.int .i64 s, .slice av n c, .int .i64 r, .slice an m cn, .slice none 0 0] 163)) w.heap.size) w.heap.size s r av n c an m cn [] (w.alloc (.cells #[.int .i64 s, .slice av n c, .int .i64 r, .slice an m cn, .slice none 0 0] 163)) :=
  ⟨cutTo_ext _ _ (by simp), none, 0, heap_alloc_new _ _, OwnL.nil _ _ _ _, fun g hg => by cases hg⟩

/-- A store into a slice of the call's own. -/
theorem OwnL.set {w : World} {g n cap : Nat} {xs : List Int} (o : OwnL 1 encI 3 w (.slice (some ⟨g, 0, none⟩) n cap) xs) (i : Nat) (x : Int) (hi : i < xs.length) : OwnL 1 encI 3 (w.setCell ⟨g, i, none⟩ (.int .i64 x)) (.slice (some ⟨g, 0, none⟩) n cap) (xs.set i x) := by
  have hmap : ∀ l : List Int, l.flatMap encI = l.map (Value.int .i64) := fun l => by induction l with | nil => rfl | cons a l ih => rw [List.flatMap_cons, ih]; rfl
  refine ⟨by rw [flat_len encI_len], ?_⟩
  rcases o.2 with ⟨h1, h2⟩ | ⟨g', cap', cur, hv, hb, hg, hn, hcap, hsz, ht⟩
  · cases h1
  · simp only [Value.slice.injEq, Option.some.injEq, Addr.mk.injEq] at hv
    obtain ⟨⟨rfl, _⟩, rfl, rfl⟩ := hv
    refine .inr ⟨g, cap, cur.setIfInBounds i (.int .i64 x), by simp, hb, set_one i _ hg rfl, by simpa using hn, hcap, by simpa using hsz, ?_⟩
    rw [hmap] at ht ⊢
    rw [Array.toList_setIfInBounds, List.length_set, List.take_set, ht, List.map_set]

/-- An array of sixteen integers. -/
def arr (f : Nat → Int) : Array Value := #[.int .i64 (f 0), .int .i64 (f 1), .int .i64 (f 2), .int .i64 (f 3), .int .i64 (f 4), .int .i64 (f 5), .int .i64 (f 6), .int .i64 (f 7), .int .i64 (f 8), .int .i64 (f 9), .int .i64 (f 10), .int .i64 (f 11), .int .i64 (f 12), .int .i64 (f 13), .int .i64 (f 14), .int .i64 (f 15)]

theorem arr_get (f : Nat → Int) (i : Nat) (h : i < 16) : (arr f)[i]? = some (.int .i64 (f i)) := by
  match i, h with
  | 0, _ | 1, _ | 2, _ | 3, _ | 4, _ | 5, _ | 6, _ | 7, _ | 8, _ | 9, _ | 10, _ | 11, _ | 12, _ | 13, _ | 14, _ | 15, _ => rfl
  | n + 16, h => omega

def upd (f : Nat → Int) (i : Nat) (x : Int) : Nat → Int := fun j => if j = i then x else f j

theorem arr_set (f : Nat → Int) (i : Nat) (h : i < 16) (x : Int) : (arr f).setIfInBounds i (.int .i64 x) = arr (upd f i x) := by
  match i, h with
  | 0, _ | 1, _ | 2, _ | 3, _ | 4, _ | 5, _ | 6, _ | 7, _ | 8, _ | 9, _ | 10, _ | 11, _ | 12, _ | 13, _ | 14, _ | 15, _ => rfl
  | n + 16, h => omega

theorem store16 {w : World} {B : Nat} {t : TypeId} {f : Nat → Int} (h : w.heap[B]? = some (.cells (arr f) t (0, 0))) :
    ∃ W : World, W = ((((((((((((((((w.setCell ⟨B, 0, none⟩ (.int .i64 (f 0))).setCell ⟨B, 1, none⟩ (.int .i64 (f 1))).setCell ⟨B, 2, none⟩ (.int .i64 (f 2))).setCell ⟨B, 3, none⟩ (.int .i64 (f 3))).setCell ⟨B, 4, none⟩ (.int .i64 (f 4))).setCell ⟨B, 5, none⟩ (.int .i64 (f 5))).setCell ⟨B, 6, none⟩ (.int .i64 (f 6))).setCell ⟨B, 7, none⟩ (.int .i64 (f 7))).setCell ⟨B, 8, none⟩ (.int .i64 (f 8))).setCell ⟨B, 9, none⟩ (.int .i64 (f 9))).setCell ⟨B, 10, none⟩ (.int .i64 (f 10))).setCell ⟨B, 11, none⟩ (.int .i64 (f 11))).setCell ⟨B, 12, none⟩ (.int .i64 (f 12))).setCell ⟨B, 13, none⟩ (.int .i64 (f 13))).setCell ⟨B, 14, none⟩ (.int .i64 (f 14))).setCell ⟨B, 15, none⟩ (.int .i64 (f 15))) ∧
      W.heap[B]? = some (.cells (arr f) t (0, 0)) ∧ But w (fun k => k = B) W := by
  refine ⟨_, rfl, ?_, ?_⟩
  · have h0 := set_one 0 (.int .i64 (f 0)) (ds := arr f) h rfl
    have h1 := set_one 1 (.int .i64 (f 1)) (ds := arr f) h0 rfl
    have h2 := set_one 2 (.int .i64 (f 2)) (ds := arr f) h1 rfl
    have h3 := set_one 3 (.int .i64 (f 3)) (ds := arr f) h2 rfl
    have h4 := set_one 4 (.int .i64 (f 4)) (ds := arr f) h3 rfl
    have h5 := set_one 5 (.int .i64 (f 5)) (ds := arr f) h4 rfl
    have h6 := set_one 6 (.int .i64 (f 6)) (ds := arr f) h5 rfl
    have h7 := set_one 7 (.int .i64 (f 7)) (ds := arr f) h6 rfl
    have h8 := set_one 8 (.int .i64 (f 8)) (ds := arr f) h7 rfl
    have h9 := set_one 9 (.int .i64 (f 9)) (ds := arr f) h8 rfl
    have h10 := set_one 10 (.int .i64 (f 10)) (ds := arr f) h9 rfl
    have h11 := set_one 11 (.int .i64 (f 11)) (ds := arr f) h10 rfl
    have h12 := set_one 12 (.int .i64 (f 12)) (ds := arr f) h11 rfl
    have h13 := set_one 13 (.int .i64 (f 13)) (ds := arr f) h12 rfl
    have h14 := set_one 14 (.int .i64 (f 14)) (ds := arr f) h13 rfl
    exact set_one 15 (.int .i64 (f 15)) (ds := arr f) h14 rfl
  · repeat (refine But.set ?_ B _ _ rfl)
    exact But.refl _ _

theorem upd_twice (f : Nat → Int) (i : Nat) (x y : Int) : upd (upd f i x) i y = upd f i y := by
  funext j; unfold upd; by_cases h : j = i <;> simp [h]

theorem arr_congr {f g : Nat → Int} (h : ∀ i, i < 16 → f i = g i) : arr f = arr g := by
  unfold arr
  rw [h 0 (by decide), h 1 (by decide), h 2 (by decide), h 3 (by decide), h 4 (by decide), h 5 (by decide), h 6 (by decide), h 7 (by decide), h 8 (by decide), h 9 (by decide), h 10 (by decide), h 11 (by decide), h 12 (by decide), h 13 (by decide), h 14 (by decide), h 15 (by decide)]

-- what fewest answers
def partF (s r : Int) (bl : List (Int × Int)) (b : Int) : List Int → Int → Bool := fitsB s r (atOf bl (ofBell bl bl.length b))
def fillAt (s r : Int) (bl : List (Int × Int)) (b : Int) (m : Nat) : Option (List Int) := fillS (partF s r bl b) m (ofBell bl bl.length b).length []
def needOf (s r : Int) (bl : List (Int × Int)) (b : Int) : Nat := if ofBell bl bl.length b = [] then 0 else match (List.range 60).find? fun m => (fillAt s r bl b (m + 1)).isSome with
  | some m => m + 1
  | none => 0
def outOf (s r : Int) (bl : List (Int × Int)) (b : Int) : List Int := (fillAt s r bl b (needOf s r bl b)).getD []
def rankOf (bl : List (Int × Int)) (i : Nat) : Nat := (ofBell bl i (bellOf bl i)).length
def useOf (s r : Int) (bl : List (Int × Int)) (i : Nat) : Int := (outOf s r bl (bellOf bl i)).getD (rankOf bl i) 0
def useL (s r : Int) (bl : List (Int × Int)) : List Int := (List.range bl.length).map (useOf s r bl)

theorem fillS_len {F : List Int → Int → Bool} {many : Nat} : ∀ {n : Nat} {hs out : List Int}, fillS F many n hs = some out → out.length = hs.length + n
  | 0, hs, out, h => by cases h; rfl
  | n + 1, hs, out, h => by
    unfold fillS at h
    obtain ⟨x, _, hx⟩ := List.exists_of_findSome?_eq_some h
    by_cases hF : F hs (x : Int) = true
    · rw [if_pos hF] at hx
      have := fillS_len hx
      simp at this; omega
    · rw [if_neg hF] at hx; cases hx

theorem fillS_enough (s r : Int) (at' : Nat → Int) (many : Nat) : ∀ (n : Nat) (hs : List Int), hs.length + n ≤ many → (∀ x ∈ hs, x < hs.length) → (fillS (fitsB s r at') many n hs).isSome = true
  | 0, hs, _, _ => rfl
  | n + 1, hs, hm, hx => by
    have hF : fitsB s r at' hs (hs.length : Int) = true := fitsB_yes fun i hi => by
      unfold clashAt
      have := hx _ (List.getElem_mem hi)
      rw [getI hi, show (hs[i] == (hs.length : Int)) = false by simp; omega]
      rfl
    unfold fillS
    rw [List.findSome?_isSome_iff]
    refine ⟨hs.length, List.mem_range.2 (by omega), ?_⟩
    rw [if_pos hF]
    exact fillS_enough s r at' many n (hs ++ [(hs.length : Int)]) (by simp; omega) (fun x h => by
      simp at h ⊢
      rcases h with h | h
      · have := hx x h; omega
      · omega)

theorem fillAt_enough (s r : Int) (bl : List (Int × Int)) (b : Int) (m : Nat) (h : (ofBell bl bl.length b).length ≤ m) : (fillAt s r bl b m).isSome = true :=
  fillS_enough s r _ m _ [] (by simpa using h) (by simp)

theorem needOf_is {s r : Int} {bl : List (Int × Int)} {b : Int} {m : Nat} (hne : ofBell bl bl.length b ≠ []) (h1 : 1 ≤ m) (h60 : m ≤ 60) (hm : (fillAt s r bl b m).isSome = true) (h : ∀ k, 1 ≤ k → k < m → fillAt s r bl b k = none) : needOf s r bl b = m := by
  obtain ⟨n, rfl⟩ : ∃ n, m = n + 1 := ⟨m - 1, by omega⟩
  unfold needOf
  rw [if_neg hne, find_range_some (m := n) (by omega) hm (fun k hk => by rw [h (k + 1) (by omega) (by omega)]; rfl)]

theorem ofBell_at (bl : List (Int × Int)) (b : Int) : ∀ (n j : Nat) (hj : j < (ofBell bl n b).length), ∃ i : Nat, i < n ∧ (ofBell bl n b)[j] = (i : Int) ∧ bellOf bl i = b ∧ (ofBell bl i b).length = j
  | 0, j, hj => by simp [ofBell] at hj
  | n + 1, j, hj => by
    have e := ofBell_succ bl n b
    rcases Nat.lt_or_ge j (ofBell bl n b).length with h | h
    · obtain ⟨i, h1, h2, h3, h4⟩ := ofBell_at bl b n j h
      refine ⟨i, by omega, ?_, h3, h4⟩
      rw [← h2]
      simp only [e]
      exact List.getElem_append_left h
    · by_cases hb : bellOf bl n = b
      · have e2 : ofBell bl (n + 1) b = ofBell bl n b ++ [(n : Int)] := by rw [e, show (bellOf bl n == b) = true by simpa using hb, if_pos rfl]
        have hl : j = (ofBell bl n b).length := by rw [e2] at hj; simp at hj; omega
        refine ⟨n, by omega, ?_, hb, hl.symm⟩
        simp only [e2, hl]
        simp
      · rw [ofBell_other bl n b hb] at hj; omega

theorem getD_set (xs : List Int) (i j : Nat) (y : Int) (hi : i < xs.length) : (xs.set i y).getD j 0 = if i = j then y else xs.getD j 0 := by
  rw [List.getD_eq_getElem?_getD, List.getElem?_set, List.getD_eq_getElem?_getD]
  by_cases h : i = j
  · subst h; simp [hi]
  · simp [h]

theorem ofBell_mono (bl : List (Int × Int)) (b : Int) {i j : Nat} (h : i ≤ j) : (ofBell bl i b).length ≤ (ofBell bl j b).length := by
  obtain ⟨d, rfl⟩ : ∃ d, j = i + d := ⟨j - i, by omega⟩
  clear h
  induction d with
  | zero => exact Nat.le_refl _
  | succ d ih => rw [← Nat.add_assoc, ofBell_succ, List.length_append]; omega

theorem rank_lt {bl : List (Int × Int)} {i : Nat} (hi : i < bl.length) : rankOf bl i < (ofBell bl bl.length (bellOf bl i)).length := by
  have h1 := ofBell_mono bl (bellOf bl i) (i := i + 1) (j := bl.length) (by omega)
  rw [ofBell_same] at h1
  unfold rankOf
  simp at h1; omega

theorem rank_inj {bl : List (Int × Int)} {i j : Nat} (hb : bellOf bl i = bellOf bl j) (hr : rankOf bl i = rankOf bl j) : i = j := by
  have key : ∀ i j : Nat, bellOf bl i = bellOf bl j → rankOf bl i = rankOf bl j → ¬ i < j := fun i j hb hr h => by
    have h1 := ofBell_mono bl (bellOf bl i) (i := i + 1) (j := j) (by omega)
    rw [ofBell_same] at h1
    unfold rankOf at hr
    rw [← hb] at hr
    simp at h1; omega
  rcases Nat.lt_trichotomy i j with h | h | h
  · exact absurd h (key i j hb hr)
  · exact h
  · exact absurd h (key j i hb.symm hr.symm)

theorem But.mono {a w : World} {p q : Nat → Prop} (h : But a p w) (hp : ∀ k, p k → q k) : But a q w := ⟨h.os, h.tape, h.output, h.size, fun k hk hq => h.block k hk (fun hpk => hq (hp k hpk))⟩

theorem OwnL.free {α : Type} {k : Nat} {enc : α → List Value} {e : TypeId} {w : World} {g n c : Nat} {xs : List α} (o : OwnL k enc e w (.slice (some ⟨g, 0, none⟩) n c) xs) (i : Nat) : w.frozen? ⟨g, i, none⟩ = false := by
  rcases o.2 with ⟨h1, _⟩ | ⟨g', cap, cur, hv, hb, hg, _⟩
  · cases h1
  · simp only [Value.slice.injEq, Option.some.injEq, Addr.mk.injEq] at hv
    obtain ⟨⟨rfl, _⟩, _⟩ := hv
    exact free_of hg i

theorem ofBell_bounds (bl : List (Int × Int)) (b : Int) : ∀ n ∈ ofBell bl bl.length b, 0 ≤ n ∧ n < bl.length := fun n hn => by
  obtain ⟨j, hj, rfl⟩ := List.getElem_of_mem hn
  obtain ⟨i, h1, h2, _⟩ := ofBell_at bl b bl.length j hj
  rw [h2]; omega

end Go.Proofs.Ytdgplebmlggmcaa
/- tune.fewest. -/
namespace Go.Proofs.Ytdgplebmlggmcaa
open Go.RowKit Go.Maps

theorem made_zeros (n : Nat) : (madeCells (Value.int .i64 0).cells n).toList = (List.replicate n (0 : Int)).flatMap encI := by
  have hmap : ∀ l : List Int, l.flatMap encI = l.map (Value.int .i64) := fun l => by induction l with | nil => rfl | cons a l ih => rw [List.flatMap_cons, ih]; rfl
  rw [hmap]
  unfold madeCells
  refine List.ext_getElem (by simp) fun i h1 h2 => ?_
  simp [Value.cells, Nat.mod_one]

theorem OwnL.made {w : World} {v : Value} {n : Nat} (h : w.ownsRow 0 3 1 v n (madeCells (Value.int .i64 0).cells (n * 1)).toList) : OwnL 1 encI 3 w v (List.replicate n (0 : Int)) := by
  rw [Nat.mul_one, made_zeros] at h
  unfold OwnL
  rw [List.length_replicate]
  exact h

set_option maxRecDepth 100000 in
set_option maxHeartbeats 4000000 in
theorem fewest_own (s r : Int) (av : Option Addr) (c : Nat) (bl : List (Int × Int)) (w : World) (hb : Row 2 encP w av c bl) (hok : blowsOk s bl = true) (h8 : sameOk bl = true) :
    Calls Try.prog 69 #[.agg #[.int .i64 s, .slice av bl.length c, .int .i64 r]] w fun e w' => ∃ v, e = .returned (.tuple #[.agg (arr fun b => needOf s r bl b), v]) ∧ OwnL 1 encI 3 w' v (useL s r bl) ∧ (∀ g, v.ownBlock = some g → w.heap.size ≤ g) ∧ Ext w w' := by
  obtain ⟨i0, hi, hz0, hz1, hz2⟩ := info_parts Try.infoI
  obtain ⟨s1, s2, hl60, hbd, _⟩ := blowsOk_bounds hok
  have HR := Lib.hid hb
  have HBD := Lib.hid hbd
  have H8 := Lib.hid h8
  have HBB := fun W (hW : Ext w W) => Lib.hid (byBell_any s r av c bl W (hb.ext hW) hl60 (fun p hp => by have := hbd p hp; unfold in64; omega))
  clear hb hok hbd h8
  go_enter Try.func69, Try.ntmps69
  go_wp2_with (at_make; refine wpList_make_full _ rfl _ _ 22 rfl 0 3 i0 (.int .i64 0) 1 Try.underlying22 hi hz0 hz1 .i64 .i64 _ _ bl.length rfl rfl rfl rfl (by rw [hz2]; omega) (by unfold maxLen; omega) (Nat.zero_le _) ?_; intro w3 hown3 hg3; have hU3 := OwnL.made hown3; rw [World.size_alloc, World.size_alloc] at hU3; rw [World.size_alloc, World.size_alloc]; have hx3 := Ext.grown (Ext.refl _) hg3 (fun _ h => by cases h); have hN3 := hx3.at' (heap_alloc_new (w.alloc (.cells #[.int .i64 s, .slice av bl.length c, .int .i64 r] 132)) _); rw [World.size_alloc] at hN3; have hT3 := hx3.at' ((heap_alloc_old (w.alloc (.cells #[.int .i64 s, .slice av bl.length c, .int .i64 r] 132)) (.cells #[.int .i64 0, .int .i64 0, .int .i64 0, .int .i64 0, .int .i64 0, .int .i64 0, .int .i64 0, .int .i64 0, .int .i64 0, .int .i64 0, .int .i64 0, .int .i64 0, .int .i64 0, .int .i64 0, .int .i64 0, .int .i64 0] 61) (by simp)).trans (heap_alloc_new w _)); have hxw3 : Ext w w3 := (((Ext.refl w).alloc _).alloc _).trans hx3; clear hown3 hg3 hx3; have q0 := cells_of hT3 0 rfl; have q1 := cells_of hT3 1 rfl; have q2 := cells_of hT3 2 rfl; have hl3 := lt_of hT3)
  refine (HBB _ hxw3).out.mono ?_
  rintro e W5 ⟨B, rfl, hown, hB, hx5⟩
  have hlU := lt_of hN3
  have HX5 := Lib.hid (hxw3.trans hx5)
  have HT5 := Lib.hid (hx5.at' hT3)
  have HN5 : Hid (W5.heap[w.heap.size + 1]? = some (.cells (arr fun _ => 0) 61 (0, 0))) := hx5.at' hN3
  have HU5 := Lib.hid (hU3.kept hx5)
  have hUl : w.heap.size + 1 + 1 < w3.heap.size := hU3.lt _ rfl
  have HOW := Lib.hid (show W5.ownsMap Try.prog 3 (rowElem (H := Nat) W5 (B + 1) 3 .i64) B bl.length (bellsD bl bl.length) by
    obtain ⟨es, clock, g1, g2, g3, g4, _⟩ := hown
    exact ⟨es, clock, g1, g2, g3, g4⟩)
  have hBl : B < W5.heap.size := by obtain ⟨es, clock, g1, _⟩ := hown; exact lt_of g1
  have hTl := lt_of HT5.out
  have hBU : w.heap.size + 1 + 1 < B := by omega
  clear hown hx5 hU3 hN3 hT3 hxw3 q0 q1 q2 hl3 hUl hlU hB HBB
  go_wp2_with (first | (at_range; refine wpList_range_own _ rfl _ 159 rfl 3 22 keyedI Try.underlying159 _ B bl.length _ rfl HOW.out ?_; intro w6 hrg6 hg6 hs6) | go_in)
  go_frame
  have hx6 : Ext W5 w6 := ⟨hg6.os, hg6.tape, hg6.output, hg6.size, fun k hk => hg6.block k hk (by simp)⟩
  have HRG6 := Lib.hid hrg6
  have HX6 := Lib.hid hx6
  clear hrg6 hx6 hg6
  go_loopw [] (fun wr => ∃ (left : Lit → Bool) (cnt : Nat) (nd : Nat → Int) (us : List Int), wr.ranges Try.prog 3 (rowElem (H := Nat) W5 (B + 1) 3 .i64) B W5.heap.size bl.length (bellsD bl bl.length) left cnt ∧ But W5 (fun k => k = w.heap.size + 1 ∨ k = w.heap.size + 1 + 1) wr ∧
      wr.heap[w.heap.size + 1]? = some (.cells (arr nd) 61 (0, 0)) ∧ OwnL 1 encI 3 wr (.slice (some ⟨w.heap.size + 1 + 1, 0, none⟩) bl.length bl.length) us ∧ us.length = bl.length ∧
      (∀ b : Nat, b < 16 → nd b = if left (.int .i64 b) = true then 0 else (needOf s r bl b : Int)) ∧
      ∀ i : Nat, i < bl.length → left (.int .i64 (bellOf bl i)) = false → us.getD i 0 = useOf s r bl i)
    (fun wr => wr.rangeLeft B W5.heap.size)
  case atStart =>
    refine ⟨_, _, _, _, HRG6.out, But.of_ext HX6.out, HX6.out.at' HN5.out, HU5.out.kept HX6.out, by simp, fun b hb => ?_, fun i hi hl => ?_⟩
    · rw [bellsD_has]
      by_cases h0 : ofBell bl bl.length b = []
      · rw [h0]
        have : needOf s r bl b = 0 := by unfold needOf; rw [if_pos h0]
        simp [this]
      · rw [if_pos (by simpa using h0)]
    · rw [bellsD_has] at hl
      have := ofBell_has (List.getElem_mem hi)
      rw [show bellOf bl i = bl[i].2 by unfold bellOf; rw [getP hi]] at hl
      simp at hl
      exact absurd hl this
  case round =>
    obtain ⟨left, cnt, nd, us, hrg, hbt, hN, hU, hul, hnd, hus⟩ := hrel
    have HUS := Lib.hid hus
    have HND := Lib.hid hnd
    have HU := Lib.hid hU
    have HBT := Lib.hid hbt
    have HN := Lib.hid hN
    clear hus hnd hU hbt hN
    go_wp2_with (first | (at_next; refine wpList_next_bells _ rfl _ rfl W5 (B + 1) B W5.heap.size bl.length bl bl.length left cnt rfl hrg ?_ ?_) | go_in)
    · intro _ hl0
      have HNW : Hid (wr.heap[w.heap.size + 1]? = some (.cells (arr fun b => (needOf s r bl b : Int)) 61 (0, 0))) := by
        show wr.heap[w.heap.size + 1]? = _
        rw [HN.out, arr_congr (fun i hi => by rw [HND.out i hi, hl0, if_neg (by simp)])]
      have husl : us = useL s r bl := by
        refine List.ext_getElem (by rw [hul]; simp [useL]) fun i h1 h2 => ?_
        have := HUS.out i (by omega) (hl0 _)
        rw [getI h1] at this
        rw [this]
        simp [useL]
      subst husl
      obtain ⟨W9, hW9, hb9, hB9⟩ := store16 HNW.out
      have HXW := Lib.hid ((HBT.out.trans (hB9.mono (fun k hk => .inl hk))).ext HX5.out (fun k hk => by omega))
      have HSL := Lib.hid ((HU.out.at_block (w' := W9) (fun g hg => by
        simp only [Value.ownBlock, Option.some.injEq] at hg
        exact hB9.block g (HU.out.lt g (by rw [← hg]; rfl)) (by omega))))
      have hNW := HNW.out
      unfold arr at hNW
      have q0 := cells_of hNW 0 rfl
      have q1 := cells_of hNW 1 rfl
      have q2 := cells_of hNW 2 rfl
      have q3 := cells_of hNW 3 rfl
      have q4 := cells_of hNW 4 rfl
      have q5 := cells_of hNW 5 rfl
      have q6 := cells_of hNW 6 rfl
      have q7 := cells_of hNW 7 rfl
      have q8 := cells_of hNW 8 rfl
      have q9 := cells_of hNW 9 rfl
      have q10 := cells_of hNW 10 rfl
      have q11 := cells_of hNW 11 rfl
      have q12 := cells_of hNW 12 rfl
      have q13 := cells_of hNW 13 rfl
      have q14 := cells_of hNW 14 rfl
      have q15 := cells_of hNW 15 rfl
      have fN := fun i => free_of hNW i
      have hNl := lt_of hNW
      have HW9 := Lib.hid hW9
      have HB9 := Lib.hid hb9
      clear hW9 hb9 hB9 hNW
      go_wp2
      refine (congrArg (bodyPost _ _ _ _ _) HW9.out.symm).mpr ?_
      exact bodyPost_ret (results_cell_row_tmp rfl _ _ (w.heap.size + 1) _ _ _ _ (.slice (some ⟨w.heap.size + 1 + 1, 0, none⟩) bl.length bl.length) rfl rfl HB9.out Try.underlying61 rfl (by kernel_rfl)) rfl ⟨_, rfl, HSL.out, fun g hg => by simp only [Value.ownBlock, Option.some.injEq] at hg; omega, HXW.out⟩
    · intro x ad cc w1 cnt1 hlx hne hoi hrg1 hlt hg1 hs1 hen
      have hx01 : 0 ≤ x ∧ x ≤ 15 := by
        obtain ⟨b, hb, rfl⟩ := ofBell_mem hne
        exact (HBD.out b hb).2.2
      obtain ⟨q, rfl⟩ := Int.eq_ofNat_of_zero_le hx01.1
      have hq16 : q < 16 := by omega
      clear hx01
      have hrs := hrg.lt
      have hbt1 : But W5 (fun k => k = w.heap.size + 1 ∨ k = w.heap.size + 1 + 1) w1 := ⟨hg1.os.trans HBT.out.os, hg1.tape.trans HBT.out.tape, hg1.output.trans HBT.out.output, Nat.le_trans HBT.out.size hg1.size, fun k hk hp => (hg1.block k (by omega) (fun e => by have := Option.some.inj e; omega)).trans (HBT.out.block k hk hp)⟩
      have hN1 := (hg1.block (w.heap.size + 1) (by omega) (fun e => by have := Option.some.inj e; omega)).trans HN.out
      have hU1 : OwnL 1 encI 3 w1 (.slice (some ⟨w.heap.size + 1 + 1, 0, none⟩) bl.length bl.length) us := World.ownsRow.kept HU.out hg1 (.inr (fun e => by simp only [Value.ownBlock, Option.some.injEq] at e; omega))
      have hT1 := hbt1.at' HT5.out (by omega)
      have hl1 := hrg1.lt
      have q0 := cells_of hT1 0 rfl
      have q1 := cells_of hT1 1 rfl
      have q2 := cells_of hT1 2 rfl
      have hTl1 := lt_of hT1
      have hNl1 := lt_of hN1
      have cN := cells_of hN1 q (arr_get nd q hq16)
      have fN := fun i => free_of hN1 i
      obtain ⟨ns, hns⟩ : ∃ ns, ofBell bl bl.length q = ns := ⟨_, rfl⟩
      have HNS := Lib.hid hns
      rw [hns] at hne hoi hen ⊢
      have HOI := Lib.hid hoi
      have HB1 := Lib.hid hbt1
      have HN1 := Lib.hid hN1
      have HU1 := Lib.hid hU1
      have HRG1 := Lib.hid hrg1
      have HRG := Lib.hid hrg
      have HLT := Lib.hid hlt
      have HLX := Lib.hid hlx
      have HNE := Lib.hid hne
      have HHS := Lib.hid (show w1.heap.size = wr.heap.size from hs1)
      have hq1 : (q : Int) < 16 := by omega
      have hq2 : (0 : Int) ≤ (q : Int) := by omega
      clear hrg hrg1 hlt hlx hg1 hs1 hoi hne hns hbt1 hN1 hU1 hT1
      go_wp2
      have hRn : Row 1 encI W5 ad cc ns := ownsInts_row HOI.out
      have hadl : ∀ b off, ad = some ⟨b, off, none⟩ → B < b := fun b off e => by
        have := (HOI.out.1.lt b (by rw [e]; rfl)).1
        omega
      have HFILL : ∀ (W : World) (m : Nat), But w1 (fun k => k = w.heap.size + 1 ∨ k = w.heap.size + 1 + 1) W → m ≤ 60 → PartAt (cutTo W w1.heap.size) w1.heap.size s r av bl.length c ad ns.length cc [] W →
          Hid (Calls Try.prog 93 #[.pointer (some ⟨w1.heap.size, 0, none⟩), .int .i64 m] W fun e w' => e = .returned (.bool (fillAt s r bl q m).isSome) ∧ PartAt (cutTo W w1.heap.size) w1.heap.size s r av bl.length c ad ns.length cc ((fillAt s r bl q m).getD []) w') := fun W m hW hm hp => by
        have e1 : fillAt s r bl q m = fillS (fitsB s r (atOf bl ns)) m ns.length [] := by unfold fillAt partF; rw [HNS.out]
        have hbW := (HB1.out.trans hW).cutTo (n := w1.heap.size) HB1.out.size hW.size
        have hxW := hbW.ext HX5.out (fun k hk => by omega)
        rw [e1]
        exact fill_any (cutTo W w1.heap.size) s r av ad c cc bl ns w1.heap.size m (HR.out.ext hxW) (hRn.but hbW (fun b off e hp => by have := hadl b off e; omega)) (by rw [← HNS.out]; exact ofBell_bounds bl q) (fun y hy => by have := HBD.out y hy; omega) s1 s2 hm (by rw [cutTo_size _ _ hW.size]; exact Nat.le_refl _) (by rw [← HNS.out]; exact Nat.le_trans (ofBell_len bl bl.length q) hl60) ns.length [] W (by simp) hp
      have hns8 : 1 ≤ ns.length ∧ ns.length ≤ 8 := by
        have h1 := HNE.out
        obtain ⟨y, hy, hy2⟩ := ofBell_mem (bl := bl) (x := (q : Int)) (by rw [HNS.out]; exact h1)
        have h2 := List.all_eq_true.1 H8.out y hy
        rw [hy2, HNS.out] at h2
        refine ⟨List.length_pos_iff.2 h1, by simpa using h2⟩
      have HENO : ∀ m, ns.length ≤ m → Hid ((fillAt s r bl q m).isSome = true) := fun m hm => fillAt_enough s r bl q m (by rw [HNS.out]; exact hm)
      have hsz : (w1.setCell ⟨w.heap.size + 1, q, none⟩ (.int .i64 1)).heap.size = w1.heap.size := by simp
      have HP0 : Hid (PartAt (cutTo ((w1.setCell ⟨w.heap.size + 1, q, none⟩ (.int .i64 1)).alloc (.cells #[.int .i64 s, .slice av bl.length c, .int .i64 r, .slice ad ns.length cc, .slice none 0 0] 163)) w1.heap.size) w1.heap.size s r av bl.length c ad ns.length cc [] ((w1.setCell ⟨w.heap.size + 1, q, none⟩ (.int .i64 1)).alloc (.cells #[.int .i64 s, .slice av bl.length c, .int .i64 r, .slice ad ns.length cc, .slice none 0 0] 163))) := by
        have h := PartAt.new (w := w1.setCell ⟨w.heap.size + 1, q, none⟩ (.int .i64 1)) (s := s) (r := r) (av := av) (n := bl.length) (c := c) (an := ad) (m := ns.length) (cn := cc)
        rw [hsz] at h
        exact h
      have HB2 : Hid (But w1 (fun k => k = w.heap.size + 1 ∨ k = w.heap.size + 1 + 1) ((w1.setCell ⟨w.heap.size + 1, q, none⟩ (.int .i64 1)).alloc (.cells #[.int .i64 s, .slice av bl.length c, .int .i64 r, .slice ad ns.length cc, .slice none 0 0] 163))) :=
        ((But.refl w1 _).set (w.heap.size + 1) q (.int .i64 1) (.inl rfl)).call ((Ext.refl _).alloc _)
      have HN2 := Lib.hid (show ((w1.setCell ⟨w.heap.size + 1, q, none⟩ (.int .i64 1)).alloc (.cells #[.int .i64 s, .slice av bl.length c, .int .i64 r, .slice ad ns.length cc, .slice none 0 0] 163)).heap[w.heap.size + 1]? = some (.cells (arr (upd nd q ((1 : Nat) : Int))) 61 (0, 0)) from
        (heap_alloc_old _ _ (by rw [hsz]; exact hNl1)).trans (set_one q _ HN1.out (arr_set nd q hq16 _)))
      have HU2 := Lib.hid (show OwnL 1 encI 3 ((w1.setCell ⟨w.heap.size + 1, q, none⟩ (.int .i64 1)).alloc (.cells #[.int .i64 s, .slice av bl.length c, .int .i64 r, .slice ad ns.length cc, .slice none 0 0] 163)) (.slice (some ⟨w.heap.size + 1 + 1, 0, none⟩) bl.length bl.length) us from
        (HU1.out.beside (w.heap.size + 1) q (.int .i64 1) (fun g hg => by simp only [Value.ownBlock, Option.some.injEq] at hg; omega)).kept ((Ext.refl _).alloc _))
      clear cN fN q0 q1 q2
      generalize ((w1.setCell ⟨w.heap.size + 1, q, none⟩ (.int .i64 1)).alloc (.cells #[.int .i64 s, .slice av bl.length c, .int .i64 r, .slice ad ns.length cc, .slice none 0 0] 163)) = W7 at *
      go_loopw [] (fun wr2 => ∃ m : Nat, 1 ≤ m ∧ m ≤ ns.length ∧ But w1 (fun k => k = w.heap.size + 1 ∨ k = w.heap.size + 1 + 1) wr2 ∧ wr2.heap[w.heap.size + 1]? = some (.cells (arr (upd nd q (m : Int))) 61 (0, 0)) ∧ OwnL 1 encI 3 wr2 (.slice (some ⟨w.heap.size + 1 + 1, 0, none⟩) bl.length bl.length) us ∧
          PartAt (cutTo wr2 w1.heap.size) w1.heap.size s r av bl.length c ad ns.length cc [] wr2 ∧ ∀ k, 1 ≤ k → k < m → fillAt s r bl q k = none)
        (fun wr2 => ns.length - (intOf ((wr2.cell? ⟨w.heap.size + 1, q, none⟩).getD undef)).toNat)
      case atStart => exact ⟨1, Nat.le_refl _, hns8.1, HB2.out, HN2.out, HU2.out, HP0.out, fun k h1 h2 => by omega⟩
      case round =>
        obtain ⟨m, m1, m2, hb2, hN2, hU2, hp2, hno2⟩ := hrel
        have HF := (HFILL wr m hb2 (by omega) hp2).out
        have hcm := cells_of hN2 q (arr_get _ q hq16)
        rw [show upd nd q (m : Int) q = (m : Int) by simp [upd]] at hcm
        have HHN := Lib.hid hN2
        have HHU := Lib.hid hU2
        have HHB := Lib.hid hb2
        have HHO := Lib.hid hno2
        have hNl2 := lt_of hN2
        have fN2 := fun i => free_of hN2 i
        clear hN2 hU2 hp2 hb2 hno2
        cases hfa : fillAt s r bl q m with
        | none =>
          have hlt2 : m + 1 ≤ ns.length := by
            rcases Nat.lt_or_ge m ns.length with h | h
            · exact h
            · have := (HENO m h).out; rw [hfa] at this; cases this
          rw [hfa, Option.getD_none] at HF
          have HF' := Lib.hid HF
          have HFA := Lib.hid hfa
          clear HF hfa
          go_wp2_with (go_at_call 93; refine HF'.out.mono ?_; rintro e w9 ⟨rfl, hp9⟩; have hN9 := (low_at hp9.1 HHB.out.size hNl1).trans HHN.out; have hcm9 := cells_of hN9 q (arr_get _ q hq16); rw [show upd nd q (m : Int) q = (m : Int) by simp [upd]] at hcm9; have hNl9 := lt_of hN9; have fN9 := fun i => free_of hN9 i; have HN9 := Lib.hid hN9; have HP9 := Lib.hid hp9; clear hN9 hp9)
          have hNs := set_one q (.int .i64 ((m : Int) + 1)) HN9.out (arr_set _ q hq16 _)
          rw [upd_twice, show (m : Int) + 1 = ((m + 1 : Nat) : Int) by simp] at hNs
          have hcs := cells_of hNs q (arr_get _ q hq16)
          rw [show upd nd q ((m + 1 : Nat) : Int) q = ((m + 1 : Nat) : Int) by simp [upd]] at hcs
          rw [show (m : Int) + 1 = ((m + 1 : Nat) : Int) by simp]
          refine ⟨⟨m + 1, by omega, hlt2, ((HHB.out.low (Nat.le_refl _) HHB.out.size HP9.out.1).set _ q _ (.inl rfl)), hNs, ?_, ?_, fun k h1 h2 => ?_⟩, ?_⟩
          · exact (HHU.out.at_block (fun g hg => low_at HP9.out.1 HHB.out.size (by simp only [Value.ownBlock, Option.some.injEq] at hg; omega))).beside _ _ _ (fun g hg => by simp only [Value.ownBlock, Option.some.injEq] at hg; omega)
          · exact HP9.out.rebase (fun k h1 h2 => Below.heap_setCell w9 ⟨w.heap.size + 1, q, none⟩ _ k (by dsimp only; omega))
          · rcases Nat.lt_or_eq_of_le (Nat.le_of_lt_succ h2) with h | h
            · exact HHO.out k h1 h
            · rw [h]; exact HFA.out
          · rw [hcs, hcm]; simp [intOf]; omega
        | some out =>
          have HNEED := Lib.hid (needOf_is (s := s) (r := r) (bl := bl) (b := (q : Int)) (by rw [HNS.out]; exact HNE.out) m1 (by omega) (by rw [hfa]; rfl) HHO.out)
          have HOUT : Hid (outOf s r bl q = out) := by show outOf s r bl q = out; unfold outOf; rw [HNEED.out, hfa]; rfl
          have HLEN : Hid (out.length = ns.length) := by
            show out.length = ns.length
            have := fillS_len (show fillS (partF s r bl q) m (ofBell bl bl.length q).length [] = some out from hfa)
            rw [HNS.out] at this
            simpa using this
          rw [hfa, Option.getD_some] at HF
          have HF' := Lib.hid HF
          clear HF hfa
          go_wp2_with (go_at_call 93; refine HF'.out.mono ?_; rintro e w9 ⟨rfl, hp9⟩; have HP9 := Lib.hid hp9; clear hp9)
          obtain ⟨hx9, ah, ch, hB9, ho9, hg9⟩ := HP9.out
          have HB9 : Hid (But w1 (fun k => k = w.heap.size + 1 ∨ k = w.heap.size + 1 + 1) w9) := HHB.out.low (Nat.le_refl _) HHB.out.size hx9
          have HN9 := Lib.hid ((low_at hx9 HHB.out.size hNl1).trans HHN.out)
          have HU9 := Lib.hid (HHU.out.at_block (w' := w9) (fun g hg => low_at hx9 HHB.out.size (by simp only [Value.ownBlock, Option.some.injEq] at hg; omega)))
          have hPl9 := lt_of hB9
          have HBX := Lib.hid hB9
          have HOX := Lib.hid ho9
          have HGX := Lib.hid hg9
          have hlen := HLEN.out
          clear hx9 hB9 ho9 hg9 HP9
          go_loopw [41] (fun i w2 => ∃ (k : Nat) (us3 : List Int), k ≤ ns.length ∧ i = .int .i64 k ∧ But w9 (fun k => k = w.heap.size + 1 + 1) w2 ∧ OwnL 1 encI 3 w2 (.slice (some ⟨w.heap.size + 1 + 1, 0, none⟩) bl.length bl.length) us3 ∧ us3.length = bl.length ∧
              (∀ i : Nat, i < bl.length → bellOf bl i = q → rankOf bl i < k → us3.getD i 0 = useOf s r bl i) ∧ ∀ i : Nat, i < bl.length → ¬ bellOf bl i = q → us3.getD i 0 = us.getD i 0)
            (fun i _ => ns.length - (intOf i).toNat)
          case atStart => exact ⟨0, us, Nat.zero_le _, rfl, But.refl _ _, HU9.out, hul, fun i _ _ h => absurd h (Nat.not_lt_zero _), fun _ _ _ => rfl⟩
          case round =>
            obtain ⟨k, us3, hk, rfl, hb3, hU3, hl3, hA, hC⟩ := hrel
            have HA := Lib.hid hA
            have HC := Lib.hid hC
            have HU3 := Lib.hid hU3
            have HB3 := Lib.hid hb3
            clear hA hC hU3 hb3
            have hB3 := HB3.out.at' HBX.out (by omega)
            have k4 := cells_of hB3 4 rfl
            have hPl3 := lt_of hB3
            by_cases hkl : k < ns.length
            · obtain ⟨i1, g1, g2, g3, g4⟩ := ofBell_at bl q bl.length k (by rw [HNS.out]; exact hkl)
              have e1 : ns[k] = (i1 : Int) := by rw [← g2]; simp only [HNS.out]
              have hko : k < out.length := by rw [hlen]; exact hkl
              have hiu : i1 < us3.length := by omega
              have hbW := HB1.out.trans (HB9.out.trans (HB3.out.mono (fun k hk => .inr hk)))
              have hrk : rankOf bl i1 = k := by unfold rankOf; rw [g3]; exact g4
              have huse : useOf s r bl i1 = out[k] := by unfold useOf; rw [g3, HOUT.out, hrk, getI hko]
              obtain ⟨bn, on, rfl, hbn, cn⟩ := (hRn.but hbW (fun b off e hp => by have := hadl b off e; omega)).cellI k hkl
              rw [e1] at cn
              obtain ⟨bh, oh, rfl, hbh, ch0⟩ := (HOX.out.row.2.but HB3.out (fun b off e hp => by have := HGX.out b (by rw [e]; rfl); omega)).cellI k hko
              obtain ⟨bu, ou, eu, hbu, cu⟩ := HU3.out.row.2.cellI i1 hiu
              cases eu
              rw [Nat.zero_add] at cu
              have fU := HU3.out.free
              have hi1 : (i1 : Int) < (bl.length : Int) := by omega
              have hk1 : (k : Int) < (ns.length : Int) := by omega
              have hk2 : (k : Int) < (out.length : Int) := by omega
              have HUSE := Lib.hid huse
              have HRK := Lib.hid hrk
              have HG3 := Lib.hid g3
              clear huse hrk g3 g2 g4 e1 hbW
              generalize out[k] = y at *
              go_wp2
              refine ⟨⟨k + 1, us3.set i1 y, hkl, by simp, HB3.out.set _ _ _ rfl, HU3.out.set i1 y hiu, by rw [List.length_set]; exact hl3, fun i hi hb hr => ?_, fun i hi hb => ?_⟩, by simp [intOf] <;> omega⟩
              · rw [getD_set us3 i1 i y hiu]
                by_cases hii : i1 = i
                · rw [if_pos hii, ← hii, HUSE.out]
                · rw [if_neg hii]
                  refine HA.out i hi hb ?_
                  rcases Nat.lt_or_eq_of_le (Nat.le_of_lt_succ hr) with h | h
                  · exact h
                  · exact absurd (rank_inj (by rw [HG3.out, hb]) (by rw [HRK.out, h])) hii
              · rw [getD_set us3 i1 i y hiu, if_neg (fun e => hb (by rw [← e]; exact HG3.out))]
                exact HC.out i hi hb
            · have hke : k = ns.length := by omega
              subst hke
              have hN3 := HB3.out.at' HN9.out (by omega)
              have HBW := Lib.hid (HB9.out.trans (HB3.out.mono (fun k hk => .inr hk)))
              have HRG3 := Lib.hid (ranges_of HRG1.out (HBW.out.block B (by omega) (by omega)) (HBW.out.block W5.heap.size (by omega) (by omega)))
              have HN3 := Lib.hid hN3
              clear hN3 hB3 k4
              go_wp2
              refine ⟨⟨_, cnt1, _, us3, HRG3.out, HB1.out.trans HBW.out, HN3.out, HU3.out, hl3, fun b hb => ?_, fun i hi hl => ?_⟩, ?_⟩
              · rw [sameKey_int]
                unfold upd
                by_cases h : b = q
                · subst h; simp [HNEED.out]
                · rw [if_neg h, HND.out b hb, show ((b : Int) == (q : Int)) = false by simp; omega]; simp
              · rw [sameKey_int] at hl
                by_cases h : bellOf bl i = q
                · exact HA.out i hi h (by have := rank_lt hi; rw [h, HNS.out] at this; exact this)
                · rw [show (bellOf bl i == (q : Int)) = false by simpa using h] at hl
                  rw [HC.out i hi h]
                  exact HUS.out i hi (by simpa using hl)
              · rw [HRG3.out.left_eq, HRG.out.left_eq]; exact HLT.out

theorem fewest_any (s r : Int) (av : Option Addr) (c : Nat) (bl : List (Int × Int)) (w : World) (hb : Row 2 encP w av c bl) (hok : blowsOk s bl = true) (h8 : sameOk bl = true) :
    Calls Try.prog 69 #[.agg #[.int .i64 s, .slice av bl.length c, .int .i64 r]] w fun e w' => ∃ v, e = .returned (.tuple #[.agg (arr fun b => needOf s r bl b), v]) ∧ Sl 1 encI w' v (useL s r bl) ∧ Ext w w' :=
  (fewest_own s r av c bl w hb hok h8).mono fun _ _ ⟨v, h1, h2, _, h4⟩ => ⟨v, h1, h2.sl encI_len, h4⟩

end Go.Proofs.Ytdgplebmlggmcaa
/- rack.number, rack.hammers. -/
namespace Go.Proofs.Ytdgplebmlggmcaa
open Go.RowKit

theorem Try.infoH : (Try.prog.info? 91).map (fun i => (i.zero, i.size, i.bytes)) = some (some (.agg #[.int .i64 0, .int .i64 0]), 2, 16) := by kernel_rfl

def sumTo (f : Nat → Int) (b : Nat) : Int := ((List.range b).map f).foldl (· + ·) 0
def hamsL (f : Nat → Int) (rest : Int) (b : Nat) : List (Int × Int) := (List.range b).flatMap fun (i : Nat) => List.replicate (f i).toNat ((i : Int), rest)

theorem hamsL_succ (f : Nat → Int) (rest : Int) (k : Nat) : hamsL f rest (k + 1) = hamsL f rest k ++ List.replicate (f k).toNat ((k : Int), rest) := by
  unfold hamsL; rw [List.range_succ, List.flatMap_append]; simp

theorem hamsL_len (f : Nat → Int) (rest : Int) (hf : ∀ i, i < 16 → 0 ≤ f i ∧ f i ≤ 60) : ∀ k, k ≤ 16 → (hamsL f rest k).length ≤ 60 * k
  | 0, _ => by simp [hamsL]
  | k + 1, h => by
    have := hamsL_len f rest hf k (by omega)
    have := hf k (by omega)
    rw [hamsL_succ, List.length_append, List.length_replicate]; omega

/-- An element of an array of sixteen. -/
theorem run_index16 {t : TypeId} {len : Nat} (ht : Try.prog.underlying t = some (.array len 3)) {A : Array Value} {k : Nat} {x : Int} (hk : k < len) (h : A[k]? = some (.int .i64 x)) (w : World) : (Instr.index t (.agg A) (.int .i64 (k : Int))).run Try.prog w = .ok (.int .i64 x) w := by
  obtain ⟨i, hi, _, hs, _⟩ := info_parts Try.infoI
  have hc : Try.prog.cellsOf 3 = 1 := by unfold Program.cellsOf; rw [hi]; exact hs
  have h1 : (k : Int) < (len : Int) := by omega
  have h2 : (0 : Int) ≤ (k : Int) := by omega
  simp [Instr.index, asIntOf, run_underlying ht, run_sizeOf w hi, hc, h2, Result.andThen, part, isAgg, run_underlying Try.underlying3, h]
  omega

set_option maxRecDepth 100000 in
set_option maxHeartbeats 4000000 in
theorem hammers_any (f : Nat → Int) (rest : Int) (w : World) (hf : ∀ i, i < 16 → 0 ≤ f i ∧ f i ≤ 60) :
    Calls Try.prog 71 #[.agg (arr f), .int .i64 rest] w fun e w' => ∃ v, e = .returned v ∧ OwnL 2 encP 91 w' v (hamsL f rest 16) ∧ (∀ b, v.ownBlock = some b → w.heap.size ≤ b) ∧ Ext w w' := by
  have HF := Lib.hid hf
  clear hf
  unfold arr
  go_enter Try.func71, Try.ntmps71
  go_wp2
  obtain ⟨A, hA⟩ : ∃ A : Array Value, A = arr f := ⟨_, rfl⟩
  have hA2 := hA
  unfold arr at hA2
  rw [← hA2]
  have HG : ∀ i, i < 16 → Hid (A[i]? = some (.int .i64 (f i))) := fun i hi => by show A[i]? = _; rw [hA]; exact arr_get f i hi
  have HX := Lib.hid ((Ext.refl w).alloc (.cells A 135))
  generalize (w.alloc (.cells A 135)) = W1 at *
  clear hA hA2
  go_loopw [4, 8] (fun v i wr => ∃ k : Nat, k ≤ 16 ∧ i = .int .i64 k ∧ OwnL 2 encP 91 wr v (hamsL f rest k) ∧ (∀ b, v.ownBlock = some b → w.heap.size ≤ b) ∧ Ext w wr)
    (fun _ i _ => 16 - (intOf i).toNat)
  case atStart => exact ⟨0, Nat.zero_le _, rfl, OwnL.nil _ _ _ _, fun b hb => (by cases hb), HX.out⟩
  case round =>
    obtain ⟨k, hk, rfl, ho, hlow, hx⟩ := hrel
    by_cases hk16 : k < 16
    · have hg := run_index16 Try.underlying135 hk16 (HG k hk16).out
      have hk1 : (k : Int) < 16 := by omega
      have HO := Lib.hid ho
      have HL := Lib.hid hlow
      have HXR := Lib.hid hx
      clear ho hlow hx
      obtain ⟨hf0, hf1⟩ := HF.out k hk16
      obtain ⟨N, hN⟩ := Int.eq_ofNat_of_zero_le hf0
      have HLN := Lib.hid (hamsL_len f rest HF.out k hk)
      have HSU := Lib.hid (hamsL_succ f rest k)
      rw [hN, Int.toNat_natCast] at HSU
      rw [hN] at hg hf1
      clear hf0 hN
      have hN60 : N ≤ 60 := by omega
      clear hf1
      obtain ⟨i91, hi, hz0, hz1, hz2⟩ := info_parts Try.infoH
      go_wp2
      clear hg
      go_loopw [4, 13] (fun v i w2 => ∃ m : Nat, m ≤ N ∧ i = .int .i64 m ∧ OwnL 2 encP 91 w2 v (hamsL f rest k ++ List.replicate m ((k : Int), rest)) ∧ (∀ b, v.ownBlock = some b → w.heap.size ≤ b) ∧ Ext w w2)
        (fun _ i _ => N - (intOf i).toNat)
      case atStart => exact ⟨0, Nat.zero_le _, rfl, by simpa using HO.out, HL.out, HXR.out⟩
      case round =>
        obtain ⟨m, hm, rfl, ho, hlow, hx⟩ := hrel
        have HO2 := Lib.hid ho
        have HL2 := Lib.hid hlow
        have HX2 := Lib.hid hx
        obtain ⟨a4, n4, c4, rfl⟩ := ho.is3
        clear ho hlow hx
        by_cases hmN : m < N
        · have hm1 : (m : Int) < (N : Int) := by omega
          have hll : (hamsL f rest k ++ List.replicate m ((k : Int), rest)).length ≤ 960 := by
            rw [List.length_append, List.length_replicate]; have := HLN.out; omega
          go_wp2_with (at_builtin; refine wpList_append_one rfl _ _ 23 rfl 2 encP encP_len encP_one (by decide) 91 i91 _ 16 Try.underlying23 hi hz0 hz1 hz2 rfl _ _ rfl (HO2.out.kept ((Ext.refl _).alloc _)) _ _ ((k : Int), rest) rfl ⟨_, _, heap_alloc_new _ _, rfl⟩ (by omega) (by unfold maxLen; omega) (by unfold maxLen; omega) (by omega) ?_; intro v' w7 hown' hgrow')
          exact ⟨⟨m + 1, hmN, by simp, by rw [List.replicate_succ', ← List.append_assoc]; exact hown', hgrow'.low (fun b hb => HL2.out b hb) (by have := HX2.out.size; simp; omega), hgrow'.ext_low (HX2.out.alloc _) (fun b hb => HL2.out b hb)⟩, by simp [intOf] <;> omega⟩
        · have hme : m = N := by omega
          subst hme
          go_wp2
          exact ⟨⟨k + 1, hk16, by simp, by rw [HSU.out]; exact HO2.out, HL2.out, HX2.out⟩, by simp [intOf] <;> omega⟩
    · have hke : k = 16 := by omega
      subst hke
      go_wp2
      go_ret
      exact ⟨_, rfl, ho, hlow, hx⟩

theorem arr_row {w : World} {B : Nat} {f : Nat → Int} {t : TypeId} (h : w.heap[B]? = some (.cells (arr f) t (0, 0))) (b : Nat) (hb : b ≤ 16) : Row 1 encI w (some ⟨B, 0, none⟩) 16 ((List.range b).map f) :=
  ⟨by simp; omega, by unfold maxLen; omega, fun j hj => ⟨B, 0, rfl, lt_of h, fun i hi => by
    have hi0 : i = 0 := by omega
    subst hi0
    have hjb : j < b := by simpa using hj
    rw [cells_of h (0 + j * 1 + 0) (by simpa using arr_get f j (by omega))]
    simp [encI]⟩⟩

theorem sum_take_bound (f : Nat → Int) (hf : ∀ i, i < 16 → 0 ≤ f i ∧ f i ≤ 60) : ∀ b, b ≤ 16 → 0 ≤ ((List.range b).map f).sum ∧ ((List.range b).map f).sum ≤ 60 * b
  | 0, _ => by simp
  | b + 1, h => by
    have h1 := sum_take_bound f hf b (by omega)
    have h2 := hf b (by omega)
    rw [List.range_succ, List.map_append, List.sum_append]
    simp only [List.map_cons, List.map_nil, List.sum_cons, List.sum_nil]
    omega

set_option maxRecDepth 100000 in
set_option maxHeartbeats 4000000 in
theorem number_any (f : Nat → Int) (b : Nat) (h : Int) (w : World) (hf : ∀ i, i < 16 → 0 ≤ f i ∧ f i ≤ 60) (hb : b < 16) (h0 : 0 ≤ h) (h1 : h ≤ 1000) :
    Calls Try.prog 70 #[.agg (arr f), .int .i64 b, .int .i64 h] w fun e w' => e = .returned (.int .i64 (((List.range b).map f).sum + h)) ∧ Ext w w' := by
  have HT := fun W (hW : Ext (w.alloc (.cells (arr f) 135)) W) => Lib.hid (show Calls Try.prog 63 #[.slice (some ⟨w.heap.size, 0, none⟩) b 16] W fun e w' => e = .returned (.int .i64 ((List.range b).map f).sum) ∧ W = w' by
    have h := total_any ((List.range b).map f) (some ⟨w.heap.size, 0, none⟩) 16 W (arr_row (hW.at' (heap_alloc_new w _)) b (by omega)) (fun k => by
      rw [← List.map_take, List.take_range]
      have := sum_take_bound f hf (min k b) (by omega)
      omega)
    rw [show ((List.range b).map f).length = b by simp] at h
    exact h)
  have hsb := sum_take_bound f hf b (by omega)
  have hb1 : (b : Int) ≤ 16 := by omega
  have hb2 : b ≤ 16 := by omega
  clear hf
  generalize ((List.range b).map f).sum = S at *
  unfold arr at HT ⊢
  go_enter Try.func70, Try.ntmps70
  go_wp2_with (go_at_call 63; refine (HT _ (Ext.refl _)).out.mono ?_; rintro e w2 ⟨rfl, rfl⟩)
  go_ret
  exact ⟨rfl, (Ext.refl _).alloc _⟩

end Go.Proofs.Ytdgplebmlggmcaa
/- Fewest of package chime. -/
namespace Go.Proofs.Ytdgplebmlggmcaa
open Go.RowKit

theorem needOf_le (s r : Int) (bl : List (Int × Int)) (b : Int) : needOf s r bl b ≤ 60 := by
  unfold needOf
  split
  · omega
  · split
    · rename_i m hm
      have := List.mem_range.1 (List.mem_of_find?_eq_some hm)
      omega
    · omega

theorem fillS_mem {F : List Int → Int → Bool} {many : Nat} : ∀ {n : Nat} {hs out : List Int}, fillS F many n hs = some out → (∀ x ∈ hs, 0 ≤ x ∧ x < many) → ∀ x ∈ out, 0 ≤ x ∧ x < many
  | 0, hs, out, h, hh => by cases h; exact hh
  | n + 1, hs, out, h, hh => by
    unfold fillS at h
    obtain ⟨x, hx0, hx⟩ := List.exists_of_findSome?_eq_some h
    by_cases hF : F hs (x : Int) = true
    · rw [if_pos hF] at hx
      refine fillS_mem hx fun y hy => ?_
      rcases List.mem_append.1 hy with h | h
      · exact hh y h
      · have := List.mem_range.1 hx0
        simp at h; omega
    · rw [if_neg hF] at hx; cases hx

theorem useOf_bounds (s r : Int) (bl : List (Int × Int)) (i : Nat) : 0 ≤ useOf s r bl i ∧ useOf s r bl i ≤ 60 := by
  unfold useOf
  rw [List.getD_eq_getElem?_getD]
  cases h : (outOf s r bl (bellOf bl i))[rankOf bl i]? with
  | none => simp
  | some x =>
    have hm : x ∈ outOf s r bl (bellOf bl i) := List.mem_of_getElem? h
    unfold outOf at hm
    cases hf : fillAt s r bl (bellOf bl i) (needOf s r bl (bellOf bl i)) with
    | none => rw [hf] at hm; simp at hm
    | some out =>
      rw [hf] at hm
      have := fillS_mem hf (by simp) x hm
      have := needOf_le s r bl (bellOf bl i)
      simp; omega

def numOf (s r : Int) (bl : List (Int × Int)) (i : Nat) : Int := ((List.range (bellOf bl i).toNat).map fun (b : Nat) => (needOf s r bl (b : Int) : Int)).sum + useOf s r bl i
def numsL (s r : Int) (bl : List (Int × Int)) (k : Nat) : List Int := (List.range k).map (numOf s r bl)
def RetF (s r : Int) (bl : List (Int × Int)) (w : World) (e : Ending) (w' : World) : Prop := ∃ v1 v2, e = .returned (.tuple #[v1, v2, .int .i64 (tuneErr s bl r)]) ∧
  Sl 2 encP w' v1 (if tuneErr s bl r = 0 then hamsL (fun b => (needOf s r bl b : Int)) r 16 else []) ∧ Sl 1 encI w' v2 (if tuneErr s bl r = 0 then numsL s r bl bl.length else []) ∧ (∀ b, v1.ownBlock = some b → w.heap.size ≤ b) ∧ (∀ b, v2.ownBlock = some b → w.heap.size ≤ b) ∧ Ext w w'

theorem numsL_succ (s r : Int) (bl : List (Int × Int)) (k : Nat) : numsL s r bl (k + 1) = numsL s r bl k ++ [numOf s r bl k] := by
  unfold numsL; rw [List.range_succ, List.map_append]; rfl

theorem exec_load {P : Program} {a : Operand → Value} {o : Oper} {t : TypeId} {x : Operand} {ad : Addr} {v : Value} {w : World} (ho : o.op = Op.load t x) (hx : a x = .pointer (some ad)) (h : (loadVar t ad).run P w = .ok v w) : (execOp a o).run P w = .ok (.value v) w := by
  simp only [execOp, ho, hx, Instr.loadAt, Instr.sureAddr, Sem.run_bind, Sem.run_pure, Result.andThen_ok, h]

set_option maxRecDepth 100000 in
set_option maxHeartbeats 4000000 in
theorem Fewest_any (s r : Int) (av : Option Addr) (c : Nat) (bl : List (Int × Int)) (w : World) (hb : Row 2 encP w av c bl) :
    Calls Try.prog 32 #[.agg #[.int .i64 s, .slice av bl.length c], .int .i64 r] w (RetF s r bl w) := by
  obtain ⟨i0, hi, hz0, hz1, hz2⟩ := info_parts Try.infoI
  have hlen := hb.len
  have HR := Lib.hid hb
  have HC := fun W (hW : Ext w W) => Lib.hid (tuneCheck_any s r av c bl W (hb.ext hW))
  clear hb
  by_cases he : tuneErr s bl r = 0
  case neg =>
    have HE := Lib.hid he
    have hne : (tuneErr s bl r != 0) = true := by simpa using he
    have hne2 : (tuneErr s bl r == 0) = false := by simpa using he
    clear he
    unfold RetF
    rw [if_neg HE.out, if_neg HE.out]
    generalize tuneErr s bl r = E at *
    go_enter Try.func32, Try.ntmps32
    go_wp2_with (go_at_call 68; refine (HC _ (by (repeat (first | with_reducible exact Ext.refl _ | with_reducible assumption | with_reducible refine Ext.alloc ?_ _ | with_reducible refine Ext.drew ?_ | with_reducible refine Ext.drewN ?_ _ | (with_reducible refine Ext.setCell ?_ ?hsc _; case hsc => (simp <;> omega)) | with_reducible refine Ext.trans ?_ (by assumption))))).out.mono ?_; rintro e w2 ⟨rfl, hb2⟩)
    go_ret3
    exact ⟨_, _, rfl, OwnL.sl (OwnL.nil 2 encP 0 _) encP_len, OwnL.sl (OwnL.nil 1 encI 0 _) encI_len, fun b hb => (by cases hb), fun b hb => (by cases hb), by (repeat (first | with_reducible exact Ext.refl _ | with_reducible assumption | with_reducible refine Ext.alloc ?_ _ | with_reducible refine Ext.drew ?_ | with_reducible refine Ext.drewN ?_ _ | (with_reducible refine Ext.setCell ?_ ?hsc _; case hsc => (simp <;> omega)) | with_reducible refine Ext.trans ?_ (by assumption)))⟩
  have hok : blowsOk s bl = true ∧ sameOk bl = true := by
    unfold tuneErr at he
    cases h1 : blowsOk s bl
    · rw [h1] at he; simp at he
    · cases h2 : sameOk bl
      · rw [h1, h2] at he; simp at he
      · exact ⟨rfl, rfl⟩
  have HF := fun W (hW : Ext w W) => Lib.hid (fewest_any s r av c bl W (HR.out.ext hW) hok.1 hok.2)
  obtain ⟨s1, s2, hl60, hbd, _⟩ := blowsOk_bounds hok.1
  have HBD := Lib.hid hbd
  have HE := Lib.hid he
  clear he hok hbd
  unfold RetF
  rw [if_pos HE.out, if_pos HE.out]
  simp only [HE.out] at HC ⊢
  go_enter Try.func32, Try.ntmps32
  go_wp2_with (go_at_call 68; refine (HC _ (by (repeat (first | with_reducible exact Ext.refl _ | with_reducible assumption | with_reducible refine Ext.alloc ?_ _ | with_reducible refine Ext.drew ?_ | with_reducible refine Ext.drewN ?_ _ | (with_reducible refine Ext.setCell ?_ ?hsc _; case hsc => (simp <;> omega)) | with_reducible refine Ext.trans ?_ (by assumption))))).out.mono ?_; rintro e w2 ⟨rfl, hb2⟩; have hA := hb2.at' ((heap_alloc_old (w.alloc (.cells #[.int .i64 s, .slice av bl.length c] 56)) (.cells #[.int .i64 s, .slice av bl.length c, .int .i64 r] 132) (by simp)).trans (heap_alloc_new w _)); have hT := hb2.at' (heap_alloc_new (w.alloc (.cells #[.int .i64 s, .slice av bl.length c] 56)) (.cells #[.int .i64 s, .slice av bl.length c, .int .i64 r] 132)); rw [World.size_alloc] at hT; have q0 := cells_of hT 0 rfl; have q1 := cells_of hT 1 rfl; have q2 := cells_of hT 2 rfl; have hTl := lt_of hT; have hAl := lt_of hA)
  have hx2 : Ext w w2 := by (repeat (first | with_reducible exact Ext.refl _ | with_reducible assumption | with_reducible refine Ext.alloc ?_ _ | with_reducible refine Ext.drew ?_ | with_reducible refine Ext.drewN ?_ _ | (with_reducible refine Ext.setCell ?_ ?hsc _; case hsc => (simp <;> omega)) | with_reducible refine Ext.trans ?_ (by assumption)))
  refine (HF w2 hx2).out.mono ?_
  rintro e w4 ⟨v, rfl, ⟨au, cu, rfl, hru⟩, hb4⟩
  rw [show (useL s r bl).length = bl.length by simp [useL]]
  have hA4 := hb4.at' hA
  have hx4 : Ext w w4 := hx2.trans hb4
  have HA4 := Lib.hid hA4
  have HX4 := Lib.hid hx4
  have HRU := Lib.hid hru
  have q1 := cells_of hA4 1 rfl
  have hl4 := lt_of hA4
  have HN : ∀ i : Nat, i < 16 → 0 ≤ ((needOf s r bl (i : Int) : Nat) : Int) ∧ ((needOf s r bl (i : Int) : Nat) : Int) ≤ 60 := fun i _ => by have := needOf_le s r bl (i : Int); omega
  obtain ⟨f, hf⟩ : ∃ f : Nat → Int, f = fun b : Nat => (needOf s r bl (b : Int) : Int) := ⟨_, rfl⟩
  have HFF := Lib.hid hf
  rw [← hf]
  replace HN : ∀ i, i < 16 → 0 ≤ f i ∧ f i ≤ 60 := fun i hi => by rw [hf]; exact HN i hi
  have HN := Lib.hid HN
  clear hb2 hb4 hA hT hTl hAl hA4 hru hx2 hx4 hf HC HF
  unfold arr
  go_wp2
  obtain ⟨A, hA⟩ : ∃ A : Array Value, A = arr f := ⟨_, rfl⟩
  have hA2 := hA
  unfold arr at hA2
  rw [← hA2]
  have HAA := Lib.hid hA
  have hN5 := heap_alloc_new w4 (.cells A 61)
  have hx5 : Ext w4 (w4.alloc (.cells A 61)) := (Ext.refl _).alloc _
  have hz5 : (w4.alloc (.cells A 61)).heap.size = w4.heap.size + 1 := by simp
  generalize (w4.alloc (.cells A 61)) = W5 at *
  have HN5 := Lib.hid hN5
  have HX5 := Lib.hid hx5
  clear hA hA2 hN5 hx5 q0 q1 q2
  go_loopw [5, 29] (fun v i wr => ∃ k : Nat, k ≤ bl.length ∧ i = .int .i64 k ∧ OwnL 1 encI 3 wr v (numsL s r bl k) ∧ (∀ b, v.ownBlock = some b → W5.heap.size ≤ b) ∧ Ext W5 wr)
    (fun _ i _ => bl.length - (intOf i).toNat)
  case atStart => exact ⟨0, Nat.zero_le _, rfl, OwnL.nil _ _ _ _, fun b hb => (by cases hb), Ext.refl _⟩
  case round =>
    obtain ⟨k, hk, rfl, ho, hlow, hx⟩ := hrel
    have HO := Lib.hid ho
    have HL := Lib.hid hlow
    have HX := Lib.hid hx
    obtain ⟨a4, n4, c4, rfl⟩ := ho.is3
    clear ho hlow hx
    by_cases hkl : k < bl.length
    · have hin := HBD.out _ (List.getElem_mem hkl)
      have HBO : Hid (bellOf bl k = bl[k].2) := by show bellOf bl k = bl[k].2; unfold bellOf; rw [getP hkl]
      obtain ⟨b, off, rfl, hbl, k0, k1⟩ := (HR.out.ext (HX4.out.trans (HX5.out.trans HX.out))).cellP k hkl
      have hkl2 : k < (useL s r bl).length := by simpa [useL] using hkl
      have huv : (useL s r bl)[k] = useOf s r bl k := by simp [useL]
      obtain ⟨bu, ou, rfl, hbu, cu0⟩ := HRU.out.cellI k hkl2
      rw [huv] at cu0
      have hub := useOf_bounds s r bl k
      have HNS := Lib.hid (numsL_succ s r bl k)
      have HLN : Hid ((numsL s r bl k).length = k) := by show _ = _; simp [numsL]
      have HNO : Hid (numOf s r bl k = ((List.range (bellOf bl k).toNat).map f).sum + useOf s r bl k) := by show _ = _; rw [HFF.out]; rfl
      generalize bl[k] = x at *
      obtain ⟨hi1, hi2, hi3, hi4⟩ := hin
      obtain ⟨q, hq⟩ := Int.eq_ofNat_of_zero_le hi3
      have hq16 : q < 16 := by omega
      rw [HBO.out, hq, Int.toNat_natCast] at HNO
      generalize useOf s r bl k = y at *
      have hk1 : (k : Int) < (bl.length : Int) := by omega
      rw [hq] at k1
      go_wp2
      have hx6 : Ext wr (wr.alloc (.cells #[.int .i64 x.1, .int .i64 q] 66)) := (Ext.refl wr).alloc _
      have hb6 := heap_alloc_new wr (.cells #[.int .i64 x.1, .int .i64 q] 66)
      have hz6 : (wr.alloc (.cells #[.int .i64 x.1, .int .i64 q] 66)).heap.size = wr.heap.size + 1 := by simp
      generalize (wr.alloc (.cells #[.int .i64 x.1, .int .i64 q] 66)) = W6 at *
      obtain ⟨B6, hB6⟩ : ∃ B6, B6 = wr.heap.size := ⟨_, rfl⟩
      rw [← hB6] at hb6 hz6 ⊢
      obtain ⟨B4, hB4⟩ : ∃ B4, B4 = w4.heap.size := ⟨_, rfl⟩
      have hN6 := hx6.at' (HX.out.at' HN5.out)
      have hc6 := (hx6.cell (ou + k) (Nat.lt_of_lt_of_le hbu (HX5.out.trans HX.out).size)).trans (((HX5.out.trans HX.out).cell (ou + k) hbu).trans cu0)
      rw [← hB4] at hN6 hz5 hbu ⊢
      have HS6 := Lib.hid hx6
      have HLD : ∀ W : World, W.heap[B4]? = some (.cells A 61 (0, 0)) → (loadVar 61 ⟨B4, 0, none⟩).run Try.prog W = .ok (.agg A) W := fun W hW => run_loadVar_row W B4 61 61 A (0, 0) _ hW Try.underlying61 rfl (by rw [HAA.out]; kernel_rfl)
      have hsr : w4.heap.size + 1 ≤ wr.heap.size := by have := HX.out.size; omega
      have hb4l : B4 < wr.heap.size := by omega
      have hbul : bu < wr.heap.size := by omega
      have HB4 := Lib.hid hB4
      have HB6 := Lib.hid hB6
      have HZ5 := Lib.hid hz5
      have HZ6 := Lib.hid hz6
      have hS6 : (fun w' : World => w'.heap[B6]? = some (.cells #[.int .i64 x.1, .int .i64 q] 66 (0, 0)) ∧ w'.heap[B4]? = some (.cells A 61 (0, 0)) ∧ w'.cell? ⟨bu, ou + k, none⟩ = some (.int .i64 y) ∧ bu < w'.heap.size) W6.drew := ⟨hb6, hN6, hc6, show bu < W6.heap.size by omega⟩
      have HSS := Lib.hid hS6
      clear k0 k1 cu0 hB4 hB6 hz5 hz6 hx6 hb6 hN6 hc6
      refine wp_planned [(0, true), (1, true), (2, true), (3, true), (4, true), (5, true), (6, true), (7, true), (8, false), (9, false), (10, false), (11, false)] 11
        (fun w' => w'.heap[B6]? = some (.cells #[.int .i64 x.1, .int .i64 q] 66 (0, 0)) ∧ w'.heap[B4]? = some (.cells A 61 (0, 0)) ∧ w'.cell? ⟨bu, ou + k, none⟩ = some (.int .i64 y) ∧ bu < w'.heap.size) (by kernel_rfl) rfl (by kernel_rfl) ?_
      (refine planned_read _ rfl (by assumption) (fun K hK => ?_); rw [if_pos (by go_simp)]; apply plan_val; (focus (intro wq hwq; first | (go_simp; done) | (go_simp; rfl))); go_simp; refine hK _ _ ?_; clear hK K)
      (refine planned_read _ rfl (by assumption) (fun K hK => ?_); rw [if_pos (by go_simp)]; apply plan_val; (focus (intro wq hwq; exact exec_load rfl rfl (HLD wq hwq.2.1))); go_simp; refine hK _ _ ?_; clear hK K)
      (repeat (refine planned_read _ rfl (by assumption) (fun K hK => ?_); first | (rw [if_pos (by go_simp)]; apply plan_val; (focus (intro wq hwq; have q0 := cells_of hwq.1 0 rfl; have q1 := cells_of hwq.1 1 rfl; have qc := hwq.2.2.1; have qb := hwq.2.2.2; first | (go_simp; done) | (go_simp; rfl))); go_simp; refine hK _ _ ?_; clear hK K) | (rw [if_neg (by go_simp)]; go_simp; refine hK _ _ ?_; clear hK K)))
      clear hS6
      have HNUM := Lib.hid (show Calls Try.prog 70 #[.agg A, .int .i64 q, .int .i64 y] W6.drew fun e w' => e = .returned (.int .i64 (((List.range q).map f).sum + y)) ∧ Ext W6.drew w' by
        have h := number_any f q y W6.drew HN.out hq16 hub.1 (by omega)
        rw [← HAA.out] at h; exact h)
      have HO6 := Lib.hid (HO.out.kept HS6.out)
      clear HLD
      generalize ((List.range q).map f).sum + y = z at *
      refine planned_op _ rfl (fun K hK => ?_)
      go_wp2_with (go_at_call 70; refine HNUM.out.mono ?_; rintro e w8 ⟨rfl, hb8⟩)
      refine hK _ _ (fun _ => ⟨hb8.at' HSS.out.1, hb8.at' HSS.out.2.1, (hb8.cell _ HSS.out.2.2.2).trans HSS.out.2.2.1, Nat.lt_of_lt_of_le HSS.out.2.2.2 hb8.size⟩) ?_
      clear hK K
      have HB8 := Lib.hid hb8
      clear hb8
      refine planned_op _ rfl (fun K hK => ?_)
      go_wp2
      have hx9 : Ext w8 (w8.alloc (.cells #[.int .i64 z] 3)) := (Ext.refl _).alloc _
      have hb9 := heap_alloc_new w8 (.cells #[.int .i64 z] 3)
      have hx69 := HB8.out.trans hx9
      refine hK _ _ (fun _ => ⟨hx69.at' HSS.out.1, hx69.at' HSS.out.2.1, (hx69.cell _ HSS.out.2.2.2).trans HSS.out.2.2.1, Nat.lt_of_lt_of_le HSS.out.2.2.2 hx69.size⟩) ?_
      clear hK K
      have hz9 : (w8.alloc (.cells #[.int .i64 z] 3)).heap.size = w8.heap.size + 1 := by simp
      generalize (w8.alloc (.cells #[.int .i64 z] 3)) = w9 at *
      refine planned_op _ rfl (fun K hK => ?_)
      refine wpList_append_one rfl _ _ 22 rfl 1 encI encI_len encI_one (by decide) 3 i0 _ 8 Try.underlying22 hi hz0 hz1 hz2 rfl (.slice a4 n4 c4) _ rfl ((HO6.out.kept (Ext.refl W6).drew).kept hx69) w8.heap.size 1 z rfl ⟨_, _, hb9, rfl⟩ (by omega) (by unfold maxLen; omega) (by rw [HLN.out]; unfold maxLen; omega) (by rw [HLN.out]; omega) ?_
      intro v' w10 hown' hgrow'
      show K _ _
      go_simp
      have hown := fun g (hg : (Value.slice a4 n4 c4).ownBlock = some g) => (show W5.heap.size ≤ g ∧ g < wr.heap.size from ⟨HL.out g hg, HO.out.lt g hg⟩)
      have e4 := HB4.out
      have e6 := HB6.out
      have e5 := HZ5.out
      have e7 := HZ6.out
      have hs69 := hx69.size
      rw [show W6.drew.heap.size = W6.heap.size from rfl] at hs69
      refine hK _ _ (fun _ => ⟨(hgrow'.block B6 (by omega) (fun e => by have := hown _ e; omega)).trans (hx69.at' HSS.out.1), (hgrow'.block B4 (by omega) (fun e => by have := hown _ e; omega)).trans (hx69.at' HSS.out.2.1), (hgrow'.cell _ (by omega) (fun e => by have := hown _ e; omega)).trans ((hx69.cell _ HSS.out.2.2.2).trans HSS.out.2.2.1), by have := hgrow'.size; omega⟩) ?_
      have HX10 := Lib.hid (hgrow'.ext_low (HX.out.trans (HS6.out.trans ((Ext.refl W6).drew.trans hx69))) (fun g hg => (hown g hg).1))
      have HL10 := Lib.hid (hgrow'.low (fun g hg => (hown g hg).1) (by omega))
      have HO10 := Lib.hid hown'
      clear hK K hown' hgrow' hown
      refine planned_op _ rfl (fun K hK => ?_)
      go_wp2
      refine hK _ _ (fun h => absurd rfl h) ?_
      clear hK K
      refine planned_nil ?_
      go_wp2
      exact ⟨⟨k + 1, hkl, by simp, by rw [HNS.out, HNO.out]; exact HO10.out, HL10.out, HX10.out⟩, by simp [intOf] <;> omega⟩
    · have hke : k = bl.length := by omega
      subst hke
      have hA := HAA.out
      subst hA
      have hB4 := HX.out.at' HN5.out
      have HHAM := fun W => Lib.hid (hammers_any f r W HN.out)
      unfold arr at hB4 ⊢
      have q0 := cells_of hB4 0 rfl
      have q1 := cells_of hB4 1 rfl
      have q2 := cells_of hB4 2 rfl
      have q3 := cells_of hB4 3 rfl
      have q4 := cells_of hB4 4 rfl
      have q5 := cells_of hB4 5 rfl
      have q6 := cells_of hB4 6 rfl
      have q7 := cells_of hB4 7 rfl
      have q8 := cells_of hB4 8 rfl
      have q9 := cells_of hB4 9 rfl
      have q10 := cells_of hB4 10 rfl
      have q11 := cells_of hB4 11 rfl
      have q12 := cells_of hB4 12 rfl
      have q13 := cells_of hB4 13 rfl
      have q14 := cells_of hB4 14 rfl
      have q15 := cells_of hB4 15 rfl
      have hBl := lt_of hB4
      clear hB4
      go_wp2_with (go_at_call 71; refine (HHAM _).out.mono ?_; rintro e w9 ⟨v9, rfl, ho9, hl9, hb9⟩; obtain ⟨a9, n9, c9, rfl⟩ := ho9.is3; have HO9 := Lib.hid ho9; have HB9 := Lib.hid hb9; have HL9 := Lib.hid hl9; clear ho9 hl9 hb9)
      go_ret3
      rw [← HFF.out]
      exact ⟨_, _, rfl, HO9.out.sl encP_len, (HO.out.kept HB9.out).sl encI_len, fun b hb => Nat.le_trans (HX4.out.trans (HX5.out.trans HX.out)).size (HL9.out b hb), fun b hb => Nat.le_trans (HX4.out.trans HX5.out).size (HL.out b hb), HX4.out.trans (HX5.out.trans (HX.out.trans HB9.out))⟩
end Go.Proofs.Ytdgplebmlggmcaa
/- A region that draws its order, walked by a plan with forks: where two operations may come up, both are walked. -/
namespace Go.Proofs.Ytdgplebmlggmcaa
open Go.RowKit

inductive Pl where
  | done
  | early (i : Nat) (r : Pl)
  | one (i : Nat) (r : Pl)
  | two (i : Nat) (r : Pl) (j : Nat) (r' : Pl)

def Pl.depth : Pl → Nat
  | .done => 0
  | .early _ r => r.depth + 1
  | .one _ r => r.depth + 1
  | .two _ r _ _ => r.depth + 1

def earlies : List Nat → Pl → Pl
  | [], r => r
  | i :: l, r => .early i (earlies l r)

section
variable {P : Program} {ops : Array Oper} {md : Region.Mode} {S : World → Prop} {Q : Exit → Act → World → Prop} {last : Nat}

def forkB (md : Region.Mode) (ops : Array Oper) (last : Nat) : Pl → Array Bool → Bool
  | .done, listed => (Region.ready md ops listed).isEmpty
  | .early i r, listed => (Region.ready md ops listed).contains i && Region.free md ops listed i && decide (i ≠ last) && Region.waitsFor md ops last i && forkB md ops last r (listed.setIfInBounds i true)
  | .one i r, listed => decide (Region.ready md ops listed = [i]) && forkB md ops last r (listed.setIfInBounds i true)
  | .two i r j r', listed => decide (Region.ready md ops listed = [i, j]) && decide (r.depth = r'.depth) && forkB md ops last r (listed.setIfInBounds i true) && forkB md ops last r' (listed.setIfInBounds j true)

/-- The walk by the plan. -/
def forked (P : Program) (ops : Array Oper) (S : World → Prop) (Q : Exit → Act → World → Prop) (last : Nat) : Pl → Act → World → Prop
  | .done, a, w => Q .normal a w
  | .early i r, a, w => S w ∧ ∃ o v, ops[i]? = some o ∧ YieldsIf P ops S o v a ∧ forked P ops S Q last r (a.put o.dst v) w
  | .one i r, a, w => wpOp P ops Q i (fun a' w' => (i ≠ last → S w') ∧ forked P ops S Q last r a' w') a w
  | .two i r j r', a, w => wpOp P ops Q i (fun a' w' => (i ≠ last → S w') ∧ forked P ops S Q last r a' w') a w ∧ wpOp P ops Q j (fun a' w' => (j ≠ last → S w') ∧ forked P ops S Q last r' a' w') a w

theorem F_of_forked (hs : Region.noSelect ops = true) (hQ : ∀ c a d v w, Q (.panic c) (a.put d v) w → Q (.panic c) a w) : ∀ (l : Pl) (listed : Array Bool) (a : Act) (w : World),
    forkB md ops last l listed = true → forked P ops S Q last l a w → anyF P md ops Q S last l.depth listed a w
  | .done, listed, _, _, hB, h => ⟨by simpa [forkB] using hB, h⟩
  | .early i r, listed, a, w, hB, h => by
    simp only [forkB, Bool.and_eq_true, decide_eq_true_eq] at hB
    obtain ⟨⟨⟨⟨h1, h2⟩, h3⟩, h4⟩, h5⟩ := hB
    obtain ⟨hS, o, v, hi, hy, hK⟩ := h
    exact anyF_first hi (Region.noSelect_spec hs) (fun c a w => hQ c a o.dst v w) h3 h4 r.depth listed a w (Region.free_spec hi h2) (by simpa using h1) hy hS (F_of_forked hs hQ r _ _ _ h5 hK)
  | .one i r, listed, a, w, hB, h => by
    simp only [forkB, Bool.and_eq_true, decide_eq_true_eq] at hB
    refine ⟨fun h0 => (by rw [hB.1] at h0; cases h0), fun j hj => ?_⟩
    rw [hB.1] at hj
    obtain rfl : j = i := by simpa using hj
    exact wpOp_mono (fun a' w' h' => ⟨h'.1, F_of_forked hs hQ r _ _ _ hB.2 h'.2⟩) h
  | .two i r j r', listed, a, w, hB, h => by
    simp only [forkB, Bool.and_eq_true, decide_eq_true_eq] at hB
    obtain ⟨⟨⟨h1, h2⟩, h3⟩, h4⟩ := hB
    refine ⟨fun h0 => (by rw [h1] at h0; cases h0), fun k hk => ?_⟩
    rw [h1] at hk
    have hk' : k = i ∨ k = j := by simpa using hk
    rcases hk' with rfl | rfl
    · exact wpOp_mono (fun a' w' h' => ⟨h'.1, F_of_forked hs hQ r _ _ _ h3 h'.2⟩) h.1
    · refine wpOp_mono (fun a' w' h' => ⟨h'.1, ?_⟩) h.2
      have := F_of_forked hs hQ r' _ _ _ h4 h'.2
      rw [← h2] at this
      exact this

theorem forked_nil {a : Act} {w : World} (h : Q .normal a w) : forked P ops S (calm Q) last .done a w := h

theorem wp_forked {id : Nat} {a : Act} {w : World} {l : List Oper} (plan : Pl) (last : Nat) (S : World → Prop) (hm : P.follows .mixedOrders = true) (hlen : plan.depth = l.length)
    (hB : (Region.noSelect l.toArray && forkB .any l.toArray last plan (Array.replicate l.toArray.size false)) = true)
    (h : forked P l.toArray S (calm Q) last plan a w.drew) : (Code.region id l.toArray true).wp P Q a w := by
  rw [Bool.and_eq_true] at hB
  refine Code.wp_mono (Q := calm Q) (fun e a w h => ?_) (wp_region_any hm (any_of_F (S := S) (last := last) _ _ _ _ ?_))
  · cases e <;> first | exact h | exact (h : False).elim
  · have := F_of_forked (md := .any) (Q := calm Q) hB.1 (fun _ _ _ _ _ h => h) plan _ a w.drew hB.2 h
    rw [hlen] at this
    simpa using this

/-- An early operation. -/
theorem forked_read {i : Nat} {r : Pl} {a : Act} {w : World} (o : Oper) (hi : ops[i]? = some o) (hS : S w)
    (h : ∀ K : Act → World → Prop, (∀ a w, forked P ops S Q last r a w → K a w) → if Region.wanted o (yielded ops a.tmps) then ∃ v, (∀ w', S w' → (execOp a.eval o).run P w' = .ok (.value v) w') ∧ K (a.put o.dst v) w else K (a.put o.dst undef) w) :
    forked P ops S Q last (.early i r) a w := by
  have h' := h _ (fun _ _ h => h)
  by_cases hw : Region.wanted o (yielded ops a.tmps) = true
  · rw [if_pos hw] at h'
    obtain ⟨v, hv, hK⟩ := h'
    exact ⟨hS, o, v, hi, .inl ⟨hw, hv⟩, hK⟩
  · rw [if_neg hw] at h'
    exact ⟨hS, o, undef, hi, .inr ⟨by simpa using hw, rfl⟩, h'⟩

theorem oper_forked {i : Nat} {r : Pl} {a : Act} {w : World} (o : Oper) (hi : ops[i]? = some o)
    (h : ∀ K : Act → World → Prop, (∀ a w, (i ≠ last → S w) → forked P ops S Q last r a w → K a w) → wpList P ops (Exit.then K Q) [o] a w) : wpOp P ops Q i (fun a' w' => (i ≠ last → S w') ∧ forked P ops S Q last r a' w') a w := by
  have h' := h (fun a w => (i ≠ last → S w) ∧ forked P ops S Q last r a w) (fun _ _ h1 h2 => ⟨h1, h2⟩)
  unfold wpOp
  simp only [hi]
  unfold wpList at h'
  by_cases hw : Region.wanted o (yielded ops a.tmps) = true
  · rw [if_pos hw] at h' ⊢
    exact h'.imp (fun h1 => oper_then h1) (fun ⟨h1, h2⟩ => ⟨h1, h2⟩)
  · rw [if_neg hw] at h' ⊢
    exact h'

/-- An operation that comes up alone: it is walked as everywhere. -/
theorem forked_op {i : Nat} {r : Pl} {a : Act} {w : World} (o : Oper) (hi : ops[i]? = some o)
    (h : ∀ K : Act → World → Prop, (∀ a w, (i ≠ last → S w) → forked P ops S Q last r a w → K a w) → wpList P ops (Exit.then K Q) [o] a w) : forked P ops S Q last (.one i r) a w :=
  oper_forked o hi h

/-- Two operations that may come up. -/
theorem forked_two {i j : Nat} {r r' : Pl} {a : Act} {w : World} (o o' : Oper) (hi : ops[i]? = some o) (hj : ops[j]? = some o')
    (h : ∀ K : Act → World → Prop, (∀ a w, (i ≠ last → S w) → forked P ops S Q last r a w → K a w) → wpList P ops (Exit.then K Q) [o] a w)
    (h' : ∀ K : Act → World → Prop, (∀ a w, (j ≠ last → S w) → forked P ops S Q last r' a w → K a w) → wpList P ops (Exit.then K Q) [o'] a w) : forked P ops S Q last (.two i r j r') a w :=
  ⟨oper_forked o hi h, oper_forked o' hj h'⟩

end
end Go.Proofs.Ytdgplebmlggmcaa
/- A shadow of the machine: values without addresses; boxes and slices of the call's own by number; what they stand for in a world. -/
namespace Go.Proofs.Ytdgplebmlggmcaa
open Go.RowKit

/-- A value without addresses: a slice is what it reads as, row by row. -/
inductive CV where
  | val (v : Value)
  | agg (xs : List CV)
  | tup (xs : List CV)
  | sl (k : Nat) (rows : List (List CV))

/-- Whether a value is that of one cell. -/
def CV.one : CV → Bool
  | .agg _ | .tup _ | .val (.agg _) | .val (.tuple _) => false
  | _ => true

/-- A value of the shadow: a closed one; a slice of the call's own, a pointer into its boxes, a pointer into a closed slice, a closure; or nothing that is known. -/
inductive SV where
  | c (x : CV)
  | agg (xs : List SV)
  | tup (xs : List SV)
  | own (id len : Nat)
  | ptr (id j : Nat)
  | pow (id len i j : Nat)
  | pel (k : Nat) (rows : List (List CV)) (i j : Nat)
  | fn (f : FuncId) (first captured : List SV)
  | dead

/-- A block of the call's own: a variable's cells, or what slices lie in. -/
inductive Blk where
  | box (t : TypeId) (cells : List SV)
  | arr (t : TypeId) (k : Nat) (rows : List (List CV))

def Blk.len : Blk → Nat
  | .box .. => 0
  | .arr _ _ rows => rows.length

/-- What a closed value stands for in a world; the blocks N may turn. -/
inductive RepC (w : World) (N : Nat → Prop) : CV → Value → Prop
  | val (v : Value) : RepC w N (.val v) v
  | agg (xs : List CV) (vs : Array Value) : vs.size = xs.length → (∀ (i : Nat) x v, xs[i]? = some x → vs[i]? = some v → RepC w N x v) → RepC w N (.agg xs) (.agg vs)
  | tup (xs : List CV) (vs : Array Value) : vs.size = xs.length → (∀ (i : Nat) x v, xs[i]? = some x → vs[i]? = some v → RepC w N x v) → RepC w N (.tup xs) (.tuple vs)
  | nil (k : Nat) (a : Option Addr) (c : Nat) : c ≤ maxLen → RepC w N (.sl k []) (.slice a 0 c)
  | sl (k : Nat) (rows : List (List CV)) (b off c : Nat) (u : Nat → Nat → Value) : rows.length ≤ c → c ≤ maxLen → b < w.heap.size → ¬ N b → (∀ (j : Nat) row, rows[j]? = some row → row.length = k ∧ row.all CV.one = true) →
      (∀ (j : Nat) row (i : Nat) x, rows[j]? = some row → row[i]? = some x → w.cell? ⟨b, off + j * k + i, none⟩ = some (u j i)) →
      (∀ (j : Nat) row (i : Nat) x, rows[j]? = some row → row[i]? = some x → RepC w N x (u j i)) → RepC w N (.sl k rows) (.slice (some ⟨b, off, none⟩) rows.length c)

theorem RepC.sl_inv {w : World} {N : Nat → Prop} {k : Nat} {rows : List (List CV)} {v : Value} (h : RepC w N (.sl k rows) v) : ∃ ad c, v = .slice ad rows.length c ∧ rows.length ≤ c ∧ c ≤ maxLen ∧
    (rows = [] ∨ ∃ b off, ∃ u : Nat → Nat → Value, ad = some ⟨b, off, none⟩ ∧ b < w.heap.size ∧ ¬ N b ∧ (∀ (j : Nat) row, rows[j]? = some row → row.length = k ∧ row.all CV.one = true) ∧
      (∀ (j : Nat) row (i : Nat) x, rows[j]? = some row → row[i]? = some x → w.cell? ⟨b, off + j * k + i, none⟩ = some (u j i)) ∧
      (∀ (j : Nat) row (i : Nat) x, rows[j]? = some row → row[i]? = some x → RepC w N x (u j i))) := by
  cases h with
  | nil k ad c hc => exact ⟨ad, c, rfl, Nat.zero_le _, hc, .inl rfl⟩
  | sl k rows b off c u h1 h2 h3 h4 h5 h6 h7 => exact ⟨_, c, rfl, h1, h2, .inr ⟨b, off, u, rfl, h3, h4, h5, h6, h7⟩⟩

/-- From w to w' nothing has turned that lay in w but the blocks N; N' are new ones, or of N. -/
structure Calm (w : World) (N : Nat → Prop) (w' : World) (N' : Nat → Prop) : Prop where
  size : w.heap.size ≤ w'.heap.size
  same : ∀ b, b < w.heap.size → ¬ N b → w'.heap[b]? = w.heap[b]? ∧ ¬ N' b

theorem Calm.refl (w : World) (N : Nat → Prop) : Calm w N w N := ⟨Nat.le_refl _, fun _ _ h => ⟨rfl, h⟩⟩

theorem RepC.move {w w' : World} {N N' : Nat → Prop} (h : Calm w N w' N') {x : CV} {v : Value} (r : RepC w N x v) : RepC w' N' x v := by
  induction r with
  | val v => exact .val v
  | agg xs vs hs _ ih => exact .agg xs vs hs ih
  | tup xs vs hs _ ih => exact .tup xs vs hs ih
  | nil k a c hc => exact .nil k a c hc
  | sl k rows b off c u h1 h2 h3 h4 h5 h6 _ ih =>
    obtain ⟨e1, e2⟩ := h.same b h3 h4
    exact .sl k rows b off c u h1 h2 (Nat.lt_of_lt_of_le h3 h.size) e2 h5 (fun j row i x hr hx => (World.cell?_of_block (w := w) (w' := w') (a := ⟨b, off + j * k + i, none⟩) e1).trans (h6 j row i x hr hx)) ih

/-- The blocks of the call's own; with those that closed values keep away from. -/
def Own (ρ : Nat → Option Nat) (H : Nat → Option Blk) (b : Nat) : Prop := ∃ id, H id ≠ none ∧ ρ id = some b
def Mut (NA : Nat → Prop) (ρ : Nat → Option Nat) (H : Nat → Option Blk) (b : Nat) : Prop := NA b ∨ Own ρ H b

/-- A slice of the call's own: nil, or at the head of its block. -/
def OwnV (w : World) (r : Option Nat) (k len : Nat) (v : Value) : Prop :=
  (r = none ∧ len = 0 ∧ v = .slice none 0 0) ∨ ∃ b cap cs t, r = some b ∧ v = .slice (some ⟨b, 0, none⟩) len cap ∧ w.heap[b]? = some (.cells cs t (0, 0)) ∧ cs.size = cap * k ∧ len ≤ cap ∧ cap ≤ maxLen

inductive RepS (w : World) (NA : Nat → Prop) (ρ : Nat → Option Nat) (H : Nat → Option Blk) : SV → Value → Prop
  | c (x : CV) (v : Value) : RepC w (Mut NA ρ H) x v → RepS w NA ρ H (.c x) v
  | agg (xs : List SV) (vs : Array Value) : vs.size = xs.length → (∀ (i : Nat) x v, xs[i]? = some x → vs[i]? = some v → RepS w NA ρ H x v) → RepS w NA ρ H (.agg xs) (.agg vs)
  | tup (xs : List SV) (vs : Array Value) : vs.size = xs.length → (∀ (i : Nat) x v, xs[i]? = some x → vs[i]? = some v → RepS w NA ρ H x v) → RepS w NA ρ H (.tup xs) (.tuple vs)
  | own (id len : Nat) (t : TypeId) (k : Nat) (rows : List (List CV)) (v : Value) : H id = some (.arr t k rows) → len ≤ rows.length → v.oneCell' = true → (len = rows.length → OwnV w (ρ id) k len v) → RepS w NA ρ H (.own id len) v
  | ptrB (id j : Nat) (t : TypeId) (cells : List SV) (b : Nat) : H id = some (.box t cells) → ρ id = some b → RepS w NA ρ H (.ptr id j) (.pointer (some ⟨b, j, none⟩))
  | ptrA (id len i j : Nat) (t : TypeId) (k : Nat) (rows : List (List CV)) (v : Value) : H id = some (.arr t k rows) → len ≤ rows.length → v.oneCell' = true →
      (len = rows.length → ∃ b, ρ id = some b ∧ v = .pointer (some ⟨b, i * k + j, none⟩)) → RepS w NA ρ H (.pow id len i j) v
  | pel (k : Nat) (rows : List (List CV)) (i j b off c : Nat) : RepC w (Mut NA ρ H) (.sl k rows) (.slice (some ⟨b, off, none⟩) rows.length c) → i < rows.length → RepS w NA ρ H (.pel k rows i j) (.pointer (some ⟨b, off + i * k + j, none⟩))
  | fn (f : FuncId) (fs cs : List SV) (vf vc : Array Value) : vf.size = fs.length → vc.size = cs.length → (∀ (i : Nat) x v, fs[i]? = some x → vf[i]? = some v → RepS w NA ρ H x v) →
      (∀ (i : Nat) x v, cs[i]? = some x → vc[i]? = some v → RepS w NA ρ H x v) → RepS w NA ρ H (.fn f fs cs) (.func (.func f) vf vc)
  | dead (v : Value) : RepS w NA ρ H .dead v

/-- What becomes of a block's shape. -/
def KeepI (w : World) (ρ : Nat → Option Nat) (H : Nat → Option Blk) (w' : World) (ρ' : Nat → Option Nat) (H' : Nat → Option Blk) (id : Nat) : Prop :=
  (∀ t cells, H id = some (.box t cells) → ∃ cells', H' id = some (.box t cells') ∧ ρ' id = ρ id) ∧
  ∀ t k rows, H id = some (.arr t k rows) → ∃ rows', H' id = some (.arr t k rows') ∧ rows.length ≤ rows'.length ∧
    (rows.length = rows'.length → ρ' id = ρ id ∧ ∀ b cs t', ρ id = some b → w.heap[b]? = some (.cells cs t' (0, 0)) → ∃ cs', w'.heap[b]? = some (.cells cs' t' (0, 0)) ∧ cs'.size = cs.size)

theorem RepS.move {w w' : World} {NA : Nat → Prop} {ρ ρ' : Nat → Option Nat} {H H' : Nat → Option Blk} (h : Calm w (Mut NA ρ H) w' (Mut NA ρ' H')) (hk : ∀ id, KeepI w ρ H w' ρ' H' id) {x : SV} {v : Value} (r : RepS w NA ρ H x v) : RepS w' NA ρ' H' x v := by
  induction r with
  | c x v r => exact .c x v (r.move h)
  | agg xs vs hs _ ih => exact .agg xs vs hs ih
  | tup xs vs hs _ ih => exact .tup xs vs hs ih
  | own id len t k rows v hH hl ho hv =>
    obtain ⟨rows', hH', hle, hsame⟩ := (hk id).2 t k rows hH
    refine .own id len t k rows' v hH' (Nat.le_trans hl hle) ho (fun e => ?_)
    have e1 : rows.length = rows'.length := by omega
    obtain ⟨hρ, hb⟩ := hsame e1
    rw [hρ]
    rcases hv (by omega) with h1 | ⟨b, cap, cs, t', h1, h2, h3, h4, h5, h6⟩
    · exact .inl h1
    · obtain ⟨cs', h7, h8⟩ := hb b cs t' h1 h3
      exact .inr ⟨b, cap, cs', t', h1, h2, h7, h8.trans h4, h5, h6⟩
  | ptrB id j t cells b hH hb =>
    obtain ⟨cells', hH', hρ⟩ := (hk id).1 t cells hH
    exact .ptrB id j t cells' b hH' (hρ.trans hb)
  | ptrA id len i j t k rows v hH hl ho hv =>
    obtain ⟨rows', hH', hle, hsame⟩ := (hk id).2 t k rows hH
    refine .ptrA id len i j t k rows' v hH' (Nat.le_trans hl hle) ho (fun e => ?_)
    obtain ⟨hρ, _⟩ := hsame (by omega)
    rw [hρ]
    exact hv (by omega)
  | pel k rows i j b off c hc hi => exact .pel k rows i j b off c (hc.move h) hi
  | fn f fs cs vf vc h1 h2 _ _ ih1 ih2 => exact .fn f fs cs vf vc h1 h2 ih1 ih2
  | dead v => exact .dead v

/-- What a block stands for. -/
def RepB (w : World) (NA : Nat → Prop) (ρ : Nat → Option Nat) (H : Nat → Option Blk) (id : Nat) : Blk → Prop
  | .box t cells => ∃ b cs, ρ id = some b ∧ w.heap[b]? = some (.cells cs t (0, 0)) ∧ cs.size = cells.length ∧ ∀ (i : Nat) x v, cells[i]? = some x → cs[i]? = some v → RepS w NA ρ H x v
  | .arr t k rows => (ρ id = none ∧ rows = []) ∨ ∃ b cs cap, ρ id = some b ∧ w.heap[b]? = some (.cells cs t (0, 0)) ∧ cs.size = cap * k ∧ rows.length ≤ cap ∧ cap ≤ maxLen ∧ (∀ (j : Nat) row, rows[j]? = some row → row.length = k ∧ row.all CV.one = true) ∧
      ∀ (j : Nat) row (i : Nat) x, rows[j]? = some row → row[i]? = some x → ∃ v, cs[j * k + i]? = some v ∧ RepC w (Mut NA ρ H) x v

/-- From w0 to w nothing has turned but the blocks N0. -/
structure Fr (w0 : World) (N0 : Nat → Prop) (w : World) : Prop where
  os : w.os = w0.os
  tape : w.tape = w0.tape
  output : w.output = w0.output
  size : w0.heap.size ≤ w.heap.size
  block : ∀ b, b < w0.heap.size → ¬ N0 b → w.heap[b]? = w0.heap[b]?

/-- The heap's part of a shadow. -/
structure RepH (w0 : World) (N0 NA : Nat → Prop) (ρ : Nat → Option Nat) (H : Nat → Option Blk) (w : World) : Prop where
  inj : ∀ i j b, H i ≠ none → H j ≠ none → ρ i = some b → ρ j = some b → i = j
  blk : ∀ id B, H id = some B → RepB w NA ρ H id B
  fr : Fr w0 N0 w
  low : ∀ b, Own ρ H b → b < w0.heap.size → N0 b

theorem RepH.lt {w0 w : World} {N0 NA : Nat → Prop} {ρ : Nat → Option Nat} {H : Nat → Option Blk} (h : RepH w0 N0 NA ρ H w) {b : Nat} (hb : Own ρ H b) : b < w.heap.size := by
  obtain ⟨id, h1, h2⟩ := hb
  cases hH : H id with
  | none => exact absurd hH h1
  | some B =>
    have hr := h.blk id B hH
    cases B with
    | box t cells =>
      obtain ⟨b', cs, e1, e2, _⟩ := hr
      rw [h2] at e1; cases e1
      rcases Nat.lt_or_ge b w.heap.size with h' | h'
      · exact h'
      · rw [Array.getElem?_eq_none h'] at e2; cases e2
    | arr t k rows =>
      rcases hr with ⟨e1, _⟩ | ⟨b', cs, cap, e1, e2, _⟩
      · rw [h2] at e1; cases e1
      · rw [h2] at e1; cases e1
        rcases Nat.lt_or_ge b w.heap.size with h' | h'
        · exact h'
        · rw [Array.getElem?_eq_none h'] at e2; cases e2

/-- A state of the shadow: temporaries and blocks. -/
structure RepSt (w0 : World) (N0 NA : Nat → Prop) (n : Nat) (T : Nat → SV) (H : Nat → Option Blk) (a : Act) (w : World) : Prop where
  size : a.tmps.size = n
  defs : a.defers = []
  na : ∀ b, NA b → b < w0.heap.size ∧ ¬ N0 b
  rep : ∃ ρ, RepH w0 N0 NA ρ H w ∧ ∀ i, RepS w NA ρ H (T i) (a.tmps.getD i undef)

/-- A temporary is written. -/
def putT (T : Nat → SV) (d : Option Nat) (x : SV) : Nat → SV := match d with
  | some d => fun i => if i = d then x else T i
  | none => T

theorem rep_put {w : World} {NA : Nat → Prop} {ρ : Nat → Option Nat} {H : Nat → Option Blk} {T : Nat → SV} {a : Act} {d : Option Nat} {x : SV} {v : Value} (hd : ∀ i, d = some i → i < a.tmps.size)
    (ht : ∀ i, RepS w NA ρ H (T i) (a.tmps.getD i undef)) (hv : RepS w NA ρ H x v) : ∀ i, RepS w NA ρ H (putT T d x i) ((a.put d v).tmps.getD i undef) := by
  intro i
  cases d with
  | none => exact ht i
  | some d =>
    show RepS w NA ρ H (if i = d then x else T i) ((a.tmps.setIfInBounds d v).getD i undef)
    by_cases hi : i = d
    · subst hi
      have := hd i rfl
      simp [this]
      exact hv
    · rw [if_neg hi]
      have : (a.tmps.setIfInBounds d v).getD i undef = a.tmps.getD i undef := by
        simp [Array.getElem?_setIfInBounds_ne (Ne.symm hi)]
      rw [this]
      exact ht i

theorem put_size (a : Act) (d : Option Nat) (v : Value) : (a.put d v).tmps.size = a.tmps.size := by cases d <;> simp [Act.put]
theorem put_defers (a : Act) (d : Option Nat) (v : Value) : (a.put d v).defers = a.defers := by cases d <;> rfl

end Go.Proofs.Ytdgplebmlggmcaa
/- What the operations do to a shadow. -/
namespace Go.Proofs.Ytdgplebmlggmcaa
open Go.RowKit

/-- An operation with its types resolved: sizes and offsets in cells. -/
inductive SOp where
  | mov (x : Operand)
  | pick (c a b : Operand)
  | box (t : TypeId) (x : Operand)
  | alloc (t : TypeId) (zero : List Value)
  | build (zero : List Value) (parts : List (Nat × Nat × Operand))
  | buildSl (e : TypeId) (k : Nat) (zero : List Value) (len : Nat) (parts : List (Nat × Operand))
  | load (ag : Bool) (n : Nat) (a : Operand)
  | store (n : Nat) (a x : Operand)
  | fld (off : Nat) (x : Operand)
  | field (ag : Bool) (off n : Nat) (x : Operand)
  | idxS (k : Nat) (x i : Operand)
  | idxA (len k : Nat) (x i : Operand)
  | index (len k : Nat) (ag : Bool) (x i : Operand)
  | bin (op : BinOp) (x y : Operand)
  | binB (neg : Bool) (x y : Operand)
  | eqC (neg : Bool) (ks : List Bool) (x y : Operand)
  | un (op : UnOp) (x : Operand)
  | len (x : Operand)
  | append (e : TypeId) (k bytes : Nat) (s x : Operand)
  | makeSl (e : TypeId) (k bytes : Nat) (zero : List Value) (l c : Operand)
  | ext (x : Operand) (i : Nat)
  | conv (k : IntKind) (x : Operand)
  | max (xs : List Operand)
  | min (xs : List Operand)
  | call (f : FuncId) (xs : List Operand)

def SOp.opds : SOp → List Operand
  | .mov x | .box _ x | .load _ _ x | .fld _ x | .field _ _ _ x | .un _ x | .len x | .ext x _ | .conv _ x => [x]
  | .pick a b c => [a, b, c]
  | .alloc _ _ => []
  | .build _ ps => ps.map (·.2.2)
  | .buildSl _ _ _ _ ps => ps.map (·.2)
  | .store _ a x | .idxS _ a x | .idxA _ _ a x | .index _ _ _ a x | .bin _ a x | .binB _ a x | .eqC _ _ a x | .append _ _ _ a x | .makeSl _ _ _ _ a x => [a, x]
  | .max xs | .min xs | .call _ xs => xs

def ev (T : Nat → SV) : Operand → SV
  | .tmp t => T t
  | .const v => .c (.val v)
  | .global _ => .dead
  | .func f => .fn f [] []

/-- A value's cells. -/
def CV.cells : CV → Option (List CV)
  | .agg xs => some xs
  | .tup _ => none
  | .val (.agg cs) => some (cs.toList.map .val)
  | .val (.tuple _) => none
  | x => some [x]
def SV.cells : SV → Option (List SV)
  | .c x => x.cells.map (·.map .c)
  | .agg xs => some xs
  | .tup _ | .dead => none
  | x => some [x]
def SV.one : SV → Bool
  | .c x => x.one
  | .agg _ | .tup _ | .dead => false
  | _ => true

/-- The cells of a struct or an array. -/
def aggS : SV → Option (List SV)
  | .agg xs => some xs
  | .c (.agg xs) => some (xs.map .c)
  | .c (.val (.agg cs)) => some (cs.toList.map fun v => .c (.val v))
  | _ => none

/-- A struct's or array's cells, a single one as it is. -/
def mkS (ag : Bool) (xs : List SV) : Option SV :=
  if ag then some (.agg xs) else match xs with
    | [x] => some x
    | _ => none

def setMany {α : Type} : List α → Nat → List α → List α
  | xs, _, [] => xs
  | xs, j, v :: vs => setMany (xs.set j v) (j + 1) vs

def toC : SV → Option CV
  | .c x => some x
  | _ => none

def allC : List SV → Option (List CV)
  | [] => some []
  | x :: xs => match toC x, allC xs with
    | some y, some ys => some (y :: ys)
    | _, _ => none

def binI (op : BinOp) (k : IntKind) (x y : Int) : Option Value := match op with
  | .add => some (.int k (k.wrap (x + y)))
  | .sub => some (.int k (k.wrap (x - y)))
  | .mul => some (.int k (k.wrap (x * y)))
  | .quo => if y = 0 then none else some (.int k (k.wrap (x.tdiv y)))
  | .rem => if y = 0 then none else some (.int k (x.tmod y))
  | .eql => some (.bool (x == y))
  | .neq => some (.bool (x != y))
  | .lss => some (.bool (decide (x < y)))
  | .leq => some (.bool (decide (x ≤ y)))
  | .gtr => some (.bool (decide (x > y)))
  | .geq => some (.bool (decide (x ≥ y)))
  | _ => none

def binS (op : BinOp) : SV → SV → Option SV
  | .c (.val (.int k a)), .c (.val (.int k' b)) => if k = k' then (binI op k a b).map fun v => .c (.val v) else none
  | _, _ => none
def boolS (neg : Bool) : SV → SV → Option SV
  | .c (.val (.bool a)), .c (.val (.bool b)) => some (.c (.val (.bool (if neg then !(a == b) else a == b))))
  | _, _ => none

def unS (op : UnOp) : SV → Option SV
  | .c (.val (.int k a)) => match op with
    | .neg => some (.c (.val (.int k (k.wrap (0 - a)))))
    | _ => none
  | .c (.val (.bool b)) => match op with
    | .not => some (.c (.val (.bool !b)))
    | _ => none
  | _ => none

/-- Whether cells are equal: integers, or truths. -/
def eqS : List Bool → List SV → List SV → Option Bool
  | [], [], [] => some true
  | true :: ks, .c (.val (.int k a)) :: xs, .c (.val (.int k' b)) :: ys => if k = k' then (eqS ks xs ys).map fun r => a == b && r else none
  | false :: ks, .c (.val (.bool a)) :: xs, .c (.val (.bool b)) :: ys => (eqS ks xs ys).map fun r => a == b && r
  | _, _, _ => none

/-- The rows of a slice. -/
def rowsOf (H : Nat → Option Blk) (k : Nat) : SV → Option (List (List CV))
  | .c (.sl k' rows) => if k' = k ∨ rows = [] then some rows else none
  | .c (.val (.slice none 0 0)) => some []
  | .own id len => match H id with
    | some (.arr _ k' rows) => if k' = k ∧ len = rows.length then some rows else none
    | _ => none
  | _ => none

/-- A closed value; what it reads of the call's own is read now. -/
def close1 (H : Nat → Option Blk) : SV → Option CV
  | .c x => some x
  | .own id len => match H id with
    | some (.arr _ k rows) => if len = rows.length then some (.sl k rows) else none
    | _ => none
  | _ => none
def closeL (H : Nat → Option Blk) : List SV → Option (List CV)
  | [] => some []
  | x :: xs => match close1 H x, closeL H xs with
    | some y, some ys => some (y :: ys)
    | _, _ => none
def close (H : Nat → Option Blk) : SV → Option CV
  | .agg xs => (closeL H xs).map .agg
  | x => close1 H x
def closeAll (H : Nat → Option Blk) : List SV → Option (List CV)
  | [] => some []
  | x :: xs => match close H x, closeAll H xs with
    | some y, some ys => some (y :: ys)
    | _, _ => none

/-- A result, taken apart. -/
def openC : CV → SV
  | .tup xs => .tup (xs.map .c)
  | x => .c x

/-- Parts are put into cells. -/
def fillC : List SV → List (Nat × Nat × SV) → Option (List SV)
  | cs, [] => some cs
  | cs, (off, n, x) :: ps => match x.cells with
    | some vs => if vs.length = n ∧ off + n ≤ cs.length then fillC (setMany cs off vs) ps else none
    | none => none

/-- So many rows of k cells. -/
def chunk {α : Type} (k : Nat) : Nat → List α → List (List α)
  | 0, _ => []
  | n + 1, xs => xs.take k :: chunk k n (xs.drop k)

def maxF (k : IntKind) : Int → List SV → Option Int
  | a, [] => some a
  | a, .c (.val (.int k' b)) :: xs => if k' = k then maxF k (if b > a then b else a) xs else none
  | _, _ => none
def minF (k : IntKind) : Int → List SV → Option Int
  | a, [] => some a
  | a, .c (.val (.int k' b)) :: xs => if k' = k then minF k (if b < a then b else a) xs else none
  | _, _ => none

/-- What an operation yields, and which blocks it writes; the block that it makes has the number 'site'. Calls are none of these. -/
def actF (site : Nat) (g : Operand → SV) (H : Nat → Option Blk) : SOp → Option (SV × Option (Nat × Blk))
  | .mov x => some (g x, none)
  | .pick c a b => match g c with
    | .c (.val (.bool t)) => some (if t then g a else g b, none)
    | _ => none
  | .box t x => match (g x).cells, H site with
    | some cs, none => if cs.all SV.one then some (.ptr site 0, some (site, .box t cs)) else none
    | _, _ => none
  | .alloc t zero => match H site with
    | none => some (.ptr site 0, some (site, .box t (zero.map fun v => .c (.val v))))
    | some _ => none
  | .build zero ps => (fillC (zero.map fun v => .c (.val v)) (ps.map fun p => (p.1, p.2.1, g p.2.2))).map fun cs => (.agg cs, none)
  | .buildSl e k zero len ps => match H site with
    | none => match fillC ((List.replicate len (zero.map fun v => .c (.val v))).flatten) (ps.map fun p => (p.1 * k, k, g p.2)) with
      | some cells => match allC cells with
        | some ws => if ws.all CV.one then some (.own site len, some (site, .arr e k (chunk k len ws))) else none
        | none => none
      | none => none
    | some _ => none
  | .load ag n a => match g a with
    | .ptr id j => match H id with
      | some (.box _ cs) => if j + n ≤ cs.length then (mkS ag ((cs.drop j).take n)).map fun x => (x, none) else none
      | _ => none
    | .pow id len i j => match H id with
      | some (.arr _ _ rows) => if len = rows.length then match rows[i]? with
          | some row => if j + n ≤ row.length then (mkS ag (((row.drop j).take n).map .c)).map fun x => (x, none) else none
          | none => none
        else none
      | _ => none
    | .pel _ rows i j => match rows[i]? with
      | some row => if j + n ≤ row.length then (mkS ag (((row.drop j).take n).map .c)).map fun x => (x, none) else none
      | none => none
    | _ => none
  | .store n a x => match g a, (g x).cells with
    | .ptr id j, some vs => if vs.length = n ∧ vs.all SV.one then match H id with
        | some (.box t cs) => if j + n ≤ cs.length then some (.dead, some (id, .box t (setMany cs j vs))) else none
        | _ => none
      else none
    | .pow id len i j, some vs => if vs.length = n ∧ vs.all SV.one then match H id with
        | some (.arr t k rows) => if len = rows.length then match rows[i]?, allC vs with
            | some row, some ws => if j + n ≤ row.length then some (.dead, some (id, .arr t k (rows.set i (setMany row j ws)))) else none
            | _, _ => none
          else none
        | _ => none
      else none
    | _, _ => none
  | .fld off x => match g x with
    | .ptr id j => some (.ptr id (j + off), none)
    | .pow id len i j => match H id with
      | some (.arr _ _ rows) => if len = rows.length then some (.pow id len i (j + off), none) else none
      | _ => none
    | .pel k rows i j => some (.pel k rows i (j + off), none)
    | _ => none
  | .field ag off n x => match (g x) with
    | .agg xs => if off + n ≤ xs.length then (mkS ag ((xs.drop off).take n)).map fun x => (x, none) else none
    | .c (.agg xs) => if off + n ≤ xs.length then (mkS ag (((xs.drop off).take n).map .c)).map fun x => (x, none) else none
    | _ => none
  | .idxS k x i => match g i with
    | .c (.val (.int _ n)) => match g x with
      | .c (.sl k' rows) => if k' = k ∧ 0 ≤ n ∧ n.toNat < rows.length then some (.pel k rows n.toNat 0, none) else none
      | .own id len => match H id with
        | some (.arr _ k' rows) => if k' = k ∧ len = rows.length ∧ 0 ≤ n ∧ n.toNat < rows.length then some (.pow id len n.toNat 0, none) else none
        | _ => none
      | _ => none
    | _ => none
  | .idxA len k x i => match g i with
    | .c (.val (.int _ n)) => if 0 ≤ n ∧ n < len then match g x with
      | .ptr id j => some (.ptr id (j + n.toNat * k), none)
      | .pow id l i0 j => match H id with
        | some (.arr _ _ rows) => if l = rows.length then some (.pow id l i0 (j + n.toNat * k), none) else none
        | _ => none
      | .pel k' rows i0 j => some (.pel k' rows i0 (j + n.toNat * k), none)
      | _ => none else none
    | _ => none
  | .index len k ag x i => match g i with
    | .c (.val (.int _ n)) => if 0 ≤ n ∧ n < len then match g x with
      | .agg xs => if n.toNat * k + k ≤ xs.length then (mkS ag ((xs.drop (n.toNat * k)).take k)).map fun x => (x, none) else none
      | .c (.agg xs) => if n.toNat * k + k ≤ xs.length then (mkS ag (((xs.drop (n.toNat * k)).take k).map .c)).map fun x => (x, none) else none
      | _ => none else none
    | _ => none
  | .bin op x y => (binS op (g x) (g y)).map fun r => (r, none)
  | .binB neg x y => (boolS neg (g x) (g y)).map fun r => (r, none)
  | .eqC neg ks x y => match aggS (g x), aggS (g y) with
    | some xs, some ys => (eqS ks xs ys).map fun r => (.c (.val (.bool (if neg then !r else r))), none)
    | _, _ => none
  | .un op x => (unS op (g x)).map fun r => (r, none)
  | .len x => match g x with
    | .c (.sl _ rows) => some (.c (.val (.int .i64 rows.length)), none)
    | .c (.val (.slice none 0 0)) => some (.c (.val (.int .i64 0)), none)
    | .own id len => match H id with
      | some (.arr _ _ rows) => if len = rows.length then some (.c (.val (.int .i64 len)), none) else none
      | _ => none
    | _ => none
  | .append e k bytes s x => match rowsOf H k (g x) with
    | some src => match g s with
      | .own id len => match H id with
        | some (.arr t k' rows) => if t = e ∧ k' = k ∧ len = rows.length ∧ rows.length + src.length ≤ 9223372036854775807 ∧ (rows.length + src.length) * bytes ≤ 140737488355328 then
            some (.own id (rows.length + src.length), some (id, .arr t k (rows ++ src))) else none
        | _ => none
      | .c (.val (.slice none 0 0)) => match H site with
        | none => if src.length ≤ 9223372036854775807 ∧ src.length * bytes ≤ 140737488355328 then some (.own site src.length, some (site, .arr e k src)) else none
        | some _ => none
      | _ => none
    | none => none
  | .makeSl e k bytes zero l c => match g l, g c, H site with
    | .c (.val (.int _ n)), .c (.val (.int _ m)), none => if n = m ∧ 0 ≤ n ∧ n * bytes ≤ 140737488355328 ∧ n ≤ 9223372036854775807 then some (.own site n.toNat, some (site, .arr e k (List.replicate n.toNat (zero.map CV.val)))) else none
    | _, _, _ => none
  | .ext x i => match g x with
    | .tup xs => (xs[i]?).map fun x => (x, none)
    | _ => none
  | .conv k x => match g x with
    | .c (.val (.int _ n)) => some (.c (.val (.int k (k.wrap n))), none)
    | _ => none
  | .max xs => match xs.map g with
    | .c (.val (.int k a)) :: r => (maxF k a r).map fun m => (.c (.val (.int k m)), none)
    | _ => none
  | .min xs => match xs.map g with
    | .c (.val (.int k a)) :: r => (minF k a r).map fun m => (.c (.val (.int k m)), none)
    | _ => none
  | .call _ _ => none

end Go.Proofs.Ytdgplebmlggmcaa
