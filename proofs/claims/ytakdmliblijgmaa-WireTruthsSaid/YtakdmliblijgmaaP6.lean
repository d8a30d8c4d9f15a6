/- Part 6 of a proof: Kc0, Kc, Kd, CodeWF, Na, Nb, Nc, Nd, Ne, Nf, Lift, OpenS, Gw0, Gw1, Ng, Nh, Gw2. -/
import Derived.Test.YtakdmliblijgmaaP5
import Derived.Test.YtakdmliblijgmaaP3
import Derived.ChangeSame
import Derived.JoinedOf
import Derived.JoinedAt
import Derived.RowKit3
import Derived.ReadAgain
import Derived.RowKit2
import Derived.ChangeSlices
import Derived.OpenShut
import Derived.Test.YtakdmliblijgmaaP4
set_option linter.unusedSimpArgs false
set_option linter.unusedVariables false
/- Wire's laws, III: what the document's examples come to. -/
namespace Go.Proofs.Ytakdmliblijgmaa
open Go.RowKit
def exB (l : List Wnt) : Wbk := ⟨threeW, threeW.map errOf, l, 0, 200⟩
theorem ex_two : newErr threeW (notesW 2) 0 200 = 0 := by decide +kernel
theorem ex_far : newErr threeW (notesW 40) 0 200 = 0 := by decide +kernel
theorem ex_one : newErr threeW [⟨2, 86300, 2⟩] 0 200 = 0 := by decide +kernel
theorem ex_tail : newErr threeW [⟨1, 7000, 7098⟩, ⟨2, 86300, 40⟩] 0 200 = 0 := by decide +kernel
theorem ex_bk {l : List Wnt} (h : newErr threeW l 0 200 = 0) : newBk threeW l 0 200 = exB l := (new_ok h).1
theorem ex_s1 : spansL (exB [⟨2, 86300, 2⟩]) (fun m => decide (m = 0)) = [(99, 103)] := by decide +kernel
theorem ex_s2 : spansL (exB (notesW 2)) (fun m => decide (m = 0)) = [(100, 101)] := by decide +kernel
theorem ex_s3 : spansL (exB (notesW 40)) (fun m => decide (m = 0)) = [] := by decide +kernel
theorem ex_p : pairsTo (exB (notesW 40)) 3 3 = [(0, 2), (1, 2)] := by decide +kernel
theorem ex_f : fewN (exB (notesW 40)) = 1 := by decide +kernel
theorem ex_m : spansL (exB (notesW 40)) (fun m => decide (popN m = 1)) = [(100, 101)] := by decide +kernel
theorem ex_l : (leastS (exB (notesW 40))).map numsL = [[2]] := by
  unfold leastS
  rw [ex_f]
  decide +kernel
theorem ex_ll : leastL (exB (notesW 40)) = [[2]] := by
  unfold leastL sortL
  rw [ex_l]
  simp
def exT : Wbk := exB [⟨1, 7000, 7098⟩, ⟨2, 86300, 40⟩]
theorem ex_ft : fewN exT = 1 := by decide +kernel
theorem ex_lt : ∃ x y, (leastS exT).map numsL = [[x], [y]] := by
  unfold leastS
  rw [ex_ft]
  exact ⟨2, 1, by decide +kernel⟩
theorem ex_ct : convE (leastL exT) = (0, 6) := by
  obtain ⟨x, y, h⟩ := ex_lt
  have hp : (leastL exT).Perm [[x], [y]] := by
    unfold leastL sortL
    rw [h]
    exact List.mergeSort_perm _ _
  have hl := hp.length_eq
  match hq : leastL exT with
  | [] => rw [hq] at hl; simp at hl
  | [_] => rw [hq] at hl; simp at hl
  | _ :: _ :: _ :: _ => rw [hq] at hl; simp at hl
  | [a, b] =>
    have ha : a ∈ [[x], [y]] := hp.mem_iff.1 (by rw [hq]; simp)
    rcases List.mem_cons.1 ha with rfl | ha
    · rfl
    · rw [List.mem_singleton.1 ha]; rfl
theorem ex_str : strN (exB (notesW 40)) 2 = 35 := by
  have hb : BkOK (exB (notesW 40)) := by rw [← ex_bk ex_far]; exact new_bk ex_far
  refine leastN_is (by omega) (fun i hi => ?_) (fun _ => by decide +kernel)
  have h34 : fitB (wideB (exB (notesW 40)) 2 (34 : Nat)) = false := by decide +kernel
  cases hf : fitB (wideB (exB (notesW 40)) 2 (i : Nat)) with
  | false => rfl
  | true =>
    have := fit_mono hb (j := 2) (by decide) (y := (i : Nat)) (y' := (34 : Nat)) (by omega) hf
    rw [h34] at this; cases this
end Go.Proofs.Ytakdmliblijgmaa
/- Wire's laws, IV: known. -/
namespace Go.Proofs.Ytakdmliblijgmaa
open Go.RowKit
theorem three_len : WLen threeW := ⟨fun s hs => by
  unfold threeW at hs
  rcases List.mem_cons.1 hs with rfl | hs
  · simp
  rcases List.mem_cons.1 hs with rfl | hs
  · simp
  rcases List.mem_cons.1 hs with rfl | hs
  · simp
  · cases hs⟩
theorem k_spans : SC Try.prog 37 [slSr threeW, .agg [I 2, I 86300, I 2], .agg [I 0, I 200]] (.tup [slE [(99, 103)], I 0]) := by
  have h := sSpans threeW three_len ⟨2, 86300, 2⟩ 0 200
  rw [ex_one, if_pos rfl, ex_bk ex_one, ex_s1] at h
  exact h
theorem k_fits : SC Try.prog 16 [slSr threeW, slN (notesW 2), .agg [I 0, I 200]] (.tup [slE [(100, 101)], I 0]) := by
  have h := sFits threeW three_len (notesW 2) (by decide) 0 200
  rw [if_pos ex_two, if_pos ex_two, ex_bk ex_two, ex_s2, if_neg (by simp)] at h
  exact h
theorem k_none : SC Try.prog 16 [slSr threeW, slN (notesW 40), .agg [I 0, I 200]] (.tup [slE [], I 7]) := by
  have h := sFits threeW three_len (notesW 40) (by decide) 0 200
  rw [if_pos ex_far, if_pos ex_far, ex_bk ex_far, ex_s3, if_pos rfl] at h
  exact h
theorem k_pairs : SC Try.prog 17 [slSr threeW, slN (notesW 40), .agg [I 0, I 200]] (.tup [slP [(0, 2), (1, 2)], I 0]) := by
  have h := sPairs threeW three_len (notesW 40) (by decide) 0 200
  rw [ex_far, if_pos rfl, ex_bk ex_far, show threeW.length = 3 from rfl, ex_p] at h
  exact h
theorem k_most : SC Try.prog 18 [slSr threeW, slN (notesW 40), .agg [I 0, I 200]] (.tup [I 2, slE [(100, 101)], I 0]) := by
  have h := sMost threeW three_len (notesW 40) (by decide) 0 200
  rw [ex_far, if_pos rfl, if_pos rfl, ex_bk ex_far, ex_f, ex_m] at h
  exact h
theorem k_wrong : SC Try.prog 26 [slSr threeW, slN (notesW 40), .agg [I 0, I 200]] (.tup [slL [[2]], I 0]) := by
  have h := sWrongs threeW three_len (notesW 40) (by decide) 0 200
  rw [ex_far, if_pos rfl, ex_bk ex_far, ex_ll] at h
  exact h
theorem k_convict : SC Try.prog 27 [slSr threeW, slN (notesW 40), .agg [I 0, I 200]] (.tup [I 2, I 0]) := by
  have h := sConvict threeW three_len (notesW 40) (by decide) 0 200
  rw [ex_far, if_pos rfl, if_pos rfl, ex_bk ex_far, ex_ll] at h
  exact h
theorem k_twice : SC Try.prog 27 [slSr threeW, slN [⟨1, 7000, 7098⟩, ⟨2, 86300, 40⟩], .agg [I 0, I 200]] (.tup [I 0, I 6]) := by
  have h := sConvict threeW three_len [⟨1, 7000, 7098⟩, ⟨2, 86300, 40⟩] (by decide) 0 200
  rw [ex_tail, if_pos rfl, if_pos rfl, ex_bk ex_tail, show exB [⟨1, 7000, 7098⟩, ⟨2, 86300, 40⟩] = exT from rfl, ex_ct] at h
  exact h
theorem k_str : SC Try.prog 30 [slSr threeW, slN (notesW 40), .agg [I 0, I 200], I 2] (.tup [I 35, I 0]) := by
  have h := sStretch threeW three_len (notesW 40) (by decide) 0 200 2
  rw [if_pos ex_far, if_pos ex_far, ex_bk ex_far, show (2 : Int).toNat = 2 from rfl, ex_str] at h
  have q1 : within1 0 ((threeW.length : Int) - 1) 2 = true := by decide
  have q2 : (35 : Nat) ≤ 10000 := by omega
  rw [if_pos q1, if_pos q1, if_pos q2, if_pos q2] at h
  exact h
set_option maxRecDepth 100000 in
set_option maxHeartbeats 2000000 in
theorem sKnown : SC Try.prog 13 [] (B true) := by
  refine law_turretlaw08_known _ _ (by simp) ?_
  have t1 := lThree
  have t2 := lNotes 2
  have t3 := lNotes 40
  have a1 := k_spans
  have a2 := k_fits
  have a3 := k_none
  have a4 := k_pairs
  have a5 := k_most
  have a6 := k_wrong
  have a7 := k_convict
  have a8 := k_twice
  have a9 := k_str
  unfold notesW at *
  generalize threeW = w3 at *
  (repeat' (first | ((first | with_reducible refine st_skip ?_ | with_reducible refine st_exit ?_); (try simp only [seqQ, blockQ, loopQ, forQ, whileQ, reduceIte, Nat.reduceEqDiff])) | (with_reducible refine st_ret ?_; ((try simp only [seqQ, blockQ, loopQ, forQ, whileQ]); first | (with_reducible refine retM_ret ?_) | refine retQ_ret ?_; simp [rowP])) | refine st_seq ?_ | refine st_block ?_ | ((with_reducible show (STri _ _ _ _ _) ∧ (STri _ _ _ _ _)); refine And.intro ?_ ?_) | ((first | refine st_reg ?_ | refine buildP_own ?_ | refine appP_own ?_ | refine callP_b (t1) rfl ?_ | refine callP_b (t2) rfl ?_ | refine callP_b (t3) rfl ?_ | refine callP_b (lSpan 0 200) rfl ?_ | refine callP_b (lSpan 99 103) rfl ?_ | refine callP_b (lSpan 100 101) rfl ?_ | refine callP_b (a1) rfl ?_ | refine callP_b (a2) rfl ?_ | refine callP_b (a3) rfl ?_ | refine callP_b (a4) rfl ?_ | refine callP_b (a5) rfl ?_ | refine callP_b (a6) rfl ?_ | refine callP_b (a7) rfl ?_ | refine callP_b (a8) rfl ?_ | refine callP_b (a9) rfl ?_) <;> (simp -dsimp [rowP]; (repeat (simp -dsimp (disch := (first | omega | assumption | (refine Bool.eq_false_iff.1 ?_; assumption))) only [wrap_in, if_pos, if_neg]; (try simp -dsimp [rowP]))))) | ((first | refine guardP_of (fun hc => ?_) (fun hc => ?_) | refine st_cond rfl (fun hc => ?_) (fun hc => ?_)) <;> (try simp only [lqA, lqB, lqC, lqD, lqE, lqF, lqG, lqH, lqI, lqJ, lqK, lqL, lqM, lqN, lqO] at hc) <;> (try (exfalso; first | omega | exact bool_tf hc (by assumption) | exact bool_ft hc (by assumption) | exact absurd (by assumption) hc)) <;> (first | with_reducible show STri _ _ _ _ _ _ | (simp -dsimp [rowP, hc]; (repeat (simp -dsimp (disch := (first | omega | assumption | (refine Bool.eq_false_iff.1 ?_; assumption))) only [wrap_in, if_pos, if_neg]; (try simp -dsimp [rowP, hc]))))))))
  all_goals exact .refl _
end Go.Proofs.Ytakdmliblijgmaa
/- Wire's laws, V: WireChecks. -/
namespace Go.Proofs.Ytakdmliblijgmaa
open Go.RowKit
theorem spans_congr {b : Wbk} {p q : Nat → Bool} (h : ∀ x ∈ allL b, p x.2 = q x.2) : spansL b p = spansL b q := by
  unfold spansL
  generalize ([] : List (Int × Int)) = acc
  generalize allL b = l at *
  induction l generalizing acc with
  | nil => rfl
  | cons x l ih =>
    rw [List.foldl_cons, List.foldl_cons]
    have e : spanStep p acc x = spanStep q acc x := by
      unfold spanStep
      rw [h x (by simp)]
    rw [e]
    exact ih _ fun y hy => h y (by simp [hy])
theorem pop_zero2 : popN 0 = 0 := by decide
theorem spans_zero {b : Wbk} (hb : BkOK b) : spansL b (fun m => decide (popN m = 0)) = spansL b fun m => decide (m = 0) := by
  refine spans_congr fun x hx => ?_
  have hlt := set_lt hb (mem_setsL.2 ⟨x, hx, rfl⟩)
  rw [Bool.eq_iff_iff, decide_eq_true_eq, decide_eq_true_eq]
  exact ⟨pop_zero x.2 hlt, fun e => by rw [e]; exact pop_zero2⟩
theorem spansL_len {b : Wbk} (hb : BkOK b) (p : Nat → Bool) : (spansL b p).length ≤ 20000 := by
  have h1 := spansTo_len b p (allL b).length (by omega)
  have h2 : spansTo b p (allL b).length = spansL b p := by unfold spansTo spansL; rw [List.take_length]
  rw [h2] at h1
  have h3 := allL_len b
  have n0 := hb.n0
  have n2 := hb.n2
  unfold bookN at h3
  omega
theorem new_nz {w : List Wsrc} {l : List Wnt} {nlo nhi : Int} (h : newErr w l nlo nhi = 0) : (newBk w l nlo nhi).srcs = w ∧ (newBk w l nlo nhi).errs = w.map errOf ∧ (newBk w l nlo nhi).notes = l ∧ (newBk w l nlo nhi).nlo = nlo ∧ (newBk w l nlo nhi).nhi = nhi := by
  rw [(new_ok h).1]; exact ⟨rfl, rfl, rfl, rfl, rfl⟩
end Go.Proofs.Ytakdmliblijgmaa
/- The shadow code of functions, as the kit's translation has them. -/
namespace Go.Proofs.Ytakdmliblijgmaa
open Go.RowKit
def fresh : List FuncId := [1000000 + 36, 1000000 + 14]
def k64_0 : SCode := .reg [⟨some 2, none, .box 66 (.tmp 0), [], false⟩, ⟨some 4, none, .mov (.const (.slice none 0 0)), [], false⟩] [1, 2]
def k64_1 : SCode := .reg [⟨some 15, none, .buildSl 73 3 [(.int .i64 0), (.int .i64 0), (.int .i64 0)] 0 [], [], false⟩, ⟨some 5, none, .mov (.tmp 15), [], false⟩] [1, 2, 5]
def k64_2 : SCode := .reg [⟨some 6, none, .mov (.const (.int .i64 0)), [], false⟩] [1, 2, 5, 6]
def k64_3 : SCode := .reg [⟨some 16, none, .mov (.tmp 6), [], false⟩, ⟨some 17, none, .fld 1 (.tmp 2), [], false⟩, ⟨some 18, none, .load false 1 (.tmp 17), [], false⟩, ⟨some 19, none, .len (.tmp 18), [], false⟩, ⟨some 20, none, .bin .lss (.tmp 16) (.tmp 19), [], false⟩, ⟨some 21, none, .mov (.tmp 20), [], false⟩, ⟨some 22, (some (21, true)), .mov (.tmp 6), [], false⟩, ⟨some 23, (some (21, true)), .bin .lss (.tmp 22) (.const (.int .i64 8)), [], false⟩, ⟨some 24, none, .pick (.tmp 21) (.tmp 23) (.const (.bool false)), [], false⟩] [1, 2, 5, 6, 24]
def k64_4 : SCode := .cond (.tmp 24) .skip (.exit 0)
def k64_5 : SCode := .seq k64_3 k64_4
def k64_6 : SCode := .reg [⟨some 27, none, .fld 1 (.tmp 2), [], false⟩, ⟨some 28, none, .load false 1 (.tmp 27), [], false⟩, ⟨some 29, none, .mov (.tmp 6), [], false⟩, ⟨some 30, none, .idxS 3 (.tmp 28) (.tmp 29), [], false⟩, ⟨some 31, none, .load true 3 (.tmp 30), [], false⟩, ⟨some 7, none, .alloc 76 [(.int .u8 0), (.int .u8 0), (.int .u8 0)], [], false⟩, ⟨none, none, .store 3 (.tmp 7) (.tmp 31), [], false⟩] [1, 2, 5, 6, 7]
def k64_7 : SCode := .reg [⟨some 32, none, .idxA 3 1 (.tmp 7) (.const (.int .i64 0)), [], false⟩, ⟨some 33, none, .load false 1 (.tmp 32), [], false⟩, ⟨some 34, none, .conv .i64 (.tmp 33), [], false⟩, ⟨some 35, none, .mov (.tmp 1), [], false⟩, ⟨some 36, none, .len (.tmp 35), [], false⟩, ⟨some 37, none, .bin .rem (.tmp 34) (.tmp 36), [], false⟩, ⟨some 38, none, .build [(.int .i64 0), (.int .i64 0), (.int .i64 0)] [(0, 1, (.tmp 37))], [], false⟩, ⟨some 8, none, .alloc 73 [(.int .i64 0), (.int .i64 0), (.int .i64 0)], [], false⟩, ⟨none, none, .store 3 (.tmp 8) (.tmp 38), [], false⟩] [1, 2, 5, 6, 7, 8]
def k64_8 : SCode := .reg [⟨some 39, none, .mov (.tmp 1), [], false⟩, ⟨some 40, none, .fld 0 (.tmp 8), [], false⟩, ⟨some 41, none, .load false 1 (.tmp 40), [], false⟩, ⟨some 42, none, .idxS 8 (.tmp 39) (.tmp 41), [], false⟩, ⟨some 43, none, .load true 8 (.tmp 42), [], false⟩, ⟨some 9, none, .alloc 79 [(.int .i64 0), (.int .i64 0), (.int .i64 0), (.int .i64 0), (.int .i64 0), (.int .i64 0), (.int .i64 0), (.slice none 0 0)], [], false⟩, ⟨none, none, .store 8 (.tmp 9) (.tmp 43), [], false⟩] [1, 2, 5, 6, 7, 8, 9]
def k64_9 : SCode := .reg [⟨some 44, none, .fld 1 (.tmp 9), [], false⟩, ⟨some 45, none, .fld 0 (.tmp 44), [], false⟩, ⟨some 46, none, .load false 1 (.tmp 45), [], false⟩, ⟨some 47, none, .fld 3 (.tmp 2), [], false⟩, ⟨some 48, none, .load false 1 (.tmp 47), [], false⟩, ⟨some 49, none, .mov (.tmp 6), [], false⟩, ⟨some 50, none, .call 58 [(.tmp 48), (.tmp 49)], [], false⟩, ⟨some 51, none, .fld 1 (.tmp 9), [], false⟩, ⟨some 52, none, .fld 1 (.tmp 51), [], false⟩, ⟨some 53, none, .load false 1 (.tmp 52), [], false⟩, ⟨some 54, none, .fld 1 (.tmp 9), [], false⟩, ⟨some 55, none, .fld 0 (.tmp 54), [], false⟩, ⟨some 56, none, .load false 1 (.tmp 55), [], false⟩, ⟨some 57, none, .bin .sub (.tmp 53) (.tmp 56), [], false⟩, ⟨some 58, none, .bin .add (.tmp 57) (.const (.int .i64 1)), [], false⟩, ⟨some 59, none, .bin .rem (.tmp 50) (.tmp 58), [], false⟩, ⟨some 60, none, .bin .add (.tmp 46) (.tmp 59), [], false⟩, ⟨some 10, none, .mov (.tmp 60), [], false⟩] [1, 2, 5, 6, 7, 8, 9, 10]
def k64_10 : SCode := .reg [⟨some 61, none, .idxA 3 1 (.tmp 7) (.const (.int .i64 1)), [], false⟩, ⟨some 62, none, .load false 1 (.tmp 61), [], false⟩, ⟨some 63, none, .conv .i64 (.tmp 62), [], false⟩, ⟨some 64, none, .bin .mul (.const (.int .i64 1000)) (.tmp 63), [], false⟩, ⟨some 65, none, .bin .add (.const (.int .i64 30000)) (.tmp 64), [], false⟩, ⟨some 66, none, .idxA 3 1 (.tmp 7) (.const (.int .i64 2)), [], false⟩, ⟨some 67, none, .load false 1 (.tmp 66), [], false⟩, ⟨some 68, none, .conv .i64 (.tmp 67), [], false⟩, ⟨some 69, none, .bin .add (.tmp 65) (.tmp 68), [], false⟩, ⟨some 11, none, .mov (.tmp 69), [], false⟩] [1, 2, 5, 6, 7, 8, 9, 10, 11]
def k64_11 : SCode := .reg [⟨some 70, none, .fld 0 (.tmp 9), [], false⟩, ⟨some 71, none, .load false 1 (.tmp 70), [], false⟩] [1, 2, 5, 6, 7, 8, 9, 10, 11, 71]
def k64_12 : SCode := .reg [⟨some 102, none, .bin .eql (.tmp 71) (.const (.int .i64 2)), [], false⟩, ⟨some 101, none, .mov (.tmp 102), [], false⟩] [1, 2, 5, 6, 7, 8, 9, 10, 11, 71, 101]
def k64_13 : SCode := .reg [⟨some 103, none, .fld 3 (.tmp 9), [], false⟩, ⟨some 104, none, .load false 1 (.tmp 103), [], false⟩, ⟨some 105, none, .idxA 3 1 (.tmp 7) (.const (.int .i64 1)), [], false⟩, ⟨some 106, none, .load false 1 (.tmp 105), [], false⟩, ⟨some 107, none, .conv .i64 (.tmp 106), [], false⟩, ⟨some 108, none, .bin .add (.tmp 107) (.const (.int .i64 200)), [], false⟩, ⟨some 109, none, .fld 6 (.tmp 9), [], false⟩, ⟨some 110, none, .load false 1 (.tmp 109), [], false⟩, ⟨some 111, none, .bin .mul (.tmp 108) (.tmp 110), [], false⟩, ⟨some 112, none, .bin .add (.tmp 104) (.tmp 111), [], false⟩, ⟨some 113, none, .mov (.tmp 10), [], false⟩, ⟨some 114, none, .bin .add (.tmp 112) (.tmp 113), [], false⟩, ⟨some 11, none, .mov (.tmp 114), [], false⟩] [1, 2, 5, 6, 8, 11]
def k64_14 : SCode := .reg [⟨some 116, none, .bin .eql (.tmp 71) (.const (.int .i64 3)), [], false⟩, ⟨some 115, none, .mov (.tmp 116), [], false⟩] [1, 2, 5, 6, 7, 8, 9, 10, 11, 71, 115]
def k64_15 : SCode := .reg [⟨some 117, none, .idxA 3 1 (.tmp 7) (.const (.int .i64 1)), [], false⟩, ⟨some 118, none, .load false 1 (.tmp 117), [], false⟩, ⟨some 119, none, .conv .i64 (.tmp 118), [], false⟩, ⟨some 120, none, .bin .add (.const (.int .i64 1)) (.tmp 119), [], false⟩, ⟨some 12, none, .mov (.tmp 120), [], false⟩] [1, 2, 5, 6, 8, 9, 10, 12]
def k64_16 : SCode := .reg [⟨some 121, none, .mov (.tmp 12), [], false⟩, ⟨some 122, none, .bin .mul (.tmp 121) (.const (.int .i64 86400)), [], false⟩, ⟨some 123, none, .fld 7 (.tmp 9), [], false⟩, ⟨some 124, none, .load false 1 (.tmp 123), [], false⟩, ⟨some 125, none, .mov (.tmp 12), [], false⟩, ⟨some 126, none, .fld 7 (.tmp 9), [], false⟩, ⟨some 127, none, .load false 1 (.tmp 126), [], false⟩, ⟨some 128, none, .len (.tmp 127), [], false⟩, ⟨some 129, none, .bin .rem (.tmp 125) (.tmp 128), [], false⟩, ⟨some 130, none, .idxS 1 (.tmp 124) (.tmp 129), [], false⟩, ⟨some 131, none, .load false 1 (.tmp 130), [], false⟩, ⟨some 132, none, .bin .add (.tmp 122) (.tmp 131), [], false⟩, ⟨some 133, none, .mov (.tmp 10), [], false⟩, ⟨some 134, none, .bin .add (.tmp 132) (.tmp 133), [], false⟩, ⟨some 11, none, .mov (.tmp 134), [], false⟩] [1, 2, 5, 6, 8, 11]
def k64_17 : SCode := .seq k64_15 k64_16
def k64_18 : SCode := .reg [⟨some 136, none, .bin .eql (.tmp 71) (.const (.int .i64 4)), [], false⟩, ⟨some 135, none, .mov (.tmp 136), [], false⟩] [1, 2, 5, 6, 7, 8, 9, 10, 11, 135]
def k64_19 : SCode := .reg [⟨some 137, none, .mov (.tmp 11), [], false⟩, ⟨some 138, none, .fld 2 (.tmp 8), [], false⟩, ⟨none, none, .store 1 (.tmp 138) (.tmp 137), [], false⟩] [1, 2, 5, 6, 8, 10, 11]
def k64_20 : SCode := .reg [⟨some 139, none, .mov (.tmp 11), [], false⟩, ⟨some 140, none, .mov (.tmp 10), [], false⟩, ⟨some 141, none, .bin .add (.tmp 139) (.tmp 140), [], false⟩, ⟨some 11, none, .mov (.tmp 141), [], false⟩] [1, 2, 5, 6, 8, 11]
def k64_21 : SCode := .seq k64_19 k64_20
def k64_22 : SCode := .reg [⟨some 72, none, .mov (.tmp 11), [], false⟩, ⟨some 73, none, .fld 3 (.tmp 9), [], false⟩, ⟨some 74, none, .load false 1 (.tmp 73), [], false⟩, ⟨some 75, none, .bin .sub (.tmp 72) (.tmp 74), [], false⟩, ⟨some 13, none, .mov (.tmp 75), [], false⟩] [1, 2, 5, 6, 7, 8, 9, 10, 11, 13]
def k64_23 : SCode := .reg [⟨some 76, none, .fld 4 (.tmp 9), [], false⟩, ⟨some 77, none, .fld 0 (.tmp 76), [], false⟩, ⟨some 78, none, .load false 1 (.tmp 77), [], false⟩, ⟨some 79, none, .mov (.tmp 13), [], false⟩, ⟨some 80, none, .bin .mul (.tmp 78) (.tmp 79), [], false⟩, ⟨some 14, none, .mov (.tmp 80), [], false⟩] [1, 2, 5, 6, 7, 8, 9, 10, 11, 13, 14]
def k64_24 : SCode := .reg [⟨some 81, none, .idxA 3 1 (.tmp 7) (.const (.int .i64 2)), [], false⟩, ⟨some 82, none, .load false 1 (.tmp 81), [], false⟩, ⟨some 83, none, .bin .rem (.tmp 82) (.const (.int .u8 2)), [], false⟩, ⟨some 84, none, .bin .eql (.tmp 83) (.const (.int .u8 1)), [], false⟩] [1, 2, 5, 6, 8, 9, 10, 11, 13, 14, 84]
def k64_25 : SCode := .reg [⟨some 85, none, .fld 4 (.tmp 9), [], false⟩, ⟨some 86, none, .fld 1 (.tmp 85), [], false⟩, ⟨some 87, none, .load false 1 (.tmp 86), [], false⟩, ⟨some 88, none, .mov (.tmp 13), [], false⟩, ⟨some 89, none, .bin .mul (.tmp 87) (.tmp 88), [], false⟩, ⟨some 14, none, .mov (.tmp 89), [], false⟩] [1, 2, 5, 6, 8, 10, 11, 14]
def k64_26 : SCode := .cond (.tmp 84) k64_25 .skip
def k64_27 : SCode := .seq k64_24 k64_26
def k64_28 : SCode := .reg [⟨some 90, none, .mov (.tmp 11), [], false⟩, ⟨some 91, none, .mov (.tmp 10), [], false⟩, ⟨some 92, none, .bin .add (.tmp 90) (.tmp 91), [], false⟩, ⟨some 93, none, .mov (.tmp 14), [], false⟩, ⟨some 94, none, .mov (.tmp 14), [], false⟩, ⟨some 95, none, .call 39 [(.tmp 94), (.const (.int .i64 86400000))], [], false⟩, ⟨some 96, none, .bin .sub (.tmp 93) (.tmp 95), [], false⟩, ⟨some 97, none, .bin .quo (.tmp 96) (.const (.int .i64 86400000)), [], false⟩, ⟨some 98, none, .bin .add (.tmp 92) (.tmp 97), [], false⟩, ⟨some 99, none, .call 39 [(.tmp 98), (.const (.int .i64 43200))], [], false⟩, ⟨some 100, none, .fld 2 (.tmp 8), [], false⟩, ⟨none, none, .store 1 (.tmp 100) (.tmp 99), [], false⟩] [1, 2, 5, 6, 8, 11]
def k64_29 : SCode := .seq k64_27 k64_28
def k64_30 : SCode := .seq k64_23 k64_29
def k64_31 : SCode := .seq k64_22 k64_30
def k64_32 : SCode := .cond (.tmp 135) k64_21 k64_31
def k64_33 : SCode := .seq k64_18 k64_32
def k64_34 : SCode := .cond (.tmp 115) k64_17 k64_33
def k64_35 : SCode := .seq k64_14 k64_34
def k64_36 : SCode := .cond (.tmp 101) k64_13 k64_35
def k64_37 : SCode := .seq k64_12 k64_36
def k64_38 : SCode := .block 2 k64_37
def k64_39 : SCode := .seq k64_11 k64_38
def k64_40 : SCode := .reg [⟨some 142, none, .mov (.tmp 11), [], false⟩, ⟨some 143, none, .load true 4 (.tmp 2), [], false⟩, ⟨some 144, none, .call 35 [(.tmp 143)], [], false⟩, ⟨some 145, none, .bin .sub (.tmp 142) (.tmp 144), [], false⟩, ⟨some 146, none, .fld 1 (.tmp 8), [], false⟩, ⟨none, none, .store 1 (.tmp 146) (.tmp 145), [], false⟩] [1, 2, 5, 6, 8]
def k64_41 : SCode := .reg [⟨some 147, none, .fld 1 (.tmp 8), [], false⟩, ⟨some 148, none, .load false 1 (.tmp 147), [], false⟩, ⟨some 149, none, .bin .geq (.tmp 148) (.const (.int .i64 0)), [], false⟩] [1, 2, 5, 6, 8, 149]
def k64_42 : SCode := .reg [⟨some 150, none, .mov (.tmp 5), [], false⟩, ⟨some 151, none, .load true 3 (.tmp 8), [], false⟩, ⟨some 152, none, .buildSl 73 3 [(.int .i64 0), (.int .i64 0), (.int .i64 0)] 1 [(0, (.tmp 151))], [], false⟩, ⟨some 153, none, .append 73 3 24 (.tmp 150) (.tmp 152), [], false⟩, ⟨some 5, none, .mov (.tmp 153), [], false⟩] [1, 2, 5, 6]
def k64_43 : SCode := .cond (.tmp 149) k64_42 .skip
def k64_44 : SCode := .seq k64_41 k64_43
def k64_45 : SCode := .seq k64_40 k64_44
def k64_46 : SCode := .seq k64_39 k64_45
def k64_47 : SCode := .seq k64_10 k64_46
def k64_48 : SCode := .seq k64_9 k64_47
def k64_49 : SCode := .seq k64_8 k64_48
def k64_50 : SCode := .seq k64_7 k64_49
def k64_51 : SCode := .seq k64_6 k64_50
def k64_52 : SCode := .block 1 k64_51
def k64_53 : SCode := .reg [⟨some 25, none, .mov (.tmp 6), [], false⟩, ⟨some 26, none, .bin .add (.tmp 25) (.const (.int .i64 1)), [], false⟩, ⟨some 6, none, .mov (.tmp 26), [], false⟩] [1, 2, 5, 6]
def k64_54 : SCode := .seq k64_52 k64_53
def k64_55 : SCode := .seq k64_5 k64_54
def k64_56 : SCode := .loop k64_55
def k64_57 : SCode := .block 0 k64_56
def k64_58 : SCode := .seq k64_2 k64_57
def k64_59 : SCode := .reg [⟨some 154, none, .mov (.tmp 5), [], false⟩, ⟨some 4, none, .mov (.tmp 154), [], false⟩] [4]
def k64_60 : SCode := .seq k64_59 .ret
def k64_61 : SCode := .seq k64_58 k64_60
def k64_62 : SCode := .seq k64_1 k64_61
def k64_63 : SCode := .seq k64_0 k64_62
theorem flaw_turretlaw08_Office_notes (cs : List CV) (sh : FSh) (t : TypeId) (k : Nat) (rows : List (List CV)) (hl : cs.length ≤ 155) (h : STri (cfF Try.prog [] 155) k64_63 (initT 0 cs) [] (retF (.tmp 4) sh t k rows)) : FC Try.prog 36 cs sh t k rows :=
  fc_of [] follows Try.func36 rfl Try.ntmps36 (by decide) (by kernel_rfl) (by kernel_rfl) hl h
def k65_0 : SCode := .reg [⟨some 4, none, .mov (.const (.int .i64 0)), [], false⟩] [0, 1]
def k65_1 : SCode := .reg [⟨some 5, none, .mov (.tmp 0), [], false⟩, ⟨some 6, none, .len (.tmp 5), [], false⟩, ⟨some 7, none, .bin .eql (.tmp 6) (.const (.int .i64 0)), [], false⟩] [0, 1, 7]
def k65_2 : SCode := .reg [⟨some 4, none, .mov (.const (.int .i64 0)), [], false⟩] [4]
def k65_3 : SCode := .seq k65_2 .ret
def k65_4 : SCode := .cond (.tmp 7) k65_3 .skip
def k65_5 : SCode := .seq k65_1 k65_4
def k65_6 : SCode := .reg [⟨some 8, none, .mov (.tmp 0), [], false⟩, ⟨some 9, none, .mov (.tmp 1), [], false⟩, ⟨some 10, none, .mov (.tmp 0), [], false⟩, ⟨some 11, none, .len (.tmp 10), [], false⟩, ⟨some 12, none, .bin .rem (.tmp 9) (.tmp 11), [], false⟩, ⟨some 13, none, .idxS 1 (.tmp 8) (.tmp 12), [], false⟩, ⟨some 14, none, .load false 1 (.tmp 13), [], false⟩, ⟨some 15, none, .conv .i64 (.tmp 14), [], false⟩, ⟨some 4, none, .mov (.tmp 15), [], false⟩] [4]
def k65_7 : SCode := .seq k65_6 .ret
def k65_8 : SCode := .seq k65_5 k65_7
def k65_9 : SCode := .seq k65_0 k65_8
@[simp] def rs_turretlaw08_byteOf : List SRes := [.tmp 4]
theorem law_turretlaw08_byteOf (cs : List CV) (r : CV) (hl : cs.length ≤ 16) (h : STri (cfF Try.prog [] 16) k65_9 (initT 0 cs) [] (retQ rs_turretlaw08_byteOf r)) : SC Try.prog 58 cs r :=
  sc_of [] follows Try.func58 rfl Try.ntmps58 (by decide) (by kernel_rfl) (by kernel_rfl) hl h
def k66_0 : SCode := .reg [⟨some 3, none, .box 66 (.tmp 0), [], false⟩, ⟨some 4, none, .box 82 (.tmp 1), [], false⟩, ⟨some 6, none, .mov (.const (.bool false)), [], false⟩] [2, 3, 4]
def k66_1 : SCode := .reg [⟨some 34, none, .load true 4 (.tmp 3), [], true⟩, ⟨some 35, none, .call 33 [(.tmp 34)], [], true⟩, ⟨some 36, none, .load true 4 (.tmp 3), [], true⟩, ⟨some 37, none, .call 35 [(.tmp 36)], [], true⟩, ⟨some 38, none, .bin .sub (.tmp 37) (.const (.int .i64 60)), [], false⟩, ⟨some 39, none, .load true 4 (.tmp 3), [], true⟩, ⟨some 40, none, .call 35 [(.tmp 39)], [], true⟩, ⟨some 41, none, .bin .add (.tmp 40) (.const (.int .i64 60)), [], false⟩, ⟨some 42, none, .call 34 [(.tmp 38), (.tmp 41)], [], true⟩, ⟨some 43, none, .mov (.tmp 2), [], false⟩, ⟨some 44, none, .conv .i64 (.tmp 43), [], false⟩, ⟨some 8, none, .alloc 25 [(.int .i64 0), (.int .i64 0)], [0, 1, 2, 3, 5, 6, 8], false⟩, ⟨some 7, none, .mov (.tmp 35), [], false⟩, ⟨none, none, .store 2 (.tmp 8) (.tmp 42), [], false⟩, ⟨some 9, none, .mov (.tmp 44), [], false⟩] [3, 4, 7, 8, 9]
def k66_2 : SCode := .reg [⟨some 45, none, .load true 4 (.tmp 3), [], false⟩, ⟨some 46, none, .mov (.tmp 7), [], false⟩, ⟨some 47, none, .callG 36 [(.tmp 45), (.tmp 46)], [], false⟩, ⟨some 48, none, .buildSl 73 3 [(.int .i64 0), (.int .i64 0), (.int .i64 0)] 0 [], [], false⟩, ⟨some 10, none, .mov (.tmp 47), [], false⟩, ⟨some 11, none, .mov (.tmp 48), [], false⟩] [4, 7, 8, 9, 10, 11]
def k66_3 : SCode := .reg [⟨some 12, none, .mov (.const (.int .i64 0)), [], false⟩] [4, 7, 8, 9, 10, 11, 12]
def k66_4 : SCode := .reg [⟨some 49, none, .mov (.tmp 12), [], false⟩, ⟨some 50, none, .mov (.tmp 10), [], false⟩, ⟨some 51, none, .len (.tmp 50), [], false⟩, ⟨some 52, none, .bin .lss (.tmp 49) (.tmp 51), [], false⟩] [4, 7, 8, 9, 10, 11, 12, 52]
def k66_5 : SCode := .cond (.tmp 52) .skip (.exit 0)
def k66_6 : SCode := .seq k66_4 k66_5
def k66_7 : SCode := .reg [⟨some 55, none, .mov (.tmp 12), [], false⟩, ⟨some 56, none, .idxA 8 1 (.tmp 4) (.tmp 55), [], false⟩, ⟨some 57, none, .load false 1 (.tmp 56), [], false⟩, ⟨some 58, none, .bin .geq (.tmp 57) (.const (.int .u8 160)), [], false⟩] [4, 7, 8, 9, 10, 11, 12, 58]
def k66_8 : SCode := .reg [⟨some 59, none, .mov (.tmp 10), [], false⟩, ⟨some 60, none, .mov (.tmp 12), [], false⟩, ⟨some 61, none, .mov (.tmp 10), [], false⟩, ⟨some 62, none, .mov (.tmp 12), [], false⟩, ⟨some 63, none, .idxS 3 (.tmp 61) (.tmp 62), [], false⟩, ⟨some 64, none, .fld 1 (.tmp 63), [], false⟩, ⟨some 65, none, .load false 1 (.tmp 64), [], false⟩, ⟨some 66, none, .mov (.tmp 12), [], false⟩, ⟨some 67, none, .idxA 8 1 (.tmp 4) (.tmp 66), [], false⟩, ⟨some 68, none, .load false 1 (.tmp 67), [], false⟩, ⟨some 69, none, .conv .i64 (.tmp 68), [], false⟩, ⟨some 70, none, .bin .rem (.tmp 69) (.const (.int .i64 60)), [], false⟩, ⟨some 71, none, .bin .add (.tmp 65) (.tmp 70), [], false⟩, ⟨some 72, none, .bin .sub (.tmp 71) (.const (.int .i64 30)), [], false⟩, ⟨some 73, none, .max [(.const (.int .i64 0)), (.tmp 72)], [], false⟩, ⟨some 74, none, .idxS 3 (.tmp 59) (.tmp 60), [], false⟩, ⟨some 75, none, .fld 1 (.tmp 74), [], false⟩, ⟨none, none, .store 1 (.tmp 75) (.tmp 73), [], false⟩] [4, 7, 8, 9, 10, 11, 12]
def k66_9 : SCode := .cond (.tmp 58) k66_8 .skip
def k66_10 : SCode := .seq k66_7 k66_9
def k66_11 : SCode := .reg [⟨some 76, none, .mov (.tmp 11), [], false⟩, ⟨some 77, none, .mov (.tmp 10), [], false⟩, ⟨some 78, none, .mov (.tmp 12), [], false⟩, ⟨some 79, none, .idxS 3 (.tmp 77) (.tmp 78), [], false⟩, ⟨some 80, none, .fld 0 (.tmp 79), [], false⟩, ⟨some 81, none, .load false 1 (.tmp 80), [], false⟩, ⟨some 82, none, .mov (.tmp 10), [], false⟩, ⟨some 83, none, .mov (.tmp 12), [], false⟩, ⟨some 84, none, .idxS 3 (.tmp 82) (.tmp 83), [], false⟩, ⟨some 85, none, .fld 1 (.tmp 84), [], false⟩, ⟨some 86, none, .load false 1 (.tmp 85), [], false⟩, ⟨some 87, none, .mov (.tmp 9), [], false⟩, ⟨some 88, none, .bin .add (.tmp 86) (.tmp 87), [], false⟩, ⟨some 89, none, .mov (.tmp 10), [], false⟩, ⟨some 90, none, .mov (.tmp 12), [], false⟩, ⟨some 91, none, .idxS 3 (.tmp 89) (.tmp 90), [], false⟩, ⟨some 92, none, .fld 2 (.tmp 91), [], false⟩, ⟨some 93, none, .load false 1 (.tmp 92), [], false⟩, ⟨some 94, none, .build [(.int .i64 0), (.int .i64 0), (.int .i64 0)] [(0, 1, (.tmp 81)), (1, 1, (.tmp 88)), (2, 1, (.tmp 93))], [], false⟩, ⟨some 95, none, .buildSl 73 3 [(.int .i64 0), (.int .i64 0), (.int .i64 0)] 1 [(0, (.tmp 94))], [], false⟩, ⟨some 96, none, .append 73 3 24 (.tmp 76) (.tmp 95), [], false⟩, ⟨some 11, none, .mov (.tmp 96), [], false⟩] [4, 7, 8, 9, 10, 11, 12]
def k66_12 : SCode := .seq k66_10 k66_11
def k66_13 : SCode := .block 1 k66_12
def k66_14 : SCode := .reg [⟨some 53, none, .mov (.tmp 12), [], false⟩, ⟨some 54, none, .bin .add (.tmp 53) (.const (.int .i64 1)), [], false⟩, ⟨some 12, none, .mov (.tmp 54), [], false⟩] [4, 7, 8, 9, 10, 11, 12]
def k66_15 : SCode := .seq k66_13 k66_14
def k66_16 : SCode := .seq k66_6 k66_15
def k66_17 : SCode := .loop k66_16
def k66_18 : SCode := .block 0 k66_17
def k66_19 : SCode := .seq k66_3 k66_18
def k66_20 : SCode := .reg [⟨some 97, none, .fld 0 (.tmp 8), [], false⟩, ⟨some 98, none, .load false 1 (.tmp 97), [], false⟩, ⟨some 99, none, .mov (.tmp 9), [], false⟩, ⟨some 100, none, .bin .sub (.tmp 98) (.tmp 99), [], false⟩, ⟨some 101, none, .fld 1 (.tmp 8), [], false⟩, ⟨some 102, none, .load false 1 (.tmp 101), [], false⟩, ⟨some 103, none, .mov (.tmp 9), [], false⟩, ⟨some 104, none, .bin .sub (.tmp 102) (.tmp 103), [], false⟩, ⟨some 105, none, .call 34 [(.tmp 100), (.tmp 104)], [], false⟩, ⟨some 13, none, .alloc 25 [(.int .i64 0), (.int .i64 0)], [], false⟩, ⟨none, none, .store 2 (.tmp 13) (.tmp 105), [], false⟩] [7, 8, 9, 10, 11, 13]
def k66_21 : SCode := .reg [⟨some 107, none, .mov (.tmp 7), [], false⟩, ⟨some 108, none, .callG 14 [(.tmp 107)], [], true⟩, ⟨some 109, none, .mov (.tmp 10), [], false⟩, ⟨some 110, none, .call 15 [(.tmp 109)], [], false⟩, ⟨some 111, none, .load true 2 (.tmp 8), [1], false⟩, ⟨some 112, none, .call 16 [(.tmp 108), (.tmp 110), (.tmp 111)], [], false⟩, ⟨some 106, none, .mov (.tmp 112), [], false⟩, ⟨some 113, none, .ext (.tmp 106) 0, [], false⟩, ⟨some 114, none, .ext (.tmp 106) 1, [], false⟩, ⟨some 14, none, .mov (.tmp 113), [], false⟩, ⟨some 15, none, .mov (.tmp 114), [], false⟩] [7, 8, 9, 10, 11, 13, 14, 15]
def k66_22 : SCode := .reg [⟨some 116, none, .mov (.tmp 7), [], false⟩, ⟨some 117, none, .callG 14 [(.tmp 116)], [], true⟩, ⟨some 118, none, .mov (.tmp 11), [], false⟩, ⟨some 119, none, .call 15 [(.tmp 118)], [], false⟩, ⟨some 120, none, .load true 2 (.tmp 13), [1], false⟩, ⟨some 121, none, .call 16 [(.tmp 117), (.tmp 119), (.tmp 120)], [], false⟩, ⟨some 115, none, .mov (.tmp 121), [], false⟩, ⟨some 122, none, .ext (.tmp 115) 0, [], false⟩, ⟨some 123, none, .ext (.tmp 115) 1, [], false⟩, ⟨some 16, none, .mov (.tmp 122), [], false⟩, ⟨some 17, none, .mov (.tmp 123), [], false⟩] [7, 8, 9, 10, 11, 13, 14, 15, 16, 17]
def k66_23 : SCode := .reg [⟨some 125, none, .mov (.tmp 7), [], false⟩, ⟨some 126, none, .callG 14 [(.tmp 125)], [], true⟩, ⟨some 127, none, .mov (.tmp 10), [], false⟩, ⟨some 128, none, .call 15 [(.tmp 127)], [], false⟩, ⟨some 129, none, .load true 2 (.tmp 8), [1], false⟩, ⟨some 130, none, .call 18 [(.tmp 126), (.tmp 128), (.tmp 129)], [], false⟩, ⟨some 124, none, .mov (.tmp 130), [], false⟩, ⟨some 131, none, .ext (.tmp 124) 0, [], false⟩, ⟨some 132, none, .ext (.tmp 124) 1, [], false⟩, ⟨some 133, none, .ext (.tmp 124) 2, [], false⟩, ⟨some 18, none, .mov (.tmp 131), [], false⟩, ⟨some 19, none, .mov (.tmp 132), [], false⟩, ⟨some 20, none, .mov (.tmp 133), [], false⟩] [7, 8, 9, 10, 11, 13, 14, 15, 16, 17, 18, 19, 20]
def k66_24 : SCode := .reg [⟨some 135, none, .mov (.tmp 7), [], false⟩, ⟨some 136, none, .callG 14 [(.tmp 135)], [], true⟩, ⟨some 137, none, .mov (.tmp 11), [], false⟩, ⟨some 138, none, .call 15 [(.tmp 137)], [], false⟩, ⟨some 139, none, .load true 2 (.tmp 13), [1], false⟩, ⟨some 140, none, .call 18 [(.tmp 136), (.tmp 138), (.tmp 139)], [], false⟩, ⟨some 134, none, .mov (.tmp 140), [], false⟩, ⟨some 141, none, .ext (.tmp 134) 0, [], false⟩, ⟨some 142, none, .ext (.tmp 134) 1, [], false⟩, ⟨some 143, none, .ext (.tmp 134) 2, [], false⟩, ⟨some 21, none, .mov (.tmp 141), [], false⟩, ⟨some 22, none, .mov (.tmp 142), [], false⟩, ⟨some 23, none, .mov (.tmp 143), [], false⟩] [7, 8, 9, 10, 11, 13, 14, 15, 16, 17, 18, 19, 20, 21, 22, 23]
def k66_25 : SCode := .reg [⟨some 145, none, .mov (.tmp 7), [], false⟩, ⟨some 146, none, .callG 14 [(.tmp 145)], [], true⟩, ⟨some 147, none, .mov (.tmp 10), [], false⟩, ⟨some 148, none, .call 15 [(.tmp 147)], [], false⟩, ⟨some 149, none, .load true 2 (.tmp 8), [1], false⟩, ⟨some 150, none, .call 27 [(.tmp 146), (.tmp 148), (.tmp 149)], [], false⟩, ⟨some 144, none, .mov (.tmp 150), [], false⟩, ⟨some 151, none, .ext (.tmp 144) 0, [], false⟩, ⟨some 152, none, .ext (.tmp 144) 1, [], false⟩, ⟨some 24, none, .mov (.tmp 151), [], false⟩, ⟨some 25, none, .mov (.tmp 152), [], false⟩] [7, 8, 9, 10, 11, 13, 14, 15, 16, 17, 18, 19, 20, 21, 22, 23, 24, 25]
def k66_26 : SCode := .reg [⟨some 154, none, .mov (.tmp 7), [], false⟩, ⟨some 155, none, .callG 14 [(.tmp 154)], [], true⟩, ⟨some 156, none, .mov (.tmp 11), [], false⟩, ⟨some 157, none, .call 15 [(.tmp 156)], [], false⟩, ⟨some 158, none, .load true 2 (.tmp 13), [1], false⟩, ⟨some 159, none, .call 27 [(.tmp 155), (.tmp 157), (.tmp 158)], [], false⟩, ⟨some 153, none, .mov (.tmp 159), [], false⟩, ⟨some 160, none, .ext (.tmp 153) 0, [], false⟩, ⟨some 161, none, .ext (.tmp 153) 1, [], false⟩, ⟨some 26, none, .mov (.tmp 160), [], false⟩, ⟨some 27, none, .mov (.tmp 161), [], false⟩] [7, 8, 9, 10, 11, 13, 14, 15, 16, 17, 18, 19, 20, 21, 22, 23, 24, 25, 26, 27]
def k66_27 : SCode := .reg [⟨some 163, none, .mov (.tmp 7), [], false⟩, ⟨some 164, none, .callG 14 [(.tmp 163)], [], true⟩, ⟨some 165, none, .mov (.tmp 10), [], false⟩, ⟨some 166, none, .call 15 [(.tmp 165)], [], false⟩, ⟨some 167, none, .load true 2 (.tmp 8), [1], false⟩, ⟨some 168, none, .call 30 [(.tmp 164), (.tmp 166), (.tmp 167), (.const (.int .i64 0))], [], false⟩, ⟨some 162, none, .mov (.tmp 168), [], false⟩, ⟨some 169, none, .ext (.tmp 162) 0, [], false⟩, ⟨some 170, none, .ext (.tmp 162) 1, [], false⟩, ⟨some 28, none, .mov (.tmp 169), [], false⟩, ⟨some 29, none, .mov (.tmp 170), [], false⟩] [7, 9, 11, 13, 14, 15, 16, 17, 18, 19, 20, 21, 22, 23, 24, 25, 26, 27, 28, 29]
def k66_28 : SCode := .reg [⟨some 172, none, .mov (.tmp 7), [], false⟩, ⟨some 173, none, .callG 14 [(.tmp 172)], [], true⟩, ⟨some 174, none, .mov (.tmp 11), [], false⟩, ⟨some 175, none, .call 15 [(.tmp 174)], [], false⟩, ⟨some 176, none, .load true 2 (.tmp 13), [1], false⟩, ⟨some 177, none, .call 30 [(.tmp 173), (.tmp 175), (.tmp 176), (.const (.int .i64 0))], [], false⟩, ⟨some 171, none, .mov (.tmp 177), [], false⟩, ⟨some 178, none, .ext (.tmp 171) 0, [], false⟩, ⟨some 179, none, .ext (.tmp 171) 1, [], false⟩, ⟨some 30, none, .mov (.tmp 178), [], false⟩, ⟨some 31, none, .mov (.tmp 179), [], false⟩] [9, 14, 15, 16, 17, 18, 19, 20, 21, 22, 23, 24, 25, 26, 27, 28, 29, 30, 31]
def k66_29 : SCode := .reg [⟨some 180, none, .mov (.tmp 15), [], false⟩, ⟨some 181, none, .mov (.tmp 17), [], false⟩, ⟨some 182, none, .bin .neq (.tmp 180) (.tmp 181), [], false⟩, ⟨some 183, none, .mov (.tmp 182), [], false⟩, ⟨some 184, (some (183, false)), .mov (.tmp 20), [], false⟩, ⟨some 185, (some (183, false)), .bin .neq (.tmp 184) (.const (.int .i64 0)), [], false⟩, ⟨some 186, none, .pick (.tmp 183) (.const (.bool true)) (.tmp 185), [], false⟩, ⟨some 187, none, .mov (.tmp 186), [], false⟩, ⟨some 188, (some (187, false)), .mov (.tmp 23), [], false⟩, ⟨some 189, (some (187, false)), .bin .neq (.tmp 188) (.const (.int .i64 0)), [], false⟩, ⟨some 190, none, .pick (.tmp 187) (.const (.bool true)) (.tmp 189), [], false⟩, ⟨some 191, none, .mov (.tmp 190), [], false⟩, ⟨some 192, (some (191, false)), .mov (.tmp 18), [], false⟩, ⟨some 193, (some (191, false)), .mov (.tmp 21), [], false⟩, ⟨some 194, (some (191, false)), .bin .neq (.tmp 192) (.tmp 193), [], false⟩, ⟨some 195, none, .pick (.tmp 191) (.const (.bool true)) (.tmp 194), [], false⟩, ⟨some 196, none, .mov (.tmp 195), [], false⟩, ⟨some 197, (some (196, false)), .mov (.tmp 24), [], false⟩, ⟨some 198, (some (196, false)), .mov (.tmp 26), [], false⟩, ⟨some 199, (some (196, false)), .bin .neq (.tmp 197) (.tmp 198), [], false⟩, ⟨some 200, none, .pick (.tmp 196) (.const (.bool true)) (.tmp 199), [], false⟩, ⟨some 201, none, .mov (.tmp 200), [], false⟩, ⟨some 202, (some (201, false)), .mov (.tmp 25), [], false⟩, ⟨some 203, (some (201, false)), .mov (.tmp 27), [], false⟩, ⟨some 204, (some (201, false)), .bin .neq (.tmp 202) (.tmp 203), [], false⟩, ⟨some 205, none, .pick (.tmp 201) (.const (.bool true)) (.tmp 204), [], false⟩, ⟨some 206, none, .mov (.tmp 205), [], false⟩, ⟨some 207, (some (206, false)), .mov (.tmp 28), [], false⟩, ⟨some 208, (some (206, false)), .mov (.tmp 30), [], false⟩, ⟨some 209, (some (206, false)), .bin .neq (.tmp 207) (.tmp 208), [], false⟩, ⟨some 210, none, .pick (.tmp 206) (.const (.bool true)) (.tmp 209), [], false⟩, ⟨some 211, none, .mov (.tmp 210), [], false⟩, ⟨some 212, (some (211, false)), .mov (.tmp 29), [], false⟩, ⟨some 213, (some (211, false)), .mov (.tmp 31), [], false⟩, ⟨some 214, (some (211, false)), .bin .neq (.tmp 212) (.tmp 213), [], false⟩, ⟨some 215, none, .pick (.tmp 211) (.const (.bool true)) (.tmp 214), [], false⟩, ⟨some 216, none, .mov (.tmp 215), [], false⟩, ⟨some 217, (some (216, false)), .mov (.tmp 14), [], false⟩, ⟨some 218, (some (216, false)), .len (.tmp 217), [], false⟩, ⟨some 219, (some (216, false)), .mov (.tmp 16), [], false⟩, ⟨some 220, (some (216, false)), .len (.tmp 219), [], false⟩, ⟨some 221, (some (216, false)), .bin .neq (.tmp 218) (.tmp 220), [], false⟩, ⟨some 222, none, .pick (.tmp 216) (.const (.bool true)) (.tmp 221), [], false⟩, ⟨some 223, none, .mov (.tmp 222), [], false⟩, ⟨some 224, (some (223, false)), .mov (.tmp 19), [], false⟩, ⟨some 225, (some (223, false)), .len (.tmp 224), [], false⟩, ⟨some 226, (some (223, false)), .mov (.tmp 22), [], false⟩, ⟨some 227, (some (223, false)), .len (.tmp 226), [], false⟩, ⟨some 228, (some (223, false)), .bin .neq (.tmp 225) (.tmp 227), [], false⟩, ⟨some 229, none, .pick (.tmp 223) (.const (.bool true)) (.tmp 228), [], false⟩] [9, 14, 16, 19, 22, 229]
def k66_30 : SCode := .reg [⟨some 6, none, .mov (.const (.bool false)), [], false⟩] [6]
def k66_31 : SCode := .seq k66_30 .ret
def k66_32 : SCode := .cond (.tmp 229) k66_31 .skip
def k66_33 : SCode := .seq k66_29 k66_32
def k66_34 : SCode := .reg [⟨some 32, none, .mov (.const (.int .i64 0)), [], false⟩] [9, 14, 16, 19, 22, 32]
def k66_35 : SCode := .reg [⟨some 230, none, .mov (.tmp 32), [], false⟩, ⟨some 231, none, .mov (.tmp 14), [], false⟩, ⟨some 232, none, .len (.tmp 231), [], false⟩, ⟨some 233, none, .bin .lss (.tmp 230) (.tmp 232), [], false⟩] [9, 14, 16, 19, 22, 32, 233]
def k66_36 : SCode := .cond (.tmp 233) .skip (.exit 2)
def k66_37 : SCode := .seq k66_35 k66_36
def k66_38 : SCode := .reg [⟨some 236, none, .mov (.tmp 14), [], false⟩, ⟨some 237, none, .mov (.tmp 32), [], false⟩, ⟨some 238, none, .idxS 2 (.tmp 236) (.tmp 237), [], false⟩, ⟨some 239, none, .fld 0 (.tmp 238), [], false⟩, ⟨some 240, none, .load false 1 (.tmp 239), [], false⟩, ⟨some 241, none, .mov (.tmp 9), [], false⟩, ⟨some 242, none, .bin .sub (.tmp 240) (.tmp 241), [], false⟩, ⟨some 243, none, .mov (.tmp 16), [], false⟩, ⟨some 244, none, .mov (.tmp 32), [], false⟩, ⟨some 245, none, .idxS 2 (.tmp 243) (.tmp 244), [], false⟩, ⟨some 246, none, .fld 0 (.tmp 245), [], false⟩, ⟨some 247, none, .load false 1 (.tmp 246), [], false⟩, ⟨some 248, none, .bin .neq (.tmp 242) (.tmp 247), [], false⟩, ⟨some 249, none, .mov (.tmp 248), [], false⟩, ⟨some 250, (some (249, false)), .mov (.tmp 14), [], false⟩, ⟨some 251, (some (249, false)), .mov (.tmp 32), [], false⟩, ⟨some 252, (some (249, false)), .idxS 2 (.tmp 250) (.tmp 251), [], false⟩, ⟨some 253, (some (249, false)), .fld 1 (.tmp 252), [], false⟩, ⟨some 254, (some (249, false)), .load false 1 (.tmp 253), [], false⟩, ⟨some 255, (some (249, false)), .mov (.tmp 9), [], false⟩, ⟨some 256, (some (249, false)), .bin .sub (.tmp 254) (.tmp 255), [], false⟩, ⟨some 257, (some (249, false)), .mov (.tmp 16), [], false⟩, ⟨some 258, (some (249, false)), .mov (.tmp 32), [], false⟩, ⟨some 259, (some (249, false)), .idxS 2 (.tmp 257) (.tmp 258), [], false⟩, ⟨some 260, (some (249, false)), .fld 1 (.tmp 259), [], false⟩, ⟨some 261, (some (249, false)), .load false 1 (.tmp 260), [], false⟩, ⟨some 262, (some (249, false)), .bin .neq (.tmp 256) (.tmp 261), [], false⟩, ⟨some 263, none, .pick (.tmp 249) (.const (.bool true)) (.tmp 262), [], false⟩] [9, 14, 16, 19, 22, 32, 263]
def k66_39 : SCode := .reg [⟨some 6, none, .mov (.const (.bool false)), [], false⟩] [6]
def k66_40 : SCode := .seq k66_39 .ret
def k66_41 : SCode := .cond (.tmp 263) k66_40 .skip
def k66_42 : SCode := .seq k66_38 k66_41
def k66_43 : SCode := .block 3 k66_42
def k66_44 : SCode := .reg [⟨some 234, none, .mov (.tmp 32), [], false⟩, ⟨some 235, none, .bin .add (.tmp 234) (.const (.int .i64 1)), [], false⟩, ⟨some 32, none, .mov (.tmp 235), [], false⟩] [9, 14, 16, 19, 22, 32]
def k66_45 : SCode := .seq k66_43 k66_44
def k66_46 : SCode := .seq k66_37 k66_45
def k66_47 : SCode := .loop k66_46
def k66_48 : SCode := .block 2 k66_47
def k66_49 : SCode := .seq k66_34 k66_48
def k66_50 : SCode := .reg [⟨some 33, none, .mov (.const (.int .i64 0)), [], false⟩] [9, 19, 22, 33]
def k66_51 : SCode := .reg [⟨some 264, none, .mov (.tmp 33), [], false⟩, ⟨some 265, none, .mov (.tmp 19), [], false⟩, ⟨some 266, none, .len (.tmp 265), [], false⟩, ⟨some 267, none, .bin .lss (.tmp 264) (.tmp 266), [], false⟩] [9, 19, 22, 33, 267]
def k66_52 : SCode := .cond (.tmp 267) .skip (.exit 4)
def k66_53 : SCode := .seq k66_51 k66_52
def k66_54 : SCode := .reg [⟨some 270, none, .mov (.tmp 19), [], false⟩, ⟨some 271, none, .mov (.tmp 33), [], false⟩, ⟨some 272, none, .idxS 2 (.tmp 270) (.tmp 271), [], false⟩, ⟨some 273, none, .fld 0 (.tmp 272), [], false⟩, ⟨some 274, none, .load false 1 (.tmp 273), [], false⟩, ⟨some 275, none, .mov (.tmp 9), [], false⟩, ⟨some 276, none, .bin .sub (.tmp 274) (.tmp 275), [], false⟩, ⟨some 277, none, .mov (.tmp 22), [], false⟩, ⟨some 278, none, .mov (.tmp 33), [], false⟩, ⟨some 279, none, .idxS 2 (.tmp 277) (.tmp 278), [], false⟩, ⟨some 280, none, .fld 0 (.tmp 279), [], false⟩, ⟨some 281, none, .load false 1 (.tmp 280), [], false⟩, ⟨some 282, none, .bin .neq (.tmp 276) (.tmp 281), [], false⟩, ⟨some 283, none, .mov (.tmp 282), [], false⟩, ⟨some 284, (some (283, false)), .mov (.tmp 19), [], false⟩, ⟨some 285, (some (283, false)), .mov (.tmp 33), [], false⟩, ⟨some 286, (some (283, false)), .idxS 2 (.tmp 284) (.tmp 285), [], false⟩, ⟨some 287, (some (283, false)), .fld 1 (.tmp 286), [], false⟩, ⟨some 288, (some (283, false)), .load false 1 (.tmp 287), [], false⟩, ⟨some 289, (some (283, false)), .mov (.tmp 9), [], false⟩, ⟨some 290, (some (283, false)), .bin .sub (.tmp 288) (.tmp 289), [], false⟩, ⟨some 291, (some (283, false)), .mov (.tmp 22), [], false⟩, ⟨some 292, (some (283, false)), .mov (.tmp 33), [], false⟩, ⟨some 293, (some (283, false)), .idxS 2 (.tmp 291) (.tmp 292), [], false⟩, ⟨some 294, (some (283, false)), .fld 1 (.tmp 293), [], false⟩, ⟨some 295, (some (283, false)), .load false 1 (.tmp 294), [], false⟩, ⟨some 296, (some (283, false)), .bin .neq (.tmp 290) (.tmp 295), [], false⟩, ⟨some 297, none, .pick (.tmp 283) (.const (.bool true)) (.tmp 296), [], false⟩] [9, 19, 22, 33, 297]
def k66_55 : SCode := .reg [⟨some 6, none, .mov (.const (.bool false)), [], false⟩] [6]
def k66_56 : SCode := .seq k66_55 .ret
def k66_57 : SCode := .cond (.tmp 297) k66_56 .skip
def k66_58 : SCode := .seq k66_54 k66_57
def k66_59 : SCode := .block 5 k66_58
def k66_60 : SCode := .reg [⟨some 268, none, .mov (.tmp 33), [], false⟩, ⟨some 269, none, .bin .add (.tmp 268) (.const (.int .i64 1)), [], false⟩, ⟨some 33, none, .mov (.tmp 269), [], false⟩] [9, 19, 22, 33]
def k66_61 : SCode := .seq k66_59 k66_60
def k66_62 : SCode := .seq k66_53 k66_61
def k66_63 : SCode := .loop k66_62
def k66_64 : SCode := .block 4 k66_63
def k66_65 : SCode := .seq k66_50 k66_64
def k66_66 : SCode := .reg [⟨some 298, none, .call 13 [], [], false⟩, ⟨some 6, none, .mov (.tmp 298), [], false⟩] [6]
def k66_67 : SCode := .seq k66_66 .ret
def k66_68 : SCode := .seq k66_65 k66_67
def k66_69 : SCode := .seq k66_49 k66_68
def k66_70 : SCode := .seq k66_33 k66_69
def k66_71 : SCode := .seq k66_28 k66_70
def k66_72 : SCode := .seq k66_27 k66_71
def k66_73 : SCode := .seq k66_26 k66_72
def k66_74 : SCode := .seq k66_25 k66_73
def k66_75 : SCode := .seq k66_24 k66_74
def k66_76 : SCode := .seq k66_23 k66_75
def k66_77 : SCode := .seq k66_22 k66_76
def k66_78 : SCode := .seq k66_21 k66_77
def k66_79 : SCode := .seq k66_20 k66_78
def k66_80 : SCode := .seq k66_19 k66_79
def k66_81 : SCode := .seq k66_2 k66_80
def k66_82 : SCode := .seq k66_1 k66_81
def k66_83 : SCode := .seq k66_0 k66_82
theorem glaw_turretlaw08_WireLater (cs : List CV) (r : CV) (hl : cs.length ≤ 299) (h : STri (cfF Try.prog fresh 299) k66_83 (initT 0 cs) [] (retQ rs_turretlaw08_WireLater r)) : SC Try.prog 10 cs r :=
  sc_of fresh follows Try.func10 rfl Try.ntmps10 (by decide) (by kernel_rfl) (by kernel_rfl) hl h
end Go.Proofs.Ytakdmliblijgmaa
/- Wire's plain laws, I: an office made of bytes; its sources. -/
namespace Go.Proofs.Ytakdmliblijgmaa
open Go.RowKit
abbrev U8 (n : Int) : CV := .val (.int .u8 n)
structure Sv where
  (a b c d e : Int)
structure Nv where
  (a b c : Int)
structure Of where
  (srcs : List Sv) (notes : List Nv) (by' : Int) (truth : List Int)
def isU8 (n : Int) : Prop := 0 ≤ n ∧ n ≤ 255
structure SvOk (v : Sv) : Prop where
  a : isU8 v.a
  b : isU8 v.b
  c : isU8 v.c
  d : isU8 v.d
  e : isU8 v.e
structure NvOk (v : Nv) : Prop where
  a : isU8 v.a
  b : isU8 v.b
  c : isU8 v.c
structure OfOk (x : Of) : Prop where
  s : ∀ v ∈ x.srcs, SvOk v
  n : ∀ v ∈ x.notes, NvOk v
  y : isU8 x.by'
  t : ∀ n ∈ x.truth, isU8 n
  sl : x.srcs.length ≤ 9223372036854775807
  nl : x.notes.length ≤ 9223372036854775807
  tl : x.truth.length ≤ 9223372036854775807
def rowSv (v : Sv) : List CV := [U8 v.a, U8 v.b, U8 v.c, U8 v.d, U8 v.e]
def rowNv (v : Nv) : List CV := [U8 v.a, U8 v.b, U8 v.c]
def rowY (n : Int) : List CV := [U8 n]
def rowOf (x : Of) : List CV := [.sl 5 (x.srcs.map rowSv), .sl 3 (x.notes.map rowNv), U8 x.by', .sl 1 (x.truth.map rowY)]
def cOf (x : Of) : CV := .agg (rowOf x)
attribute [simp] rowSv rowNv rowY rowOf cOf
def zeroV : Sv := ⟨0, 0, 0, 0, 0⟩
def lowS (v : Sv) : Int := v.b % 30 - 15
def drS (v : Sv) : Int := 50 * (v.e - 128)
def tabTo (v : Sv) (k : Nat) : List Int := (List.range k).map fun (i : Nat) => v.e * ((i : Int) + 1) % 200 - 100
def tabN (v : Sv) : Nat := (1 + v.d % 4).toNat
def srcS (v : Sv) : Wsrc := ⟨1 + v.a % 4, lowS v, lowS v + v.c % 12, 100 * v.d, drS v, drS v + 100 * (v.c % 7), 1 + 37 * v.e, tabTo v (tabN v)⟩
def svAt (x : Of) (i : Nat) : Sv := x.srcs.getD i zeroV
def numS (x : Of) : Nat := if x.srcs.length = 0 then 1 else min x.srcs.length 5
def offL (x : Of) (k : Nat) : List Wsrc := (List.range k).map fun i => srcS (svAt x i)
def offW (x : Of) : List Wsrc := offL x (numS x)
theorem tabTo_succ (v : Sv) (k : Nat) : tabTo v (k + 1) = tabTo v k ++ [v.e * ((k : Int) + 1) % 200 - 100] := by simp [tabTo, List.range_succ]
theorem tabTo_len (v : Sv) (k : Nat) : (tabTo v k).length = k := by simp [tabTo]
theorem offL_succ (x : Of) (k : Nat) : offL x (k + 1) = offL x k ++ [srcS (svAt x k)] := by simp [offL, List.range_succ]
theorem offL_len (x : Of) (k : Nat) : (offL x k).length = k := by simp [offL]
theorem numS_bd (x : Of) : 1 ≤ numS x ∧ numS x ≤ 5 := by unfold numS; split <;> omega
theorem zero_ok : SvOk zeroV := ⟨⟨by decide, by decide⟩, ⟨by decide, by decide⟩, ⟨by decide, by decide⟩, ⟨by decide, by decide⟩, ⟨by decide, by decide⟩⟩
theorem svAt_ok {x : Of} (hx : OfOk x) (i : Nat) : SvOk (svAt x i) := by
  unfold svAt
  rw [List.getD_eq_getElem?_getD]
  cases h : x.srcs[i]? with
  | none => exact zero_ok
  | some v => exact hx.s v (List.mem_of_getElem? h)
theorem lBy (x : Of) (hx : OfOk x) : SC Try.prog 35 [cOf x] (I (x.by' - 128)) := by
  refine law_turretlaw08_Office_by _ _ (by simp) ?_
  obtain ⟨h1, h2⟩ := hx.y
  (repeat' (first | ((first | with_reducible refine st_skip ?_ | with_reducible refine st_exit ?_); (try simp only [seqQ, blockQ, loopQ, forQ, whileQ, reduceIte, Nat.reduceEqDiff])) | (with_reducible refine st_ret ?_; ((try simp only [seqQ, blockQ, loopQ, forQ, whileQ]); first | (with_reducible refine retM_ret ?_) | refine retQ_ret ?_; simp)) | refine st_seq ?_ | refine st_block ?_ | ((with_reducible show (STri _ _ _ _ _) ∧ (STri _ _ _ _ _)); refine And.intro ?_ ?_) | ((first | refine st_reg ?_ | refine buildP_own ?_ | refine appP_own ?_) <;> (simp -dsimp; (repeat (simp -dsimp (disch := (first | omega | assumption | (refine Bool.eq_false_iff.1 ?_; assumption))) only [wrap_in, if_pos, if_neg]; (try simp -dsimp))))) | ((first | refine guardP_of (fun hc => ?_) (fun hc => ?_) | refine st_cond rfl (fun hc => ?_) (fun hc => ?_)) <;> (try simp only [lqA, lqB, lqC, lqD, lqE, lqF, lqG, lqH, lqI, lqJ, lqK, lqL, lqM, lqN, lqO] at hc) <;> (try (exfalso; first | omega | exact bool_tf hc (by assumption) | exact bool_ft hc (by assumption) | exact absurd (by assumption) hc)) <;> (first | with_reducible show STri _ _ _ _ _ _ | (simp -dsimp [hc]; (repeat (simp -dsimp (disch := (first | omega | assumption | (refine Bool.eq_false_iff.1 ?_; assumption))) only [wrap_in, if_pos, if_neg]; (try simp -dsimp [hc]))))))))
  exact .refl _
theorem lRest (n b : Int) (h3 : 0 < b) (h4 : b ≤ 1000000000000) : SC Try.prog 39 [I n, I b] (I (n % b)) := by
  refine law_turretlaw08_rest _ _ (by simp) ?_
  have hne : ¬ b = 0 := by omega
  have hb : IntKind.i64.wrap (n.tmod b + b) = n.tmod b + b := by
    have := tmod_lt n b h3
    exact wrap_in _ (by omega) (by omega)
  have he := mod_eq n b h3
  (repeat' (first | ((first | with_reducible refine st_skip ?_ | with_reducible refine st_exit ?_); (try simp only [seqQ, blockQ, loopQ, forQ, whileQ, reduceIte, Nat.reduceEqDiff])) | (with_reducible refine st_ret ?_; ((try simp only [seqQ, blockQ, loopQ, forQ, whileQ]); first | (with_reducible refine retM_ret ?_) | refine retQ_ret ?_; simp [hne, hb, he])) | refine st_seq ?_ | refine st_block ?_ | ((with_reducible show (STri _ _ _ _ _) ∧ (STri _ _ _ _ _)); refine And.intro ?_ ?_) | ((first | refine st_reg ?_ | refine buildP_own ?_ | refine appP_own ?_) <;> (simp -dsimp [hne, hb, he]; (repeat (simp -dsimp (disch := (first | omega | assumption | (refine Bool.eq_false_iff.1 ?_; assumption))) only [wrap_in, if_pos, if_neg]; (try simp -dsimp [hne, hb, he]))))) | ((first | refine guardP_of (fun hc => ?_) (fun hc => ?_) | refine st_cond rfl (fun hc => ?_) (fun hc => ?_)) <;> (try simp only [lqA, lqB, lqC, lqD, lqE, lqF, lqG, lqH, lqI, lqJ, lqK, lqL, lqM, lqN, lqO] at hc) <;> (try (exfalso; first | omega | exact bool_tf hc (by assumption) | exact bool_ft hc (by assumption) | exact absurd (by assumption) hc)) <;> (first | with_reducible show STri _ _ _ _ _ _ | (simp -dsimp [hne, hb, he, hc]; (repeat (simp -dsimp (disch := (first | omega | assumption | (refine Bool.eq_false_iff.1 ?_; assumption))) only [wrap_in, if_pos, if_neg]; (try simp -dsimp [hne, hb, he, hc]))))))))
  exact .refl _
def byV (l : List Int) (i : Nat) : Int := if l = [] then 0 else l.getD (i % l.length) 0
theorem byV_bd {l : List Int} (h : ∀ n ∈ l, isU8 n) (i : Nat) : isU8 (byV l i) := by
  unfold byV
  split
  · exact ⟨by decide, by decide⟩
  · rename_i hl
    have hlt : i % l.length < l.length := Nat.mod_lt _ (List.length_pos_iff.2 hl)
    have : l.getD (i % l.length) 0 = l[i % l.length] := by simp [hlt]
    rw [this]
    exact h _ (List.getElem_mem hlt)
theorem lByte (l : List Int) (hb : ∀ n ∈ l, isU8 n) (hl : l.length ≤ 9223372036854775807) (i : Nat) (hi : i ≤ 1000000) : SC Try.prog 58 [.sl 1 (l.map rowY), I i] (I (byV l i)) := by
  refine law_turretlaw08_byteOf _ _ (by simp) ?_
  by_cases hn : l = []
  · subst hn
    (repeat' (first | ((first | with_reducible refine st_skip ?_ | with_reducible refine st_exit ?_); (try simp only [seqQ, blockQ, loopQ, forQ, whileQ, reduceIte, Nat.reduceEqDiff])) | (with_reducible refine st_ret ?_; ((try simp only [seqQ, blockQ, loopQ, forQ, whileQ]); first | (with_reducible refine retM_ret ?_) | refine retQ_ret ?_; simp)) | refine st_seq ?_ | refine st_block ?_ | ((with_reducible show (STri _ _ _ _ _) ∧ (STri _ _ _ _ _)); refine And.intro ?_ ?_) | ((first | refine st_reg ?_ | refine buildP_own ?_ | refine appP_own ?_) <;> (simp -dsimp; (repeat (simp -dsimp (disch := (first | omega | assumption | (refine Bool.eq_false_iff.1 ?_; assumption))) only [wrap_in, if_pos, if_neg]; (try simp -dsimp))))) | ((first | refine guardP_of (fun hc => ?_) (fun hc => ?_) | refine st_cond rfl (fun hc => ?_) (fun hc => ?_)) <;> (try simp only [lqA, lqB, lqC, lqD, lqE, lqF, lqG, lqH, lqI, lqJ, lqK, lqL, lqM, lqN, lqO] at hc) <;> (try (exfalso; first | omega | exact bool_tf hc (by assumption) | exact bool_ft hc (by assumption) | exact absurd (by assumption) hc)) <;> (first | with_reducible show STri _ _ _ _ _ _ | (simp -dsimp [hc]; (repeat (simp -dsimp (disch := (first | omega | assumption | (refine Bool.eq_false_iff.1 ?_; assumption))) only [wrap_in, if_pos, if_neg]; (try simp -dsimp [hc]))))))))
    all_goals exact .refl _
  · have hlen : 0 < l.length := List.length_pos_iff.2 hn
    have hlt : i % l.length < l.length := Nat.mod_lt _ hlen
    have hv : byV l i = l[i % l.length] := by unfold byV; rw [if_neg hn]; simp [hlt]
    have hbd := hb _ (List.getElem_mem hlt)
    rw [hv]
    unfold isU8 at hbd
    have hm : (i : Int).tmod (l.length : Int) = ((i % l.length : Nat) : Int) := by
      rw [Int.tmod_eq_emod_of_nonneg (by omega)]; omega
    have hne : ¬ (l.length : Int) = 0 := by omega
    have hw : IntKind.i64.wrap ((i % l.length : Nat) : Int) = ((i % l.length : Nat) : Int) := wrap_in _ (by omega) (by omega)
    generalize i % l.length = j at *
    (repeat' (first | ((first | with_reducible refine st_skip ?_ | with_reducible refine st_exit ?_); (try simp only [seqQ, blockQ, loopQ, forQ, whileQ, reduceIte, Nat.reduceEqDiff])) | (with_reducible refine st_ret ?_; ((try simp only [seqQ, blockQ, loopQ, forQ, whileQ]); first | (with_reducible refine retM_ret ?_) | refine retQ_ret ?_; simp [hn, hm, hne, hlt, hw])) | refine st_seq ?_ | refine st_block ?_ | ((with_reducible show (STri _ _ _ _ _) ∧ (STri _ _ _ _ _)); refine And.intro ?_ ?_) | ((first | refine st_reg ?_ | refine buildP_own ?_ | refine appP_own ?_) <;> (simp -dsimp [hn, hm, hne, hlt, hw]; (repeat (simp -dsimp (disch := (first | omega | assumption | (refine Bool.eq_false_iff.1 ?_; assumption))) only [wrap_in, if_pos, if_neg]; (try simp -dsimp [hn, hm, hne, hlt, hw]))))) | ((first | refine guardP_of (fun hc => ?_) (fun hc => ?_) | refine st_cond rfl (fun hc => ?_) (fun hc => ?_)) <;> (try simp only [lqA, lqB, lqC, lqD, lqE, lqF, lqG, lqH, lqI, lqJ, lqK, lqL, lqM, lqN, lqO] at hc) <;> (try (exfalso; first | omega | exact bool_tf hc (by assumption) | exact bool_ft hc (by assumption) | exact absurd (by assumption) hc)) <;> (first | with_reducible show STri _ _ _ _ _ _ | (simp -dsimp [hn, hm, hne, hlt, hw, hc]; (repeat (simp -dsimp (disch := (first | omega | assumption | (refine Bool.eq_false_iff.1 ?_; assumption))) only [wrap_in, if_pos, if_neg]; (try simp -dsimp [hn, hm, hne, hlt, hw, hc]))))))))
    all_goals exact .refl _
def bxOf (x : Of) : Blk := .box 66 [.c (.sl 5 (x.srcs.map rowSv)), .c (.sl 3 (x.notes.map rowNv)), .c (U8 x.by'), .c (.sl 1 (x.truth.map rowY))]
attribute [simp] bxOf
theorem tab_bd (e : Int) (h : isU8 e) {n : Nat} (hn : n < 4) : 0 ≤ e * ((n : Int) + 1) ∧ e * ((n : Int) + 1) ≤ 1020 := by
  unfold isU8 at h
  rcases (show n = 0 ∨ n = 1 ∨ n = 2 ∨ n = 3 by omega) with rfl | rfl | rfl | rfl <;> simp <;> omega
set_option maxRecDepth 100000 in
set_option maxHeartbeats 2000000 in
theorem lOffS (x : Of) (hx : OfOk x) : SC Try.prog 33 [cOf x] (slSr (offW x)) := by
  refine law_turretlaw08_Office_sources _ _ (by simp) ?_
  unfold cOf offW
  (repeat' (first | ((first | with_reducible refine st_skip ?_ | with_reducible refine st_exit ?_); (try simp only [seqQ, blockQ, loopQ, forQ, whileQ, reduceIte, Nat.reduceEqDiff])) | (with_reducible refine st_ret ?_; ((try simp only [seqQ, blockQ, loopQ, forQ, whileQ]); first | (with_reducible refine retM_ret ?_) | refine retQ_ret ?_; simp)) | refine st_seq ?_ | refine st_block ?_ | ((with_reducible show (STri _ _ _ _ _) ∧ (STri _ _ _ _ _)); refine And.intro ?_ ?_) | ((first | refine st_reg ?_ | refine buildP_own ?_ | refine appP_own ?_) <;> (simp -dsimp; (repeat (simp -dsimp (disch := (first | omega | assumption | (refine Bool.eq_false_iff.1 ?_; assumption))) only [wrap_in, if_pos, if_neg]; (try simp -dsimp))))) | ((first | refine guardP_of (fun hc => ?_) (fun hc => ?_) | refine st_cond rfl (fun hc => ?_) (fun hc => ?_)) <;> (try simp only [lqA, lqB, lqC, lqD, lqE, lqF, lqG, lqH, lqI, lqJ, lqK, lqL, lqM, lqN, lqO] at hc) <;> (try (exfalso; first | omega | exact bool_tf hc (by assumption) | exact bool_ft hc (by assumption) | exact absurd (by assumption) hc)) <;> (first | with_reducible show STri _ _ _ _ _ _ | (simp -dsimp [hc]; (repeat (simp -dsimp (disch := (first | omega | assumption | (refine Bool.eq_false_iff.1 ?_; assumption))) only [wrap_in, if_pos, if_neg]; (try simp -dsimp [hc]))))))))
  refine st_for [1, 10] (numS x) (fun k T H => T = [(1, .ptr 1 0), (3, .own 10 k), (4, .c (I k))] ∧ H = [(1, bxOf x), (10, .arr 79 8 ((offL x k).map rowSr))]) (by simp) ⟨by simp, by simp [offL]⟩ ?_
  rintro k T H hk ⟨rfl, rfl⟩
  obtain ⟨nb1, nb2⟩ := numS_bd x
  have hlenO := offL_len x k
  by_cases hlt : k < numS x
  · have hs := offL_succ x k
    have hA : k ≤ 9223372036854775806 := by omega
    have hB : (k + 1) * 80 ≤ 140737488355328 := by omega
    have hvo := svAt_ok hx k
    obtain ⟨⟨a1, a2⟩, ⟨b1, b2⟩, ⟨c1, c2⟩, ⟨d1, d2⟩, he⟩ := hvo
    obtain ⟨e1, e2⟩ := he
    have htn : ((tabN (svAt x k) : Nat) : Int) = 1 + (svAt x k).d % 4 := by unfold tabN; omega
    have htn2 : tabN (svAt x k) ≤ 4 := by omega
    by_cases hv : k < x.srcs.length
    · have hk5 : (k : Int) < 5 := by omega
      have hgd : svAt x k = x.srcs[k] := by unfold svAt; simp [hv]
      have hgr : ∀ h : k < (x.srcs.map rowSv).length, (x.srcs.map rowSv)[k]'h = rowSv x.srcs[k] := fun h => by simp
      have hq : x.srcs[k]? = some x.srcs[k] := by simp
      rw [hgd] at hs a1 a2 b1 b2 c1 c2 d1 d2 e1 e2 htn htn2
      generalize x.srcs[k] = v at *
      have m1 : v.b.tmod 30 = v.b % 30 := Int.tmod_eq_emod_of_nonneg b1
      have m2 : v.a.tmod 4 = v.a % 4 := Int.tmod_eq_emod_of_nonneg a1
      have m3 : v.c.tmod 12 = v.c % 12 := Int.tmod_eq_emod_of_nonneg c1
      have m4 : v.c.tmod 7 = v.c % 7 := Int.tmod_eq_emod_of_nonneg c1
      have m5 : v.d.tmod 4 = v.d % 4 := Int.tmod_eq_emod_of_nonneg d1
      have l1 := lSpan (v.b % 30 - 15) (v.b % 30 - 15 + v.c % 12)
      have l2 := lSpan (50 * (v.e - 128)) (50 * (v.e - 128) + 100 * (v.c % 7))
      by_cases hk0 : k = 0
      · subst hk0
        (repeat' (first | ((first | with_reducible refine st_skip ?_ | with_reducible refine st_exit ?_); (try simp only [seqQ, blockQ, loopQ, forQ, whileQ, reduceIte, Nat.reduceEqDiff])) | (with_reducible refine st_ret ?_; ((try simp only [seqQ, blockQ, loopQ, forQ, whileQ]); first | (with_reducible refine retM_ret ?_) | refine retQ_ret ?_; simp [hlt, hv, hk5, hgr, hq, m1, m2, m3, m4, m5])) | refine st_seq ?_ | refine st_block ?_ | ((with_reducible show (STri _ _ _ _ _) ∧ (STri _ _ _ _ _)); refine And.intro ?_ ?_) | ((first | refine st_reg ?_ | refine buildP_own ?_ | refine appP_own ?_ | refine callP_b (l1) rfl ?_ | refine callP_b (l2) rfl ?_) <;> (simp -dsimp [hlt, hv, hk5, hgr, hq, m1, m2, m3, m4, m5]; (repeat (simp -dsimp (disch := (first | omega | assumption | (refine Bool.eq_false_iff.1 ?_; assumption))) only [wrap_in, if_pos, if_neg]; (try simp -dsimp [hlt, hv, hk5, hgr, hq, m1, m2, m3, m4, m5]))))) | ((first | refine guardP_of (fun hc => ?_) (fun hc => ?_) | refine st_cond rfl (fun hc => ?_) (fun hc => ?_)) <;> (try simp only [lqA, lqB, lqC, lqD, lqE, lqF, lqG, lqH, lqI, lqJ, lqK, lqL, lqM, lqN, lqO] at hc) <;> (try (exfalso; first | omega | exact bool_tf hc (by assumption) | exact bool_ft hc (by assumption) | exact absurd (by assumption) hc)) <;> (first | with_reducible show STri _ _ _ _ _ _ | (simp -dsimp [hlt, hv, hk5, hgr, hq, m1, m2, m3, m4, m5, hc]; (repeat (simp -dsimp (disch := (first | omega | assumption | (refine Bool.eq_false_iff.1 ?_; assumption))) only [wrap_in, if_pos, if_neg]; (try simp -dsimp [hlt, hv, hk5, hgr, hq, m1, m2, m3, m4, m5, hc]))))))))
        refine st_nilB 7 7 200 3 1 rfl (by simp) rfl (by simp [newOK, setL1]) ?_
        refine st_for [1, 10, 5, 7, 200] (tabN v) (fun n T H => T = [(1, .ptr 1 0), (3, .own 10 0), (4, .c (I 0)), (5, .ptr 5 0), (7, .ptr 7 0), (9, .c (I n))] ∧ H = [(1, bxOf x), (10, .arr 79 8 ((offL x 0).map rowSr)), (5, .box 108 [.c (U8 v.a), .c (U8 v.b), .c (U8 v.c), .c (U8 v.d), .c (U8 v.e)]),
          (7, .box 79 [.c (I (1 + v.a % 4)), .c (I (lowS v)), .c (I (lowS v + v.c % 12)), .c (I (100 * v.d)), .c (I (drS v)), .c (I (drS v + 100 * (v.c % 7))), .c (I (1 + 37 * v.e)), .own 200 n]), (200, .arr 3 1 ((tabTo v n).map rowI))]) (by simp [setL1]) ⟨by simp, by simp [setL1, tabTo, lowS, drS, offL]⟩ ?_
        rintro n T H hn ⟨rfl, rfl⟩
        have hlenT := tabTo_len v n
        by_cases hn2 : n < tabN v
        · have hn3 : (n : Int) < 1 + v.d % 4 := by omega
          have hn4 : n < 4 := by omega
          obtain ⟨p1, p2⟩ := tab_bd v.e ⟨e1, e2⟩ hn4
          have m6 : (v.e * ((n : Int) + 1)).tmod 200 = v.e * ((n : Int) + 1) % 200 := Int.tmod_eq_emod_of_nonneg p1
          have hst := tabTo_succ v n
          have hA2 : n ≤ 9223372036854775806 := by omega
          have hB2 : (n + 1) * 8 ≤ 140737488355328 := by omega
          have hw : IntKind.i64.wrap (v.e * ((n : Int) + 1)) = v.e * ((n : Int) + 1) := wrap_in _ (by omega) (by omega)
          (repeat' (first | ((first | with_reducible refine st_skip ?_ | with_reducible refine st_exit ?_); (try simp only [seqQ, blockQ, loopQ, forQ, whileQ, reduceIte, Nat.reduceEqDiff])) | (with_reducible refine st_ret ?_; ((try simp only [seqQ, blockQ, loopQ, forQ, whileQ]); first | (with_reducible refine retM_ret ?_) | refine retQ_ret ?_; simp [hn3, m5, m6, hw, hlenT, hA2, hB2])) | refine st_seq ?_ | refine st_block ?_ | ((with_reducible show (STri _ _ _ _ _) ∧ (STri _ _ _ _ _)); refine And.intro ?_ ?_) | ((first | refine st_reg ?_ | refine buildP_own ?_ | refine appP_own ?_) <;> (simp -dsimp [hn3, m5, m6, hw, hlenT, hA2, hB2]; (repeat (simp -dsimp (disch := (first | omega | assumption | (refine Bool.eq_false_iff.1 ?_; assumption))) only [wrap_in, if_pos, if_neg]; (try simp -dsimp [hn3, m5, m6, hw, hlenT, hA2, hB2]))))) | ((first | refine guardP_of (fun hc => ?_) (fun hc => ?_) | refine st_cond rfl (fun hc => ?_) (fun hc => ?_)) <;> (try simp only [lqA, lqB, lqC, lqD, lqE, lqF, lqG, lqH, lqI, lqJ, lqK, lqL, lqM, lqN, lqO] at hc) <;> (try (exfalso; first | omega | exact bool_tf hc (by assumption) | exact bool_ft hc (by assumption) | exact absurd (by assumption) hc)) <;> (first | with_reducible show STri _ _ _ _ _ _ | (simp -dsimp [hn3, m5, m6, hw, hlenT, hA2, hB2, hc]; (repeat (simp -dsimp (disch := (first | omega | assumption | (refine Bool.eq_false_iff.1 ?_; assumption))) only [wrap_in, if_pos, if_neg]; (try simp -dsimp [hn3, m5, m6, hw, hlenT, hA2, hB2, hc]))))))))
          all_goals exact ⟨hn2, by simp, by simp, by simp [hst]⟩
        · have hnn : n = tabN v := by omega
          have hn3 : ¬ (n : Int) < 1 + v.d % 4 := by omega
          (repeat' (first | ((with_reducible show STri _ k57_27 _ _ _); refine st_shut1 200 rfl (by simp [dropOK, dropK]) (by simp [ClosO, ownS, dropK, SV.outD, hlenT]) (by simp [ShutH, ShutB, ownL, ownS, dropK, SV.outD, outDL, Blk.outD, hlenT]) ?_; simp) | ((first | with_reducible refine st_skip ?_ | with_reducible refine st_exit ?_); (try simp only [seqQ, blockQ, loopQ, forQ, whileQ, reduceIte, Nat.reduceEqDiff])) | (with_reducible refine st_ret ?_; ((try simp only [seqQ, blockQ, loopQ, forQ, whileQ]); first | (with_reducible refine retM_ret ?_) | refine retQ_ret ?_; simp [hn3, m5, hlenO, hA, hB])) | refine st_seq ?_ | refine st_block ?_ | ((with_reducible show (STri _ _ _ _ _) ∧ (STri _ _ _ _ _)); refine And.intro ?_ ?_) | ((first | refine st_reg ?_ | refine buildP_own ?_ | refine appP_own ?_) <;> (simp -dsimp [hn3, m5, hlenO, hA, hB]; (repeat (simp -dsimp (disch := (first | omega | assumption | (refine Bool.eq_false_iff.1 ?_; assumption))) only [wrap_in, if_pos, if_neg]; (try simp -dsimp [hn3, m5, hlenO, hA, hB]))))) | ((first | refine guardP_of (fun hc => ?_) (fun hc => ?_) | refine st_cond rfl (fun hc => ?_) (fun hc => ?_)) <;> (try simp only [lqA, lqB, lqC, lqD, lqE, lqF, lqG, lqH, lqI, lqJ, lqK, lqL, lqM, lqN, lqO] at hc) <;> (try (exfalso; first | omega | exact bool_tf hc (by assumption) | exact bool_ft hc (by assumption) | exact absurd (by assumption) hc)) <;> (first | with_reducible show STri _ _ _ _ _ _ | (simp -dsimp [hn3, m5, hlenO, hA, hB, hc]; (repeat (simp -dsimp (disch := (first | omega | assumption | (refine Bool.eq_false_iff.1 ?_; assumption))) only [wrap_in, if_pos, if_neg]; (try simp -dsimp [hn3, m5, hlenO, hA, hB, hc]))))))))
          all_goals (subst hnn; exact ⟨hlt, by simp, by simp, by rw [hs]; simp [srcS, lowS, drS]⟩)
      · skip
        (repeat' (first | ((first | with_reducible refine st_skip ?_ | with_reducible refine st_exit ?_); (try simp only [seqQ, blockQ, loopQ, forQ, whileQ, reduceIte, Nat.reduceEqDiff])) | (with_reducible refine st_ret ?_; ((try simp only [seqQ, blockQ, loopQ, forQ, whileQ]); first | (with_reducible refine retM_ret ?_) | refine retQ_ret ?_; simp [hlt, hv, hk5, hgr, hq, m1, m2, m3, m4, m5])) | refine st_seq ?_ | refine st_block ?_ | ((with_reducible show (STri _ _ _ _ _) ∧ (STri _ _ _ _ _)); refine And.intro ?_ ?_) | ((first | refine st_reg ?_ | refine buildP_own ?_ | refine appP_own ?_ | refine callP_b (l1) rfl ?_ | refine callP_b (l2) rfl ?_) <;> (simp -dsimp [hlt, hv, hk5, hgr, hq, m1, m2, m3, m4, m5]; (repeat (simp -dsimp (disch := (first | omega | assumption | (refine Bool.eq_false_iff.1 ?_; assumption))) only [wrap_in, if_pos, if_neg]; (try simp -dsimp [hlt, hv, hk5, hgr, hq, m1, m2, m3, m4, m5]))))) | ((first | refine guardP_of (fun hc => ?_) (fun hc => ?_) | refine st_cond rfl (fun hc => ?_) (fun hc => ?_)) <;> (try simp only [lqA, lqB, lqC, lqD, lqE, lqF, lqG, lqH, lqI, lqJ, lqK, lqL, lqM, lqN, lqO] at hc) <;> (try (exfalso; first | omega | exact bool_tf hc (by assumption) | exact bool_ft hc (by assumption) | exact absurd (by assumption) hc)) <;> (first | with_reducible show STri _ _ _ _ _ _ | (simp -dsimp [hlt, hv, hk5, hgr, hq, m1, m2, m3, m4, m5, hc]; (repeat (simp -dsimp (disch := (first | omega | assumption | (refine Bool.eq_false_iff.1 ?_; assumption))) only [wrap_in, if_pos, if_neg]; (try simp -dsimp [hlt, hv, hk5, hgr, hq, m1, m2, m3, m4, m5, hc]))))))))
        refine st_nilB 7 7 200 3 1 rfl (by simp) rfl (by simp [newOK, setL1]) ?_
        refine st_for [1, 10, 5, 7, 200] (tabN v) (fun n T H => T = [(1, .ptr 1 0), (3, .own 10 k), (4, .c (I k)), (5, .ptr 5 0), (7, .ptr 7 0), (9, .c (I n))] ∧ H = [(1, bxOf x), (10, .arr 79 8 ((offL x k).map rowSr)), (5, .box 108 [.c (U8 v.a), .c (U8 v.b), .c (U8 v.c), .c (U8 v.d), .c (U8 v.e)]),
          (7, .box 79 [.c (I (1 + v.a % 4)), .c (I (lowS v)), .c (I (lowS v + v.c % 12)), .c (I (100 * v.d)), .c (I (drS v)), .c (I (drS v + 100 * (v.c % 7))), .c (I (1 + 37 * v.e)), .own 200 n]), (200, .arr 3 1 ((tabTo v n).map rowI))]) (by simp [setL1]) ⟨by simp, by simp [setL1, tabTo, lowS, drS]⟩ ?_
        rintro n T H hn ⟨rfl, rfl⟩
        have hlenT := tabTo_len v n
        by_cases hn2 : n < tabN v
        · have hn3 : (n : Int) < 1 + v.d % 4 := by omega
          have hn4 : n < 4 := by omega
          obtain ⟨p1, p2⟩ := tab_bd v.e ⟨e1, e2⟩ hn4
          have m6 : (v.e * ((n : Int) + 1)).tmod 200 = v.e * ((n : Int) + 1) % 200 := Int.tmod_eq_emod_of_nonneg p1
          have hst := tabTo_succ v n
          have hA2 : n ≤ 9223372036854775806 := by omega
          have hB2 : (n + 1) * 8 ≤ 140737488355328 := by omega
          have hw : IntKind.i64.wrap (v.e * ((n : Int) + 1)) = v.e * ((n : Int) + 1) := wrap_in _ (by omega) (by omega)
          (repeat' (first | ((first | with_reducible refine st_skip ?_ | with_reducible refine st_exit ?_); (try simp only [seqQ, blockQ, loopQ, forQ, whileQ, reduceIte, Nat.reduceEqDiff])) | (with_reducible refine st_ret ?_; ((try simp only [seqQ, blockQ, loopQ, forQ, whileQ]); first | (with_reducible refine retM_ret ?_) | refine retQ_ret ?_; simp [hn3, m5, m6, hw, hlenT, hA2, hB2])) | refine st_seq ?_ | refine st_block ?_ | ((with_reducible show (STri _ _ _ _ _) ∧ (STri _ _ _ _ _)); refine And.intro ?_ ?_) | ((first | refine st_reg ?_ | refine buildP_own ?_ | refine appP_own ?_) <;> (simp -dsimp [hn3, m5, m6, hw, hlenT, hA2, hB2]; (repeat (simp -dsimp (disch := (first | omega | assumption | (refine Bool.eq_false_iff.1 ?_; assumption))) only [wrap_in, if_pos, if_neg]; (try simp -dsimp [hn3, m5, m6, hw, hlenT, hA2, hB2]))))) | ((first | refine guardP_of (fun hc => ?_) (fun hc => ?_) | refine st_cond rfl (fun hc => ?_) (fun hc => ?_)) <;> (try simp only [lqA, lqB, lqC, lqD, lqE, lqF, lqG, lqH, lqI, lqJ, lqK, lqL, lqM, lqN, lqO] at hc) <;> (try (exfalso; first | omega | exact bool_tf hc (by assumption) | exact bool_ft hc (by assumption) | exact absurd (by assumption) hc)) <;> (first | with_reducible show STri _ _ _ _ _ _ | (simp -dsimp [hn3, m5, m6, hw, hlenT, hA2, hB2, hc]; (repeat (simp -dsimp (disch := (first | omega | assumption | (refine Bool.eq_false_iff.1 ?_; assumption))) only [wrap_in, if_pos, if_neg]; (try simp -dsimp [hn3, m5, m6, hw, hlenT, hA2, hB2, hc]))))))))
          all_goals exact ⟨hn2, by simp, by simp, by simp [hst]⟩
        · have hnn : n = tabN v := by omega
          have hn3 : ¬ (n : Int) < 1 + v.d % 4 := by omega
          (repeat' (first | ((with_reducible show STri _ k57_27 _ _ _); refine st_shut1 200 rfl (by simp [dropOK, dropK]) (by simp [ClosO, ownS, dropK, SV.outD, hlenT]) (by simp [ShutH, ShutB, ownL, ownS, dropK, SV.outD, outDL, Blk.outD, hlenT]) ?_; simp) | ((first | with_reducible refine st_skip ?_ | with_reducible refine st_exit ?_); (try simp only [seqQ, blockQ, loopQ, forQ, whileQ, reduceIte, Nat.reduceEqDiff])) | (with_reducible refine st_ret ?_; ((try simp only [seqQ, blockQ, loopQ, forQ, whileQ]); first | (with_reducible refine retM_ret ?_) | refine retQ_ret ?_; simp [hn3, m5, hlenO, hA, hB])) | refine st_seq ?_ | refine st_block ?_ | ((with_reducible show (STri _ _ _ _ _) ∧ (STri _ _ _ _ _)); refine And.intro ?_ ?_) | ((first | refine st_reg ?_ | refine buildP_own ?_ | refine appP_own ?_) <;> (simp -dsimp [hn3, m5, hlenO, hA, hB]; (repeat (simp -dsimp (disch := (first | omega | assumption | (refine Bool.eq_false_iff.1 ?_; assumption))) only [wrap_in, if_pos, if_neg]; (try simp -dsimp [hn3, m5, hlenO, hA, hB]))))) | ((first | refine guardP_of (fun hc => ?_) (fun hc => ?_) | refine st_cond rfl (fun hc => ?_) (fun hc => ?_)) <;> (try simp only [lqA, lqB, lqC, lqD, lqE, lqF, lqG, lqH, lqI, lqJ, lqK, lqL, lqM, lqN, lqO] at hc) <;> (try (exfalso; first | omega | exact bool_tf hc (by assumption) | exact bool_ft hc (by assumption) | exact absurd (by assumption) hc)) <;> (first | with_reducible show STri _ _ _ _ _ _ | (simp -dsimp [hn3, m5, hlenO, hA, hB, hc]; (repeat (simp -dsimp (disch := (first | omega | assumption | (refine Bool.eq_false_iff.1 ?_; assumption))) only [wrap_in, if_pos, if_neg]; (try simp -dsimp [hn3, m5, hlenO, hA, hB, hc]))))))))
          all_goals (subst hnn; exact ⟨hlt, by simp, by simp, by rw [hs]; simp [srcS, lowS, drS]⟩)
    · have hk0 : k = 0 ∧ x.srcs.length = 0 := by
        unfold numS at hlt
        split at hlt
        · omega
        · omega
      obtain ⟨rfl, hl0⟩ := hk0
      have hf0 : x.srcs = [] := List.length_eq_zero_iff.1 hl0
      have hgd : svAt x 0 = zeroV := by unfold svAt; rw [hf0]; rfl
      rw [hgd] at hs
      have l1 := lSpan (-15) (-15)
      have l2 := lSpan (-6400) (-6400)
      (repeat' (first | ((first | with_reducible refine st_skip ?_ | with_reducible refine st_exit ?_); (try simp only [seqQ, blockQ, loopQ, forQ, whileQ, reduceIte, Nat.reduceEqDiff])) | (with_reducible refine st_ret ?_; ((try simp only [seqQ, blockQ, loopQ, forQ, whileQ]); first | (with_reducible refine retM_ret ?_) | refine retQ_ret ?_; simp [hf0])) | refine st_seq ?_ | refine st_block ?_ | ((with_reducible show (STri _ _ _ _ _) ∧ (STri _ _ _ _ _)); refine And.intro ?_ ?_) | ((first | refine st_reg ?_ | refine buildP_own ?_ | refine appP_own ?_ | refine callP_b (l1) rfl ?_ | refine callP_b (l2) rfl ?_) <;> (simp -dsimp [hf0]; (repeat (simp -dsimp (disch := (first | omega | assumption | (refine Bool.eq_false_iff.1 ?_; assumption))) only [wrap_in, if_pos, if_neg]; (try simp -dsimp [hf0]))))) | ((first | refine guardP_of (fun hc => ?_) (fun hc => ?_) | refine st_cond rfl (fun hc => ?_) (fun hc => ?_)) <;> (try simp only [lqA, lqB, lqC, lqD, lqE, lqF, lqG, lqH, lqI, lqJ, lqK, lqL, lqM, lqN, lqO] at hc) <;> (try (exfalso; first | omega | exact bool_tf hc (by assumption) | exact bool_ft hc (by assumption) | exact absurd (by assumption) hc)) <;> (first | with_reducible show STri _ _ _ _ _ _ | (simp -dsimp [hf0, hc]; (repeat (simp -dsimp (disch := (first | omega | assumption | (refine Bool.eq_false_iff.1 ?_; assumption))) only [wrap_in, if_pos, if_neg]; (try simp -dsimp [hf0, hc]))))))))
      refine st_nilB 7 7 200 3 1 rfl (by simp) rfl (by simp [newOK, setL1]) ?_
      refine st_for [1, 10, 5, 7, 200] 1 (fun n T H => T = [(1, .ptr 1 0), (3, .own 10 0), (4, .c (I 0)), (5, .ptr 5 0), (7, .ptr 7 0), (9, .c (I n))] ∧ H = [(1, bxOf x), (10, .arr 79 8 []), (5, .box 108 [.c (U8 0), .c (U8 0), .c (U8 0), .c (U8 0), .c (U8 0)]),
          (7, .box 79 [.c (I 1), .c (I (-15)), .c (I (-15)), .c (I 0), .c (I (-6400)), .c (I (-6400)), .c (I 1), .own 200 n]), (200, .arr 3 1 ((tabTo zeroV n).map rowI))]) (by simp [setL1]) ⟨by simp, by simp [setL1, tabTo, offL, hf0]⟩ ?_
      rintro n T H hn ⟨rfl, rfl⟩
      have hlenT := tabTo_len zeroV n
      by_cases hn2 : n < 1
      · have hn0 : n = 0 := by omega
        subst hn0
        have hst := tabTo_succ zeroV 0
        (repeat' (first | ((first | with_reducible refine st_skip ?_ | with_reducible refine st_exit ?_); (try simp only [seqQ, blockQ, loopQ, forQ, whileQ, reduceIte, Nat.reduceEqDiff])) | (with_reducible refine st_ret ?_; ((try simp only [seqQ, blockQ, loopQ, forQ, whileQ]); first | (with_reducible refine retM_ret ?_) | refine retQ_ret ?_; simp [hlenT])) | refine st_seq ?_ | refine st_block ?_ | ((with_reducible show (STri _ _ _ _ _) ∧ (STri _ _ _ _ _)); refine And.intro ?_ ?_) | ((first | refine st_reg ?_ | refine buildP_own ?_ | refine appP_own ?_) <;> (simp -dsimp [hlenT]; (repeat (simp -dsimp (disch := (first | omega | assumption | (refine Bool.eq_false_iff.1 ?_; assumption))) only [wrap_in, if_pos, if_neg]; (try simp -dsimp [hlenT]))))) | ((first | refine guardP_of (fun hc => ?_) (fun hc => ?_) | refine st_cond rfl (fun hc => ?_) (fun hc => ?_)) <;> (try simp only [lqA, lqB, lqC, lqD, lqE, lqF, lqG, lqH, lqI, lqJ, lqK, lqL, lqM, lqN, lqO] at hc) <;> (try (exfalso; first | omega | exact bool_tf hc (by assumption) | exact bool_ft hc (by assumption) | exact absurd (by assumption) hc)) <;> (first | with_reducible show STri _ _ _ _ _ _ | (simp -dsimp [hlenT, hc]; (repeat (simp -dsimp (disch := (first | omega | assumption | (refine Bool.eq_false_iff.1 ?_; assumption))) only [wrap_in, if_pos, if_neg]; (try simp -dsimp [hlenT, hc]))))))))
        all_goals exact ⟨hn2, by simp, by simp, by simp [hst, tabTo, zeroV]⟩
      · have hnn : n = 1 := by omega
        subst hnn
        (repeat' (first | ((with_reducible show STri _ k57_27 _ _ _); refine st_shut1 200 rfl (by simp [dropOK, dropK]) (by simp [ClosO, ownS, dropK, SV.outD, hlenT]) (by simp [ShutH, ShutB, ownL, ownS, dropK, SV.outD, outDL, Blk.outD, hlenT]) ?_; simp) | ((first | with_reducible refine st_skip ?_ | with_reducible refine st_exit ?_); (try simp only [seqQ, blockQ, loopQ, forQ, whileQ, reduceIte, Nat.reduceEqDiff])) | (with_reducible refine st_ret ?_; ((try simp only [seqQ, blockQ, loopQ, forQ, whileQ]); first | (with_reducible refine retM_ret ?_) | refine retQ_ret ?_; simp [hlenT])) | refine st_seq ?_ | refine st_block ?_ | ((with_reducible show (STri _ _ _ _ _) ∧ (STri _ _ _ _ _)); refine And.intro ?_ ?_) | ((first | refine st_reg ?_ | refine buildP_own ?_ | refine appP_own ?_) <;> (simp -dsimp [hlenT]; (repeat (simp -dsimp (disch := (first | omega | assumption | (refine Bool.eq_false_iff.1 ?_; assumption))) only [wrap_in, if_pos, if_neg]; (try simp -dsimp [hlenT]))))) | ((first | refine guardP_of (fun hc => ?_) (fun hc => ?_) | refine st_cond rfl (fun hc => ?_) (fun hc => ?_)) <;> (try simp only [lqA, lqB, lqC, lqD, lqE, lqF, lqG, lqH, lqI, lqJ, lqK, lqL, lqM, lqN, lqO] at hc) <;> (try (exfalso; first | omega | exact bool_tf hc (by assumption) | exact bool_ft hc (by assumption) | exact absurd (by assumption) hc)) <;> (first | with_reducible show STri _ _ _ _ _ _ | (simp -dsimp [hlenT, hc]; (repeat (simp -dsimp (disch := (first | omega | assumption | (refine Bool.eq_false_iff.1 ?_; assumption))) only [wrap_in, if_pos, if_neg]; (try simp -dsimp [hlenT, hc]))))))))
        all_goals exact ⟨hlt, by simp, by simp, by rw [hs]; simp [srcS, lowS, drS, zeroV, offL, tabN, tabTo]⟩
  · have hkn : k = numS x := by omega
    have hb : ¬ k = 0 ∧ ¬ (k < x.srcs.length ∧ k < 5) := by
      unfold numS at hkn
      split at hkn
      · omega
      · omega
    obtain ⟨b1, b2⟩ := hb
    subst hkn
    by_cases hv : numS x < x.srcs.length
    · have hv2 : ¬ (numS x : Int) < 5 := by omega
      (repeat' (first | ((first | with_reducible refine st_skip ?_ | with_reducible refine st_exit ?_); (try simp only [seqQ, blockQ, loopQ, forQ, whileQ, reduceIte, Nat.reduceEqDiff])) | (with_reducible refine st_ret ?_; ((try simp only [seqQ, blockQ, loopQ, forQ, whileQ]); first | (with_reducible refine retM_ret ?_) | refine retQ_ret ?_; simp [b1, hv, hv2, hlenO])) | refine st_seq ?_ | refine st_block ?_ | ((with_reducible show (STri _ _ _ _ _) ∧ (STri _ _ _ _ _)); refine And.intro ?_ ?_) | ((first | refine st_reg ?_ | refine buildP_own ?_ | refine appP_own ?_) <;> (simp -dsimp [b1, hv, hv2, hlenO]; (repeat (simp -dsimp (disch := (first | omega | assumption | (refine Bool.eq_false_iff.1 ?_; assumption))) only [wrap_in, if_pos, if_neg]; (try simp -dsimp [b1, hv, hv2, hlenO]))))) | ((first | refine guardP_of (fun hc => ?_) (fun hc => ?_) | refine st_cond rfl (fun hc => ?_) (fun hc => ?_)) <;> (try simp only [lqA, lqB, lqC, lqD, lqE, lqF, lqG, lqH, lqI, lqJ, lqK, lqL, lqM, lqN, lqO] at hc) <;> (try (exfalso; first | omega | exact bool_tf hc (by assumption) | exact bool_ft hc (by assumption) | exact absurd (by assumption) hc)) <;> (first | with_reducible show STri _ _ _ _ _ _ | (simp -dsimp [b1, hv, hv2, hlenO, hc]; (repeat (simp -dsimp (disch := (first | omega | assumption | (refine Bool.eq_false_iff.1 ?_; assumption))) only [wrap_in, if_pos, if_neg]; (try simp -dsimp [b1, hv, hv2, hlenO, hc]))))))))
      all_goals exact .refl _
    · (repeat' (first | ((first | with_reducible refine st_skip ?_ | with_reducible refine st_exit ?_); (try simp only [seqQ, blockQ, loopQ, forQ, whileQ, reduceIte, Nat.reduceEqDiff])) | (with_reducible refine st_ret ?_; ((try simp only [seqQ, blockQ, loopQ, forQ, whileQ]); first | (with_reducible refine retM_ret ?_) | refine retQ_ret ?_; simp [b1, hv, hlenO])) | refine st_seq ?_ | refine st_block ?_ | ((with_reducible show (STri _ _ _ _ _) ∧ (STri _ _ _ _ _)); refine And.intro ?_ ?_) | ((first | refine st_reg ?_ | refine buildP_own ?_ | refine appP_own ?_) <;> (simp -dsimp [b1, hv, hlenO]; (repeat (simp -dsimp (disch := (first | omega | assumption | (refine Bool.eq_false_iff.1 ?_; assumption))) only [wrap_in, if_pos, if_neg]; (try simp -dsimp [b1, hv, hlenO]))))) | ((first | refine guardP_of (fun hc => ?_) (fun hc => ?_) | refine st_cond rfl (fun hc => ?_) (fun hc => ?_)) <;> (try simp only [lqA, lqB, lqC, lqD, lqE, lqF, lqG, lqH, lqI, lqJ, lqK, lqL, lqM, lqN, lqO] at hc) <;> (try (exfalso; first | omega | exact bool_tf hc (by assumption) | exact bool_ft hc (by assumption) | exact absurd (by assumption) hc)) <;> (first | with_reducible show STri _ _ _ _ _ _ | (simp -dsimp [b1, hv, hlenO, hc]; (repeat (simp -dsimp (disch := (first | omega | assumption | (refine Bool.eq_false_iff.1 ?_; assumption))) only [wrap_in, if_pos, if_neg]; (try simp -dsimp [b1, hv, hlenO, hc]))))))))
      all_goals exact .refl _
end Go.Proofs.Ytakdmliblijgmaa
/- Wire's plain laws, II: notes that were made truly. -/
namespace Go.Proofs.Ytakdmliblijgmaa
open Go.RowKit
/-! What a note says, and when -/
def nvAt (x : Of) (i : Nat) : Nv := x.notes.getD i ⟨0, 0, 0⟩
def srcI (x : Of) (i : Nat) : Nat := ((nvAt x i).a % (numS x : Nat)).toNat
def srcN (x : Of) (i : Nat) : Wsrc := srcS (svAt x (srcI x i))
def errN (x : Of) (i : Nat) : Int := (srcN x i).elo + byV x.truth i % ((srcN x i).ehi - (srcN x i).elo + 1)
def baseN (x : Of) (i : Nat) : Int := 30000 + 1000 * (nvAt x i).b + (nvAt x i).c
def tabAt (s : Wsrc) (d : Int) : Int := s.table.getD (d % (s.table.length : Nat)).toNat 0
def timeN (x : Of) (i : Nat) : Int :=
  if (srcN x i).kind = 2 then (srcN x i).at' + ((nvAt x i).b + 200) * (srcN x i).every + errN x i
  else if (srcN x i).kind = 3 then (1 + (nvAt x i).b) * 86400 + tabAt (srcN x i) (1 + (nvAt x i).b) + errN x i
  else if (srcN x i).kind = 4 then baseN x i + errN x i else baseN x i
def drfN (x : Of) (i : Nat) : Int := if (nvAt x i).c % 2 = 1 then (srcN x i).dhi * (baseN x i - (srcN x i).at') else (srcN x i).dlo * (baseN x i - (srcN x i).at')
def saidN (x : Of) (i : Nat) : Int :=
  if (srcN x i).kind = 2 then 0 else if (srcN x i).kind = 3 then 0 else if (srcN x i).kind = 4 then baseN x i
  else (baseN x i + errN x i + drfN x i / 86400000) % 43200
def noteN (x : Of) (i : Nat) : Wnt := ⟨srcI x i, timeN x i - (x.by' - 128), saidN x i⟩
def notesTo' (x : Of) (k : Nat) : List Wnt := ((List.range k).map (noteN x)).filter fun n => decide (0 ≤ n.tick)
def numN (x : Of) : Nat := min x.notes.length 8
def offN (x : Of) : List Wnt := notesTo' x (numN x)
theorem notesTo_succ' (x : Of) (k : Nat) : notesTo' x (k + 1) = if 0 ≤ timeN x k - (x.by' - 128) then notesTo' x k ++ [noteN x k] else notesTo' x k := by
  show notesTo' x (k + 1) = if 0 ≤ (noteN x k).tick then notesTo' x k ++ [noteN x k] else notesTo' x k
  unfold notesTo'
  rw [List.range_succ, List.map_append, List.filter_append]
  by_cases h : 0 ≤ (noteN x k).tick <;> simp [h]
theorem notesTo_len' (x : Of) (k : Nat) : (notesTo' x k).length ≤ k := by
  unfold notesTo'
  exact Nat.le_trans (List.length_filter_le _ _) (by simp)
theorem nvAt_ok {x : Of} (hx : OfOk x) (i : Nat) : NvOk (nvAt x i) := by
  unfold nvAt
  rw [List.getD_eq_getElem?_getD]
  cases h : x.notes[i]? with
  | none => exact ⟨⟨by decide, by decide⟩, ⟨by decide, by decide⟩, ⟨by decide, by decide⟩⟩
  | some v => exact hx.n v (List.mem_of_getElem? h)
structure SrcBd (s : Wsrc) : Prop where
  k : s.kind = 1 ∨ s.kind = 2 ∨ s.kind = 3 ∨ s.kind = 4
  e0 : -15 ≤ s.elo
  e1 : s.elo ≤ s.ehi
  e2 : s.ehi ≤ s.elo + 11
  e3 : s.elo ≤ 14
  a0 : 0 ≤ s.at'
  a1 : s.at' ≤ 25500
  d0 : -6400 ≤ s.dlo
  d1 : s.dlo ≤ s.dhi
  d2 : s.dhi ≤ s.dlo + 600
  d3 : s.dlo ≤ 6350
  v0 : 1 ≤ s.every
  v1 : s.every ≤ 9436
  t0 : 1 ≤ s.table.length
  t1 : s.table.length ≤ 4
  t2 : ∀ n ∈ s.table, -100 ≤ n ∧ n ≤ 99
theorem src_bd {v : Sv} (hv : SvOk v) : SrcBd (srcS v) := by
  obtain ⟨⟨a1, a2⟩, ⟨b1, b2⟩, ⟨c1, c2⟩, ⟨d1, d2⟩, ⟨e1, e2⟩⟩ := hv
  have ht : ((tabN v : Nat) : Int) = 1 + v.d % 4 := by unfold tabN; omega
  refine ⟨?_, ?_, ?_, ?_, ?_, ?_, ?_, ?_, ?_, ?_, ?_, ?_, ?_, ?_, ?_, fun n hn => ?_⟩
  any_goals (show _ ≤ _; simp only [srcS, lowS, drS]; omega)
  · show 1 + v.a % 4 = 1 ∨ 1 + v.a % 4 = 2 ∨ 1 + v.a % 4 = 3 ∨ 1 + v.a % 4 = 4
    omega
  · show 1 ≤ (tabTo v (tabN v)).length
    rw [tabTo_len]; omega
  · show (tabTo v (tabN v)).length ≤ 4
    rw [tabTo_len]; omega
  · have hn : n ∈ tabTo v (tabN v) := hn
    unfold tabTo at hn
    obtain ⟨i, _, rfl⟩ := List.mem_map.1 hn
    omega
theorem srcN_bd {x : Of} (hx : OfOk x) (i : Nat) : SrcBd (srcN x i) := src_bd (svAt_ok hx _)
theorem srcI_lt {x : Of} (i : Nat) : srcI x i < numS x := by
  have := numS_bd x
  have h1 := Int.emod_nonneg (nvAt x i).a (show ((numS x : Nat) : Int) ≠ 0 by omega)
  have h2 := Int.emod_lt_of_pos (nvAt x i).a (show 0 < ((numS x : Nat) : Int) by omega)
  unfold srcI; omega
theorem err_bd {x : Of} (hx : OfOk x) (i : Nat) : (srcN x i).elo ≤ errN x i ∧ errN x i ≤ (srcN x i).ehi := by
  have hs := srcN_bd hx i
  have h0 := hs.e1
  have h1 := Int.emod_nonneg (byV x.truth i) (show (srcN x i).ehi - (srcN x i).elo + 1 ≠ 0 by omega)
  have h2 := Int.emod_lt_of_pos (byV x.truth i) (show 0 < (srcN x i).ehi - (srcN x i).elo + 1 by omega)
  unfold errN; omega
theorem base_bd {x : Of} (hx : OfOk x) (i : Nat) : 30000 ≤ baseN x i ∧ baseN x i ≤ 285255 := by
  obtain ⟨_, ⟨b1, b2⟩, ⟨c1, c2⟩⟩ := nvAt_ok hx i
  unfold baseN; omega
theorem mulBd {a b A B : Int} (h1 : -A ≤ a) (h2 : a ≤ A) (h3 : 0 ≤ b) (h4 : b ≤ B) (h0 : 0 ≤ A) : -(A * B) ≤ a * b ∧ a * b ≤ A * B := by
  have e1 : a * b ≤ A * b := Int.mul_le_mul_of_nonneg_right h2 h3
  have e2 : A * b ≤ A * B := Int.mul_le_mul_of_nonneg_left h4 h0
  have e3 : -A * b ≤ a * b := Int.mul_le_mul_of_nonneg_right h1 h3
  have e4 : -A * b = -(A * b) := Int.neg_mul A b
  omega
theorem ev_bd {x : Of} (hx : OfOk x) (i : Nat) : 200 ≤ ((nvAt x i).b + 200) * (srcN x i).every ∧ ((nvAt x i).b + 200) * (srcN x i).every ≤ 4293380 := by
  obtain ⟨_, ⟨b1, b2⟩, _⟩ := nvAt_ok hx i
  have hs := srcN_bd hx i
  have h0 := hs.v0
  have h1 := hs.v1
  have e1 : ((nvAt x i).b + 200) * (srcN x i).every ≤ 455 * (srcN x i).every := Int.mul_le_mul_of_nonneg_right (by omega) (by omega)
  have e2 : ((nvAt x i).b + 200) * 1 ≤ ((nvAt x i).b + 200) * (srcN x i).every := Int.mul_le_mul_of_nonneg_left h0 (by omega)
  omega
theorem drf_bd {x : Of} (hx : OfOk x) (i : Nat) : (-2000000000 ≤ (srcN x i).dlo * (baseN x i - (srcN x i).at') ∧ (srcN x i).dlo * (baseN x i - (srcN x i).at') ≤ 2000000000) ∧ (-2000000000 ≤ (srcN x i).dhi * (baseN x i - (srcN x i).at') ∧ (srcN x i).dhi * (baseN x i - (srcN x i).at') ≤ 2000000000) := by
  have hs := srcN_bd hx i
  have hb := base_bd hx i
  obtain ⟨_, _, _, _, _, a0, a1, d0, d1, d2, d3, _, _, _, _, _⟩ := hs
  have h1 := mulBd (a := (srcN x i).dlo) (b := baseN x i - (srcN x i).at') (A := 7000) (B := 285255) (by omega) (by omega) (by omega) (by omega) (by omega)
  have h2 := mulBd (a := (srcN x i).dhi) (b := baseN x i - (srcN x i).at') (A := 7000) (B := 285255) (by omega) (by omega) (by omega) (by omega) (by omega)
  omega
theorem tabAt_bd {s : Wsrc} (hs : SrcBd s) (d : Int) : -100 ≤ tabAt s d ∧ tabAt s d ≤ 99 := by
  have h0 := hs.t0
  have h1 := Int.emod_nonneg d (show ((s.table.length : Nat) : Int) ≠ 0 by omega)
  have h2 := Int.emod_lt_of_pos d (show 0 < ((s.table.length : Nat) : Int) by omega)
  have hlt : (d % (s.table.length : Nat)).toNat < s.table.length := by omega
  have : tabAt s d = s.table[(d % (s.table.length : Nat)).toNat] := by unfold tabAt; simp [hlt]
  rw [this]
  exact hs.t2 _ (List.getElem_mem hlt)
theorem time_bd {x : Of} (hx : OfOk x) (i : Nat) : 100 ≤ timeN x i ∧ timeN x i ≤ 30000000 := by
  have hs := srcN_bd hx i
  obtain ⟨_, ⟨b1, b2⟩, _⟩ := nvAt_ok hx i
  have h1 := err_bd hx i
  have h2 := base_bd hx i
  have h3 := ev_bd hx i
  have h4 := tabAt_bd hs (1 + (nvAt x i).b)
  obtain ⟨_, e0, e1, e2, e3, a0, a1, _, _, _, _, _, _, _, _, _⟩ := hs
  unfold timeN
  (repeat' split) <;> omega
end Go.Proofs.Ytakdmliblijgmaa
/- Wire's plain laws, III: an office's notes, walked. -/
namespace Go.Proofs.Ytakdmliblijgmaa
open Go.RowKit
theorem fc_sc {P : Program} {f : FuncId} {cs : List CV} {t : TypeId} {k : Nat} {rows : List (List CV)} (h : FC P f cs none t k rows) : SC P f cs (.sl k rows) := fun w NA vs hn hs hv =>
  (h w NA vs hn hs hv).mono fun e w' ⟨v, p, h1, h2, h3, h4, h5⟩ => ⟨v, h1, by
    cases h5 with
    | own _ _ t2 k2 rows2 _ a1 a2 a3 a4 =>
      have e0 : one1 t k rows 900 = some (.arr t k rows) := by simp [one1]
      rw [e0] at a1; cases a1
      rcases a4 rfl with ⟨_, q1, rfl⟩ | ⟨b, cap, cs, t2, q1, rfl, q3, q4, q5, q6⟩
      · rw [List.length_eq_zero_iff.1 q1]
        exact .nil k none 0 (by unfold maxLen; omega)
      · have q1 : p = some b := q1
        rcases h4 with ⟨e1, _⟩ | ⟨b', cs', cap', e1, e2, e3, e4, e5, e6, e7⟩
        · have e1 : p = none := e1
          rw [e1] at q1; cases q1
        · have e1 : p = some b' := e1
          rw [q1] at e1; cases e1
          rw [q3] at e2; cases e2
          have hb : b < w'.heap.size := by
            rcases Nat.lt_or_ge b w'.heap.size with h' | h'
            · exact h'
            · rw [Array.getElem?_eq_none h'] at q3; cases q3
          refine .sl k rows b 0 cap (fun j i => cs.getD (j * k + i) undef) q5 q6 hb (fun hm => ?_) e6 (fun j row i x hj hx => ?_) (fun j row i x hj hx => ?_)
          · have := h3 b q1
            have := hn b hm
            omega
          · obtain ⟨u, hu, _⟩ := e7 j row i x hj hx
            have e0 : cs.getD (j * k + i) undef = u := by rw [Array.getD_eq_getD_getElem?, hu]; rfl
            rw [e0, Nat.zero_add]
            unfold World.cell?
            simp [q3, hu]
          · obtain ⟨u, hu, hu2⟩ := e7 j row i x hj hx
            have e0 : cs.getD (j * k + i) undef = u := by rw [Array.getD_eq_getD_getElem?, hu]; rfl
            rw [e0]
            exact hu2.move ⟨Nat.le_refl _, fun b _ hn => ⟨rfl, fun hm => hn (.inl hm)⟩⟩, h2⟩
theorem offW_len (x : Of) : (offW x).length = numS x := offL_len x _
theorem offW_get (x : Of) {j : Nat} (h : j < (offW x).length) : (offW x)[j] = srcS (svAt x j) := by simp [offW, offL]
set_option maxRecDepth 100000 in
set_option maxHeartbeats 4000000 in
theorem lOffN (x : Of) (hx : OfOk x) : FC Try.prog 36 [cOf x, slSr (offW x)] none 73 3 ((offN x).map rowN) := by
  refine flaw_turretlaw08_Office_notes _ _ _ _ _ (by simp) ?_
  unfold cOf offN
  (repeat' (first | ((first | with_reducible refine st_skip ?_ | with_reducible refine st_exit ?_); (try simp only [seqQ, blockQ, loopQ, forQ, whileQ, reduceIte, Nat.reduceEqDiff])) | (with_reducible refine st_ret ?_; ((try simp only [seqQ, blockQ, loopQ, forQ, whileQ]); first | (with_reducible refine retM_ret ?_) | (with_reducible refine retF_ret ?_) | (with_reducible refine retO_ret ?_) | refine retQ_ret ?_; simp)) | refine st_seq ?_ | refine st_block ?_ | ((with_reducible show (STri _ _ _ _ _) ∧ (STri _ _ _ _ _)); refine And.intro ?_ ?_) | ((first | refine st_reg ?_ | refine buildP_own ?_ | refine appP_own ?_) <;> (simp -dsimp; (repeat (simp -dsimp (disch := (first | omega | assumption | (refine Bool.eq_false_iff.1 ?_; assumption))) only [wrap_in, if_pos, if_neg]; (try simp -dsimp))))) | ((first | refine guardP_of (fun hc => ?_) (fun hc => ?_) | refine st_cond rfl (fun hc => ?_) (fun hc => ?_)) <;> (try simp only [lqA, lqB, lqC, lqD, lqE, lqF, lqG, lqH, lqI, lqJ, lqK, lqL, lqM, lqN, lqO] at hc) <;> (try (exfalso; first | omega | exact bool_tf hc (by assumption) | exact bool_ft hc (by assumption) | exact absurd (by assumption) hc)) <;> (first | with_reducible show STri _ _ _ _ _ _ | (simp -dsimp [hc]; (repeat (simp -dsimp (disch := (first | omega | assumption | (refine Bool.eq_false_iff.1 ?_; assumption))) only [wrap_in, if_pos, if_neg]; (try simp -dsimp [hc]))))))))
  refine st_for [2, 15] (numN x) (fun k T H => T = [(1, .c (slSr (offW x))), (2, .ptr 2 0), (5, .own 15 (notesTo' x k).length), (6, .c (I k))] ∧ H = [(2, bxOf x), (15, .arr 73 3 ((notesTo' x k).map rowN))]) (by simp) ⟨by simp [notesTo'], by simp [notesTo']⟩ ?_
  rintro k T H hk ⟨rfl, rfl⟩
  have hlenN := notesTo_len' x k
  have hnum : numN x ≤ 8 := by unfold numN; omega
  by_cases hlt : k < numN x
  · have hst := notesTo_succ' x k
    have hA : (notesTo' x k).length ≤ 9223372036854775806 := by omega
    have hB : ((notesTo' x k).length + 1) * 24 ≤ 140737488355328 := by omega
    have hv : k < x.notes.length := by unfold numN at hlt; omega
    have hk8 : (k : Int) < 8 := by omega
    have hgd : x.notes[k] = nvAt x k := by unfold nvAt; simp [hv]
    have hgr : ∀ h : k < (x.notes.map rowNv).length, (x.notes.map rowNv)[k]'h = rowNv (nvAt x k) := fun h => by simp [hgd]
    have hs := srcN_bd hx k
    have hvo := nvAt_ok hx k
    obtain ⟨⟨a1, a2⟩, ⟨b1, b2⟩, ⟨c1, c2⟩⟩ := hvo
    have hj : srcI x k < (offW x).length := by rw [offW_len]; exact srcI_lt k
    have hg : ∀ h : srcI x k < (offW x).length, (offW x)[srcI x k]'h = srcN x k := fun h => offW_get x h
    have hnb := numS_bd x
    have hm1 : (nvAt x k).a.tmod ((offW x).length : Int) = (srcI x k : Nat) := by
      rw [offW_len, Int.tmod_eq_emod_of_nonneg a1]
      have h1 := Int.emod_nonneg (nvAt x k).a (show ((numS x : Nat) : Int) ≠ 0 by omega)
      unfold srcI; omega
    have hne : ¬ offW x = [] := fun h => by have := offW_len x; rw [h] at this; simp at this; omega
    have hby := lBy x hx
    obtain ⟨y1, y2⟩ := hx.y
    have lb := lByte x.truth hx.t hx.tl k (by omega)
    obtain ⟨t1, t2⟩ := byV_bd hx.t k
    have heb := err_bd hx k
    have htb := time_bd hx k
    have hm2 : (byV x.truth k).tmod ((srcN x k).ehi - (srcN x k).elo + 1) = byV x.truth k % ((srcN x k).ehi - (srcN x k).elo + 1) := Int.tmod_eq_emod_of_nonneg t1
    have he : (srcN x k).elo + byV x.truth k % ((srcN x k).ehi - (srcN x k).elo + 1) = errN x k := rfl
    have hbb := base_bd hx k
    have hbs : 30000 + 1000 * (nvAt x k).b + (nvAt x k).c = baseN x k := rfl
    have hev := ev_bd hx k
    have hdf := drf_bd hx k
    have htt := tabAt_bd hs (1 + (nvAt x k).b)
    have s0 := hs.e1
    have s1 := hs.e0
    have s2 := hs.e2
    have s3 := hs.e3
    have s4 := hs.a0
    have s5 := hs.a1
    have s6 := hs.t0
    have s7 := hs.t1
    have hpos1 : (srcN x k).ehi - (srcN x k).elo + 1 ≠ 0 := by omega
    have r1 := Int.emod_nonneg (byV x.truth k) hpos1
    have r2 := Int.emod_lt_of_pos (byV x.truth k) (show 0 < (srcN x k).ehi - (srcN x k).elo + 1 by omega)
    have hne2 : ¬ (srcN x k).ehi - (srcN x k).elo + 1 = 0 := hpos1
    have hti : timeN x k = timeN x k := rfl
    have hsa : saidN x k = saidN x k := rfl
    conv at hti => rhs; unfold timeN
    conv at hsa => rhs; unfold saidN
    rcases hs.k with hq | hq | hq | hq
    · rw [hq] at hti hsa
      simp only [Int.reduceEq, if_false] at hti hsa
      have hcm : (nvAt x k).c.tmod 2 = (nvAt x k).c % 2 := Int.tmod_eq_emod_of_nonneg c1
      have hr1 := lRest ((srcN x k).dhi * (baseN x k - (srcN x k).at')) 86400000 (by omega) (by omega)
      have hr2 := lRest ((srcN x k).dlo * (baseN x k - (srcN x k).at')) 86400000 (by omega) (by omega)
      have dv : ∀ d : Int, (d - d % 86400000).tdiv 86400000 = d / 86400000 := fun d => by
        have e : d - d % 86400000 = 86400000 * (d / 86400000) := by have := Int.emod_add_mul_ediv d 86400000; omega
        rw [e, Int.mul_tdiv_cancel_left _ (by omega)]
      have hr3 := lRest (baseN x k + errN x k + drfN x k / 86400000) 43200 (by omega) (by omega)
      by_cases hc2 : (nvAt x k).c % 2 = 1
      · have hd : drfN x k = (srcN x k).dhi * (baseN x k - (srcN x k).at') := by unfold drfN; rw [if_pos hc2]
        rw [hd] at hsa hr3
        have hwd := wrap_in ((srcN x k).dhi * (baseN x k - (srcN x k).at')) (by omega) (by omega)
        by_cases hti0 : 0 ≤ timeN x k - (x.by' - 128)
        · rw [if_pos hti0] at hst
          rw [hti] at hti0
          (repeat' (first | ((first | with_reducible refine st_skip ?_ | with_reducible refine st_exit ?_); (try simp only [seqQ, blockQ, loopQ, forQ, whileQ, reduceIte, Nat.reduceEqDiff])) | (with_reducible refine st_ret ?_; ((try simp only [seqQ, blockQ, loopQ, forQ, whileQ]); first | (with_reducible refine retM_ret ?_) | (with_reducible refine retF_ret ?_) | (with_reducible refine retO_ret ?_) | refine retQ_ret ?_; simp [hlt, hv, hk8, hgr, hj, hg, hm1, hne, hm2, he, hne2, hbs, hq, hcm, hc2, dv, hwd, hti0, hA, hB])) | refine st_seq ?_ | refine st_block ?_ | ((with_reducible show (STri _ _ _ _ _) ∧ (STri _ _ _ _ _)); refine And.intro ?_ ?_) | ((first | refine st_reg ?_ | refine buildP_own ?_ | refine appP_own ?_ | refine callP_b (hby) rfl ?_ | refine callP_b (lb) rfl ?_ | refine callP_b (hr1) rfl ?_ | refine callP_b (hr2) rfl ?_ | refine callP_b (hr3) rfl ?_) <;> (simp -dsimp [hlt, hv, hk8, hgr, hj, hg, hm1, hne, hm2, he, hne2, hbs, hq, hcm, hc2, dv, hwd, hti0, hA, hB]; (repeat (simp -dsimp (disch := (first | omega | assumption | (refine Bool.eq_false_iff.1 ?_; assumption))) only [wrap_in, if_pos, if_neg]; (try simp -dsimp [hlt, hv, hk8, hgr, hj, hg, hm1, hne, hm2, he, hne2, hbs, hq, hcm, hc2, dv, hwd, hti0, hA, hB]))))) | ((first | refine guardP_of (fun hc => ?_) (fun hc => ?_) | refine st_cond rfl (fun hc => ?_) (fun hc => ?_)) <;> (try simp only [lqA, lqB, lqC, lqD, lqE, lqF, lqG, lqH, lqI, lqJ, lqK, lqL, lqM, lqN, lqO] at hc) <;> (try (exfalso; first | omega | exact bool_tf hc (by assumption) | exact bool_ft hc (by assumption) | exact absurd (by assumption) hc)) <;> (first | with_reducible show STri _ _ _ _ _ _ | (simp -dsimp [hlt, hv, hk8, hgr, hj, hg, hm1, hne, hm2, he, hne2, hbs, hq, hcm, hc2, dv, hwd, hti0, hA, hB, hc]; (repeat (simp -dsimp (disch := (first | omega | assumption | (refine Bool.eq_false_iff.1 ?_; assumption))) only [wrap_in, if_pos, if_neg]; (try simp -dsimp [hlt, hv, hk8, hgr, hj, hg, hm1, hne, hm2, he, hne2, hbs, hq, hcm, hc2, dv, hwd, hti0, hA, hB, hc]))))))))
          all_goals exact ⟨hlt, by simp, by simp [hst], by rw [hst]; simp [noteN, hti, hsa]⟩
        · rw [if_neg hti0] at hst
          rw [hti] at hti0
          (repeat' (first | ((first | with_reducible refine st_skip ?_ | with_reducible refine st_exit ?_); (try simp only [seqQ, blockQ, loopQ, forQ, whileQ, reduceIte, Nat.reduceEqDiff])) | (with_reducible refine st_ret ?_; ((try simp only [seqQ, blockQ, loopQ, forQ, whileQ]); first | (with_reducible refine retM_ret ?_) | (with_reducible refine retF_ret ?_) | (with_reducible refine retO_ret ?_) | refine retQ_ret ?_; simp [hlt, hv, hk8, hgr, hj, hg, hm1, hne, hm2, he, hne2, hbs, hq, hcm, hc2, dv, hwd, hti0])) | refine st_seq ?_ | refine st_block ?_ | ((with_reducible show (STri _ _ _ _ _) ∧ (STri _ _ _ _ _)); refine And.intro ?_ ?_) | ((first | refine st_reg ?_ | refine buildP_own ?_ | refine appP_own ?_ | refine callP_b (hby) rfl ?_ | refine callP_b (lb) rfl ?_ | refine callP_b (hr1) rfl ?_ | refine callP_b (hr2) rfl ?_ | refine callP_b (hr3) rfl ?_) <;> (simp -dsimp [hlt, hv, hk8, hgr, hj, hg, hm1, hne, hm2, he, hne2, hbs, hq, hcm, hc2, dv, hwd, hti0]; (repeat (simp -dsimp (disch := (first | omega | assumption | (refine Bool.eq_false_iff.1 ?_; assumption))) only [wrap_in, if_pos, if_neg]; (try simp -dsimp [hlt, hv, hk8, hgr, hj, hg, hm1, hne, hm2, he, hne2, hbs, hq, hcm, hc2, dv, hwd, hti0]))))) | ((first | refine guardP_of (fun hc => ?_) (fun hc => ?_) | refine st_cond rfl (fun hc => ?_) (fun hc => ?_)) <;> (try simp only [lqA, lqB, lqC, lqD, lqE, lqF, lqG, lqH, lqI, lqJ, lqK, lqL, lqM, lqN, lqO] at hc) <;> (try (exfalso; first | omega | exact bool_tf hc (by assumption) | exact bool_ft hc (by assumption) | exact absurd (by assumption) hc)) <;> (first | with_reducible show STri _ _ _ _ _ _ | (simp -dsimp [hlt, hv, hk8, hgr, hj, hg, hm1, hne, hm2, he, hne2, hbs, hq, hcm, hc2, dv, hwd, hti0, hc]; (repeat (simp -dsimp (disch := (first | omega | assumption | (refine Bool.eq_false_iff.1 ?_; assumption))) only [wrap_in, if_pos, if_neg]; (try simp -dsimp [hlt, hv, hk8, hgr, hj, hg, hm1, hne, hm2, he, hne2, hbs, hq, hcm, hc2, dv, hwd, hti0, hc]))))))))
          all_goals exact ⟨hlt, by simp, by simp [hst], by rw [hst]⟩
      · have hd : drfN x k = (srcN x k).dlo * (baseN x k - (srcN x k).at') := by unfold drfN; rw [if_neg hc2]
        rw [hd] at hsa hr3
        have hwd := wrap_in ((srcN x k).dlo * (baseN x k - (srcN x k).at')) (by omega) (by omega)
        by_cases hti0 : 0 ≤ timeN x k - (x.by' - 128)
        · rw [if_pos hti0] at hst
          rw [hti] at hti0
          (repeat' (first | ((first | with_reducible refine st_skip ?_ | with_reducible refine st_exit ?_); (try simp only [seqQ, blockQ, loopQ, forQ, whileQ, reduceIte, Nat.reduceEqDiff])) | (with_reducible refine st_ret ?_; ((try simp only [seqQ, blockQ, loopQ, forQ, whileQ]); first | (with_reducible refine retM_ret ?_) | (with_reducible refine retF_ret ?_) | (with_reducible refine retO_ret ?_) | refine retQ_ret ?_; simp [hlt, hv, hk8, hgr, hj, hg, hm1, hne, hm2, he, hne2, hbs, hq, hcm, hc2, dv, hwd, hti0, hA, hB])) | refine st_seq ?_ | refine st_block ?_ | ((with_reducible show (STri _ _ _ _ _) ∧ (STri _ _ _ _ _)); refine And.intro ?_ ?_) | ((first | refine st_reg ?_ | refine buildP_own ?_ | refine appP_own ?_ | refine callP_b (hby) rfl ?_ | refine callP_b (lb) rfl ?_ | refine callP_b (hr1) rfl ?_ | refine callP_b (hr2) rfl ?_ | refine callP_b (hr3) rfl ?_) <;> (simp -dsimp [hlt, hv, hk8, hgr, hj, hg, hm1, hne, hm2, he, hne2, hbs, hq, hcm, hc2, dv, hwd, hti0, hA, hB]; (repeat (simp -dsimp (disch := (first | omega | assumption | (refine Bool.eq_false_iff.1 ?_; assumption))) only [wrap_in, if_pos, if_neg]; (try simp -dsimp [hlt, hv, hk8, hgr, hj, hg, hm1, hne, hm2, he, hne2, hbs, hq, hcm, hc2, dv, hwd, hti0, hA, hB]))))) | ((first | refine guardP_of (fun hc => ?_) (fun hc => ?_) | refine st_cond rfl (fun hc => ?_) (fun hc => ?_)) <;> (try simp only [lqA, lqB, lqC, lqD, lqE, lqF, lqG, lqH, lqI, lqJ, lqK, lqL, lqM, lqN, lqO] at hc) <;> (try (exfalso; first | omega | exact bool_tf hc (by assumption) | exact bool_ft hc (by assumption) | exact absurd (by assumption) hc)) <;> (first | with_reducible show STri _ _ _ _ _ _ | (simp -dsimp [hlt, hv, hk8, hgr, hj, hg, hm1, hne, hm2, he, hne2, hbs, hq, hcm, hc2, dv, hwd, hti0, hA, hB, hc]; (repeat (simp -dsimp (disch := (first | omega | assumption | (refine Bool.eq_false_iff.1 ?_; assumption))) only [wrap_in, if_pos, if_neg]; (try simp -dsimp [hlt, hv, hk8, hgr, hj, hg, hm1, hne, hm2, he, hne2, hbs, hq, hcm, hc2, dv, hwd, hti0, hA, hB, hc]))))))))
          all_goals exact ⟨hlt, by simp, by simp [hst], by rw [hst]; simp [noteN, hti, hsa]⟩
        · rw [if_neg hti0] at hst
          rw [hti] at hti0
          (repeat' (first | ((first | with_reducible refine st_skip ?_ | with_reducible refine st_exit ?_); (try simp only [seqQ, blockQ, loopQ, forQ, whileQ, reduceIte, Nat.reduceEqDiff])) | (with_reducible refine st_ret ?_; ((try simp only [seqQ, blockQ, loopQ, forQ, whileQ]); first | (with_reducible refine retM_ret ?_) | (with_reducible refine retF_ret ?_) | (with_reducible refine retO_ret ?_) | refine retQ_ret ?_; simp [hlt, hv, hk8, hgr, hj, hg, hm1, hne, hm2, he, hne2, hbs, hq, hcm, hc2, dv, hwd, hti0])) | refine st_seq ?_ | refine st_block ?_ | ((with_reducible show (STri _ _ _ _ _) ∧ (STri _ _ _ _ _)); refine And.intro ?_ ?_) | ((first | refine st_reg ?_ | refine buildP_own ?_ | refine appP_own ?_ | refine callP_b (hby) rfl ?_ | refine callP_b (lb) rfl ?_ | refine callP_b (hr1) rfl ?_ | refine callP_b (hr2) rfl ?_ | refine callP_b (hr3) rfl ?_) <;> (simp -dsimp [hlt, hv, hk8, hgr, hj, hg, hm1, hne, hm2, he, hne2, hbs, hq, hcm, hc2, dv, hwd, hti0]; (repeat (simp -dsimp (disch := (first | omega | assumption | (refine Bool.eq_false_iff.1 ?_; assumption))) only [wrap_in, if_pos, if_neg]; (try simp -dsimp [hlt, hv, hk8, hgr, hj, hg, hm1, hne, hm2, he, hne2, hbs, hq, hcm, hc2, dv, hwd, hti0]))))) | ((first | refine guardP_of (fun hc => ?_) (fun hc => ?_) | refine st_cond rfl (fun hc => ?_) (fun hc => ?_)) <;> (try simp only [lqA, lqB, lqC, lqD, lqE, lqF, lqG, lqH, lqI, lqJ, lqK, lqL, lqM, lqN, lqO] at hc) <;> (try (exfalso; first | omega | exact bool_tf hc (by assumption) | exact bool_ft hc (by assumption) | exact absurd (by assumption) hc)) <;> (first | with_reducible show STri _ _ _ _ _ _ | (simp -dsimp [hlt, hv, hk8, hgr, hj, hg, hm1, hne, hm2, he, hne2, hbs, hq, hcm, hc2, dv, hwd, hti0, hc]; (repeat (simp -dsimp (disch := (first | omega | assumption | (refine Bool.eq_false_iff.1 ?_; assumption))) only [wrap_in, if_pos, if_neg]; (try simp -dsimp [hlt, hv, hk8, hgr, hj, hg, hm1, hne, hm2, he, hne2, hbs, hq, hcm, hc2, dv, hwd, hti0, hc]))))))))
          all_goals exact ⟨hlt, by simp, by simp [hst], by rw [hst]⟩
    · rw [hq] at hti hsa
      simp only [Int.reduceEq, if_false, if_true] at hti hsa
      have hwe := wrap_in (((nvAt x k).b + 200) * (srcN x k).every) (by omega) (by omega)
      by_cases hti0 : 0 ≤ timeN x k - (x.by' - 128)
      · rw [if_pos hti0] at hst
        rw [hti] at hti0
        (repeat' (first | ((first | with_reducible refine st_skip ?_ | with_reducible refine st_exit ?_); (try simp only [seqQ, blockQ, loopQ, forQ, whileQ, reduceIte, Nat.reduceEqDiff])) | (with_reducible refine st_ret ?_; ((try simp only [seqQ, blockQ, loopQ, forQ, whileQ]); first | (with_reducible refine retM_ret ?_) | (with_reducible refine retF_ret ?_) | (with_reducible refine retO_ret ?_) | refine retQ_ret ?_; simp [hlt, hv, hk8, hgr, hj, hg, hm1, hne, hm2, he, hne2, hbs, hq, hwe, hti0, hA, hB])) | refine st_seq ?_ | refine st_block ?_ | ((with_reducible show (STri _ _ _ _ _) ∧ (STri _ _ _ _ _)); refine And.intro ?_ ?_) | ((first | refine st_reg ?_ | refine buildP_own ?_ | refine appP_own ?_ | refine callP_b (hby) rfl ?_ | refine callP_b (lb) rfl ?_) <;> (simp -dsimp [hlt, hv, hk8, hgr, hj, hg, hm1, hne, hm2, he, hne2, hbs, hq, hwe, hti0, hA, hB]; (repeat (simp -dsimp (disch := (first | omega | assumption | (refine Bool.eq_false_iff.1 ?_; assumption))) only [wrap_in, if_pos, if_neg]; (try simp -dsimp [hlt, hv, hk8, hgr, hj, hg, hm1, hne, hm2, he, hne2, hbs, hq, hwe, hti0, hA, hB]))))) | ((first | refine guardP_of (fun hc => ?_) (fun hc => ?_) | refine st_cond rfl (fun hc => ?_) (fun hc => ?_)) <;> (try simp only [lqA, lqB, lqC, lqD, lqE, lqF, lqG, lqH, lqI, lqJ, lqK, lqL, lqM, lqN, lqO] at hc) <;> (try (exfalso; first | omega | exact bool_tf hc (by assumption) | exact bool_ft hc (by assumption) | exact absurd (by assumption) hc)) <;> (first | with_reducible show STri _ _ _ _ _ _ | (simp -dsimp [hlt, hv, hk8, hgr, hj, hg, hm1, hne, hm2, he, hne2, hbs, hq, hwe, hti0, hA, hB, hc]; (repeat (simp -dsimp (disch := (first | omega | assumption | (refine Bool.eq_false_iff.1 ?_; assumption))) only [wrap_in, if_pos, if_neg]; (try simp -dsimp [hlt, hv, hk8, hgr, hj, hg, hm1, hne, hm2, he, hne2, hbs, hq, hwe, hti0, hA, hB, hc]))))))))
        all_goals exact ⟨hlt, by simp, by simp [hst], by rw [hst]; simp [noteN, hti, hsa]⟩
      · rw [if_neg hti0] at hst
        rw [hti] at hti0
        (repeat' (first | ((first | with_reducible refine st_skip ?_ | with_reducible refine st_exit ?_); (try simp only [seqQ, blockQ, loopQ, forQ, whileQ, reduceIte, Nat.reduceEqDiff])) | (with_reducible refine st_ret ?_; ((try simp only [seqQ, blockQ, loopQ, forQ, whileQ]); first | (with_reducible refine retM_ret ?_) | (with_reducible refine retF_ret ?_) | (with_reducible refine retO_ret ?_) | refine retQ_ret ?_; simp [hlt, hv, hk8, hgr, hj, hg, hm1, hne, hm2, he, hne2, hbs, hq, hwe, hti0])) | refine st_seq ?_ | refine st_block ?_ | ((with_reducible show (STri _ _ _ _ _) ∧ (STri _ _ _ _ _)); refine And.intro ?_ ?_) | ((first | refine st_reg ?_ | refine buildP_own ?_ | refine appP_own ?_ | refine callP_b (hby) rfl ?_ | refine callP_b (lb) rfl ?_) <;> (simp -dsimp [hlt, hv, hk8, hgr, hj, hg, hm1, hne, hm2, he, hne2, hbs, hq, hwe, hti0]; (repeat (simp -dsimp (disch := (first | omega | assumption | (refine Bool.eq_false_iff.1 ?_; assumption))) only [wrap_in, if_pos, if_neg]; (try simp -dsimp [hlt, hv, hk8, hgr, hj, hg, hm1, hne, hm2, he, hne2, hbs, hq, hwe, hti0]))))) | ((first | refine guardP_of (fun hc => ?_) (fun hc => ?_) | refine st_cond rfl (fun hc => ?_) (fun hc => ?_)) <;> (try simp only [lqA, lqB, lqC, lqD, lqE, lqF, lqG, lqH, lqI, lqJ, lqK, lqL, lqM, lqN, lqO] at hc) <;> (try (exfalso; first | omega | exact bool_tf hc (by assumption) | exact bool_ft hc (by assumption) | exact absurd (by assumption) hc)) <;> (first | with_reducible show STri _ _ _ _ _ _ | (simp -dsimp [hlt, hv, hk8, hgr, hj, hg, hm1, hne, hm2, he, hne2, hbs, hq, hwe, hti0, hc]; (repeat (simp -dsimp (disch := (first | omega | assumption | (refine Bool.eq_false_iff.1 ?_; assumption))) only [wrap_in, if_pos, if_neg]; (try simp -dsimp [hlt, hv, hk8, hgr, hj, hg, hm1, hne, hm2, he, hne2, hbs, hq, hwe, hti0, hc]))))))))
        all_goals exact ⟨hlt, by simp, by simp [hst], by rw [hst]⟩
    · rw [hq] at hti hsa
      simp only [Int.reduceEq, if_false, if_true] at hti hsa
      obtain ⟨t, ht⟩ : ∃ t : Nat, ((1 + (nvAt x k).b) % ((srcN x k).table.length : Nat)).toNat = t := ⟨_, rfl⟩
      have hz1 := Int.emod_nonneg (1 + (nvAt x k).b) (show (((srcN x k).table.length : Nat) : Int) ≠ 0 by omega)
      have hz2 := Int.emod_lt_of_pos (1 + (nvAt x k).b) (show 0 < (((srcN x k).table.length : Nat) : Int) by omega)
      have htl : t < (srcN x k).table.length := by omega
      have hgt : ∀ h : t < (srcN x k).table.length, (srcN x k).table[t]'h = tabAt (srcN x k) (1 + (nvAt x k).b) := fun h => by unfold tabAt; rw [ht]; simp [h]
      have hmt : (1 + (nvAt x k).b).tmod ((srcN x k).table.length : Int) = (t : Nat) := by
        rw [Int.tmod_eq_emod_of_nonneg (by omega)]; omega
      have hne3 : ¬ (srcN x k).table = [] := fun h => by rw [h] at s6; simp at s6
      by_cases hti0 : 0 ≤ timeN x k - (x.by' - 128)
      · rw [if_pos hti0] at hst
        rw [hti] at hti0
        (repeat' (first | ((first | with_reducible refine st_skip ?_ | with_reducible refine st_exit ?_); (try simp only [seqQ, blockQ, loopQ, forQ, whileQ, reduceIte, Nat.reduceEqDiff])) | (with_reducible refine st_ret ?_; ((try simp only [seqQ, blockQ, loopQ, forQ, whileQ]); first | (with_reducible refine retM_ret ?_) | (with_reducible refine retF_ret ?_) | (with_reducible refine retO_ret ?_) | refine retQ_ret ?_; simp [hlt, hv, hk8, hgr, hj, hg, hm1, hne, hm2, he, hne2, hbs, hq, htl, hgt, hmt, hne3, hti0, hA, hB])) | refine st_seq ?_ | refine st_block ?_ | ((with_reducible show (STri _ _ _ _ _) ∧ (STri _ _ _ _ _)); refine And.intro ?_ ?_) | ((first | refine st_reg ?_ | refine buildP_own ?_ | refine appP_own ?_ | refine callP_b (hby) rfl ?_ | refine callP_b (lb) rfl ?_) <;> (simp -dsimp [hlt, hv, hk8, hgr, hj, hg, hm1, hne, hm2, he, hne2, hbs, hq, htl, hgt, hmt, hne3, hti0, hA, hB]; (repeat (simp -dsimp (disch := (first | omega | assumption | (refine Bool.eq_false_iff.1 ?_; assumption))) only [wrap_in, if_pos, if_neg]; (try simp -dsimp [hlt, hv, hk8, hgr, hj, hg, hm1, hne, hm2, he, hne2, hbs, hq, htl, hgt, hmt, hne3, hti0, hA, hB]))))) | ((first | refine guardP_of (fun hc => ?_) (fun hc => ?_) | refine st_cond rfl (fun hc => ?_) (fun hc => ?_)) <;> (try simp only [lqA, lqB, lqC, lqD, lqE, lqF, lqG, lqH, lqI, lqJ, lqK, lqL, lqM, lqN, lqO] at hc) <;> (try (exfalso; first | omega | exact bool_tf hc (by assumption) | exact bool_ft hc (by assumption) | exact absurd (by assumption) hc)) <;> (first | with_reducible show STri _ _ _ _ _ _ | (simp -dsimp [hlt, hv, hk8, hgr, hj, hg, hm1, hne, hm2, he, hne2, hbs, hq, htl, hgt, hmt, hne3, hti0, hA, hB, hc]; (repeat (simp -dsimp (disch := (first | omega | assumption | (refine Bool.eq_false_iff.1 ?_; assumption))) only [wrap_in, if_pos, if_neg]; (try simp -dsimp [hlt, hv, hk8, hgr, hj, hg, hm1, hne, hm2, he, hne2, hbs, hq, htl, hgt, hmt, hne3, hti0, hA, hB, hc]))))))))
        all_goals exact ⟨hlt, by simp, by simp [hst], by rw [hst]; simp [noteN, hti, hsa]⟩
      · rw [if_neg hti0] at hst
        rw [hti] at hti0
        (repeat' (first | ((first | with_reducible refine st_skip ?_ | with_reducible refine st_exit ?_); (try simp only [seqQ, blockQ, loopQ, forQ, whileQ, reduceIte, Nat.reduceEqDiff])) | (with_reducible refine st_ret ?_; ((try simp only [seqQ, blockQ, loopQ, forQ, whileQ]); first | (with_reducible refine retM_ret ?_) | (with_reducible refine retF_ret ?_) | (with_reducible refine retO_ret ?_) | refine retQ_ret ?_; simp [hlt, hv, hk8, hgr, hj, hg, hm1, hne, hm2, he, hne2, hbs, hq, htl, hgt, hmt, hne3, hti0])) | refine st_seq ?_ | refine st_block ?_ | ((with_reducible show (STri _ _ _ _ _) ∧ (STri _ _ _ _ _)); refine And.intro ?_ ?_) | ((first | refine st_reg ?_ | refine buildP_own ?_ | refine appP_own ?_ | refine callP_b (hby) rfl ?_ | refine callP_b (lb) rfl ?_) <;> (simp -dsimp [hlt, hv, hk8, hgr, hj, hg, hm1, hne, hm2, he, hne2, hbs, hq, htl, hgt, hmt, hne3, hti0]; (repeat (simp -dsimp (disch := (first | omega | assumption | (refine Bool.eq_false_iff.1 ?_; assumption))) only [wrap_in, if_pos, if_neg]; (try simp -dsimp [hlt, hv, hk8, hgr, hj, hg, hm1, hne, hm2, he, hne2, hbs, hq, htl, hgt, hmt, hne3, hti0]))))) | ((first | refine guardP_of (fun hc => ?_) (fun hc => ?_) | refine st_cond rfl (fun hc => ?_) (fun hc => ?_)) <;> (try simp only [lqA, lqB, lqC, lqD, lqE, lqF, lqG, lqH, lqI, lqJ, lqK, lqL, lqM, lqN, lqO] at hc) <;> (try (exfalso; first | omega | exact bool_tf hc (by assumption) | exact bool_ft hc (by assumption) | exact absurd (by assumption) hc)) <;> (first | with_reducible show STri _ _ _ _ _ _ | (simp -dsimp [hlt, hv, hk8, hgr, hj, hg, hm1, hne, hm2, he, hne2, hbs, hq, htl, hgt, hmt, hne3, hti0, hc]; (repeat (simp -dsimp (disch := (first | omega | assumption | (refine Bool.eq_false_iff.1 ?_; assumption))) only [wrap_in, if_pos, if_neg]; (try simp -dsimp [hlt, hv, hk8, hgr, hj, hg, hm1, hne, hm2, he, hne2, hbs, hq, htl, hgt, hmt, hne3, hti0, hc]))))))))
        all_goals exact ⟨hlt, by simp, by simp [hst], by rw [hst]⟩
    · rw [hq] at hti hsa
      simp only [Int.reduceEq, if_false, if_true] at hti hsa
      by_cases hti0 : 0 ≤ timeN x k - (x.by' - 128)
      · rw [if_pos hti0] at hst
        rw [hti] at hti0
        (repeat' (first | ((first | with_reducible refine st_skip ?_ | with_reducible refine st_exit ?_); (try simp only [seqQ, blockQ, loopQ, forQ, whileQ, reduceIte, Nat.reduceEqDiff])) | (with_reducible refine st_ret ?_; ((try simp only [seqQ, blockQ, loopQ, forQ, whileQ]); first | (with_reducible refine retM_ret ?_) | (with_reducible refine retF_ret ?_) | (with_reducible refine retO_ret ?_) | refine retQ_ret ?_; simp [hlt, hv, hk8, hgr, hj, hg, hm1, hne, hm2, he, hne2, hbs, hq, s0, hti0, hA, hB])) | refine st_seq ?_ | refine st_block ?_ | ((with_reducible show (STri _ _ _ _ _) ∧ (STri _ _ _ _ _)); refine And.intro ?_ ?_) | ((first | refine st_reg ?_ | refine buildP_own ?_ | refine appP_own ?_ | refine callP_b (hby) rfl ?_ | refine callP_b (lb) rfl ?_) <;> (simp -dsimp [hlt, hv, hk8, hgr, hj, hg, hm1, hne, hm2, he, hne2, hbs, hq, s0, hti0, hA, hB]; (repeat (simp -dsimp (disch := (first | omega | assumption | (refine Bool.eq_false_iff.1 ?_; assumption))) only [wrap_in, if_pos, if_neg]; (try simp -dsimp [hlt, hv, hk8, hgr, hj, hg, hm1, hne, hm2, he, hne2, hbs, hq, s0, hti0, hA, hB]))))) | ((first | refine guardP_of (fun hc => ?_) (fun hc => ?_) | refine st_cond rfl (fun hc => ?_) (fun hc => ?_)) <;> (try simp only [lqA, lqB, lqC, lqD, lqE, lqF, lqG, lqH, lqI, lqJ, lqK, lqL, lqM, lqN, lqO] at hc) <;> (try (exfalso; first | omega | exact bool_tf hc (by assumption) | exact bool_ft hc (by assumption) | exact absurd (by assumption) hc)) <;> (first | with_reducible show STri _ _ _ _ _ _ | (simp -dsimp [hlt, hv, hk8, hgr, hj, hg, hm1, hne, hm2, he, hne2, hbs, hq, s0, hti0, hA, hB, hc]; (repeat (simp -dsimp (disch := (first | omega | assumption | (refine Bool.eq_false_iff.1 ?_; assumption))) only [wrap_in, if_pos, if_neg]; (try simp -dsimp [hlt, hv, hk8, hgr, hj, hg, hm1, hne, hm2, he, hne2, hbs, hq, s0, hti0, hA, hB, hc]))))))))
        all_goals exact ⟨hlt, by simp, by simp [hst], by rw [hst]; simp [noteN, hti, hsa]⟩
      · rw [if_neg hti0] at hst
        rw [hti] at hti0
        (repeat' (first | ((first | with_reducible refine st_skip ?_ | with_reducible refine st_exit ?_); (try simp only [seqQ, blockQ, loopQ, forQ, whileQ, reduceIte, Nat.reduceEqDiff])) | (with_reducible refine st_ret ?_; ((try simp only [seqQ, blockQ, loopQ, forQ, whileQ]); first | (with_reducible refine retM_ret ?_) | (with_reducible refine retF_ret ?_) | (with_reducible refine retO_ret ?_) | refine retQ_ret ?_; simp [hlt, hv, hk8, hgr, hj, hg, hm1, hne, hm2, he, hne2, hbs, hq, s0, hti0])) | refine st_seq ?_ | refine st_block ?_ | ((with_reducible show (STri _ _ _ _ _) ∧ (STri _ _ _ _ _)); refine And.intro ?_ ?_) | ((first | refine st_reg ?_ | refine buildP_own ?_ | refine appP_own ?_ | refine callP_b (hby) rfl ?_ | refine callP_b (lb) rfl ?_) <;> (simp -dsimp [hlt, hv, hk8, hgr, hj, hg, hm1, hne, hm2, he, hne2, hbs, hq, s0, hti0]; (repeat (simp -dsimp (disch := (first | omega | assumption | (refine Bool.eq_false_iff.1 ?_; assumption))) only [wrap_in, if_pos, if_neg]; (try simp -dsimp [hlt, hv, hk8, hgr, hj, hg, hm1, hne, hm2, he, hne2, hbs, hq, s0, hti0]))))) | ((first | refine guardP_of (fun hc => ?_) (fun hc => ?_) | refine st_cond rfl (fun hc => ?_) (fun hc => ?_)) <;> (try simp only [lqA, lqB, lqC, lqD, lqE, lqF, lqG, lqH, lqI, lqJ, lqK, lqL, lqM, lqN, lqO] at hc) <;> (try (exfalso; first | omega | exact bool_tf hc (by assumption) | exact bool_ft hc (by assumption) | exact absurd (by assumption) hc)) <;> (first | with_reducible show STri _ _ _ _ _ _ | (simp -dsimp [hlt, hv, hk8, hgr, hj, hg, hm1, hne, hm2, he, hne2, hbs, hq, s0, hti0, hc]; (repeat (simp -dsimp (disch := (first | omega | assumption | (refine Bool.eq_false_iff.1 ?_; assumption))) only [wrap_in, if_pos, if_neg]; (try simp -dsimp [hlt, hv, hk8, hgr, hj, hg, hm1, hne, hm2, he, hne2, hbs, hq, s0, hti0, hc]))))))))
        all_goals exact ⟨hlt, by simp, by simp [hst], by rw [hst]⟩
  · have hkn : k = numN x := by omega
    subst hkn
    by_cases hv : numN x < x.notes.length
    · have hk8 : ¬ (numN x : Int) < 8 := by unfold numN at *; omega
      (repeat' (first | ((first | with_reducible refine st_skip ?_ | with_reducible refine st_exit ?_); (try simp only [seqQ, blockQ, loopQ, forQ, whileQ, reduceIte, Nat.reduceEqDiff])) | (with_reducible refine st_ret ?_; ((try simp only [seqQ, blockQ, loopQ, forQ, whileQ]); first | (with_reducible refine retM_ret ?_) | (with_reducible refine retF_ret ?_) | (with_reducible refine retO_ret ?_) | refine retQ_ret ?_; simp [hv, hk8])) | refine st_seq ?_ | refine st_block ?_ | ((with_reducible show (STri _ _ _ _ _) ∧ (STri _ _ _ _ _)); refine And.intro ?_ ?_) | ((first | refine st_reg ?_ | refine buildP_own ?_ | refine appP_own ?_) <;> (simp -dsimp [hv, hk8]; (repeat (simp -dsimp (disch := (first | omega | assumption | (refine Bool.eq_false_iff.1 ?_; assumption))) only [wrap_in, if_pos, if_neg]; (try simp -dsimp [hv, hk8]))))) | ((first | refine guardP_of (fun hc => ?_) (fun hc => ?_) | refine st_cond rfl (fun hc => ?_) (fun hc => ?_)) <;> (try simp only [lqA, lqB, lqC, lqD, lqE, lqF, lqG, lqH, lqI, lqJ, lqK, lqL, lqM, lqN, lqO] at hc) <;> (try (exfalso; first | omega | exact bool_tf hc (by assumption) | exact bool_ft hc (by assumption) | exact absurd (by assumption) hc)) <;> (first | with_reducible show STri _ _ _ _ _ _ | (simp -dsimp [hv, hk8, hc]; (repeat (simp -dsimp (disch := (first | omega | assumption | (refine Bool.eq_false_iff.1 ?_; assumption))) only [wrap_in, if_pos, if_neg]; (try simp -dsimp [hv, hk8, hc]))))))))
      all_goals exact ⟨15, by simp, rfl⟩
    · (repeat' (first | ((first | with_reducible refine st_skip ?_ | with_reducible refine st_exit ?_); (try simp only [seqQ, blockQ, loopQ, forQ, whileQ, reduceIte, Nat.reduceEqDiff])) | (with_reducible refine st_ret ?_; ((try simp only [seqQ, blockQ, loopQ, forQ, whileQ]); first | (with_reducible refine retM_ret ?_) | (with_reducible refine retF_ret ?_) | (with_reducible refine retO_ret ?_) | refine retQ_ret ?_; simp [hv])) | refine st_seq ?_ | refine st_block ?_ | ((with_reducible show (STri _ _ _ _ _) ∧ (STri _ _ _ _ _)); refine And.intro ?_ ?_) | ((first | refine st_reg ?_ | refine buildP_own ?_ | refine appP_own ?_) <;> (simp -dsimp [hv]; (repeat (simp -dsimp (disch := (first | omega | assumption | (refine Bool.eq_false_iff.1 ?_; assumption))) only [wrap_in, if_pos, if_neg]; (try simp -dsimp [hv]))))) | ((first | refine guardP_of (fun hc => ?_) (fun hc => ?_) | refine st_cond rfl (fun hc => ?_) (fun hc => ?_)) <;> (try simp only [lqA, lqB, lqC, lqD, lqE, lqF, lqG, lqH, lqI, lqJ, lqK, lqL, lqM, lqN, lqO] at hc) <;> (try (exfalso; first | omega | exact bool_tf hc (by assumption) | exact bool_ft hc (by assumption) | exact absurd (by assumption) hc)) <;> (first | with_reducible show STri _ _ _ _ _ _ | (simp -dsimp [hv, hc]; (repeat (simp -dsimp (disch := (first | omega | assumption | (refine Bool.eq_false_iff.1 ?_; assumption))) only [wrap_in, if_pos, if_neg]; (try simp -dsimp [hv, hc]))))))))
      all_goals exact ⟨15, by simp, rfl⟩
end Go.Proofs.Ytakdmliblijgmaa
/- Wire's plain laws, IV: spans in order, with gaps. -/
namespace Go.Proofs.Ytakdmliblijgmaa
open Go.RowKit
def GapsP (l : List (Int × Int)) : Prop := (∀ e ∈ l, e.1 ≤ e.2) ∧ l.Pairwise fun a b => a.2 + 1 < b.1
def insB (n : Int) (l : List (Int × Int)) : Bool := l.any fun e => decide (e.1 ≤ n) && decide (n ≤ e.2)
set_option maxRecDepth 100000 in
theorem lInside (n : Int) (l : List (Int × Int)) (hg : GapsP l) (hb : ∀ e ∈ l, -1000000 ≤ e.1 ∧ e.2 ≤ 1000000) (hl : l.length ≤ 1000000) : SC Try.prog 38 [I n, slE l] (B (insB n l)) := by
  refine law_turretlaw08_inside _ _ (by simp) ?_
  (repeat' (first | ((first | with_reducible refine st_skip ?_ | with_reducible refine st_exit ?_); (try simp only [seqQ, blockQ, loopQ, forQ, whileQ, reduceIte, Nat.reduceEqDiff])) | (with_reducible refine st_ret ?_; ((try simp only [seqQ, blockQ, loopQ, forQ, whileQ]); first | (with_reducible refine retM_ret ?_) | refine retQ_ret ?_; simp)) | refine st_seq ?_ | refine st_block ?_ | ((with_reducible show (STri _ _ _ _ _) ∧ (STri _ _ _ _ _)); refine And.intro ?_ ?_) | ((first | refine st_reg ?_ | refine buildP_own ?_ | refine appP_own ?_) <;> (simp -dsimp; (repeat (simp -dsimp (disch := (first | omega | assumption | (refine Bool.eq_false_iff.1 ?_; assumption))) only [wrap_in, if_pos, if_neg]; (try simp -dsimp))))) | ((first | refine guardP_of (fun hc => ?_) (fun hc => ?_) | refine st_cond rfl (fun hc => ?_) (fun hc => ?_)) <;> (try simp only [lqA, lqB, lqC, lqD, lqE, lqF, lqG, lqH, lqI, lqJ, lqK, lqL, lqM, lqN, lqO] at hc) <;> (try (exfalso; first | omega | exact bool_tf hc (by assumption) | exact bool_ft hc (by assumption) | exact absurd (by assumption) hc)) <;> (first | with_reducible show STri _ _ _ _ _ _ | (simp -dsimp [hc]; (repeat (simp -dsimp (disch := (first | omega | assumption | (refine Bool.eq_false_iff.1 ?_; assumption))) only [wrap_in, if_pos, if_neg]; (try simp -dsimp [hc]))))))))
  refine st_for [] l.length (fun k T H => T = [(0, .c (I n)), (1, .c (slE l)), (5, .c (B (insB n (l.take k)))), (6, .c (I k))] ∧ H = []) (by simp) ⟨by simp [insB], by simp⟩ ?_
  rintro k T H hk ⟨rfl, rfl⟩
  by_cases hlt : k < l.length
  · have hs : insB n (l.take (k + 1)) = (insB n (l.take k) || (decide (l[k].1 ≤ n) && decide (n ≤ l[k].2))) := by unfold insB; rw [anyTake_succ hlt]
    have h1 := hg.1 _ (List.getElem_mem hlt)
    obtain ⟨h2, h3⟩ := hb _ (List.getElem_mem hlt)
    have h4 : 0 < k → ∃ h : k - 1 < l.length, (l[k - 1]).2 + 1 < l[k].1 := fun h0 => ⟨by omega, (List.pairwise_iff_getElem.1 hg.2) (k - 1) k (by omega) hlt (by omega)⟩
    obtain ⟨e, he⟩ : ∃ e, l[k] = e := ⟨_, rfl⟩
    have hge : ∀ h : k < l.length, l[k]'h = e := fun _ => he
    rw [he] at hs h1 h2 h3
    have n1 : ¬ e.2 < e.1 := by omega
    generalize hin : insB n (l.take k) = q at *
    by_cases h0 : k = 0
    · subst h0
      cases q
      · by_cases c1 : e.1 ≤ n
        · by_cases c2 : n ≤ e.2
          · (repeat' (first | ((first | with_reducible refine st_skip ?_ | with_reducible refine st_exit ?_); (try simp only [seqQ, blockQ, loopQ, forQ, whileQ, reduceIte, Nat.reduceEqDiff])) | (with_reducible refine st_ret ?_; ((try simp only [seqQ, blockQ, loopQ, forQ, whileQ]); first | (with_reducible refine retM_ret ?_) | refine retQ_ret ?_; simp [hlt, hge, n1, c1, c2])) | refine st_seq ?_ | refine st_block ?_ | ((with_reducible show (STri _ _ _ _ _) ∧ (STri _ _ _ _ _)); refine And.intro ?_ ?_) | ((first | refine st_reg ?_ | refine buildP_own ?_ | refine appP_own ?_) <;> (simp -dsimp [hlt, hge, n1, c1, c2]; (repeat (simp -dsimp (disch := (first | omega | assumption | (refine Bool.eq_false_iff.1 ?_; assumption))) only [wrap_in, if_pos, if_neg]; (try simp -dsimp [hlt, hge, n1, c1, c2]))))) | ((first | refine guardP_of (fun hc => ?_) (fun hc => ?_) | refine st_cond rfl (fun hc => ?_) (fun hc => ?_)) <;> (try simp only [lqA, lqB, lqC, lqD, lqE, lqF, lqG, lqH, lqI, lqJ, lqK, lqL, lqM, lqN, lqO] at hc) <;> (try (exfalso; first | omega | exact bool_tf hc (by assumption) | exact bool_ft hc (by assumption) | exact absurd (by assumption) hc)) <;> (first | with_reducible show STri _ _ _ _ _ _ | (simp -dsimp [hlt, hge, n1, c1, c2, hc]; (repeat (simp -dsimp (disch := (first | omega | assumption | (refine Bool.eq_false_iff.1 ?_; assumption))) only [wrap_in, if_pos, if_neg]; (try simp -dsimp [hlt, hge, n1, c1, c2, hc]))))))))
            all_goals exact ⟨hlt, by simp, by simp [hs, c1, c2], by simp⟩
          · (repeat' (first | ((first | with_reducible refine st_skip ?_ | with_reducible refine st_exit ?_); (try simp only [seqQ, blockQ, loopQ, forQ, whileQ, reduceIte, Nat.reduceEqDiff])) | (with_reducible refine st_ret ?_; ((try simp only [seqQ, blockQ, loopQ, forQ, whileQ]); first | (with_reducible refine retM_ret ?_) | refine retQ_ret ?_; simp [hlt, hge, n1, c1, c2])) | refine st_seq ?_ | refine st_block ?_ | ((with_reducible show (STri _ _ _ _ _) ∧ (STri _ _ _ _ _)); refine And.intro ?_ ?_) | ((first | refine st_reg ?_ | refine buildP_own ?_ | refine appP_own ?_) <;> (simp -dsimp [hlt, hge, n1, c1, c2]; (repeat (simp -dsimp (disch := (first | omega | assumption | (refine Bool.eq_false_iff.1 ?_; assumption))) only [wrap_in, if_pos, if_neg]; (try simp -dsimp [hlt, hge, n1, c1, c2]))))) | ((first | refine guardP_of (fun hc => ?_) (fun hc => ?_) | refine st_cond rfl (fun hc => ?_) (fun hc => ?_)) <;> (try simp only [lqA, lqB, lqC, lqD, lqE, lqF, lqG, lqH, lqI, lqJ, lqK, lqL, lqM, lqN, lqO] at hc) <;> (try (exfalso; first | omega | exact bool_tf hc (by assumption) | exact bool_ft hc (by assumption) | exact absurd (by assumption) hc)) <;> (first | with_reducible show STri _ _ _ _ _ _ | (simp -dsimp [hlt, hge, n1, c1, c2, hc]; (repeat (simp -dsimp (disch := (first | omega | assumption | (refine Bool.eq_false_iff.1 ?_; assumption))) only [wrap_in, if_pos, if_neg]; (try simp -dsimp [hlt, hge, n1, c1, c2, hc]))))))))
            all_goals exact ⟨hlt, by simp, by simp [hs, c1, c2], by simp⟩
        · (repeat' (first | ((first | with_reducible refine st_skip ?_ | with_reducible refine st_exit ?_); (try simp only [seqQ, blockQ, loopQ, forQ, whileQ, reduceIte, Nat.reduceEqDiff])) | (with_reducible refine st_ret ?_; ((try simp only [seqQ, blockQ, loopQ, forQ, whileQ]); first | (with_reducible refine retM_ret ?_) | refine retQ_ret ?_; simp [hlt, hge, n1, c1])) | refine st_seq ?_ | refine st_block ?_ | ((with_reducible show (STri _ _ _ _ _) ∧ (STri _ _ _ _ _)); refine And.intro ?_ ?_) | ((first | refine st_reg ?_ | refine buildP_own ?_ | refine appP_own ?_) <;> (simp -dsimp [hlt, hge, n1, c1]; (repeat (simp -dsimp (disch := (first | omega | assumption | (refine Bool.eq_false_iff.1 ?_; assumption))) only [wrap_in, if_pos, if_neg]; (try simp -dsimp [hlt, hge, n1, c1]))))) | ((first | refine guardP_of (fun hc => ?_) (fun hc => ?_) | refine st_cond rfl (fun hc => ?_) (fun hc => ?_)) <;> (try simp only [lqA, lqB, lqC, lqD, lqE, lqF, lqG, lqH, lqI, lqJ, lqK, lqL, lqM, lqN, lqO] at hc) <;> (try (exfalso; first | omega | exact bool_tf hc (by assumption) | exact bool_ft hc (by assumption) | exact absurd (by assumption) hc)) <;> (first | with_reducible show STri _ _ _ _ _ _ | (simp -dsimp [hlt, hge, n1, c1, hc]; (repeat (simp -dsimp (disch := (first | omega | assumption | (refine Bool.eq_false_iff.1 ?_; assumption))) only [wrap_in, if_pos, if_neg]; (try simp -dsimp [hlt, hge, n1, c1, hc]))))))))
          all_goals exact ⟨hlt, by simp, by simp [hs, c1], by simp⟩
      · (repeat' (first | ((first | with_reducible refine st_skip ?_ | with_reducible refine st_exit ?_); (try simp only [seqQ, blockQ, loopQ, forQ, whileQ, reduceIte, Nat.reduceEqDiff])) | (with_reducible refine st_ret ?_; ((try simp only [seqQ, blockQ, loopQ, forQ, whileQ]); first | (with_reducible refine retM_ret ?_) | refine retQ_ret ?_; simp [hlt, hge, n1])) | refine st_seq ?_ | refine st_block ?_ | ((with_reducible show (STri _ _ _ _ _) ∧ (STri _ _ _ _ _)); refine And.intro ?_ ?_) | ((first | refine st_reg ?_ | refine buildP_own ?_ | refine appP_own ?_) <;> (simp -dsimp [hlt, hge, n1]; (repeat (simp -dsimp (disch := (first | omega | assumption | (refine Bool.eq_false_iff.1 ?_; assumption))) only [wrap_in, if_pos, if_neg]; (try simp -dsimp [hlt, hge, n1]))))) | ((first | refine guardP_of (fun hc => ?_) (fun hc => ?_) | refine st_cond rfl (fun hc => ?_) (fun hc => ?_)) <;> (try simp only [lqA, lqB, lqC, lqD, lqE, lqF, lqG, lqH, lqI, lqJ, lqK, lqL, lqM, lqN, lqO] at hc) <;> (try (exfalso; first | omega | exact bool_tf hc (by assumption) | exact bool_ft hc (by assumption) | exact absurd (by assumption) hc)) <;> (first | with_reducible show STri _ _ _ _ _ _ | (simp -dsimp [hlt, hge, n1, hc]; (repeat (simp -dsimp (disch := (first | omega | assumption | (refine Bool.eq_false_iff.1 ?_; assumption))) only [wrap_in, if_pos, if_neg]; (try simp -dsimp [hlt, hge, n1, hc]))))))))
        all_goals exact ⟨hlt, by simp, by simp [hs], by simp⟩
    · obtain ⟨h5, h6⟩ := h4 (by omega)
      rw [he] at h6
      obtain ⟨m, hm⟩ : ∃ m, k = m + 1 := ⟨k - 1, by omega⟩
      subst hm
      have h7 : m < l.length := by omega
      obtain ⟨f, hf⟩ : ∃ f, l[m] = f := ⟨_, rfl⟩
      have hgf : ∀ h : m < l.length, l[m]'h = f := fun _ => hf
      have h8 : f.2 + 1 < e.1 := by
        have : l[m + 1 - 1] = f := hf
        rw [this] at h6; exact h6
      obtain ⟨h9, h10⟩ := hb _ (List.getElem_mem h7)
      rw [hf] at h9 h10
      have h11 := hg.1 _ (List.getElem_mem h7)
      rw [hf] at h11
      have n2 : ¬ e.1 ≤ f.2 + 1 := by omega
      have n3 : (0 : Int) < (m : Int) + 1 := by omega
      cases q
      · by_cases c1 : e.1 ≤ n
        · by_cases c2 : n ≤ e.2
          · (repeat' (first | ((first | with_reducible refine st_skip ?_ | with_reducible refine st_exit ?_); (try simp only [seqQ, blockQ, loopQ, forQ, whileQ, reduceIte, Nat.reduceEqDiff])) | (with_reducible refine st_ret ?_; ((try simp only [seqQ, blockQ, loopQ, forQ, whileQ]); first | (with_reducible refine retM_ret ?_) | refine retQ_ret ?_; simp [hlt, hge, n1, c1, c2, n2, n3, hgf, h7])) | refine st_seq ?_ | refine st_block ?_ | ((with_reducible show (STri _ _ _ _ _) ∧ (STri _ _ _ _ _)); refine And.intro ?_ ?_) | ((first | refine st_reg ?_ | refine buildP_own ?_ | refine appP_own ?_) <;> (simp -dsimp [hlt, hge, n1, c1, c2, n2, n3, hgf, h7]; (repeat (simp -dsimp (disch := (first | omega | assumption | (refine Bool.eq_false_iff.1 ?_; assumption))) only [wrap_in, if_pos, if_neg]; (try simp -dsimp [hlt, hge, n1, c1, c2, n2, n3, hgf, h7]))))) | ((first | refine guardP_of (fun hc => ?_) (fun hc => ?_) | refine st_cond rfl (fun hc => ?_) (fun hc => ?_)) <;> (try simp only [lqA, lqB, lqC, lqD, lqE, lqF, lqG, lqH, lqI, lqJ, lqK, lqL, lqM, lqN, lqO] at hc) <;> (try (exfalso; first | omega | exact bool_tf hc (by assumption) | exact bool_ft hc (by assumption) | exact absurd (by assumption) hc)) <;> (first | with_reducible show STri _ _ _ _ _ _ | (simp -dsimp [hlt, hge, n1, c1, c2, n2, n3, hgf, h7, hc]; (repeat (simp -dsimp (disch := (first | omega | assumption | (refine Bool.eq_false_iff.1 ?_; assumption))) only [wrap_in, if_pos, if_neg]; (try simp -dsimp [hlt, hge, n1, c1, c2, n2, n3, hgf, h7, hc]))))))))
            all_goals exact ⟨hlt, by simp, by simp [hs, c1, c2], by simp⟩
          · (repeat' (first | ((first | with_reducible refine st_skip ?_ | with_reducible refine st_exit ?_); (try simp only [seqQ, blockQ, loopQ, forQ, whileQ, reduceIte, Nat.reduceEqDiff])) | (with_reducible refine st_ret ?_; ((try simp only [seqQ, blockQ, loopQ, forQ, whileQ]); first | (with_reducible refine retM_ret ?_) | refine retQ_ret ?_; simp [hlt, hge, n1, c1, c2, n2, n3, hgf, h7])) | refine st_seq ?_ | refine st_block ?_ | ((with_reducible show (STri _ _ _ _ _) ∧ (STri _ _ _ _ _)); refine And.intro ?_ ?_) | ((first | refine st_reg ?_ | refine buildP_own ?_ | refine appP_own ?_) <;> (simp -dsimp [hlt, hge, n1, c1, c2, n2, n3, hgf, h7]; (repeat (simp -dsimp (disch := (first | omega | assumption | (refine Bool.eq_false_iff.1 ?_; assumption))) only [wrap_in, if_pos, if_neg]; (try simp -dsimp [hlt, hge, n1, c1, c2, n2, n3, hgf, h7]))))) | ((first | refine guardP_of (fun hc => ?_) (fun hc => ?_) | refine st_cond rfl (fun hc => ?_) (fun hc => ?_)) <;> (try simp only [lqA, lqB, lqC, lqD, lqE, lqF, lqG, lqH, lqI, lqJ, lqK, lqL, lqM, lqN, lqO] at hc) <;> (try (exfalso; first | omega | exact bool_tf hc (by assumption) | exact bool_ft hc (by assumption) | exact absurd (by assumption) hc)) <;> (first | with_reducible show STri _ _ _ _ _ _ | (simp -dsimp [hlt, hge, n1, c1, c2, n2, n3, hgf, h7, hc]; (repeat (simp -dsimp (disch := (first | omega | assumption | (refine Bool.eq_false_iff.1 ?_; assumption))) only [wrap_in, if_pos, if_neg]; (try simp -dsimp [hlt, hge, n1, c1, c2, n2, n3, hgf, h7, hc]))))))))
            all_goals exact ⟨hlt, by simp, by simp [hs, c1, c2], by simp⟩
        · (repeat' (first | ((first | with_reducible refine st_skip ?_ | with_reducible refine st_exit ?_); (try simp only [seqQ, blockQ, loopQ, forQ, whileQ, reduceIte, Nat.reduceEqDiff])) | (with_reducible refine st_ret ?_; ((try simp only [seqQ, blockQ, loopQ, forQ, whileQ]); first | (with_reducible refine retM_ret ?_) | refine retQ_ret ?_; simp [hlt, hge, n1, c1, n2, n3, hgf, h7])) | refine st_seq ?_ | refine st_block ?_ | ((with_reducible show (STri _ _ _ _ _) ∧ (STri _ _ _ _ _)); refine And.intro ?_ ?_) | ((first | refine st_reg ?_ | refine buildP_own ?_ | refine appP_own ?_) <;> (simp -dsimp [hlt, hge, n1, c1, n2, n3, hgf, h7]; (repeat (simp -dsimp (disch := (first | omega | assumption | (refine Bool.eq_false_iff.1 ?_; assumption))) only [wrap_in, if_pos, if_neg]; (try simp -dsimp [hlt, hge, n1, c1, n2, n3, hgf, h7]))))) | ((first | refine guardP_of (fun hc => ?_) (fun hc => ?_) | refine st_cond rfl (fun hc => ?_) (fun hc => ?_)) <;> (try simp only [lqA, lqB, lqC, lqD, lqE, lqF, lqG, lqH, lqI, lqJ, lqK, lqL, lqM, lqN, lqO] at hc) <;> (try (exfalso; first | omega | exact bool_tf hc (by assumption) | exact bool_ft hc (by assumption) | exact absurd (by assumption) hc)) <;> (first | with_reducible show STri _ _ _ _ _ _ | (simp -dsimp [hlt, hge, n1, c1, n2, n3, hgf, h7, hc]; (repeat (simp -dsimp (disch := (first | omega | assumption | (refine Bool.eq_false_iff.1 ?_; assumption))) only [wrap_in, if_pos, if_neg]; (try simp -dsimp [hlt, hge, n1, c1, n2, n3, hgf, h7, hc]))))))))
          all_goals exact ⟨hlt, by simp, by simp [hs, c1], by simp⟩
      · (repeat' (first | ((first | with_reducible refine st_skip ?_ | with_reducible refine st_exit ?_); (try simp only [seqQ, blockQ, loopQ, forQ, whileQ, reduceIte, Nat.reduceEqDiff])) | (with_reducible refine st_ret ?_; ((try simp only [seqQ, blockQ, loopQ, forQ, whileQ]); first | (with_reducible refine retM_ret ?_) | refine retQ_ret ?_; simp [hlt, hge, n1, n2, n3, hgf, h7])) | refine st_seq ?_ | refine st_block ?_ | ((with_reducible show (STri _ _ _ _ _) ∧ (STri _ _ _ _ _)); refine And.intro ?_ ?_) | ((first | refine st_reg ?_ | refine buildP_own ?_ | refine appP_own ?_) <;> (simp -dsimp [hlt, hge, n1, n2, n3, hgf, h7]; (repeat (simp -dsimp (disch := (first | omega | assumption | (refine Bool.eq_false_iff.1 ?_; assumption))) only [wrap_in, if_pos, if_neg]; (try simp -dsimp [hlt, hge, n1, n2, n3, hgf, h7]))))) | ((first | refine guardP_of (fun hc => ?_) (fun hc => ?_) | refine st_cond rfl (fun hc => ?_) (fun hc => ?_)) <;> (try simp only [lqA, lqB, lqC, lqD, lqE, lqF, lqG, lqH, lqI, lqJ, lqK, lqL, lqM, lqN, lqO] at hc) <;> (try (exfalso; first | omega | exact bool_tf hc (by assumption) | exact bool_ft hc (by assumption) | exact absurd (by assumption) hc)) <;> (first | with_reducible show STri _ _ _ _ _ _ | (simp -dsimp [hlt, hge, n1, n2, n3, hgf, h7, hc]; (repeat (simp -dsimp (disch := (first | omega | assumption | (refine Bool.eq_false_iff.1 ?_; assumption))) only [wrap_in, if_pos, if_neg]; (try simp -dsimp [hlt, hge, n1, n2, n3, hgf, h7, hc]))))))))
        all_goals exact ⟨hlt, by simp, by simp [hs], by simp⟩
  · have hkk : k = l.length := by omega
    subst hkk
    rw [List.take_length]
    (repeat' (first | ((first | with_reducible refine st_skip ?_ | with_reducible refine st_exit ?_); (try simp only [seqQ, blockQ, loopQ, forQ, whileQ, reduceIte, Nat.reduceEqDiff])) | (with_reducible refine st_ret ?_; ((try simp only [seqQ, blockQ, loopQ, forQ, whileQ]); first | (with_reducible refine retM_ret ?_) | refine retQ_ret ?_; simp [hlt])) | refine st_seq ?_ | refine st_block ?_ | ((with_reducible show (STri _ _ _ _ _) ∧ (STri _ _ _ _ _)); refine And.intro ?_ ?_) | ((first | refine st_reg ?_ | refine buildP_own ?_ | refine appP_own ?_) <;> (simp -dsimp [hlt]; (repeat (simp -dsimp (disch := (first | omega | assumption | (refine Bool.eq_false_iff.1 ?_; assumption))) only [wrap_in, if_pos, if_neg]; (try simp -dsimp [hlt]))))) | ((first | refine guardP_of (fun hc => ?_) (fun hc => ?_) | refine st_cond rfl (fun hc => ?_) (fun hc => ?_)) <;> (try simp only [lqA, lqB, lqC, lqD, lqE, lqF, lqG, lqH, lqI, lqJ, lqK, lqL, lqM, lqN, lqO] at hc) <;> (try (exfalso; first | omega | exact bool_tf hc (by assumption) | exact bool_ft hc (by assumption) | exact absurd (by assumption) hc)) <;> (first | with_reducible show STri _ _ _ _ _ _ | (simp -dsimp [hlt, hc]; (repeat (simp -dsimp (disch := (first | omega | assumption | (refine Bool.eq_false_iff.1 ?_; assumption))) only [wrap_in, if_pos, if_neg]; (try simp -dsimp [hlt, hc]))))))))
    exact .refl _
structure SpInv (b : Wbk) (p : Nat → Bool) (k : Nat) (l : List (Int × Int)) : Prop where
  gap : GapsP l
  lo : ∀ e ∈ l, b.nlo ≤ e.1 ∧ e.2 < b.nlo + k
  cov : ∀ y, insB y l = true ↔ b.nlo ≤ y ∧ y < b.nlo + k ∧ p (wrongN b y) = true
theorem insB_app (y : Int) (l m : List (Int × Int)) : insB y (l ++ m) = (insB y l || insB y m) := by unfold insB; exact List.any_append
theorem insB_one (y : Int) (e : Int × Int) : insB y [e] = true ↔ e.1 ≤ y ∧ y ≤ e.2 := by unfold insB; simp
theorem spInv (b : Wbk) (p : Nat → Bool) : ∀ k, k ≤ (allL b).length → SpInv b p k (spansTo b p k)
  | 0, _ => by
    have e0 : spansTo b p 0 = [] := rfl
    rw [e0]
    refine ⟨⟨fun e he => ?_, List.Pairwise.nil⟩, fun e he => ?_, fun y => ?_⟩
    · cases he
    · cases he
    · constructor
      · intro h
        simp [insB] at h
      · rintro ⟨h1, h2, _⟩
        omega
  | k + 1, hk => by
    have ih := spInv b p k (by omega)
    have hs := spansTo_succ (p := p) (show k < (allL b).length by omega)
    have hN : k < bookN b := by rw [← allL_len b]; omega
    have h3 : (allL b)[k]'(by omega) = (b.nlo + (k : Int), wrongN b (b.nlo + k)) := by
      have := allL_get hN
      rw [List.getElem?_eq_getElem (by omega)] at this
      exact Option.some.inj this
    rw [h3] at hs
    obtain ⟨⟨g1, g2⟩, i2, i3⟩ := ih
    rw [hs]
    unfold spanStep
    dsimp only
    generalize spansTo b p k = acc at *
    by_cases hp : p (wrongN b (b.nlo + k)) = true
    · rw [if_pos hp]
      have hnew : ∀ y, y = b.nlo + (k : Int) → p (wrongN b y) = true := fun y e => by rw [e]; exact hp
      rcases List.eq_nil_or_concat acc with rfl | ⟨ini, l, rfl⟩
      · simp only [List.getLast?_nil]
        refine ⟨⟨fun e he => ?_, List.pairwise_singleton _ _⟩, fun e he => ?_, fun y => ?_⟩
        · rw [List.mem_singleton.1 he]; exact Int.le_refl _
        · rw [List.mem_singleton.1 he]; dsimp only; omega
        · rw [insB_one]
          constructor
          · rintro ⟨h1, h2⟩
            dsimp only at h1 h2
            exact ⟨by omega, by omega, hnew y (by omega)⟩
          · rintro ⟨h1, h2, h4⟩
            dsimp only
            rcases (show y = b.nlo + (k : Int) ∨ y < b.nlo + (k : Int) by omega) with h | h
            · omega
            · have := (i3 y).2 ⟨h1, h, h4⟩
              simp [insB] at this
      · rw [List.concat_eq_append] at *
        simp only [List.getLast?_append, List.getLast?_singleton, Option.some_or, List.dropLast_concat]
        rw [List.pairwise_append] at g2
        obtain ⟨g2, _, g3⟩ := g2
        have hl := g1 l (by simp)
        have hl2 := i2 l (by simp)
        by_cases hq : l.2 = b.nlo + k - 1
        · rw [if_pos hq]
          refine ⟨⟨fun e he => ?_, ?_⟩, fun e he => ?_, fun y => ?_⟩
          · rcases List.mem_append.1 he with he | he
            · exact g1 e (by simp [he])
            · rw [List.mem_singleton.1 he]; dsimp only; omega
          · rw [List.pairwise_append]
            exact ⟨g2, List.pairwise_singleton _ _, fun a ha c hc => by rw [List.mem_singleton.1 hc]; exact g3 a ha l (by simp)⟩
          · rcases List.mem_append.1 he with he | he
            · have := i2 e (by simp [he]); omega
            · rw [List.mem_singleton.1 he]; dsimp only; omega
          · have h5 := i3 y
            rw [insB_app, Bool.or_eq_true, insB_one] at h5 ⊢
            dsimp only
            constructor
            · rintro (h | ⟨h1, h2⟩)
              · obtain ⟨h6, h7, h8⟩ := h5.1 (.inl h)
                exact ⟨h6, by omega, h8⟩
              · rcases (show y = b.nlo + (k : Int) ∨ y ≤ l.2 by omega) with h | h
                · exact ⟨by omega, by omega, hnew y h⟩
                · obtain ⟨h6, h7, h8⟩ := h5.1 (.inr ⟨h1, h⟩)
                  exact ⟨h6, by omega, h8⟩
            · rintro ⟨h1, h2, h4⟩
              rcases (show y = b.nlo + (k : Int) ∨ y < b.nlo + (k : Int) by omega) with h | h
              · exact .inr ⟨by omega, by omega⟩
              · rcases h5.2 ⟨h1, h, h4⟩ with h | h
                · exact .inl h
                · exact .inr ⟨h.1, by omega⟩
        · rw [if_neg hq]
          refine ⟨⟨fun e he => ?_, ?_⟩, fun e he => ?_, fun y => ?_⟩
          · rcases List.mem_append.1 he with he | he
            · exact g1 e he
            · rw [List.mem_singleton.1 he]; exact Int.le_refl _
          · rw [List.pairwise_append]
            refine ⟨?_, List.pairwise_singleton _ _, fun a ha c hc => ?_⟩
            · rw [List.pairwise_append]; exact ⟨g2, List.pairwise_singleton _ _, g3⟩
            · rw [List.mem_singleton.1 hc]
              dsimp only
              rcases List.mem_append.1 ha with ha | ha
              · have := g3 a ha l (by simp); omega
              · rw [List.mem_singleton.1 ha]; omega
          · rcases List.mem_append.1 he with he | he
            · have := i2 e he; omega
            · rw [List.mem_singleton.1 he]; dsimp only; omega
          · have h5 := i3 y
            rw [insB_app, Bool.or_eq_true, insB_one, h5]
            dsimp only
            constructor
            · rintro (⟨h6, h7, h8⟩ | ⟨h1, h2⟩)
              · exact ⟨h6, by omega, h8⟩
              · exact ⟨by omega, by omega, hnew y (by omega)⟩
            · rintro ⟨h1, h2, h4⟩
              rcases (show y = b.nlo + (k : Int) ∨ y < b.nlo + (k : Int) by omega) with h | h
              · exact .inr ⟨by omega, by omega⟩
              · exact .inl ⟨h1, h, h4⟩
    · rw [if_neg hp]
      refine ⟨⟨g1, g2⟩, fun e he => ?_, fun y => ?_⟩
      · have := i2 e he; omega
      · rw [i3 y]
        constructor
        · rintro ⟨h1, h2, h4⟩; exact ⟨h1, by omega, h4⟩
        · rintro ⟨h1, h2, h4⟩
          refine ⟨h1, ?_, h4⟩
          rcases (show y = b.nlo + (k : Int) ∨ y < b.nlo + (k : Int) by omega) with h | h
          · rw [h] at h4; exact absurd h4 hp
          · exact h
theorem spansInv {b : Wbk} (hb : BkOK b) (p : Nat → Bool) : GapsP (spansL b p) ∧ (∀ e ∈ spansL b p, b.nlo ≤ e.1 ∧ e.2 ≤ b.nhi) ∧ ∀ y, insB y (spansL b p) = true ↔ b.nlo ≤ y ∧ y ≤ b.nhi ∧ p (wrongN b y) = true := by
  have h := spInv b p (allL b).length (Nat.le_refl _)
  have e : spansTo b p (allL b).length = spansL b p := by unfold spansTo spansL; rw [List.take_length]
  rw [e] at h
  have hN : ((allL b).length : Int) = b.nhi + 1 - b.nlo := by
    rw [allL_len]; have := hb.n1; unfold bookN; omega
  refine ⟨h.gap, fun e he => ?_, fun y => ?_⟩
  · have := h.lo e he; omega
  · rw [h.cov y]
    constructor
    · rintro ⟨h1, h2, h3⟩; exact ⟨h1, by omega, h3⟩
    · rintro ⟨h1, h2, h3⟩; exact ⟨h1, by omega, h3⟩
end Go.Proofs.Ytakdmliblijgmaa
/- Wire's plain laws, V: true notes are right. -/
namespace Go.Proofs.Ytakdmliblijgmaa
open Go.RowKit
theorem off_size (x : Of) : sizeW (offW x) = true := by
  have := numS_bd x
  unfold sizeW within1
  rw [offW_len]
  simp; omega
theorem bd_valid {s : Wsrc} (h : SrcBd s) : validV s = true := by
  obtain ⟨hk, e0, e1, e2, e3, a0, a1, d0, d1, d2, d3, v0, v1, t0, t1, t2⟩ := h
  have h1 : spanW s.elo s.ehi 3600 = true := by unfold spanW; simp; omega
  have h2 : within1 0 3155760000 s.at' = true := by unfold within1; simp; omega
  have h3 : spanW s.dlo s.dhi 100000 = true := by unfold spanW; simp; omega
  have h4 : within1 1 3155760000 s.every = true := by unfold within1; simp; omega
  have h5 : within1 1 366 s.table.length = true := by unfold within1; simp; omega
  have h6 : allIn (-3600) 3600 s.table = true := by
    unfold allIn
    rw [List.all_eq_true]
    intro n hn
    have := t2 n hn
    unfold inB; simp; omega
  unfold validV baseV useV clockV eventV sunV kindOK
  rw [h1, h2, h3, h4, h5, h6]
  rcases hk with h | h | h | h <;> rw [h] <;> decide
theorem off_valid {x : Of} (hx : OfOk x) : (offW x).all validV = true := by
  rw [List.all_eq_true]
  intro s hs
  unfold offW offL at hs
  obtain ⟨i, _, rfl⟩ := List.mem_map.1 hs
  exact bd_valid (src_bd (svAt_ok hx i))
theorem off_wlen {x : Of} (hx : OfOk x) : WLen (offW x) := ⟨fun s hs => by
  unfold offW offL at hs
  obtain ⟨i, _, rfl⟩ := List.mem_map.1 hs
  have := (src_bd (svAt_ok hx i)).t1
  omega⟩
theorem offN_len (x : Of) : (offN x).length ≤ 8 := by
  have := notesTo_len' x (numN x)
  unfold offN
  unfold numN at *
  omega
structure NtIn (x : Of) (n : Wnt) : Prop where
  s : ∃ j : Nat, n.src = j ∧ j < numS x ∧ saidB (srcS (svAt x j)) n.said = true
  t0 : 0 ≤ n.tick
  t1 : n.tick ≤ 3155760000
theorem nt_err {x : Of} {n : Wnt} (h : NtIn x n) : noteErr (offW x) n = 0 := by
  obtain ⟨⟨j, h1, h2, h3⟩, t0, t1⟩ := h
  unfold noteErr
  have q1 : within1 0 ((offW x).length - 1) n.src = true := by rw [offW_len, h1]; unfold within1; simp; omega
  have q2 : within1 0 3155760000 n.tick = true := by unfold within1; simp; omega
  have q3 : (((offW x).map fun s => saidB s n.said).getD n.src.toNat false) = true := by
    have hj : j < (offW x).length := by rw [offW_len]; exact h2
    rw [h1, Int.toNat_natCast]
    have : ((offW x).map fun s => saidB s n.said).getD j false = saidB ((offW x)[j]) n.said := by simp [hj]
    rw [this, offW_get, h3]
  rw [if_pos q1, if_pos ⟨q2, q3⟩]
theorem newErr_zero {x : Of} (hx : OfOk x) {l : List Wnt} (hl : l.length ≤ 60) (hn : ∀ n ∈ l, NtIn x n) {lo hi : Int} (hs : spanW lo hi 7200 = true) : newErr (offW x) l lo hi = 0 := by
  have h1 := off_size x
  have h2 := off_valid hx
  have h3 : notesErr (offW x) l = 0 := by
    unfold notesErr
    have : l.find? (fun n => decide (noteErr (offW x) n ≠ 0)) = none := by
      rw [List.find?_eq_none]
      intro n hn'
      simp [nt_err (hn n hn')]
    rw [this]
  unfold newErr
  rw [h1, h2, h3, hs]
  simp; omega
theorem off_right {x : Of} {l : List Wnt} {lo hi : Int} (h : newErr (offW x) l lo hi = 0) {n : Wnt} {j : Nat} (h1 : n.src = j) (h2 : j < numS x) (y : Int) :
    rightN (newBk (offW x) l lo hi) n y = (within1 0 3155760000 (n.tick + y) && rightB (srcS (svAt x j)) (n.tick + y) n.said (srcS (svAt x j)).elo (srcS (svAt x j)).ehi) := by
  obtain ⟨e1, e2, _⟩ := new_nz h
  have hj : j < (offW x).length := by rw [offW_len]; exact h2
  unfold rightN
  rw [e1, e2, h1, Int.toNat_natCast]
  have q1 : (offW x).getD j noSrc = srcS (svAt x j) := by
    rw [← offW_get x hj]; simp [hj]
  have q2 : ((offW x).map errOf).getD j (0, 0) = errOf (srcS (svAt x j)) := by
    rw [← offW_get x hj]; simp [hj]
  rw [q1, q2]
  rfl
theorem said_ok {x : Of} (hx : OfOk x) (i : Nat) : saidB (srcN x i) (saidN x i) = true := by
  have hs := (srcN_bd hx i).k
  have hb := base_bd hx i
  unfold saidB saidN
  rcases hs with h | h | h | h <;> rw [h] <;> simp [within1] <;> omega
theorem noteN_in {x : Of} (hx : OfOk x) {i : Nat} (h : 0 ≤ (noteN x i).tick) : NtIn x (noteN x i) := by
  have ht := time_bd hx i
  obtain ⟨y1, y2⟩ := hx.y
  refine ⟨⟨srcI x i, rfl, srcI_lt i, said_ok hx i⟩, h, ?_⟩
  show timeN x i - (x.by' - 128) ≤ 3155760000
  omega
theorem offN_mem {x : Of} {n : Wnt} (h : n ∈ offN x) : ∃ i, n = noteN x i ∧ 0 ≤ (noteN x i).tick := by
  unfold offN notesTo' at h
  rw [List.mem_filter] at h
  obtain ⟨h1, h2⟩ := h
  obtain ⟨i, _, rfl⟩ := List.mem_map.1 h1
  exact ⟨i, rfl, by simpa using h2⟩
theorem true_right {x : Of} (hx : OfOk x) (i : Nat) : rightB (srcN x i) (timeN x i) (saidN x i) (srcN x i).elo (srcN x i).ehi = true := by
  have hs := srcN_bd hx i
  have he := err_bd hx i
  have hb := base_bd hx i
  have hev := ev_bd hx i
  obtain ⟨_, ⟨b1, b2⟩, _⟩ := nvAt_ok hx i
  have hq := hs.k
  unfold rightB
  rcases hq with hq | hq | hq | hq
  · rw [if_pos hq]
    have ht : timeN x i = baseN x i := by unfold timeN; simp [hq]
    have hsd : saidN x i = (baseN x i + errN x i + drfN x i / 86400000) % 43200 := by unfold saidN; simp [hq]
    have h0 : 0 ≤ baseN x i - (srcN x i).at' := by have := hs.a1; omega
    have hm : (srcN x i).dlo * (baseN x i - (srcN x i).at') ≤ (srcN x i).dhi * (baseN x i - (srcN x i).at') := Int.mul_le_mul_of_nonneg_right hs.d1 h0
    have hd : (srcN x i).dlo * (baseN x i - (srcN x i).at') ≤ drfN x i ∧ drfN x i ≤ (srcN x i).dhi * (baseN x i - (srcN x i).at') := by
      unfold drfN; split <;> omega
    rw [ht, hsd]
    unfold clockR clLo clHi upI
    generalize (srcN x i).dlo * (baseN x i - (srcN x i).at') = P at *
    generalize (srcN x i).dhi * (baseN x i - (srcN x i).at') = Q at *
    generalize drfN x i = D at *
    rw [Bool.and_eq_true, decide_eq_true_eq, decide_eq_true_eq]
    refine ⟨h0, ?_⟩
    omega
  · rw [if_neg (by omega), if_pos hq]
    have ht : timeN x i = (srcN x i).at' + ((nvAt x i).b + 200) * (srcN x i).every + errN x i := by unfold timeN; simp [hq]
    rw [ht]
    unfold eventR upI
    rw [decide_eq_true_eq]
    have hv := hs.v0
    have hN : 0 ≤ (nvAt x i).b + 200 := by omega
    generalize (nvAt x i).b + 200 = N at *
    generalize (srcN x i).every = E at *
    have e1 : N ≤ ((srcN x i).at' + N * E + errN x i - (srcN x i).at' - (srcN x i).elo) / E := by
      rw [Int.le_ediv_iff_mul_le (by omega)]; omega
    have e2 : -N ≤ -((srcN x i).at' + N * E + errN x i - (srcN x i).at' - (srcN x i).ehi) / E := by
      rw [Int.le_ediv_iff_mul_le (by omega), Int.neg_mul]; omega
    omega
  · rw [if_neg (by omega), if_neg (by omega), if_pos hq]
    have ht : timeN x i = (1 + (nvAt x i).b) * 86400 + tabAt (srcN x i) (1 + (nvAt x i).b) + errN x i := by unfold timeN; simp [hq]
    have hta := tabAt_bd hs (1 + (nvAt x i).b)
    have e0 := hs.e0
    have e2 := hs.e2
    have e3 := hs.e3
    unfold sunR
    rw [List.any_eq_true]
    refine ⟨(1 + (nvAt x i).b, noonI (srcN x i) (1 + (nvAt x i).b)), ?_, ?_⟩
    · unfold dayL
      have hlo : dayLo (timeN x i) = max 0 (timeN x i / 86400 - 1) := rfl
      have hdn : dayN (timeN x i) = (timeN x i / 86400 + 2 - dayLo (timeN x i)).toNat := rfl
      rw [List.mem_map]
      refine ⟨(1 + (nvAt x i).b - dayLo (timeN x i)).toNat, List.mem_range.2 (by omega), ?_⟩
      have e : dayLo (timeN x i) + ((1 + (nvAt x i).b - dayLo (timeN x i)).toNat : Int) = 1 + (nvAt x i).b := by omega
      rw [e]
    · have hn : noonI (srcN x i) (1 + (nvAt x i).b) = (1 + (nvAt x i).b) * 86400 + tabAt (srcN x i) (1 + (nvAt x i).b) := rfl
      rw [hn, ht]
      unfold within1
      simp; omega
  · rw [if_neg (by omega), if_neg (by omega), if_neg (by omega)]
    have ht : timeN x i = baseN x i + errN x i := by unfold timeN; simp [hq]
    have hsd : saidN x i = baseN x i := by unfold saidN; simp [hq]
    rw [ht, hsd]
    unfold signalR within1
    simp; omega
theorem note_right {x : Of} (hx : OfOk x) {l : List Wnt} {lo hi : Int} (h : newErr (offW x) l lo hi = 0) (i : Nat) : rightN (newBk (offW x) l lo hi) (noteN x i) (x.by' - 128) = true := by
  rw [off_right h (j := srcI x i) rfl (srcI_lt i)]
  have e : (noteN x i).tick + (x.by' - 128) = timeN x i := by show timeN x i - (x.by' - 128) + (x.by' - 128) = _; omega
  have ht := time_bd hx i
  rw [e]
  have h1 : within1 0 3155760000 (timeN x i) = true := by unfold within1; simp; omega
  rw [h1, Bool.true_and]
  exact true_right hx i
end Go.Proofs.Ytakdmliblijgmaa
/- Wire's plain laws, VI: the truth is there. -/
namespace Go.Proofs.Ytakdmliblijgmaa
open Go.RowKit
/-! When some correction suits all -/
theorem zero_in {b : Wbk} {y : Int} (h1 : b.nlo ≤ y) (h2 : y ≤ b.nhi) (h : wrongN b y = 0) : 0 ∈ setsL b := mem_setsL.2 ⟨(y, wrongN b y), mem_allL.2 ⟨h1, h2, rfl⟩, h⟩
theorem few_zero {b : Wbk} (h : 0 ∈ setsL b) : fewN b = 0 := by
  have := (minU_le (setsL b) b.srcs.length).2 0 h
  rw [pop_zero2] at this
  unfold fewN; omega
theorem filt_one : ∀ {l : List Nat}, l.Nodup → 0 ∈ l → l.filter (fun x => decide (x = 0)) = [0]
  | [], _, h => by cases h
  | a :: l, hn, h => by
    rw [List.nodup_cons] at hn
    by_cases ha : a = 0
    · subst ha
      rw [List.filter_cons_of_pos (by simp)]
      have : l.filter (fun x => decide (x = 0)) = [] := by
        rw [List.filter_eq_nil_iff]
        intro x hx
        simp only [decide_eq_true_eq]
        intro e; subst e; exact hn.1 hx
      rw [this]
    · rw [List.filter_cons_of_neg (by simpa using ha)]
      refine filt_one hn.2 ?_
      rcases List.mem_cons.1 h with h | h
      · exact absurd h.symm ha
      · exact h
theorem least_zero {b : Wbk} (hb : BkOK b) (h : 0 ∈ setsL b) : leastL b = [[]] := by
  have e : leastS b = [0] := by
    unfold leastS
    rw [few_zero h]
    have : (setsL b).filter (fun x => decide (popN x = 0)) = (setsL b).filter fun x => decide (x = 0) := List.filter_congr fun x hx => by
      rw [Bool.eq_iff_iff, decide_eq_true_eq, decide_eq_true_eq]
      exact ⟨pop_zero x (set_lt hb hx), fun e => by rw [e]; exact pop_zero2⟩
    rw [this, filt_one (setsL_nodup b) h]
  unfold leastL sortL
  rw [e]
  simp [numsL, numsTo, lenN]
theorem pairs_none {b : Wbk} (h : 0 ∈ setsL b) (n i : Nat) : pairsTo b n i = [] := by
  have hm : ∀ i k, meetB b i k = true := fun i k => by
    unfold meetB
    rw [List.any_eq_true]
    exact ⟨0, h, by simp [bothB]⟩
  have hr : ∀ i m, pairRow b i m = [] := fun i m => by
    unfold pairRow
    rw [List.map_eq_nil_iff, List.filter_eq_nil_iff]
    intro k _
    simp [hm]
  unfold pairsTo
  rw [List.flatMap_eq_nil_iff]
  intro j _
  exact hr j n
theorem near_ok {y a c : Int} (y1 : -128 ≤ y) (y2 : y ≤ 127) (a1 : 0 ≤ a) (a2 : a ≤ 100) (c1 : 0 ≤ c) (c2 : c ≤ 100) : spanW (y - a) (y + c) 7200 = true := by
  unfold spanW; simp; omega
set_option maxRecDepth 100000 in
set_option maxHeartbeats 4000000 in
theorem lTruths (x : Of) (hx : OfOk x) (a c : Int) (ha : isU8 a) (hc : isU8 c) : SC Try.prog 6 [cOf x, U8 a, U8 c] (B true) := by
  refine law_turretlaw08_WireTruths _ _ (by simp) ?_
  obtain ⟨a1, a2⟩ := ha
  obtain ⟨c1, c2⟩ := hc
  obtain ⟨y1, y2⟩ := hx.y
  have kn := sKnown
  have l1 := lOffS x hx
  have l2 := lBy x hx
  have l3 := fc_sc (lOffN x hx)
  change SC _ _ _ (slN (offN x)) at l3
  obtain ⟨y, hy⟩ : ∃ y, x.by' - 128 = y := ⟨_, rfl⟩
  rw [hy] at l2
  have l4 := lSpan (y - a % 100) (y + c % 100)
  have hsp := near_ok (y := y) (a := a % 100) (c := c % 100) (by omega) (by omega) (by omega) (by omega) (by omega) (by omega)
  have m1 : a.tmod 100 = a % 100 := Int.tmod_eq_emod_of_nonneg a1
  have m2 : c.tmod 100 = c % 100 := Int.tmod_eq_emod_of_nonneg c1
  have hin : ∀ n ∈ offN x, NtIn x n := fun n hn => by
    obtain ⟨i, rfl, h⟩ := offN_mem hn
    exact noteN_in hx h
  have h8 := offN_len x
  have hwl := off_wlen hx
  have hw5 := numS_bd x
  have hol := offW_len x
  have c14 := lSources (offW x) hwl (by omega)
  have c15 := lSaid (offN x) (by omega)
  have hlo : ∃ lo, y - a % 100 = lo := ⟨_, rfl⟩
  have hhi : ∃ hi, y + c % 100 = hi := ⟨_, rfl⟩
  obtain ⟨lo, hlo⟩ := hlo
  obtain ⟨hi, hhi⟩ := hhi
  have b1 : lo ≤ y := by omega
  have b2 : y ≤ hi := by omega
  have b3 : -1000 ≤ lo := by omega
  have b4 : hi ≤ 1000 := by omega
  rw [hlo, hhi] at l4 hsp
  have one : ∀ n ∈ offN x, ∃ r, SC Try.prog 37 [slSr (offW x), cN n, .agg [I lo, I hi]] (.tup [slE r, I 0]) ∧ SC Try.prog 38 [I y, slE r] (B true) := fun n hn => by
    have hz := newErr_zero hx (l := [n]) (by simp) (fun m hm => by rw [List.mem_singleton.1 hm]; exact hin n hn) hsp
    have hb := new_bk hz
    obtain ⟨e1, e2, e3, e4, e5⟩ := new_nz hz
    have s := sSpans (offW x) hwl n lo hi
    rw [if_pos hz, hz] at s
    obtain ⟨g1, g2, g3⟩ := spansInv hb fun m => decide (m = 0)
    have hl := spansL_len hb fun m => decide (m = 0)
    have i := lInside y _ g1 (fun e he => by have := g2 e he; rw [e4, e5] at this; omega) (by omega)
    have hwr : wrongN (newBk (offW x) [n] lo hi) y = 0 := by
      rw [wrong_zero, e3]
      intro m hm
      rw [List.mem_singleton.1 hm]
      obtain ⟨j, rfl, _⟩ := offN_mem hn
      rw [← hy]
      exact note_right hx hz j
    have hi2 : insB y (spansL (newBk (offW x) [n] lo hi) fun m => decide (m = 0)) = true := by
      rw [g3, e4, e5, hwr]
      exact ⟨b1, b2, by simp⟩
    rw [hi2] at i
    exact ⟨_, s, i⟩
  have hz := newErr_zero hx (l := offN x) (by omega) hin hsp
  have hb := new_bk hz
  obtain ⟨e1, e2, e3, e4, e5⟩ := new_nz hz
  have hwr : wrongN (newBk (offW x) (offN x) lo hi) y = 0 := by
    rw [wrong_zero, e3]
    intro m hm
    obtain ⟨i, rfl, _⟩ := offN_mem hm
    rw [← hy]
    exact note_right hx hz i
  have h0 : 0 ∈ setsL (newBk (offW x) (offN x) lo hi) := zero_in (y := y) (by rw [e4]; exact b1) (by rw [e5]; exact b2) hwr
  have d1 := sFits (offW x) hwl (offN x) (by omega) lo hi
  have d2 := sPairs (offW x) hwl (offN x) (by omega) lo hi
  have d3 := sMost (offW x) hwl (offN x) (by omega) lo hi
  have d4 := sWrongs (offW x) hwl (offN x) (by omega) lo hi
  have d5 := sConvict (offW x) hwl (offN x) (by omega) lo hi
  obtain ⟨g1, g2, g3⟩ := spansInv hb fun m => decide (m = 0)
  have hl := spansL_len hb fun m => decide (m = 0)
  have ins := lInside y _ g1 (fun e he => by have := g2 e he; rw [e4, e5] at this; omega) (by omega)
  have hi2 : insB y (spansL (newBk (offW x) (offN x) lo hi) fun m => decide (m = 0)) = true := by
    rw [g3, e4, e5, hwr]
    exact ⟨b1, b2, by simp⟩
  have hne : ¬ (spansL (newBk (offW x) (offN x) lo hi) fun m => decide (m = 0)) = [] := fun e => by
    rw [e] at hi2; simp [insB] at hi2
  rw [hi2] at ins
  rw [if_pos hz, if_pos hz, if_neg hne] at d1
  rw [hz, if_pos rfl, pairs_none h0] at d2
  rw [hz, if_pos rfl, if_pos rfl, few_zero h0, spans_zero hb] at d3
  rw [hz, if_pos rfl, least_zero hb h0] at d4
  rw [hz, if_pos rfl, if_pos rfl, least_zero hb h0] at d5
  have hrb : ∀ k, (h : k < (spansL (newBk (offW x) (offN x) lo hi) fun m => decide (m = 0)).length) → lo ≤ ((spansL (newBk (offW x) (offN x) lo hi) fun m => decide (m = 0))[k]).1 ∧ ((spansL (newBk (offW x) (offN x) lo hi) fun m => decide (m = 0))[k]).2 ≤ hi := fun k h => by
    have := g2 _ (List.getElem_mem h); rw [e4, e5] at this; exact this
  generalize (spansL (newBk (offW x) (offN x) lo hi) fun m => decide (m = 0)) = r at *
  clear g1 g2 g3 hi2 hne hwr h0 hb hz e1 e2 e3 e4 e5
  unfold convE at d5
  generalize hN : offN x = l at *
  generalize hW : offW x = W at *
  (repeat' (first | ((first | with_reducible refine st_skip ?_ | with_reducible refine st_exit ?_); (try simp only [seqQ, blockQ, loopQ, forQ, whileQ, reduceIte, Nat.reduceEqDiff])) | (with_reducible refine st_ret ?_; ((try simp only [seqQ, blockQ, loopQ, forQ, whileQ]); first | (with_reducible refine retM_ret ?_) | refine retQ_ret ?_; simp [m1, m2, hlo, hhi])) | refine st_seq ?_ | refine st_block ?_ | ((with_reducible show (STri _ _ _ _ _) ∧ (STri _ _ _ _ _)); refine And.intro ?_ ?_) | ((first | refine st_reg ?_ | refine buildP_own ?_ | refine appP_own ?_ | refine callP_b (l1) rfl ?_ | refine callP_b (l2) rfl ?_ | refine callP_b (l3) rfl ?_ | refine callP_b (l4) rfl ?_) <;> (simp -dsimp [m1, m2, hlo, hhi]; (repeat (simp -dsimp (disch := (first | omega | assumption | (refine Bool.eq_false_iff.1 ?_; assumption))) only [wrap_in, if_pos, if_neg]; (try simp -dsimp [m1, m2, hlo, hhi]))))) | ((first | refine guardP_of (fun hc => ?_) (fun hc => ?_) | refine st_cond rfl (fun hc => ?_) (fun hc => ?_)) <;> (try simp only [lqA, lqB, lqC, lqD, lqE, lqF, lqG, lqH, lqI, lqJ, lqK, lqL, lqM, lqN, lqO] at hc) <;> (try (exfalso; first | omega | exact bool_tf hc (by assumption) | exact bool_ft hc (by assumption) | exact absurd (by assumption) hc)) <;> (first | with_reducible show STri _ _ _ _ _ _ | (simp -dsimp [m1, m2, hlo, hhi, hc]; (repeat (simp -dsimp (disch := (first | omega | assumption | (refine Bool.eq_false_iff.1 ?_; assumption))) only [wrap_in, if_pos, if_neg]; (try simp -dsimp [m1, m2, hlo, hhi, hc]))))))))
  refine st_for [3, 8] l.length (fun k T H => T = [(3, .ptr 3 0), (7, .c (slSr W)), (8, .ptr 8 0), (9, .c (slN l)), (10, .c (I k))] ∧ H = [(3, bxOf x), (8, .box 25 [.c (I lo), .c (I hi)])]) (by simp) ⟨by simp, by simp⟩ ?_
  rintro k T H hk ⟨rfl, rfl⟩
  by_cases hlt : k < l.length
  · obtain ⟨q, q1, q2⟩ := one _ (List.getElem_mem hlt)
    (repeat' (first | ((first | with_reducible refine st_skip ?_ | with_reducible refine st_exit ?_); (try simp only [seqQ, blockQ, loopQ, forQ, whileQ, reduceIte, Nat.reduceEqDiff])) | (with_reducible refine st_ret ?_; ((try simp only [seqQ, blockQ, loopQ, forQ, whileQ]); first | (with_reducible refine retM_ret ?_) | refine retQ_ret ?_; simp [hlt])) | refine st_seq ?_ | refine st_block ?_ | ((with_reducible show (STri _ _ _ _ _) ∧ (STri _ _ _ _ _)); refine And.intro ?_ ?_) | ((first | refine st_reg ?_ | refine buildP_own ?_ | refine appP_own ?_ | refine callP_b (l2) rfl ?_ | refine callP_b (c14) rfl ?_ | refine callP_b (q1) rfl ?_ | refine callP_b (q2) rfl ?_) <;> (simp -dsimp [hlt]; (repeat (simp -dsimp (disch := (first | omega | assumption | (refine Bool.eq_false_iff.1 ?_; assumption))) only [wrap_in, if_pos, if_neg]; (try simp -dsimp [hlt]))))) | ((first | refine guardP_of (fun hc => ?_) (fun hc => ?_) | refine st_cond rfl (fun hc => ?_) (fun hc => ?_)) <;> (try simp only [lqA, lqB, lqC, lqD, lqE, lqF, lqG, lqH, lqI, lqJ, lqK, lqL, lqM, lqN, lqO] at hc) <;> (try (exfalso; first | omega | exact bool_tf hc (by assumption) | exact bool_ft hc (by assumption) | exact absurd (by assumption) hc)) <;> (first | with_reducible show STri _ _ _ _ _ _ | (simp -dsimp [hlt, hc]; (repeat (simp -dsimp (disch := (first | omega | assumption | (refine Bool.eq_false_iff.1 ?_; assumption))) only [wrap_in, if_pos, if_neg]; (try simp -dsimp [hlt, hc]))))))))
    all_goals exact ⟨hlt, by simp, by simp, by simp⟩
  · have hkk : k = l.length := by omega
    subst hkk
    (repeat' (first | ((first | with_reducible refine st_skip ?_ | with_reducible refine st_exit ?_); (try simp only [seqQ, blockQ, loopQ, forQ, whileQ, reduceIte, Nat.reduceEqDiff])) | (with_reducible refine st_ret ?_; ((try simp only [seqQ, blockQ, loopQ, forQ, whileQ]); first | (with_reducible refine retM_ret ?_) | refine retQ_ret ?_; simp [hlt])) | refine st_seq ?_ | refine st_block ?_ | ((with_reducible show (STri _ _ _ _ _) ∧ (STri _ _ _ _ _)); refine And.intro ?_ ?_) | ((first | refine st_reg ?_ | refine buildP_own ?_ | refine appP_own ?_ | refine callP_b (l2) rfl ?_ | refine callP_b (c14) rfl ?_ | refine callP_b (c15) rfl ?_ | refine callP_b (d1) rfl ?_ | refine callP_b (d2) rfl ?_ | refine callP_b (d3) rfl ?_ | refine callP_b (d4) rfl ?_ | refine callP_b (d5) rfl ?_ | refine callP_b (ins) rfl ?_) <;> (simp -dsimp [hlt]; (repeat (simp -dsimp (disch := (first | omega | assumption | (refine Bool.eq_false_iff.1 ?_; assumption))) only [wrap_in, if_pos, if_neg]; (try simp -dsimp [hlt]))))) | ((first | refine guardP_of (fun hc => ?_) (fun hc => ?_) | refine st_cond rfl (fun hc => ?_) (fun hc => ?_)) <;> (try simp only [lqA, lqB, lqC, lqD, lqE, lqF, lqG, lqH, lqI, lqJ, lqK, lqL, lqM, lqN, lqO] at hc) <;> (try (exfalso; first | omega | exact bool_tf hc (by assumption) | exact bool_ft hc (by assumption) | exact absurd (by assumption) hc)) <;> (first | with_reducible show STri _ _ _ _ _ _ | (simp -dsimp [hlt, hc]; (repeat (simp -dsimp (disch := (first | omega | assumption | (refine Bool.eq_false_iff.1 ?_; assumption))) only [wrap_in, if_pos, if_neg]; (try simp -dsimp [hlt, hc]))))))))
    refine st_for [8] r.length (fun k T H => T = [(8, .ptr 8 0), (13, .c (slE r)), (18, .c (slE r)), (24, .c (I k))] ∧ H = [(8, .box 25 [.c (I lo), .c (I hi)])]) (by simp) ⟨by simp, by simp⟩ ?_
    rintro k T H hk ⟨rfl, rfl⟩
    by_cases hlt2 : k < r.length
    · obtain ⟨f1, f2⟩ := hrb k hlt2
      have f3 : ¬ (r[k]).1 < lo := by omega
      have f4 : ¬ hi < (r[k]).2 := by omega
      (repeat' (first | ((first | with_reducible refine st_skip ?_ | with_reducible refine st_exit ?_); (try simp only [seqQ, blockQ, loopQ, forQ, whileQ, reduceIte, Nat.reduceEqDiff])) | (with_reducible refine st_ret ?_; ((try simp only [seqQ, blockQ, loopQ, forQ, whileQ]); first | (with_reducible refine retM_ret ?_) | refine retQ_ret ?_; simp [hlt2, f3, f4])) | refine st_seq ?_ | refine st_block ?_ | ((with_reducible show (STri _ _ _ _ _) ∧ (STri _ _ _ _ _)); refine And.intro ?_ ?_) | ((first | refine st_reg ?_ | refine buildP_own ?_ | refine appP_own ?_) <;> (simp -dsimp [hlt2, f3, f4]; (repeat (simp -dsimp (disch := (first | omega | assumption | (refine Bool.eq_false_iff.1 ?_; assumption))) only [wrap_in, if_pos, if_neg]; (try simp -dsimp [hlt2, f3, f4]))))) | ((first | refine guardP_of (fun hc => ?_) (fun hc => ?_) | refine st_cond rfl (fun hc => ?_) (fun hc => ?_)) <;> (try simp only [lqA, lqB, lqC, lqD, lqE, lqF, lqG, lqH, lqI, lqJ, lqK, lqL, lqM, lqN, lqO] at hc) <;> (try (exfalso; first | omega | exact bool_tf hc (by assumption) | exact bool_ft hc (by assumption) | exact absurd (by assumption) hc)) <;> (first | with_reducible show STri _ _ _ _ _ _ | (simp -dsimp [hlt2, f3, f4, hc]; (repeat (simp -dsimp (disch := (first | omega | assumption | (refine Bool.eq_false_iff.1 ?_; assumption))) only [wrap_in, if_pos, if_neg]; (try simp -dsimp [hlt2, f3, f4, hc]))))))))
      all_goals exact ⟨hlt2, by simp, by simp, by simp⟩
    · have hkk : k = r.length := by omega
      subst hkk
      (repeat' (first | ((first | with_reducible refine st_skip ?_ | with_reducible refine st_exit ?_); (try simp only [seqQ, blockQ, loopQ, forQ, whileQ, reduceIte, Nat.reduceEqDiff])) | (with_reducible refine st_ret ?_; ((try simp only [seqQ, blockQ, loopQ, forQ, whileQ]); first | (with_reducible refine retM_ret ?_) | refine retQ_ret ?_; simp [hlt2])) | refine st_seq ?_ | refine st_block ?_ | ((with_reducible show (STri _ _ _ _ _) ∧ (STri _ _ _ _ _)); refine And.intro ?_ ?_) | ((first | refine st_reg ?_ | refine buildP_own ?_ | refine appP_own ?_ | refine callP_b (kn) rfl ?_) <;> (simp -dsimp [hlt2]; (repeat (simp -dsimp (disch := (first | omega | assumption | (refine Bool.eq_false_iff.1 ?_; assumption))) only [wrap_in, if_pos, if_neg]; (try simp -dsimp [hlt2]))))) | ((first | refine guardP_of (fun hc => ?_) (fun hc => ?_) | refine st_cond rfl (fun hc => ?_) (fun hc => ?_)) <;> (try simp only [lqA, lqB, lqC, lqD, lqE, lqF, lqG, lqH, lqI, lqJ, lqK, lqL, lqM, lqN, lqO] at hc) <;> (try (exfalso; first | omega | exact bool_tf hc (by assumption) | exact bool_ft hc (by assumption) | exact absurd (by assumption) hc)) <;> (first | with_reducible show STri _ _ _ _ _ _ | (simp -dsimp [hlt2, hc]; (repeat (simp -dsimp (disch := (first | omega | assumption | (refine Bool.eq_false_iff.1 ?_; assumption))) only [wrap_in, if_pos, if_neg]; (try simp -dsimp [hlt2, hc]))))))))
      all_goals exact .refl _
end Go.Proofs.Ytakdmliblijgmaa
/- From a contract by value to a given statement: arguments of plain types are opened, and read again behind the call. -/
namespace Go.Proofs.Ytakdmliblijgmaa
open Go.RowKit Go.ChangeShapes Go.WideShapes
section
variable {P : Program}
def tyF (P : Program) (r : TypeId → List CV → Prop) : List Field → List CV → Prop
  | [], cs => cs = []
  | f :: fs, cs => ∃ c1 c2, cs = c1 ++ c2 ∧ r f.type c1 ∧ tyF P r fs c2
def tyA (r : List CV → Prop) : Nat → List CV → Prop
  | 0, cs => cs = []
  | n + 1, cs => ∃ c1 c2, cs = c1 ++ c2 ∧ r c1 ∧ tyA r n c2
def tyC (P : Program) : Nat → TypeId → List CV → Prop
  | 0, _, _ => False
  | d + 1, t, cs => match P.underlying t with
    | some .bool => ∃ b, cs = [.val (.bool b)]
    | some (.int k) => ∃ n, cs = [.val (.int k n)] ∧ (Lit.int k n).wf = true
    | some (.slice e) => ∃ rows, cs = [.sl (P.cellsOf e) rows] ∧ rows.length ≤ maxLen ∧ ∀ row ∈ rows, tyC P d e row
    | some (.struct fs) => tyF P (tyC P d) fs.toList cs
    | some (.array n e) => tyA (tyC P d e) n cs
    | _ => False
theorem tyC_int {d : Nat} {t : TypeId} {k : IntKind} {cs : List CV} (hu : P.underlying t = some (.int k)) (h : tyC P d t cs) : ∃ n, cs = [.val (.int k n)] ∧ (Lit.int k n).wf = true := by
  cases d with
  | zero => exact h.elim
  | succ d => unfold tyC at h; rw [hu] at h; exact h
theorem tyC_slice {d : Nat} {t e : TypeId} {cs : List CV} (hu : P.underlying t = some (.slice e)) (h : tyC P d t cs) : ∃ d' rows, cs = [.sl (P.cellsOf e) rows] ∧ rows.length ≤ maxLen ∧ ∀ row ∈ rows, tyC P d' e row := by
  cases d with
  | zero => exact h.elim
  | succ d => unfold tyC at h; rw [hu] at h; exact ⟨d, h⟩
theorem tyC_struct {d : Nat} {t : TypeId} {fs : Array Field} {cs : List CV} (hu : P.underlying t = some (.struct fs)) (h : tyC P d t cs) : ∃ d', tyF P (tyC P d') fs.toList cs := by
  cases d with
  | zero => exact h.elim
  | succ d => unfold tyC at h; rw [hu] at h; exact ⟨d, h⟩
theorem tyC_array {d : Nat} {t e : TypeId} {n : Nat} {cs : List CV} (hu : P.underlying t = some (.array n e)) (h : tyC P d t cs) : ∃ d', tyA (tyC P d' e) n cs := by
  cases d with
  | zero => exact h.elim
  | succ d => unfold tyC at h; rw [hu] at h; exact ⟨d, h⟩
theorem rows_map {α : Type} {f : α → List CV} : ∀ {rows : List (List CV)}, (∀ row ∈ rows, ∃ x, row = f x) → ∃ xs : List α, rows = xs.map f
  | [], _ => ⟨[], rfl⟩
  | r :: rs, h => by
    obtain ⟨x, rfl⟩ := h r (by simp)
    obtain ⟨xs, rfl⟩ := rows_map (rows := rs) (fun r hr => h r (by simp [hr]))
    exact ⟨x :: xs, rfl⟩
theorem agg_cells {v : Value} (h : v.cells.size ≠ 1) : v = .agg v.cells := by
  cases v <;> first | rfl | (exact absurd rfl h)
def tileB (P : Program) : List Field → Nat → Nat → Bool
  | [], acc, n => acc == n
  | f :: fs, acc, n => f.offset == acc && tileB P fs (acc + P.cellsOf f.type) n
def plainB (P : Program) : Nat → TypeId → Bool
  | 0, _ => false
  | d + 1, t => match P.underlying t with
    | some .bool => P.cellsOf t == 1
    | some (.int _) => P.cellsOf t == 1
    | some (.slice e) => P.cellsOf t == 1 && decide (0 < P.cellsOf e) && plainB P d e
    | some (.struct fs) => tileB P fs.toList 0 (P.cellsOf t) && fs.toList.all fun f => plainB P d f.type
    | some (.array n e) => P.cellsOf t == n * P.cellsOf e && plainB P d e
    | _ => false
theorem tile_le : ∀ {fs : List Field} {acc n : Nat}, tileB P fs acc n = true → acc ≤ n
  | [], _, _, h => by simp [tileB] at h; omega
  | f :: fs, acc, n, h => by
    simp only [tileB, Bool.and_eq_true] at h
    have := tile_le h.2
    omega
theorem tyF_len {fs : List Field} {r : TypeId → List CV → Prop} (hr : ∀ (f : Field) c, f ∈ fs → r f.type c → c.length = P.cellsOf f.type ∧ c.all CV.one = true) : ∀ {fs' : List Field}, (∀ f ∈ fs', f ∈ fs) → ∀ {acc n : Nat} {cs : List CV}, tileB P fs' acc n = true → tyF P r fs' cs → acc + cs.length = n ∧ cs.all CV.one = true
  | [], _, acc, n, cs, ht, h => by simp [tileB] at ht; simp [tyF] at h; subst h; simp [ht]
  | f :: fs', hm, acc, n, cs, ht, h => by
    simp only [tileB, Bool.and_eq_true] at ht
    obtain ⟨c1, c2, rfl, h1, h2⟩ := h
    obtain ⟨l1, o1⟩ := hr f c1 (hm f (by simp)) h1
    obtain ⟨l2, o2⟩ := tyF_len hr (fun g hg => hm g (by simp [hg])) ht.2 h2
    rw [List.length_append, List.all_append, o1, o2]
    exact ⟨by omega, rfl⟩
theorem tyA_len {r : List CV → Prop} {k : Nat} (hr : ∀ c, r c → c.length = k ∧ c.all CV.one = true) : ∀ {n : Nat} {cs : List CV}, tyA r n cs → cs.length = n * k ∧ cs.all CV.one = true
  | 0, cs, h => by simp [tyA] at h; subst h; simp
  | n + 1, cs, h => by
    obtain ⟨c1, c2, rfl, h1, h2⟩ := h
    obtain ⟨l1, o1⟩ := hr c1 h1
    obtain ⟨l2, o2⟩ := tyA_len hr h2
    rw [List.length_append, List.all_append, o1, o2, l1, l2, Nat.succ_mul]
    exact ⟨by omega, rfl⟩
theorem tyC_len : ∀ {d : Nat} {t : TypeId} {cs : List CV}, plainB P d t = true → tyC P d t cs → cs.length = P.cellsOf t ∧ cs.all CV.one = true
  | 0, _, _, hp, _ => by simp [plainB] at hp
  | d + 1, t, cs, hp, h => by
    unfold plainB at hp
    unfold tyC at h
    split at hp <;> rename_i hu
    · rw [hu] at h; obtain ⟨b, rfl⟩ := h; simp at hp; simp [hp, CV.one]
    · rw [hu] at h; obtain ⟨n, rfl, _⟩ := h; simp at hp; simp [hp, CV.one]
    · rw [hu] at h; obtain ⟨rows, rfl, _⟩ := h; simp at hp; simp [hp.1.1, CV.one]
    · rw [hu] at h
      simp only [Bool.and_eq_true, List.all_eq_true] at hp
      obtain ⟨l, o⟩ := tyF_len (P := P) (fun f c hf hc => tyC_len (hp.2 f hf) hc) (fun f hf => hf) hp.1 h
      exact ⟨by omega, o⟩
    · rw [hu] at h
      simp only [Bool.and_eq_true, beq_iff_eq] at hp
      obtain ⟨l, o⟩ := tyA_len (fun c hc => tyC_len hp.2 hc) h
      exact ⟨by rw [l, hp.1], o⟩
    · simp at hp
def RCs (w : World) (cs : List CV) (vs : List Value) : Prop := cs.length = vs.length ∧ ∀ (i : Nat) x v, cs[i]? = some x → vs[i]? = some v → RepC w (fun _ => False) x v
theorem RCs.append {w : World} {a b : List CV} {c d : List Value} (h : RCs w a c) (k : RCs w b d) : RCs w (a ++ b) (c ++ d) := by
  refine ⟨by rw [List.length_append, List.length_append, h.1, k.1], fun i x v hx hv => ?_⟩
  rw [List.getElem?_append] at hx hv
  rw [← h.1] at hv
  split at hx
  · rename_i hi; rw [if_pos hi] at hv; exact h.2 i x v hx hv
  · rename_i hi; rw [if_neg hi] at hv; exact k.2 _ x v hx hv
theorem RCs.one {w : World} {x : CV} {v : Value} (h : RepC w (fun _ => False) x v) : RCs w [x] [v] := ⟨rfl, fun i y u hx hv => by
  cases i with
  | zero => cases hx; cases hv; exact h
  | succ i => simp at hx⟩
section
variable {H : Type} {enc : TypeId × Value → H} {w : World} {spare : Nat → Bool} {held : Bool}
theorem cell_at {w : World} {a : Addr} {k len i j : Nat} {vr : List Value} (ha : a.spot = none) (h : w.cells? 0 (a.add (i * k)) k = some vr) (hj : j < k) : w.cell? ⟨a.block, a.off + i * k + j, none⟩ = vr[j]? := by
  obtain ⟨_, _, h3⟩ := World.cells?_some h
  rw [← h3 j hj]
  have e : ∀ m : Nat, a.add m = ⟨a.block, a.off + m, none⟩ := fun m => by
    unfold Addr.add
    split
    · rename_i h0; subst h0; cases a; simp at ha; simp [ha]
    · rfl
  rw [e]
  unfold Addr.add
  split
  · rename_i h0; subst h0; rfl
  · rfl
theorem open_tyC : ∀ {d n : Nat} {t : TypeId} {vs : List Value} {x : DataW H × List MemPlace}, plainB P d t = true → DataW.trod enc P w 0 spare held n t vs = some x → ∃ cs, tyC P d t cs ∧ RCs w cs vs
  | 0, _, _, _, _, hp, _ => by simp [plainB] at hp
  | d + 1, n, t, vs, x, hp, h => by
    unfold plainB at hp
    split at hp <;> rename_i hu
    · obtain ⟨b, rfl, _⟩ := DataW.trod_bool hu h
      exact ⟨[.val (.bool b)], by unfold tyC; rw [hu]; exact ⟨b, rfl⟩, .one (.val _)⟩
    · rename_i k
      obtain ⟨m, rfl, _, hw⟩ := DataW.trod_int hu h
      exact ⟨[.val (.int k m)], by unfold tyC; rw [hu]; exact ⟨m, rfl, hw⟩, .one (.val _)⟩
    · rename_i e
      simp only [Bool.and_eq_true, beq_iff_eq, decide_eq_true_eq] at hp
      obtain ⟨⟨_, hk⟩, hpe⟩ := hp
      rcases DataW.trod_slice hu h with ⟨rfl, _⟩ | ⟨a, len, cap, elems, rest, m, _, rfl, _, _, hl, hm, hlen, hel, _⟩
      · exact ⟨[.sl (P.cellsOf e) []], by unfold tyC; rw [hu]; exact ⟨[], rfl, Nat.zero_le _, by simp⟩, .one (.nil _ none 0 (Nat.zero_le _))⟩
      · have hrow : ∀ i, i < len → ∃ vr cr, w.cells? 0 (a.add (i * P.cellsOf e)) (P.cellsOf e) = some vr ∧ tyC P d e cr ∧ RCs w cr vr := fun i hi => by
          have h1 := hel i hi
          rw [List.getElem?_eq_getElem (by omega)] at h1
          obtain ⟨vr, h2, h3⟩ := Option.bind_eq_some_iff.1 h1
          obtain ⟨cr, h4, h5⟩ := open_tyC hpe h3
          exact ⟨vr, cr, h2, h4, h5⟩
        by_cases h0 : len = 0
        · subst h0
          exact ⟨[.sl (P.cellsOf e) []], by unfold tyC; rw [hu]; exact ⟨[], rfl, Nat.zero_le _, by simp⟩, .one (.nil _ (some a) cap hm)⟩
        have hch : ∃ (V : Nat → List Value) (C : Nat → List CV), ∀ i, i < len → w.cells? 0 (a.add (i * P.cellsOf e)) (P.cellsOf e) = some (V i) ∧ tyC P d e (C i) ∧ RCs w (C i) (V i) := by
          refine ⟨fun i => if h : i < len then Classical.choose (hrow i h) else [], fun i => if h : i < len then Classical.choose (Classical.choose_spec (hrow i h)) else [], fun i hi => ?_⟩
          simp only [dif_pos hi]
          exact Classical.choose_spec (Classical.choose_spec (hrow i hi))
        obtain ⟨V, C, hVC⟩ := hch
        have hfirst := hVC 0 (by omega)
        have hsp : a.spot = none := by
          obtain ⟨_, l1, h3⟩ := World.cells?_some hfirst.1
          have h4 := h3 0 hk
          rw [List.getElem?_eq_getElem (by omega)] at h4
          simp only [Nat.zero_mul, Addr.add, if_true] at h4
          unfold World.cell? at h4
          split at h4
          · split at h4
            · cases h4
            · rename_i hs; simpa using hs
          · cases h4
        have hblk : a.block < w.heap.size := by
          have := World.cells?_block hfirst.1 hk
          simpa [Addr.add] using this
        have hlenC : ∀ i, i < len → (C i).length = P.cellsOf e ∧ (C i).all CV.one = true := fun i hi => tyC_len hpe (hVC i hi).2.1
        have hget : ∀ (j : Nat) row, ((List.range len).map C)[j]? = some row → j < len ∧ row = C j := fun j row hj => by
          rw [List.getElem?_map] at hj
          obtain ⟨i, hi, rfl⟩ := Option.map_eq_some_iff.1 hj
          obtain ⟨h1, h2⟩ := List.getElem?_eq_some_iff.1 hi
          simp at h1 h2; subst h2; exact ⟨h1, rfl⟩
        have hsl := RepC.sl (w := w) (N := fun _ => False) (P.cellsOf e) ((List.range len).map C) a.block a.off cap (fun j i => ((V j)[i]?).getD undef) (by simpa using hl) hm hblk (fun h => h) (fun j row hj => by obtain ⟨h1, rfl⟩ := hget j row hj; exact hlenC j h1) (fun j row i y hj hy => by
            obtain ⟨h1, rfl⟩ := hget j row hj
            obtain ⟨q1, q2, q3⟩ := hVC j h1
            have hik : i < P.cellsOf e := by rw [← (hlenC j h1).1]; exact (List.getElem?_eq_some_iff.1 hy).1
            rw [cell_at (len := len) hsp q1 hik]
            have : i < (V j).length := by rw [← q3.1, (hlenC j h1).1]; exact hik
            rw [List.getElem?_eq_getElem this]; rfl) (fun j row i y hj hy => by
            obtain ⟨h1, rfl⟩ := hget j row hj
            obtain ⟨q1, q2, q3⟩ := hVC j h1
            have hik : i < P.cellsOf e := by rw [← (hlenC j h1).1]; exact (List.getElem?_eq_some_iff.1 hy).1
            have : i < (V j).length := by rw [← q3.1, (hlenC j h1).1]; exact hik
            refine q3.2 i y _ hy ?_
            rw [List.getElem?_eq_getElem this]; rfl)
        have ea : a = ⟨a.block, a.off, none⟩ := by cases a; simp at hsp; simp [hsp]
        rw [List.length_map, List.length_range, ← ea] at hsl
        have hrows : ∀ row ∈ (List.range len).map C, tyC P d e row := fun row hr => by
          obtain ⟨i, hi, rfl⟩ := List.mem_map.1 hr
          exact (hVC i (by simpa using hi)).2.1
        exact ⟨[.sl (P.cellsOf e) ((List.range len).map C)], by unfold tyC; rw [hu]; exact ⟨_, rfl, by simp; omega, hrows⟩, .one hsl⟩
    · rename_i fs
      simp only [Bool.and_eq_true, List.all_eq_true] at hp
      obtain ⟨xs, m, _, _, hlen, _, hf⟩ := DataW.trod_struct hu h
      have key : ∀ (fs' : List Field) (acc : Nat), (∀ f ∈ fs', plainB P d f.type = true ∧ ∃ y, DataW.trod enc P w 0 spare held m f.type ((vs.drop f.offset).take (P.cellsOf f.type)) = some y) → tileB P fs' acc (P.cellsOf t) = true → acc ≤ P.cellsOf t → ∃ cs, tyF P (tyC P d) fs' cs ∧ RCs w cs (vs.drop acc) := by
        intro fs'
        induction fs' with
        | nil =>
          intro acc _ ht _
          simp [tileB] at ht
          exact ⟨[], by simp [tyF], by constructor <;> simp [← hlen, ht] <;> omega⟩
        | cons f fs' ih =>
          intro acc hall ht hacc
          simp only [tileB, Bool.and_eq_true, beq_iff_eq] at ht
          obtain ⟨hpf, y, hy⟩ := hall f (by simp)
          obtain ⟨c1, t1, r1⟩ := open_tyC hpf hy
          have hlt := tile_le ht.2
          obtain ⟨c2, t2, r2⟩ := ih (acc + P.cellsOf f.type) (fun g hg => hall g (by simp [hg])) ht.2 hlt
          refine ⟨c1 ++ c2, ⟨c1, c2, rfl, t1, t2⟩, ?_⟩
          rw [ht.1] at r1
          have e : vs.drop acc = (vs.drop acc).take (P.cellsOf f.type) ++ vs.drop (acc + P.cellsOf f.type) := by rw [← List.drop_drop, List.take_append_drop]
          rw [e]; exact r1.append r2
      obtain ⟨cs, h1, h2⟩ := key fs.toList 0 (fun f hf' => by
        refine ⟨hp.2 f hf', ?_⟩
        obtain ⟨i, hi, he⟩ := List.getElem_of_mem hf'
        have := hf i f (by simp at hi; simp at he; simp [← he, hi])
        have hxl : i < xs.length := by simp at hi; omega
        rw [List.getElem?_eq_getElem hxl] at this
        exact ⟨_, this⟩) hp.1 (Nat.zero_le _)
      exact ⟨cs, by unfold tyC; rw [hu]; exact h1, by simpa using h2⟩
    · rename_i k e
      simp only [Bool.and_eq_true, beq_iff_eq] at hp
      obtain ⟨xs, m, _, _, hlen, hxs, hf⟩ := DataW.trod_array hu h
      have key : ∀ (r i : Nat), i + r = k → ∃ cs, tyA (tyC P d e) r cs ∧ RCs w cs (vs.drop (i * P.cellsOf e)) := by
        intro r
        induction r with
        | zero =>
          intro i hi
          have : vs.length ≤ i * P.cellsOf e := by rw [hlen, hp.1]; have : i = k := by omega
                                                   subst this; exact Nat.le_refl _
          exact ⟨[], by simp [tyA], by rw [List.drop_of_length_le this]; constructor <;> simp⟩
        | succ r ih =>
          intro i hi
          have h1 := hf i (by omega)
          rw [List.getElem?_eq_getElem (by omega)] at h1
          obtain ⟨c1, t1, r1⟩ := open_tyC hp.2 h1
          obtain ⟨c2, t2, r2⟩ := ih (i + 1) (by omega)
          refine ⟨c1 ++ c2, ⟨c1, c2, rfl, t1, t2⟩, ?_⟩
          have e' : vs.drop (i * P.cellsOf e) = (vs.drop (i * P.cellsOf e)).take (P.cellsOf e) ++ vs.drop ((i + 1) * P.cellsOf e) := by rw [Nat.succ_mul, ← List.drop_drop, List.take_append_drop]
          rw [e']; exact r1.append r2
      obtain ⟨cs, h1, h2⟩ := key k 0 (by omega)
      exact ⟨cs, by unfold tyC; rw [hu]; exact h1, by simpa using h2⟩
    · simp at hp
theorem trodAll_carry {w w' : World} {base : Nat} {spare : Nat → Bool} {held : Bool} : ∀ {ts : List TypeId} {vs : List Value} {ds : List (DataW H)} {ps : List MemPlace}, DataW.TrodAll enc P w base spare held ts vs ds ps → (∀ p ∈ ps, w.sameAt w' p) → DataW.TrodAll enc P w' base spare held ts vs ds ps
  | [], [], [], _, h, _ => h
  | _ :: _, _ :: _, _ :: _, _, ⟨p, q, ⟨n, h1⟩, h2, e⟩, hs =>
    ⟨p, q, ⟨n, DataW.trod_carry n _ _ _ h1 (fun x hx => hs x (by rw [e]; exact List.mem_append_left _ hx))⟩, trodAll_carry h2 (fun x hx => hs x (by rw [e]; exact List.mem_append_right _ hx)), e⟩
theorem post_ext {T : TypeId → Prop} (K : Kids P T) (hz : ∀ t e, T t → P.underlying t = some (.slice e) → 0 < P.cellsOf e) {f : Func} {s : ChangeSpec} {apart fresh handsOn again : Bool} {W W' : World} {args : Array Value} {v : Value} {ds gs : List (DataW H)} {before : List MemPlace}
    (hT : ∀ t ∈ f.params.toList, T t) (hsv : s.vars = []) (hW : DataW.Whole enc P f.params.toList s.vars apart W args.toList ds gs before)
    (hres : ∀ (b : Nat) (sp : Nat → Bool) (hd : Bool), DataW.TrodAll enc P W' b sp hd f.resultTypes.toList (v.resultList f.resultTypes.size) (s.fn H (ds ++ gs)).results [])
    (hargs : (s.fn H (ds ++ gs)).args = ds) (hvars : (s.fn H (ds ++ gs)).vars = []) (hx : Ext W W')
    (hok : ∀ (j : Nat) (t : TypeId) (r : Value), f.resultTypes[j]? = some t → (v.resultList f.resultTypes.size)[j]? = some r → Value.okWide P W' .any 0 t r) :
    s.post enc P f apart fresh handsOn again W args v W' := by
  have hlt := hW.lt
  have hold : ∀ p ∈ before, (fun b => decide (b < W.heap.size)) p.block = true := fun p hp => by simpa using hlt p hp
  have hW0 := hW
  obtain ⟨p, q, hA, hV, e, hfz, hn⟩ := hW
  rw [hsv] at hV
  obtain ⟨hg, hq⟩ := trodVars_none hV
  subst hq
  rw [List.append_nil] at e
  subst e
  have ha : ∀ sp : Nat → Bool, (∀ p ∈ before, sp p.block = true) → DataW.TrodAll enc P W' 0 sp true f.params.toList args.toList (s.fn H (ds ++ gs)).args before := fun sp hsp => by
    rw [hargs]
    exact trodAll_carry (DataW.TrodAll.respare K hz hT hA hsp) (fun p hp => hx.same (hlt p hp))
  have hv : ∀ sp : Nat → Bool, DataW.TrodVars enc P W' sp s.vars (s.fn H (ds ++ gs)).vars [] := fun sp => by rw [hvars, hsv]; exact rfl
  refine ⟨ds, gs, before, [], before, [], hW0, hres _ _ _, ha _ hold, hv _, World.keptBut_mono (fun p hp => ⟨hp, Or.inr (Or.inl hp)⟩) (hx.frame (· ∈ before)), fun _ => ?_⟩
  refine ⟨hok, _, _, ([] ++ before) ++ [], ⟨[] ++ before, [], trodAll_append (ha _ (fun _ _ => rfl)) (hres _ _ _), hv _, rfl, ?_, ?_⟩, ?_⟩
  · intro b off hp
    simp at hp
    rw [Below.frozen hx (p := ⟨b, off, none⟩) (hlt _ hp)]
    exact hfz b off hp
  · intro h
    simpa using hn h
  · intro p hp _
    simpa using hp
end
end
end Go.Proofs.Ytakdmliblijgmaa
/- Arguments opened: slices and integers. -/
namespace Go.Proofs.Ytakdmliblijgmaa
open Go.RowKit Go.ChangeShapes Go.WideShapes Go.ChangeAt
section
variable {H : Type} {enc : TypeId × Value → H} {P : Program} {w : World} {base b0 : Nat} {spare : Nat → Bool} {held : Bool} {v : Value} {x : DataW H} {ps : List MemPlace} {t : TypeId} {r : Reach}
end
end Go.Proofs.Ytakdmliblijgmaa
/- Wire's types opened. -/
namespace Go.Proofs.Ytakdmliblijgmaa
open Go.RowKit Go.ChangeShapes Go.WideShapes Go.ChangeAt
theorem Try.own : ownKnob Try.prog.godebug = none := by kernel_rfl
theorem Try.kids : Kids Try.prog (· < Try.prog.types.size) := kids_rows (by kernel_rfl) (by kernel_rfl)
theorem Try.full : ∀ t e, t < Try.prog.types.size → Try.prog.underlying t = some (.slice e) → 0 < Try.prog.cellsOf e := slices_full_of Try.prog (by kernel_rfl)
theorem val_inv {w : World} {N : Nat → Prop} {u v : Value} (h : RepC w N (.val u) v) : v = u := by cases h; rfl
section
variable {H : Type} {enc : TypeId × Value → H} {w : World} {b0 : Nat} {spare : Nat → Bool} {held : Bool} {v : Value} {x : DataW H} {ps : List MemPlace} {r : Reach}
end
end Go.Proofs.Ytakdmliblijgmaa
/- Wire's offices opened. -/
namespace Go.Proofs.Ytakdmliblijgmaa
open Go.RowKit Go.ChangeShapes Go.WideShapes Go.ChangeAt
theorem Try.plainO : plainB Try.prog 8 66 = true := by kernel_rfl
theorem Try.cells5 : Try.prog.cellsOf 108 = 5 := by kernel_rfl
theorem Try.cells3 : Try.prog.cellsOf 76 = 3 := by kernel_rfl
theorem Try.cells1 : Try.prog.cellsOf 5 = 1 := by kernel_rfl
theorem wf8 {n : Int} (h : (Lit.int .u8 n).wf = true) : isU8 n := by
  simp only [Lit.wf, Bool.and_eq_true, decide_eq_true_eq] at h
  exact h
theorem ty_u8 {d : Nat} {cs : List CV} (h : tyC Try.prog d 5 cs) : ∃ n, cs = [U8 n] ∧ isU8 n := by
  obtain ⟨n, h, hw⟩ := tyC_int Try.underlying5 h; exact ⟨n, h, wf8 hw⟩
theorem ty_three {d : Nat} {cs : List CV} (h : tyC Try.prog d 76 cs) : ∃ v, cs = rowNv v ∧ NvOk v := by
  obtain ⟨d, c1, r1, rfl, t1, c2, r2, rfl, t2, c3, r3, rfl, t3, t4⟩ := tyC_array Try.underlying76 h
  obtain ⟨n1, rfl, h1⟩ := ty_u8 t1
  obtain ⟨n2, rfl, h2⟩ := ty_u8 t2
  obtain ⟨n3, rfl, h3⟩ := ty_u8 t3
  have t4 : r3 = [] := t4
  subst t4
  exact ⟨⟨n1, n2, n3⟩, rfl, h1, h2, h3⟩
theorem ty_five {d : Nat} {cs : List CV} (h : tyC Try.prog d 108 cs) : ∃ v, cs = rowSv v ∧ SvOk v := by
  obtain ⟨d, c1, r1, rfl, t1, c2, r2, rfl, t2, c3, r3, rfl, t3, c4, r4, rfl, t4, c5, r5, rfl, t5, t6⟩ := tyC_array Try.underlying108 h
  obtain ⟨n1, rfl, h1⟩ := ty_u8 t1
  obtain ⟨n2, rfl, h2⟩ := ty_u8 t2
  obtain ⟨n3, rfl, h3⟩ := ty_u8 t3
  obtain ⟨n4, rfl, h4⟩ := ty_u8 t4
  obtain ⟨n5, rfl, h5⟩ := ty_u8 t5
  have t6 : r5 = [] := t6
  subst t6
  exact ⟨⟨n1, n2, n3, n4, n5⟩, rfl, h1, h2, h3, h4, h5⟩
theorem ty_svs {d : Nat} {cs : List CV} (h : tyC Try.prog d 62 cs) : ∃ xs : List Sv, cs = [.sl 5 (xs.map rowSv)] ∧ xs.length ≤ 9223372036854775807 ∧ ∀ v ∈ xs, SvOk v := by
  obtain ⟨d', rows, h, hl, h2⟩ := tyC_slice Try.underlying62 h
  rw [Try.cells5] at h
  obtain ⟨xs, rfl⟩ := rows_map (f := fun v : {v : Sv // SvOk v} => rowSv v.1) (fun row hr => by obtain ⟨v, h1, h2⟩ := ty_five (h2 row hr); exact ⟨⟨v, h2⟩, h1⟩)
  refine ⟨xs.map (·.1), by rw [h]; simp, by simpa [maxLen] using hl, fun v hv => ?_⟩
  obtain ⟨x, _, rfl⟩ := List.mem_map.1 hv
  exact x.2
theorem ty_nvs {d : Nat} {cs : List CV} (h : tyC Try.prog d 63 cs) : ∃ xs : List Nv, cs = [.sl 3 (xs.map rowNv)] ∧ xs.length ≤ 9223372036854775807 ∧ ∀ v ∈ xs, NvOk v := by
  obtain ⟨d', rows, h, hl, h2⟩ := tyC_slice Try.underlying63 h
  rw [Try.cells3] at h
  obtain ⟨xs, rfl⟩ := rows_map (f := fun v : {v : Nv // NvOk v} => rowNv v.1) (fun row hr => by obtain ⟨v, h1, h2⟩ := ty_three (h2 row hr); exact ⟨⟨v, h2⟩, h1⟩)
  refine ⟨xs.map (·.1), by rw [h]; simp, by simpa [maxLen] using hl, fun v hv => ?_⟩
  obtain ⟨x, _, rfl⟩ := List.mem_map.1 hv
  exact x.2
theorem ty_bytes {d : Nat} {cs : List CV} (h : tyC Try.prog d 64 cs) : ∃ xs : List Int, cs = [.sl 1 (xs.map rowY)] ∧ xs.length ≤ 9223372036854775807 ∧ ∀ n ∈ xs, isU8 n := by
  obtain ⟨d', rows, h, hl, h2⟩ := tyC_slice Try.underlying64 h
  rw [Try.cells1] at h
  obtain ⟨xs, rfl⟩ := rows_map (f := fun v : {n : Int // isU8 n} => rowY v.1) (fun row hr => by obtain ⟨v, h1, h2⟩ := ty_u8 (h2 row hr); exact ⟨⟨v, h2⟩, h1⟩)
  refine ⟨xs.map (·.1), by rw [h]; simp, by simpa [maxLen] using hl, fun v hv => ?_⟩
  obtain ⟨x, _, rfl⟩ := List.mem_map.1 hv
  exact x.2
theorem ty_office {d : Nat} {cs : List CV} (h : tyC Try.prog d 66 cs) : ∃ x : Of, cs = rowOf x ∧ OfOk x := by
  obtain ⟨d', c1, r1, rfl, h1, c2, r2, rfl, h2, c3, r3, rfl, h3, c4, r4, rfl, h4, h5⟩ := tyC_struct Try.underlying66 h
  obtain ⟨ss, rfl, hs1, hs2⟩ := ty_svs h1
  obtain ⟨ns, rfl, hn1, hn2⟩ := ty_nvs h2
  obtain ⟨y, rfl, hy⟩ := ty_u8 h3
  obtain ⟨bs, rfl, hb1, hb2⟩ := ty_bytes h4
  have h5 : r4 = [] := h5
  subst h5
  exact ⟨⟨ss, ns, y, bs⟩, rfl, hs2, hn2, hy, hb2, hs1, hn1, hb1⟩
set_option maxRecDepth 100000 in
theorem open_office {H : Type} {enc : TypeId × Value → H} {w : World} {spare : Nat → Bool} {held : Bool} {v : Value} {x : DataW H} {ps : List MemPlace} (h : DataW.Trod enc Try.prog w 0 spare held 66 v x ps) : ∃ c : Of, RepC w (fun _ => False) (cOf c) v ∧ OfOk c := by
  obtain ⟨n, h⟩ := h
  obtain ⟨cs, h1, h2⟩ := open_tyC Try.plainO h
  obtain ⟨c, rfl, hm⟩ := ty_office h1
  have hs : v.cells.size = 4 := by have := h2.1; simp at this; omega
  have hv := agg_cells (v := v) (by omega)
  refine ⟨c, ?_, hm⟩
  rw [hv]
  exact .agg _ _ (by simpa using hs) (fun i x u hx hu => h2.2 i x u hx (by simpa using hu))
end Go.Proofs.Ytakdmliblijgmaa
/- Wire's plain laws, VII: shifted notes; later counters. -/
namespace Go.Proofs.Ytakdmliblijgmaa
open Go.RowKit
structure Sh8 where
  (s0 s1 s2 s3 s4 s5 s6 s7 : Int)
structure ShOk (s : Sh8) : Prop where
  h0 : isU8 s.s0
  h1 : isU8 s.s1
  h2 : isU8 s.s2
  h3 : isU8 s.s3
  h4 : isU8 s.s4
  h5 : isU8 s.s5
  h6 : isU8 s.s6
  h7 : isU8 s.s7
def rowSh (s : Sh8) : List CV := [U8 s.s0, U8 s.s1, U8 s.s2, U8 s.s3, U8 s.s4, U8 s.s5, U8 s.s6, U8 s.s7]
def cSh (s : Sh8) : CV := .agg (rowSh s)
def shAt (s : Sh8) (i : Nat) : Int := [s.s0, s.s1, s.s2, s.s3, s.s4, s.s5, s.s6, s.s7].getD i 0
attribute [simp] rowSh cSh
theorem sh_get (s : Sh8) {i : Nat} (h : i < 8) : List.take 1 (List.drop i [SV.c (U8 s.s0), SV.c (U8 s.s1), SV.c (U8 s.s2), SV.c (U8 s.s3), SV.c (U8 s.s4), SV.c (U8 s.s5), SV.c (U8 s.s6), SV.c (U8 s.s7)]) = [SV.c (U8 (shAt s i))] := by
  rcases (show i = 0 ∨ i = 1 ∨ i = 2 ∨ i = 3 ∨ i = 4 ∨ i = 5 ∨ i = 6 ∨ i = 7 by omega) with rfl | rfl | rfl | rfl | rfl | rfl | rfl | rfl <;> rfl
theorem shAt_bd {s : Sh8} (h : ShOk s) {i : Nat} (hi : i < 8) : isU8 (shAt s i) := by
  obtain ⟨h0, h1, h2, h3, h4, h5, h6, h7⟩ := h
  rcases (show i = 0 ∨ i = 1 ∨ i = 2 ∨ i = 3 ∨ i = 4 ∨ i = 5 ∨ i = 6 ∨ i = 7 by omega) with rfl | rfl | rfl | rfl | rfl | rfl | rfl | rfl <;> assumption
def chgL (f : Nat → Wnt → Wnt) (l : List Wnt) : List Wnt := l.mapIdx f
def chgTo (f : Nat → Wnt → Wnt) (l : List Wnt) (k : Nat) : List Wnt := (chgL f l).take k ++ l.drop k
theorem chgL_len (f : Nat → Wnt → Wnt) (l : List Wnt) : (chgL f l).length = l.length := by simp [chgL]
theorem chgTo_len (f : Nat → Wnt → Wnt) (l : List Wnt) {k : Nat} (h : k ≤ l.length) : (chgTo f l k).length = l.length := by
  unfold chgTo
  rw [List.length_append, List.length_take, List.length_drop, chgL_len]; omega
theorem chgTo_get (f : Nat → Wnt → Wnt) (l : List Wnt) {k : Nat} (h : k < l.length) : (chgTo f l k)[k]'(by rw [chgTo_len f l (by omega)]; exact h) = l[k] := by
  unfold chgTo
  rw [List.getElem_append_right (by rw [List.length_take]; omega)]
  simp [chgL_len, Nat.min_eq_left (Nat.le_of_lt h)]
theorem chgTo_set (f : Nat → Wnt → Wnt) (l : List Wnt) {k : Nat} (h : k < l.length) : (chgTo f l k).set k (f k l[k]) = chgTo f l (k + 1) := by
  have hk : k < (chgL f l).length := by rw [chgL_len]; exact h
  unfold chgTo
  rw [List.set_append_right _ _ (by rw [List.length_take]; omega)]
  have e : k - (List.take k (chgL f l)).length = 0 := by rw [List.length_take]; omega
  rw [e, List.drop_eq_getElem_cons h, List.set_cons_zero, List.take_succ_eq_append_getElem hk, List.append_assoc]
  have e2 : (chgL f l)[k] = f k l[k] := by simp [chgL]
  rw [e2]; rfl
theorem chgTo_skip (f : Nat → Wnt → Wnt) (l : List Wnt) {k : Nat} (h : k < l.length) (hf : f k l[k] = l[k]) : chgTo f l k = chgTo f l (k + 1) := by
  rw [← chgTo_set f l h, hf]
  have := chgTo_get f l h
  have hlt : k < (chgTo f l k).length := by rw [chgTo_len f l (by omega)]; exact h
  rw [← this]
  exact (List.set_getElem_self hlt).symm
theorem chgTo_zero (f : Nat → Wnt → Wnt) (l : List Wnt) : chgTo f l 0 = l := by simp [chgTo]
theorem chgTo_all (f : Nat → Wnt → Wnt) (l : List Wnt) : chgTo f l l.length = chgL f l := by
  unfold chgTo
  rw [List.drop_length, List.append_nil, ← chgL_len f l, List.take_length]
theorem chg_mem {f : Nat → Wnt → Wnt} {l : List Wnt} {n : Wnt} (h : n ∈ chgL f l) : ∃ i m, m ∈ l ∧ n = f i m ∧ i < l.length := by
  unfold chgL at h
  rw [List.mem_mapIdx] at h
  obtain ⟨i, hi, rfl⟩ := h
  exact ⟨i, l[i], List.getElem_mem hi, rfl, hi⟩
theorem offN_tick {x : Of} (hx : OfOk x) {n : Wnt} (h : n ∈ offN x) : NtIn x n ∧ n.tick ≤ 30001000 := by
  obtain ⟨i, rfl, h0⟩ := offN_mem h
  have ht := time_bd hx i
  obtain ⟨y1, y2⟩ := hx.y
  refine ⟨noteN_in hx h0, ?_⟩
  show timeN x i - (x.by' - 128) ≤ 30001000
  omega
/-! All ticks are greater, and the corrections smaller -/
def ltN (d : Int) (n : Wnt) : Wnt := { n with tick := n.tick + d }
structure ShB (d : Int) (b b' : Wbk) : Prop where
  s : b'.srcs = b.srcs
  e : b'.errs = b.errs
  n : b'.notes = b.notes.map (ltN d)
  lo : b'.nlo = b.nlo - d
  hi : b'.nhi = b.nhi - d
def shE (d : Int) (e : Int × Int) : Int × Int := (e.1 - d, e.2 - d)
theorem sh_right {d : Int} {b b' : Wbk} (h : ShB d b b') (n : Wnt) (y : Int) : rightN b' (ltN d n) (y - d) = rightN b n y := by
  unfold rightN
  rw [h.s, h.e]
  have e : (ltN d n).tick + (y - d) = n.tick + y := by show n.tick + d + (y - d) = _; omega
  rw [e]; rfl
theorem sh_wrong {d : Int} {b b' : Wbk} (h : ShB d b b') (y : Int) : wrongN b' (y - d) = wrongN b y := by
  unfold wrongN wrongTo
  rw [List.take_length, List.take_length, h.n, List.foldl_map]
  congr 1
  funext a n
  rw [sh_right h]
  rfl
theorem sh_num {d : Int} {b b' : Wbk} (h : ShB d b b') : bookN b' = bookN b := by
  unfold bookN; rw [h.lo, h.hi]; congr 1; omega
theorem sh_all {d : Int} {b b' : Wbk} (h : ShB d b b') : allL b' = (allL b).map fun x => (x.1 - d, x.2) := by
  unfold allL
  rw [sh_num h, List.map_map]
  refine List.map_congr_left fun k _ => ?_
  show (b'.nlo + (k : Int), wrongN b' (b'.nlo + k)) = (b.nlo + (k : Int) - d, wrongN b (b.nlo + k))
  have e : b'.nlo + (k : Int) = b.nlo + k - d := by rw [h.lo]; omega
  rw [e, sh_wrong h]
theorem sh_step (d : Int) (p : Nat → Bool) (acc : List (Int × Int)) (x : Int × Nat) : spanStep p (acc.map (shE d)) (x.1 - d, x.2) = (spanStep p acc x).map (shE d) := by
  unfold spanStep
  by_cases hp : p x.2 = true
  · rw [if_pos hp, if_pos hp]
    rcases List.eq_nil_or_concat acc with rfl | ⟨ini, l, rfl⟩
    · simp [shE]
    · rw [List.concat_eq_append]
      simp only [List.map_append, List.map_cons, List.map_nil, List.getLast?_append, List.getLast?_singleton, Option.some_or, List.dropLast_concat]
      by_cases hl : l.2 = x.1 - 1
      · rw [if_pos hl, if_pos (by show l.2 - d = _; omega)]
        simp [shE]
      · rw [if_neg hl, if_neg (by show ¬ l.2 - d = _; omega)]
        simp [shE]
  · rw [if_neg hp, if_neg hp]
theorem sh_spans {d : Int} {b b' : Wbk} (h : ShB d b b') (p : Nat → Bool) : spansL b' p = (spansL b p).map (shE d) := by
  unfold spansL
  rw [sh_all h, List.foldl_map]
  have : ∀ (l : List (Int × Nat)) (acc : List (Int × Int)), l.foldl (fun a x => spanStep p a (x.1 - d, x.2)) (acc.map (shE d)) = (l.foldl (spanStep p) acc).map (shE d) := by
    intro l
    induction l with
    | nil => intro acc; rfl
    | cons x l ih => intro acc; rw [List.foldl_cons, List.foldl_cons, sh_step, ih]
  exact this (allL b) []
theorem sh_sets {d : Int} {b b' : Wbk} (h : ShB d b b') : setsL b' = setsL b := by
  unfold setsL
  rw [sh_all h, List.foldl_map]
theorem sh_few {d : Int} {b b' : Wbk} (h : ShB d b b') : fewN b' = fewN b := by unfold fewN; rw [sh_sets h, h.s]
theorem sh_least {d : Int} {b b' : Wbk} (h : ShB d b b') : leastL b' = leastL b := by unfold leastL leastS; rw [sh_sets h, sh_few h]
theorem sh_wide {d : Int} {b b' : Wbk} (h : ShB d b b') (j : Nat) (y : Int) : ShB d (wideB b j y) (wideB b' j y) := ⟨h.s, by simp only [wideB]; rw [h.e], h.n, h.lo, h.hi⟩
theorem sh_str {d : Int} {b b' : Wbk} (h : ShB d b b') (j : Nat) : strN b' j = strN b j := by
  unfold strN
  congr 1
  funext y
  unfold fitB
  rw [sh_spans (sh_wide h j y)]
  simp
end Go.Proofs.Ytakdmliblijgmaa
/- Wire's plain laws, VIII: a later counter. -/
namespace Go.Proofs.Ytakdmliblijgmaa
open Go.RowKit
def chA (s : Sh8) (thr : Int) (i : Nat) (n : Wnt) : Wnt := if thr ≤ shAt s i then { n with tick := max 0 (n.tick + shAt s i % 60 - 30) } else n
theorem chA_in {x : Of} (hx : OfOk x) {s : Sh8} {thr : Int} {n : Wnt} (h : n ∈ chgL (chA s thr) (offN x)) : NtIn x n ∧ n.tick ≤ 30002000 := by
  obtain ⟨i, m, hm, rfl, _⟩ := chg_mem h
  obtain ⟨⟨q1, q2, q3⟩, q4⟩ := offN_tick hx hm
  unfold chA
  split
  · have h0 := Int.emod_nonneg (shAt s i) (show (60 : Int) ≠ 0 by omega)
    have h1 := Int.emod_lt_of_pos (shAt s i) (show (0 : Int) < 60 by omega)
    refine ⟨⟨q1, ?_, ?_⟩, ?_⟩ <;> (dsimp only; omega)
  · exact ⟨⟨q1, q2, q3⟩, by omega⟩
set_option maxRecDepth 100000 in
set_option maxHeartbeats 8000000 in
theorem lLater (x : Of) (hx : OfOk x) (s : Sh8) (hs : ShOk s) (d : Int) (hd : isU8 d) : SC Try.prog 10 [cOf x, cSh s, U8 d] (B true) := by
  refine glaw_turretlaw08_WireLater _ _ (by simp) ?_
  obtain ⟨d1, d2⟩ := hd
  obtain ⟨y1, y2⟩ := hx.y
  have kn := sKnown
  have l1 := lOffS x hx
  have l2 := lBy x hx
  have l3 := lOffN x hx
  obtain ⟨y, hy⟩ : ∃ y, x.by' - 128 = y := ⟨_, rfl⟩
  rw [hy] at l2
  have l4 := lSpan (y - 60) (y + 60)
  have l5 := lSpan (y - 60 - d) (y + 60 - d)
  have hsp1 := near_ok (y := y) (a := 60) (c := 60) (by omega) (by omega) (by omega) (by omega) (by omega) (by omega)
  have hsp2 : spanW (y - 60 - d) (y + 60 - d) 7200 = true := by unfold spanW; simp; omega
  have h8 := offN_len x
  have hwl := off_wlen hx
  have hw5 := numS_bd x
  have hol := offW_len x
  have c14 := lSources (offW x) hwl (by omega)
  generalize hl : chgL (chA s 160) (offN x) = l
  have hll : l.length = (offN x).length := by rw [← hl, chgL_len]
  have hin : ∀ n ∈ l, NtIn x n ∧ n.tick ≤ 30002000 := fun n hn => chA_in hx (by rw [hl]; exact hn)
  generalize hm : l.map (ltN d) = m
  have hml : m.length = l.length := by rw [← hm]; simp
  have c15 := lSaid l (by omega)
  have c16 := lSaid m (by omega)
  have hz1 := newErr_zero hx (l := l) (by omega) (fun n hn => (hin n hn).1) hsp1
  have hz2 := newErr_zero hx (l := m) (by omega) (fun n hn => by
    rw [← hm] at hn
    obtain ⟨n0, h0, rfl⟩ := List.mem_map.1 hn
    obtain ⟨⟨q1, q2, q3⟩, q4⟩ := hin n0 h0
    refine ⟨q1, ?_, ?_⟩
    · show 0 ≤ n0.tick + d; omega
    · show n0.tick + d ≤ _; omega) hsp2
  obtain ⟨e1, e2, e3, e4, e5⟩ := new_nz hz1
  obtain ⟨f1, f2, f3, f4, f5⟩ := new_nz hz2
  have hsh : ShB d (newBk (offW x) l (y - 60) (y + 60)) (newBk (offW x) m (y - 60 - d) (y + 60 - d)) := ⟨by rw [e1, f1], by rw [e2, f2], by rw [e3, f3, hm], by rw [e4, f4], by rw [e5, f5]⟩
  have p1 := sFits (offW x) hwl l (by omega) (y - 60) (y + 60)
  have p2 := sFits (offW x) hwl m (by omega) (y - 60 - d) (y + 60 - d)
  have p3 := sMost (offW x) hwl l (by omega) (y - 60) (y + 60)
  have p4 := sMost (offW x) hwl m (by omega) (y - 60 - d) (y + 60 - d)
  have p5 := sConvict (offW x) hwl l (by omega) (y - 60) (y + 60)
  have p6 := sConvict (offW x) hwl m (by omega) (y - 60 - d) (y + 60 - d)
  have p7 := sStretch (offW x) hwl l (by omega) (y - 60) (y + 60) 0
  have p8 := sStretch (offW x) hwl m (by omega) (y - 60 - d) (y + 60 - d) 0
  have hb := new_bk hz1
  obtain ⟨gp1, g2, _⟩ := spansInv hb fun m => decide (m = 0)
  obtain ⟨gp2, g4, _⟩ := spansInv hb fun m => decide (popN m = fewN (newBk (offW x) l (y - 60) (y + 60)))
  have hsl1 := spansL_len hb fun m => decide (m = 0)
  have hsl2 := spansL_len hb fun m => decide (popN m = fewN (newBk (offW x) l (y - 60) (y + 60)))
  rw [e4, e5] at g2 g4
  rw [if_pos hz1, if_pos hz1] at p1
  rw [if_pos hz2, if_pos hz2, sh_spans hsh] at p2
  rw [hz1, if_pos rfl, if_pos rfl] at p3
  rw [hz2, if_pos rfl, if_pos rfl, sh_few hsh, sh_spans hsh] at p4
  rw [hz1, if_pos rfl, if_pos rfl] at p5
  rw [hz2, if_pos rfl, if_pos rfl, sh_least hsh] at p6
  rw [if_pos hz1, if_pos hz1] at p7
  rw [if_pos hz2, if_pos hz2, sh_str hsh] at p8
  generalize (spansL (newBk (offW x) l (y - 60) (y + 60)) fun m => decide (m = 0)) = r at *
  generalize (spansL (newBk (offW x) l (y - 60) (y + 60)) fun m => decide (popN m = fewN (newBk (offW x) l (y - 60) (y + 60)))) = r2 at *
  generalize convE (leastL (newBk (offW x) l (y - 60) (y + 60))) = cv at *
  generalize fewN (newBk (offW x) l (y - 60) (y + 60)) = fw at *
  generalize hst1 : (if within1 0 (((offW x).length : Int) - 1) 0 = true then (if strN (newBk (offW x) l (y - 60) (y + 60)) (Int.toNat 0) ≤ 10000 then ((strN (newBk (offW x) l (y - 60) (y + 60)) (Int.toNat 0) : Nat) : Int) else 0) else 0) = st1 at *
  generalize hst2 : (if within1 0 (((offW x).length : Int) - 1) 0 = true then (if strN (newBk (offW x) l (y - 60) (y + 60)) (Int.toNat 0) ≤ 10000 then (0 : Int) else 9) else 7) = st2 at *
  have her : ∃ er : Int, (er = 0 ∨ er = 7) ∧ (if r = [] then (7 : Int) else 0) = er ∧ (if r.map (shE d) = [] then (7 : Int) else 0) = er := by
    by_cases h : r = []
    · exact ⟨7, .inr rfl, by rw [if_pos h], by rw [if_pos (by rw [h]; rfl)]⟩
    · exact ⟨0, .inl rfl, by rw [if_neg h], by rw [if_neg (by simpa using h)]⟩
  obtain ⟨er, he0, he1, he2⟩ := her
  rw [he1] at p1
  rw [he2] at p2
  clear hsh e1 e2 e3 e4 e5 f1 f2 f3 f4 f5 hz1 hz2 hb he1 he2 hsp1 hsp2 hst1 hst2
  obtain ⟨l0, hl0⟩ : ∃ l0, offN x = l0 := ⟨_, rfl⟩
  rw [hl0] at hl hll h8 l3
  generalize hW : offW x = W at *
  (repeat' (first | ((first | with_reducible refine st_skip ?_ | with_reducible refine st_exit ?_); (try simp only [seqQ, blockQ, loopQ, forQ, whileQ, reduceIte, Nat.reduceEqDiff])) | (with_reducible refine st_ret ?_; ((try simp only [seqQ, blockQ, loopQ, forQ, whileQ]); first | (with_reducible refine retM_ret ?_) | refine retQ_ret ?_; simp [hy])) | refine st_seq ?_ | refine st_block ?_ | ((with_reducible show (STri _ _ _ _ _) ∧ (STri _ _ _ _ _)); refine And.intro ?_ ?_) | ((first | refine st_reg ?_ | refine buildP_own ?_ | refine appP_own ?_ | ((with_reducible show callGP _ _ _ _ _ _ _); refine callG_n (l3) ?hcc ?hpp ?hnn ?_; (case hcc => (first | rfl | (simp <;> fail) | (simp [] <;> fail))); (case hpp => (first | rfl | (simp <;> fail) | (simp [] <;> fail))); (case hnn => (first | rfl | (simp <;> fail) | (simp [] <;> fail)))) | ((with_reducible show callGP _ _ _ _ _ _ _); refine callG_b (l1) ?hcc ?hpp ?_; (case hcc => (first | rfl | (simp <;> fail))); (case hpp => (first | rfl | (simp <;> fail)))) | ((with_reducible show callGP _ _ _ _ _ _ _); refine callG_b (l2) ?hcc ?hpp ?_; (case hcc => (first | rfl | (simp <;> fail))); (case hpp => (first | rfl | (simp <;> fail)))) | ((with_reducible show callGP _ _ _ _ _ _ _); refine callG_b (l4) ?hcc ?hpp ?_; (case hcc => (first | rfl | (simp <;> fail))); (case hpp => (first | rfl | (simp <;> fail)))) | refine callP_b (l1) rfl ?_ | refine callP_b (l2) rfl ?_ | refine callP_b (l4) rfl ?_) <;> (simp -dsimp [hy]; (repeat (simp -dsimp (disch := (first | omega | assumption | (refine Bool.eq_false_iff.1 ?_; assumption))) only [wrap_in, if_pos, if_neg]; (try simp -dsimp [hy]))))) | ((first | refine guardP_of (fun hc => ?_) (fun hc => ?_) | refine st_cond rfl (fun hc => ?_) (fun hc => ?_)) <;> (try simp only [lqA, lqB, lqC, lqD, lqE, lqF, lqG, lqH, lqI, lqJ, lqK, lqL, lqM, lqN, lqO] at hc) <;> (try (exfalso; first | omega | exact bool_tf hc (by assumption) | exact bool_ft hc (by assumption) | exact absurd (by assumption) hc)) <;> (first | with_reducible show STri _ _ _ _ _ _ | (simp -dsimp [hy, hc]; (repeat (simp -dsimp (disch := (first | omega | assumption | (refine Bool.eq_false_iff.1 ?_; assumption))) only [wrap_in, if_pos, if_neg]; (try simp -dsimp [hy, hc]))))))))
  refine st_for [4, 8, 47, 48] l0.length (fun k T H => T = [(4, .ptr 4 0), (7, .c (slSr W)), (8, .ptr 8 0), (9, .c (I d)), (10, .own 47 l0.length), (11, .own 48 k), (12, .c (I k))] ∧
    H = [(4, .box 82 ((rowSh s).map .c)), (8, .box 25 [.c (I (y - 60)), .c (I (y + 60))]), (47, .arr 73 3 ((chgTo (chA s 160) l0 k).map rowN)), (48, .arr 73 3 ((m.take k).map rowN))]) (by simp) ⟨by simp, by simp [chgTo_zero]⟩ ?_
  rintro k T H hk ⟨rfl, rfl⟩
  by_cases hlt : k < l0.length
  · have hk8 : k < 8 := by omega
    have hgs := sh_get s hk8
    obtain ⟨s1, s2⟩ := shAt_bd hs hk8
    have hcl := chgTo_len (chA s 160) l0 (k := k) (by omega)
    have hnl := chgTo_len (chA s 160) l0 (k := k + 1) (by omega)
    have hcg := chgTo_get (chA s 160) l0 hlt
    have hset := chgTo_set (chA s 160) l0 hlt
    have hskip := chgTo_skip (chA s 160) l0 hlt
    have htk := (offN_tick hx (n := l0[k]) (by rw [hl0]; exact List.getElem_mem hlt))
    obtain ⟨⟨_, t0, _⟩, t1⟩ := htk
    have hlk : l[k]'(by omega) = chA s 160 k l0[k] := by simp only [← hl]; unfold chgL; simp
    have hmk : m.take (k + 1) = m.take k ++ [ltN d (chA s 160 k l0[k])] := by
      rw [List.take_succ_eq_append_getElem (by omega)]
      congr 2
      rw [← hlk]
      simp only [← hm]
      simp
    have hmt : (m.take k).length = k := by rw [List.length_take]; omega
    have hA : k ≤ 9223372036854775806 := by omega
    have hB : (k + 1) * 24 ≤ 140737488355328 := by omega
    have hrm : (shAt s k).tmod 60 = shAt s k % 60 := Int.tmod_eq_emod_of_nonneg s1
    have hr1 := Int.emod_nonneg (shAt s k) (show (60 : Int) ≠ 0 by omega)
    have hr2 := Int.emod_lt_of_pos (shAt s k) (show (0 : Int) < 60 by omega)
    have hge : ∀ h : k < (chgTo (chA s 160) l0 k).length, (chgTo (chA s 160) l0 k)[k]'h = l0[k] := fun _ => hcg
    have hgn : ∀ h : k < (chgTo (chA s 160) l0 (k + 1)).length, (chgTo (chA s 160) l0 (k + 1))[k]'h = chA s 160 k l0[k] := fun h => by
      simp only [← hset]; simp
    have hsm : ((chgTo (chA s 160) l0 k).map rowN).set k (rowN (chA s 160 k l0[k])) = (chgTo (chA s 160) l0 (k + 1)).map rowN := by
      rw [← hset, List.map_set]
    clear hcg hset hlk
    generalize m.take k = mk at *
    generalize hmq : m.take (k + 1) = mk2 at *
    generalize l0[k] = n at *
    generalize hcu : chgTo (chA s 160) l0 k = cur at *
    generalize hnx : chgTo (chA s 160) l0 (k + 1) = nxt at *
    have hch : chA s 160 k n = chA s 160 k n := rfl
    conv at hch => rhs; unfold chA
    by_cases c1 : 160 ≤ shAt s k
    · rw [if_pos c1] at hch
      rw [hch] at hgn hsm hmk
      by_cases c2 : 0 < n.tick + shAt s k % 60 - 30
      · have e0 : max 0 (n.tick + shAt s k % 60 - 30) = n.tick + shAt s k % 60 - 30 := by omega
        rw [e0] at hgn hsm hmk
        simp only [rowN] at hsm
        (repeat' (first | ((first | with_reducible refine st_skip ?_ | with_reducible refine st_exit ?_); (try simp only [seqQ, blockQ, loopQ, forQ, whileQ, reduceIte, Nat.reduceEqDiff])) | (with_reducible refine st_ret ?_; ((try simp only [seqQ, blockQ, loopQ, forQ, whileQ]); first | (with_reducible refine retM_ret ?_) | refine retQ_ret ?_; simp [hlt, hgs, hk8, c1, c2, hcl, hge, hrm, hsm, hnl, hgn, hmt, hA, hB])) | refine st_seq ?_ | refine st_block ?_ | ((with_reducible show (STri _ _ _ _ _) ∧ (STri _ _ _ _ _)); refine And.intro ?_ ?_) | ((first | refine st_reg ?_ | refine buildP_own ?_ | refine appP_own ?_ | refine callP_b (kn) rfl ?_) <;> (simp -dsimp [hlt, hgs, hk8, c1, c2, hcl, hge, hrm, hsm, hnl, hgn, hmt, hA, hB]; (repeat (simp -dsimp (disch := (first | omega | assumption | (refine Bool.eq_false_iff.1 ?_; assumption))) only [wrap_in, if_pos, if_neg]; (try simp -dsimp [hlt, hgs, hk8, c1, c2, hcl, hge, hrm, hsm, hnl, hgn, hmt, hA, hB]))))) | ((first | refine guardP_of (fun hc => ?_) (fun hc => ?_) | refine st_cond rfl (fun hc => ?_) (fun hc => ?_)) <;> (try simp only [lqA, lqB, lqC, lqD, lqE, lqF, lqG, lqH, lqI, lqJ, lqK, lqL, lqM, lqN, lqO] at hc) <;> (try (exfalso; first | omega | exact bool_tf hc (by assumption) | exact bool_ft hc (by assumption) | exact absurd (by assumption) hc)) <;> (first | with_reducible show STri _ _ _ _ _ _ | (simp -dsimp [hlt, hgs, hk8, c1, c2, hcl, hge, hrm, hsm, hnl, hgn, hmt, hA, hB, hc]; (repeat (simp -dsimp (disch := (first | omega | assumption | (refine Bool.eq_false_iff.1 ?_; assumption))) only [wrap_in, if_pos, if_neg]; (try simp -dsimp [hlt, hgs, hk8, c1, c2, hcl, hge, hrm, hsm, hnl, hgn, hmt, hA, hB, hc]))))))))
        all_goals exact ⟨hlt, by simp, by simp, by simp [hnx]; rw [← List.map_take, hmq, hmk]; simp [ltN]⟩
      · have e0 : max 0 (n.tick + shAt s k % 60 - 30) = 0 := by omega
        rw [e0] at hgn hsm hmk
        simp only [rowN] at hsm
        (repeat' (first | ((first | with_reducible refine st_skip ?_ | with_reducible refine st_exit ?_); (try simp only [seqQ, blockQ, loopQ, forQ, whileQ, reduceIte, Nat.reduceEqDiff])) | (with_reducible refine st_ret ?_; ((try simp only [seqQ, blockQ, loopQ, forQ, whileQ]); first | (with_reducible refine retM_ret ?_) | refine retQ_ret ?_; simp [hlt, hgs, hk8, c1, c2, hcl, hge, hrm, hsm, hnl, hgn, hmt, hA, hB])) | refine st_seq ?_ | refine st_block ?_ | ((with_reducible show (STri _ _ _ _ _) ∧ (STri _ _ _ _ _)); refine And.intro ?_ ?_) | ((first | refine st_reg ?_ | refine buildP_own ?_ | refine appP_own ?_ | refine callP_b (kn) rfl ?_) <;> (simp -dsimp [hlt, hgs, hk8, c1, c2, hcl, hge, hrm, hsm, hnl, hgn, hmt, hA, hB]; (repeat (simp -dsimp (disch := (first | omega | assumption | (refine Bool.eq_false_iff.1 ?_; assumption))) only [wrap_in, if_pos, if_neg]; (try simp -dsimp [hlt, hgs, hk8, c1, c2, hcl, hge, hrm, hsm, hnl, hgn, hmt, hA, hB]))))) | ((first | refine guardP_of (fun hc => ?_) (fun hc => ?_) | refine st_cond rfl (fun hc => ?_) (fun hc => ?_)) <;> (try simp only [lqA, lqB, lqC, lqD, lqE, lqF, lqG, lqH, lqI, lqJ, lqK, lqL, lqM, lqN, lqO] at hc) <;> (try (exfalso; first | omega | exact bool_tf hc (by assumption) | exact bool_ft hc (by assumption) | exact absurd (by assumption) hc)) <;> (first | with_reducible show STri _ _ _ _ _ _ | (simp -dsimp [hlt, hgs, hk8, c1, c2, hcl, hge, hrm, hsm, hnl, hgn, hmt, hA, hB, hc]; (repeat (simp -dsimp (disch := (first | omega | assumption | (refine Bool.eq_false_iff.1 ?_; assumption))) only [wrap_in, if_pos, if_neg]; (try simp -dsimp [hlt, hgs, hk8, c1, c2, hcl, hge, hrm, hsm, hnl, hgn, hmt, hA, hB, hc]))))))))
        all_goals exact ⟨hlt, by simp, by simp, by simp [hnx]; rw [← List.map_take, hmq, hmk]; simp [ltN]⟩
    · rw [if_neg c1] at hch
      rw [hch] at hmk
      have hcn := hskip hch
      (repeat' (first | ((first | with_reducible refine st_skip ?_ | with_reducible refine st_exit ?_); (try simp only [seqQ, blockQ, loopQ, forQ, whileQ, reduceIte, Nat.reduceEqDiff])) | (with_reducible refine st_ret ?_; ((try simp only [seqQ, blockQ, loopQ, forQ, whileQ]); first | (with_reducible refine retM_ret ?_) | refine retQ_ret ?_; simp [hlt, hgs, hk8, c1, hcl, hge, hmt, hA, hB])) | refine st_seq ?_ | refine st_block ?_ | ((with_reducible show (STri _ _ _ _ _) ∧ (STri _ _ _ _ _)); refine And.intro ?_ ?_) | ((first | refine st_reg ?_ | refine buildP_own ?_ | refine appP_own ?_ | refine callP_b (kn) rfl ?_) <;> (simp -dsimp [hlt, hgs, hk8, c1, hcl, hge, hmt, hA, hB]; (repeat (simp -dsimp (disch := (first | omega | assumption | (refine Bool.eq_false_iff.1 ?_; assumption))) only [wrap_in, if_pos, if_neg]; (try simp -dsimp [hlt, hgs, hk8, c1, hcl, hge, hmt, hA, hB]))))) | ((first | refine guardP_of (fun hc => ?_) (fun hc => ?_) | refine st_cond rfl (fun hc => ?_) (fun hc => ?_)) <;> (try simp only [lqA, lqB, lqC, lqD, lqE, lqF, lqG, lqH, lqI, lqJ, lqK, lqL, lqM, lqN, lqO] at hc) <;> (try (exfalso; first | omega | exact bool_tf hc (by assumption) | exact bool_ft hc (by assumption) | exact absurd (by assumption) hc)) <;> (first | with_reducible show STri _ _ _ _ _ _ | (simp -dsimp [hlt, hgs, hk8, c1, hcl, hge, hmt, hA, hB, hc]; (repeat (simp -dsimp (disch := (first | omega | assumption | (refine Bool.eq_false_iff.1 ?_; assumption))) only [wrap_in, if_pos, if_neg]; (try simp -dsimp [hlt, hgs, hk8, c1, hcl, hge, hmt, hA, hB, hc]))))))))
      all_goals exact ⟨hlt, by simp, by simp, by simp [hnx, hcn]; rw [← List.map_take, hmq, hmk]; simp [ltN]⟩
  · have hkk : k = l0.length := by omega
    subst hkk
    rw [chgTo_all, hl]
    have hmt : m.take l0.length = m := List.take_of_length_le (by omega)
    rw [hmt]
    have hml2 : m.length = l0.length := by omega
    clear hl hm hml h8
    have hlr : ∀ k, (h : k < r.length) → y - 60 ≤ (r[k]).1 ∧ (r[k]).2 ≤ y + 60 := fun k h => g2 _ (List.getElem_mem h)
    have hlr2 : ∀ k, (h : k < r2.length) → y - 60 ≤ (r2[k]).1 ∧ (r2[k]).2 ≤ y + 60 := fun k h => g4 _ (List.getElem_mem h)
    (repeat' (first | ((with_reducible show STri _ k66_79 _ _ _); refine st_shut1 47 rfl (by simp [dropOK, dropK]) (by simp [ClosO, ownS, dropK, SV.outD, hll]) (by simp [ShutH, ShutB, ownL, ownS, dropK, SV.outD, outDL, Blk.outD, hll]) ?_; simp; refine st_shut1 48 rfl (by simp [dropOK, dropK]) (by simp [ClosO, ownS, dropK, SV.outD, hml2]) (by simp [ShutH, ShutB, ownL, ownS, dropK, SV.outD, outDL, Blk.outD, hml2]) ?_; simp) | ((first | with_reducible refine st_skip ?_ | with_reducible refine st_exit ?_); (try simp only [seqQ, blockQ, loopQ, forQ, whileQ, reduceIte, Nat.reduceEqDiff])) | (with_reducible refine st_ret ?_; ((try simp only [seqQ, blockQ, loopQ, forQ, whileQ]); first | (with_reducible refine retM_ret ?_) | refine retQ_ret ?_; simp [hll, hml2])) | refine st_seq ?_ | refine st_block ?_ | ((with_reducible show (STri _ _ _ _ _) ∧ (STri _ _ _ _ _)); refine And.intro ?_ ?_) | ((first | refine st_reg ?_ | refine buildP_own ?_ | refine appP_own ?_ | ((with_reducible show callGP _ _ _ _ _ _ _); refine callG_b (l5) ?hcc ?hpp ?_; (case hcc => (first | rfl | (simp <;> fail))); (case hpp => (first | rfl | (simp <;> fail)))) | ((with_reducible show callGP _ _ _ _ _ _ _); refine callG_b (c14) ?hcc ?hpp ?_; (case hcc => (first | rfl | (simp <;> fail))); (case hpp => (first | rfl | (simp <;> fail)))) | ((with_reducible show callGP _ _ _ _ _ _ _); refine callG_b (c15) ?hcc ?hpp ?_; (case hcc => (first | rfl | (simp <;> fail))); (case hpp => (first | rfl | (simp <;> fail)))) | ((with_reducible show callGP _ _ _ _ _ _ _); refine callG_b (c16) ?hcc ?hpp ?_; (case hcc => (first | rfl | (simp <;> fail))); (case hpp => (first | rfl | (simp <;> fail)))) | ((with_reducible show callGP _ _ _ _ _ _ _); refine callG_b (p1) ?hcc ?hpp ?_; (case hcc => (first | rfl | (simp <;> fail))); (case hpp => (first | rfl | (simp <;> fail)))) | ((with_reducible show callGP _ _ _ _ _ _ _); refine callG_b (p2) ?hcc ?hpp ?_; (case hcc => (first | rfl | (simp <;> fail))); (case hpp => (first | rfl | (simp <;> fail)))) | ((with_reducible show callGP _ _ _ _ _ _ _); refine callG_b (p3) ?hcc ?hpp ?_; (case hcc => (first | rfl | (simp <;> fail))); (case hpp => (first | rfl | (simp <;> fail)))) | ((with_reducible show callGP _ _ _ _ _ _ _); refine callG_b (p4) ?hcc ?hpp ?_; (case hcc => (first | rfl | (simp <;> fail))); (case hpp => (first | rfl | (simp <;> fail)))) | ((with_reducible show callGP _ _ _ _ _ _ _); refine callG_b (p5) ?hcc ?hpp ?_; (case hcc => (first | rfl | (simp <;> fail))); (case hpp => (first | rfl | (simp <;> fail)))) | ((with_reducible show callGP _ _ _ _ _ _ _); refine callG_b (p6) ?hcc ?hpp ?_; (case hcc => (first | rfl | (simp <;> fail))); (case hpp => (first | rfl | (simp <;> fail)))) | ((with_reducible show callGP _ _ _ _ _ _ _); refine callG_b (p7) ?hcc ?hpp ?_; (case hcc => (first | rfl | (simp <;> fail))); (case hpp => (first | rfl | (simp <;> fail)))) | ((with_reducible show callGP _ _ _ _ _ _ _); refine callG_b (p8) ?hcc ?hpp ?_; (case hcc => (first | rfl | (simp <;> fail))); (case hpp => (first | rfl | (simp <;> fail)))) | refine callP_b (l5) rfl ?_ | refine callP_b (c14) rfl ?_ | refine callP_b (c15) rfl ?_ | refine callP_b (c16) rfl ?_ | refine callP_b (p1) rfl ?_ | refine callP_b (p2) rfl ?_ | refine callP_b (p3) rfl ?_ | refine callP_b (p4) rfl ?_ | refine callP_b (p5) rfl ?_ | refine callP_b (p6) rfl ?_ | refine callP_b (p7) rfl ?_ | refine callP_b (p8) rfl ?_) <;> (simp -dsimp [hll, hml2]; (repeat (simp -dsimp (disch := (first | omega | assumption | (refine Bool.eq_false_iff.1 ?_; assumption))) only [wrap_in, if_pos, if_neg]; (try simp -dsimp [hll, hml2]))))) | ((first | refine guardP_of (fun hc => ?_) (fun hc => ?_) | refine st_cond rfl (fun hc => ?_) (fun hc => ?_)) <;> (try simp only [lqA, lqB, lqC, lqD, lqE, lqF, lqG, lqH, lqI, lqJ, lqK, lqL, lqM, lqN, lqO] at hc) <;> (try (exfalso; first | omega | exact bool_tf hc (by assumption) | exact bool_ft hc (by assumption) | exact absurd (by assumption) hc)) <;> (first | with_reducible show STri _ _ _ _ _ _ | (simp -dsimp [hll, hml2, hc]; (repeat (simp -dsimp (disch := (first | omega | assumption | (refine Bool.eq_false_iff.1 ?_; assumption))) only [wrap_in, if_pos, if_neg]; (try simp -dsimp [hll, hml2, hc]))))))))
    all_goals
      refine st_for [] r.length (fun k T H => T = [(9, .c (I d)), (14, .c (slE r)), (16, .c (.sl 2 (r.map (rowE ∘ shE d)))), (19, .c (slE r2)), (22, .c (.sl 2 (r2.map (rowE ∘ shE d)))), (32, .c (I k))] ∧ H = []) (by simp) ⟨by simp, by simp⟩ ?_
      rintro k T H hk ⟨rfl, rfl⟩
      by_cases hlt : k < r.length
      · have g1 : ∀ h : k < (r.map rowE).length, (r.map rowE)[k]'h = [I (r[k]).1, I (r[k]).2] := fun h => by simp [rowE]
        have g2 : ∀ h : k < (r.map (rowE ∘ shE d)).length, (r.map (rowE ∘ shE d))[k]'h = [I ((r[k]).1 - d), I ((r[k]).2 - d)] := fun h => by simp [shE, rowE]
        obtain ⟨g3, g4⟩ := hlr k hlt
        have g5 := gp1.1 _ (List.getElem_mem hlt)
        generalize r[k] = e at *
        (repeat' (first | ((first | with_reducible refine st_skip ?_ | with_reducible refine st_exit ?_); (try simp only [seqQ, blockQ, loopQ, forQ, whileQ, reduceIte, Nat.reduceEqDiff])) | (with_reducible refine st_ret ?_; ((try simp only [seqQ, blockQ, loopQ, forQ, whileQ]); first | (with_reducible refine retM_ret ?_) | refine retQ_ret ?_; simp [hlt, g1, g2])) | refine st_seq ?_ | refine st_block ?_ | ((with_reducible show (STri _ _ _ _ _) ∧ (STri _ _ _ _ _)); refine And.intro ?_ ?_) | ((first | refine st_reg ?_ | refine buildP_own ?_ | refine appP_own ?_) <;> (simp -dsimp [hlt, g1, g2]; (repeat (simp -dsimp (disch := (first | omega | assumption | (refine Bool.eq_false_iff.1 ?_; assumption))) only [wrap_in, if_pos, if_neg]; (try simp -dsimp [hlt, g1, g2]))))) | ((first | refine guardP_of (fun hc => ?_) (fun hc => ?_) | refine st_cond rfl (fun hc => ?_) (fun hc => ?_)) <;> (try simp only [lqA, lqB, lqC, lqD, lqE, lqF, lqG, lqH, lqI, lqJ, lqK, lqL, lqM, lqN, lqO] at hc) <;> (try (exfalso; first | omega | exact bool_tf hc (by assumption) | exact bool_ft hc (by assumption) | exact absurd (by assumption) hc)) <;> (first | with_reducible show STri _ _ _ _ _ _ | (simp -dsimp [hlt, g1, g2, hc]; (repeat (simp -dsimp (disch := (first | omega | assumption | (refine Bool.eq_false_iff.1 ?_; assumption))) only [wrap_in, if_pos, if_neg]; (try simp -dsimp [hlt, g1, g2, hc]))))))))
        all_goals exact ⟨hlt, by simp, by simp, by simp⟩
      · (repeat' (first | ((first | with_reducible refine st_skip ?_ | with_reducible refine st_exit ?_); (try simp only [seqQ, blockQ, loopQ, forQ, whileQ, reduceIte, Nat.reduceEqDiff])) | (with_reducible refine st_ret ?_; ((try simp only [seqQ, blockQ, loopQ, forQ, whileQ]); first | (with_reducible refine retM_ret ?_) | refine retQ_ret ?_; simp [hlt])) | refine st_seq ?_ | refine st_block ?_ | ((with_reducible show (STri _ _ _ _ _) ∧ (STri _ _ _ _ _)); refine And.intro ?_ ?_) | ((first | refine st_reg ?_ | refine buildP_own ?_ | refine appP_own ?_) <;> (simp -dsimp [hlt]; (repeat (simp -dsimp (disch := (first | omega | assumption | (refine Bool.eq_false_iff.1 ?_; assumption))) only [wrap_in, if_pos, if_neg]; (try simp -dsimp [hlt]))))) | ((first | refine guardP_of (fun hc => ?_) (fun hc => ?_) | refine st_cond rfl (fun hc => ?_) (fun hc => ?_)) <;> (try simp only [lqA, lqB, lqC, lqD, lqE, lqF, lqG, lqH, lqI, lqJ, lqK, lqL, lqM, lqN, lqO] at hc) <;> (try (exfalso; first | omega | exact bool_tf hc (by assumption) | exact bool_ft hc (by assumption) | exact absurd (by assumption) hc)) <;> (first | with_reducible show STri _ _ _ _ _ _ | (simp -dsimp [hlt, hc]; (repeat (simp -dsimp (disch := (first | omega | assumption | (refine Bool.eq_false_iff.1 ?_; assumption))) only [wrap_in, if_pos, if_neg]; (try simp -dsimp [hlt, hc]))))))))
        refine st_for [] r2.length (fun k T H => T = [(9, .c (I d)), (19, .c (slE r2)), (22, .c (.sl 2 (r2.map (rowE ∘ shE d)))), (33, .c (I k))] ∧ H = []) (by simp) ⟨by simp, by simp⟩ ?_
        rintro k T H hk ⟨rfl, rfl⟩
        by_cases hlt2 : k < r2.length
        · have g1 : ∀ h : k < (r2.map rowE).length, (r2.map rowE)[k]'h = [I (r2[k]).1, I (r2[k]).2] := fun h => by simp [rowE]
          have g2 : ∀ h : k < (r2.map (rowE ∘ shE d)).length, (r2.map (rowE ∘ shE d))[k]'h = [I ((r2[k]).1 - d), I ((r2[k]).2 - d)] := fun h => by simp [shE, rowE]
          obtain ⟨g3, g4⟩ := hlr2 k hlt2
          have g5 := gp2.1 _ (List.getElem_mem hlt2)
          generalize r2[k] = e at *
          (repeat' (first | ((first | with_reducible refine st_skip ?_ | with_reducible refine st_exit ?_); (try simp only [seqQ, blockQ, loopQ, forQ, whileQ, reduceIte, Nat.reduceEqDiff])) | (with_reducible refine st_ret ?_; ((try simp only [seqQ, blockQ, loopQ, forQ, whileQ]); first | (with_reducible refine retM_ret ?_) | refine retQ_ret ?_; simp [hlt2, g1, g2])) | refine st_seq ?_ | refine st_block ?_ | ((with_reducible show (STri _ _ _ _ _) ∧ (STri _ _ _ _ _)); refine And.intro ?_ ?_) | ((first | refine st_reg ?_ | refine buildP_own ?_ | refine appP_own ?_) <;> (simp -dsimp [hlt2, g1, g2]; (repeat (simp -dsimp (disch := (first | omega | assumption | (refine Bool.eq_false_iff.1 ?_; assumption))) only [wrap_in, if_pos, if_neg]; (try simp -dsimp [hlt2, g1, g2]))))) | ((first | refine guardP_of (fun hc => ?_) (fun hc => ?_) | refine st_cond rfl (fun hc => ?_) (fun hc => ?_)) <;> (try simp only [lqA, lqB, lqC, lqD, lqE, lqF, lqG, lqH, lqI, lqJ, lqK, lqL, lqM, lqN, lqO] at hc) <;> (try (exfalso; first | omega | exact bool_tf hc (by assumption) | exact bool_ft hc (by assumption) | exact absurd (by assumption) hc)) <;> (first | with_reducible show STri _ _ _ _ _ _ | (simp -dsimp [hlt2, g1, g2, hc]; (repeat (simp -dsimp (disch := (first | omega | assumption | (refine Bool.eq_false_iff.1 ?_; assumption))) only [wrap_in, if_pos, if_neg]; (try simp -dsimp [hlt2, g1, g2, hc]))))))))
          all_goals exact ⟨hlt2, by simp, by simp, by simp⟩
        · (repeat' (first | ((first | with_reducible refine st_skip ?_ | with_reducible refine st_exit ?_); (try simp only [seqQ, blockQ, loopQ, forQ, whileQ, reduceIte, Nat.reduceEqDiff])) | (with_reducible refine st_ret ?_; ((try simp only [seqQ, blockQ, loopQ, forQ, whileQ]); first | (with_reducible refine retM_ret ?_) | refine retQ_ret ?_; simp [hlt2])) | refine st_seq ?_ | refine st_block ?_ | ((with_reducible show (STri _ _ _ _ _) ∧ (STri _ _ _ _ _)); refine And.intro ?_ ?_) | ((first | refine st_reg ?_ | refine buildP_own ?_ | refine appP_own ?_ | refine callP_b (kn) rfl ?_) <;> (simp -dsimp [hlt2]; (repeat (simp -dsimp (disch := (first | omega | assumption | (refine Bool.eq_false_iff.1 ?_; assumption))) only [wrap_in, if_pos, if_neg]; (try simp -dsimp [hlt2]))))) | ((first | refine guardP_of (fun hc => ?_) (fun hc => ?_) | refine st_cond rfl (fun hc => ?_) (fun hc => ?_)) <;> (try simp only [lqA, lqB, lqC, lqD, lqE, lqF, lqG, lqH, lqI, lqJ, lqK, lqL, lqM, lqN, lqO] at hc) <;> (try (exfalso; first | omega | exact bool_tf hc (by assumption) | exact bool_ft hc (by assumption) | exact absurd (by assumption) hc)) <;> (first | with_reducible show STri _ _ _ _ _ _ | (simp -dsimp [hlt2, hc]; (repeat (simp -dsimp (disch := (first | omega | assumption | (refine Bool.eq_false_iff.1 ?_; assumption))) only [wrap_in, if_pos, if_neg]; (try simp -dsimp [hlt2, hc]))))))))
          all_goals exact .refl _
end Go.Proofs.Ytakdmliblijgmaa
/- Wire's shifts opened. -/
namespace Go.Proofs.Ytakdmliblijgmaa
open Go.RowKit Go.ChangeShapes Go.WideShapes Go.ChangeAt
theorem Try.plain8 : plainB Try.prog 8 82 = true := by kernel_rfl
theorem ty_eight {d : Nat} {cs : List CV} (h : tyC Try.prog d 82 cs) : ∃ v, cs = rowSh v ∧ ShOk v := by
  obtain ⟨d, c1, r1, rfl, t1, c2, r2, rfl, t2, c3, r3, rfl, t3, c4, r4, rfl, t4, c5, r5, rfl, t5, c6, r6, rfl, t6, c7, r7, rfl, t7, c8, r8, rfl, t8, t9⟩ := tyC_array Try.underlying82 h
  obtain ⟨n1, rfl, h1⟩ := ty_u8 t1
  obtain ⟨n2, rfl, h2⟩ := ty_u8 t2
  obtain ⟨n3, rfl, h3⟩ := ty_u8 t3
  obtain ⟨n4, rfl, h4⟩ := ty_u8 t4
  obtain ⟨n5, rfl, h5⟩ := ty_u8 t5
  obtain ⟨n6, rfl, h6⟩ := ty_u8 t6
  obtain ⟨n7, rfl, h7⟩ := ty_u8 t7
  obtain ⟨n8, rfl, h8⟩ := ty_u8 t8
  have t9 : r8 = [] := t9
  subst t9
  exact ⟨⟨n1, n2, n3, n4, n5, n6, n7, n8⟩, rfl, h1, h2, h3, h4, h5, h6, h7, h8⟩
set_option maxRecDepth 100000 in
theorem open_shift {H : Type} {enc : TypeId × Value → H} {w : World} {spare : Nat → Bool} {held : Bool} {v : Value} {x : DataW H} {ps : List MemPlace} (h : DataW.Trod enc Try.prog w 0 spare held 82 v x ps) : ∃ c : Sh8, RepC w (fun _ => False) (cSh c) v ∧ ShOk c := by
  obtain ⟨n, h⟩ := h
  obtain ⟨cs, h1, h2⟩ := open_tyC Try.plain8 h
  obtain ⟨c, rfl, hm⟩ := ty_eight h1
  have hs : v.cells.size = 8 := by have := h2.1; simp at this; omega
  have hv := agg_cells (v := v) (by omega)
  refine ⟨c, ?_, hm⟩
  rw [hv]
  exact .agg _ _ (by simpa using hs) (fun i x u hx hu => h2.2 i x u hx (by simpa using hu))
end Go.Proofs.Ytakdmliblijgmaa
