/- Part 6 of a proof: Va, Vb, Vc, Vd, Ve, Vf, Vg, Vh, Vi. -/
import Derived.Test.YtakdmliblijgmaaK5
set_option linter.unusedSimpArgs false
set_option linter.unusedVariables false
/- Wire, reference I: sources and notes. -/
namespace Go.Proofs.Ytakdmliblijgmaa
open Go.RowKit
theorem rIn (n lo hi : Int) : SC Try.prog 31 [I n, I lo, I hi] (B (within1 lo hi n)) := by
  refine law_turretref08_In _ _ (by simp) ?_
  unfold within1
  (repeat' (first | ((first | with_reducible refine st_skip ?_ | with_reducible refine st_exit ?_); (try simp only [seqQ, blockQ, loopQ, forQ, whileQ, reduceIte, Nat.reduceEqDiff])) | (with_reducible refine st_ret ?_; ((try simp only [seqQ, blockQ, loopQ, forQ, whileQ]); first | (with_reducible refine retM_ret ?_) | refine retQ_ret ?_; simp)) | refine st_seq ?_ | refine st_block ?_ | ((with_reducible show (STri _ _ _ _ _) ∧ (STri _ _ _ _ _)); refine And.intro ?_ ?_) | ((first | refine st_reg ?_ | refine buildP_own ?_ | refine appP_own ?_) <;> (simp -dsimp; (repeat (simp -dsimp (disch := (first | omega | assumption | (refine Bool.eq_false_iff.1 ?_; assumption))) only [wrap_in, if_pos, if_neg]; (try simp -dsimp))))) | ((first | refine guardP_of (fun hc => ?_) (fun hc => ?_) | refine st_cond rfl (fun hc => ?_) (fun hc => ?_)) <;> (try simp only [lqA, lqB, lqC, lqD, lqE, lqF, lqG, lqH, lqI, lqJ, lqK, lqL, lqM, lqN, lqO] at hc) <;> (try (exfalso; first | omega | exact bool_tf hc (by assumption) | exact bool_ft hc (by assumption) | exact absurd (by assumption) hc)) <;> (first | with_reducible show STri _ _ _ _ _ _ | (simp -dsimp [hc]; (repeat (simp -dsimp (disch := (first | omega | assumption | (refine Bool.eq_false_iff.1 ?_; assumption))) only [wrap_in, if_pos, if_neg]; (try simp -dsimp [hc]))))))))
  all_goals (refine CLe.bool ?_; rw [Bool.eq_iff_iff]; simp; try omega)
theorem rSpan (lo hi most : Int) (h0 : 0 ≤ most) (h1 : most ≤ 1000000) : SC Try.prog 51 [.agg [I lo, I hi], I most] (B (spanW lo hi most)) := by
  refine law_turretref08_Span _ _ (by simp) ?_
  have e : spanW lo hi most = (within1 (-most) hi lo && decide (hi ≤ most)) := by
    rfl
  rw [e]
  (repeat' (first | ((first | with_reducible refine st_skip ?_ | with_reducible refine st_exit ?_); (try simp only [seqQ, blockQ, loopQ, forQ, whileQ, reduceIte, Nat.reduceEqDiff])) | (with_reducible refine st_ret ?_; ((try simp only [seqQ, blockQ, loopQ, forQ, whileQ]); first | (with_reducible refine retM_ret ?_) | refine retQ_ret ?_; simp)) | refine st_seq ?_ | refine st_block ?_ | ((with_reducible show (STri _ _ _ _ _) ∧ (STri _ _ _ _ _)); refine And.intro ?_ ?_) | ((first | refine st_reg ?_ | refine buildP_own ?_ | refine appP_own ?_ | refine callP_b (rIn lo (-most) hi) rfl ?_) <;> (simp -dsimp; (repeat (simp -dsimp (disch := (first | omega | assumption | (refine Bool.eq_false_iff.1 ?_; assumption))) only [wrap_in, if_pos, if_neg]; (try simp -dsimp))))) | ((first | refine guardP_of (fun hc => ?_) (fun hc => ?_) | refine st_cond rfl (fun hc => ?_) (fun hc => ?_)) <;> (try simp only [lqA, lqB, lqC, lqD, lqE, lqF, lqG, lqH, lqI, lqJ, lqK, lqL, lqM, lqN, lqO] at hc) <;> (try (exfalso; first | omega | exact bool_tf hc (by assumption) | exact bool_ft hc (by assumption) | exact absurd (by assumption) hc)) <;> (first | with_reducible show STri _ _ _ _ _ _ | (simp -dsimp [hc]; (repeat (simp -dsimp (disch := (first | omega | assumption | (refine Bool.eq_false_iff.1 ?_; assumption))) only [wrap_in, if_pos, if_neg]; (try simp -dsimp [hc]))))))))
  all_goals (first | exact .refl _ | (refine CLe.bool ?_; simp_all))
theorem rSource (s : Wsrc) (hl : s.table.length ≤ 1000000) : SC Try.prog 59 [cSr s] (B (validV s)) := by
  refine law_turretref08_Source _ _ (by simp) ?_
  have h1 := rSpan s.elo s.ehi 3600 (by omega) (by omega)
  have h2 := rSpan s.dlo s.dhi 100000 (by omega) (by omega)
  have h3 := rIn s.at' 0 3155760000
  have h4 := rIn s.every 1 3155760000
  have h5 := rIn s.table.length 1 366
  by_cases hsp : spanW s.elo s.ehi 3600 = true
  case neg =>
    have hv : validV s = false := by unfold validV baseV; simp [hsp]
    rw [Bool.not_eq_true] at hsp
    rw [hsp] at h1
    rw [hv]
    (repeat' (first | ((first | with_reducible refine st_skip ?_ | with_reducible refine st_exit ?_); (try simp only [seqQ, blockQ, loopQ, forQ, whileQ, reduceIte, Nat.reduceEqDiff])) | (with_reducible refine st_ret ?_; ((try simp only [seqQ, blockQ, loopQ, forQ, whileQ]); first | (with_reducible refine retM_ret ?_) | refine retQ_ret ?_; simp)) | refine st_seq ?_ | refine st_block ?_ | ((with_reducible show (STri _ _ _ _ _) ∧ (STri _ _ _ _ _)); refine And.intro ?_ ?_) | ((first | refine st_reg ?_ | refine buildP_own ?_ | refine appP_own ?_ | refine callP_b (h1) rfl ?_) <;> (simp -dsimp; (repeat (simp -dsimp (disch := (first | omega | assumption | (refine Bool.eq_false_iff.1 ?_; assumption))) only [wrap_in, if_pos, if_neg]; (try simp -dsimp))))) | ((first | refine guardP_of (fun hc => ?_) (fun hc => ?_) | refine st_cond rfl (fun hc => ?_) (fun hc => ?_)) <;> (try simp only [lqA, lqB, lqC, lqD, lqE, lqF, lqG, lqH, lqI, lqJ, lqK, lqL, lqM, lqN, lqO] at hc) <;> (try (exfalso; first | omega | exact bool_tf hc (by assumption) | exact bool_ft hc (by assumption) | exact absurd (by assumption) hc)) <;> (first | with_reducible show STri _ _ _ _ _ _ | (simp -dsimp [hc]; (repeat (simp -dsimp (disch := (first | omega | assumption | (refine Bool.eq_false_iff.1 ?_; assumption))) only [wrap_in, if_pos, if_neg]; (try simp -dsimp [hc]))))))))
    all_goals exact .refl _
  rw [hsp] at h1
  obtain ⟨kind, elo, ehi, at', dlo, dhi, every, table⟩ := s
  simp only at *
  by_cases k1 : kind = 1
  · subst k1
    have hv : validV ⟨1, elo, ehi, at', dlo, dhi, every, table⟩ = (within1 0 3155760000 at' && spanW dlo dhi 100000) := by
      simp [validV, baseV, kindOK, useV, clockV, hsp]
    rw [hv]
    (repeat' (first | ((first | with_reducible refine st_skip ?_ | with_reducible refine st_exit ?_); (try simp only [seqQ, blockQ, loopQ, forQ, whileQ, reduceIte, Nat.reduceEqDiff])) | (with_reducible refine st_ret ?_; ((try simp only [seqQ, blockQ, loopQ, forQ, whileQ]); first | (with_reducible refine retM_ret ?_) | refine retQ_ret ?_; simp)) | refine st_seq ?_ | refine st_block ?_ | ((with_reducible show (STri _ _ _ _ _) ∧ (STri _ _ _ _ _)); refine And.intro ?_ ?_) | ((first | refine st_reg ?_ | refine buildP_own ?_ | refine appP_own ?_ | refine callP_b (h1) rfl ?_ | refine callP_b (h2) rfl ?_ | refine callP_b (h3) rfl ?_) <;> (simp -dsimp; (repeat (simp -dsimp (disch := (first | omega | assumption | (refine Bool.eq_false_iff.1 ?_; assumption))) only [wrap_in, if_pos, if_neg]; (try simp -dsimp))))) | ((first | refine guardP_of (fun hc => ?_) (fun hc => ?_) | refine st_cond rfl (fun hc => ?_) (fun hc => ?_)) <;> (try simp only [lqA, lqB, lqC, lqD, lqE, lqF, lqG, lqH, lqI, lqJ, lqK, lqL, lqM, lqN, lqO] at hc) <;> (try (exfalso; first | omega | exact bool_tf hc (by assumption) | exact bool_ft hc (by assumption) | exact absurd (by assumption) hc)) <;> (first | with_reducible show STri _ _ _ _ _ _ | (simp -dsimp [hc]; (repeat (simp -dsimp (disch := (first | omega | assumption | (refine Bool.eq_false_iff.1 ?_; assumption))) only [wrap_in, if_pos, if_neg]; (try simp -dsimp [hc]))))))))
    all_goals (refine CLe.bool ?_; simp_all)
  by_cases k2 : kind = 2
  · subst k2
    have hv : validV ⟨2, elo, ehi, at', dlo, dhi, every, table⟩ = (within1 0 3155760000 at' && within1 1 3155760000 every) := by
      simp [validV, baseV, kindOK, useV, eventV, hsp]
    rw [hv]
    (repeat' (first | ((first | with_reducible refine st_skip ?_ | with_reducible refine st_exit ?_); (try simp only [seqQ, blockQ, loopQ, forQ, whileQ, reduceIte, Nat.reduceEqDiff])) | (with_reducible refine st_ret ?_; ((try simp only [seqQ, blockQ, loopQ, forQ, whileQ]); first | (with_reducible refine retM_ret ?_) | refine retQ_ret ?_; simp)) | refine st_seq ?_ | refine st_block ?_ | ((with_reducible show (STri _ _ _ _ _) ∧ (STri _ _ _ _ _)); refine And.intro ?_ ?_) | ((first | refine st_reg ?_ | refine buildP_own ?_ | refine appP_own ?_ | refine callP_b (h1) rfl ?_ | refine callP_b (h3) rfl ?_ | refine callP_b (h4) rfl ?_) <;> (simp -dsimp; (repeat (simp -dsimp (disch := (first | omega | assumption | (refine Bool.eq_false_iff.1 ?_; assumption))) only [wrap_in, if_pos, if_neg]; (try simp -dsimp))))) | ((first | refine guardP_of (fun hc => ?_) (fun hc => ?_) | refine st_cond rfl (fun hc => ?_) (fun hc => ?_)) <;> (try simp only [lqA, lqB, lqC, lqD, lqE, lqF, lqG, lqH, lqI, lqJ, lqK, lqL, lqM, lqN, lqO] at hc) <;> (try (exfalso; first | omega | exact bool_tf hc (by assumption) | exact bool_ft hc (by assumption) | exact absurd (by assumption) hc)) <;> (first | with_reducible show STri _ _ _ _ _ _ | (simp -dsimp [hc]; (repeat (simp -dsimp (disch := (first | omega | assumption | (refine Bool.eq_false_iff.1 ?_; assumption))) only [wrap_in, if_pos, if_neg]; (try simp -dsimp [hc]))))))))
    all_goals (refine CLe.bool ?_; simp_all)
  by_cases k3 : kind = 3
  · subst k3
    have hv : validV ⟨3, elo, ehi, at', dlo, dhi, every, table⟩ = (within1 1 366 table.length && allIn (-3600) 3600 table) := by
      simp [validV, baseV, kindOK, useV, sunV, hsp]
    rw [hv]
    (repeat' (first | ((first | with_reducible refine st_skip ?_ | with_reducible refine st_exit ?_); (try simp only [seqQ, blockQ, loopQ, forQ, whileQ, reduceIte, Nat.reduceEqDiff])) | (with_reducible refine st_ret ?_; ((try simp only [seqQ, blockQ, loopQ, forQ, whileQ]); first | (with_reducible refine retM_ret ?_) | refine retQ_ret ?_; simp)) | refine st_seq ?_ | refine st_block ?_ | ((with_reducible show (STri _ _ _ _ _) ∧ (STri _ _ _ _ _)); refine And.intro ?_ ?_) | ((first | refine st_reg ?_ | refine buildP_own ?_ | refine appP_own ?_ | refine callP_b (h1) rfl ?_) <;> (simp -dsimp; (repeat (simp -dsimp (disch := (first | omega | assumption | (refine Bool.eq_false_iff.1 ?_; assumption))) only [wrap_in, if_pos, if_neg]; (try simp -dsimp))))) | ((first | refine guardP_of (fun hc => ?_) (fun hc => ?_) | refine st_cond rfl (fun hc => ?_) (fun hc => ?_)) <;> (try simp only [lqA, lqB, lqC, lqD, lqE, lqF, lqG, lqH, lqI, lqJ, lqK, lqL, lqM, lqN, lqO] at hc) <;> (try (exfalso; first | omega | exact bool_tf hc (by assumption) | exact bool_ft hc (by assumption) | exact absurd (by assumption) hc)) <;> (first | with_reducible show STri _ _ _ _ _ _ | (simp -dsimp [hc]; (repeat (simp -dsimp (disch := (first | omega | assumption | (refine Bool.eq_false_iff.1 ?_; assumption))) only [wrap_in, if_pos, if_neg]; (try simp -dsimp [hc]))))))))
    refine st_for [1] table.length (fun k T H => NoneTo (fun x => !within1 (-3600) 3600 x) table k ∧ T = [(1, .ptr 1 0), (3, .c (I k))] ∧ H = [(1, .box 79 [.c (I 3), .c (I elo), .c (I ehi), .c (I at'), .c (I dlo), .c (I dhi), .c (I every), .c (slI table)])]) (by simp) ⟨fun x hx => by simp at hx, by simp, by simp⟩ ?_
    rintro k T H hk ⟨hno, rfl, rfl⟩
    by_cases hlt : k < table.length
    · have hi := rIn table[k] (-3600) 3600
      (repeat' (first | ((first | with_reducible refine st_skip ?_ | with_reducible refine st_exit ?_); (try simp only [seqQ, blockQ, loopQ, forQ, whileQ, reduceIte, Nat.reduceEqDiff])) | (with_reducible refine st_ret ?_; ((try simp only [seqQ, blockQ, loopQ, forQ, whileQ]); first | (with_reducible refine retM_ret ?_) | refine retQ_ret ?_; simp [hlt])) | refine st_seq ?_ | refine st_block ?_ | ((with_reducible show (STri _ _ _ _ _) ∧ (STri _ _ _ _ _)); refine And.intro ?_ ?_) | ((first | refine st_reg ?_ | refine buildP_own ?_ | refine appP_own ?_ | refine callP_b (hi) rfl ?_) <;> (simp -dsimp [hlt]; (repeat (simp -dsimp (disch := (first | omega | assumption | (refine Bool.eq_false_iff.1 ?_; assumption))) only [wrap_in, if_pos, if_neg]; (try simp -dsimp [hlt]))))) | ((first | refine guardP_of (fun hc => ?_) (fun hc => ?_) | refine st_cond rfl (fun hc => ?_) (fun hc => ?_)) <;> (try simp only [lqA, lqB, lqC, lqD, lqE, lqF, lqG, lqH, lqI, lqJ, lqK, lqL, lqM, lqN, lqO] at hc) <;> (try (exfalso; first | omega | exact bool_tf hc (by assumption) | exact bool_ft hc (by assumption) | exact absurd (by assumption) hc)) <;> (first | with_reducible show STri _ _ _ _ _ _ | (simp -dsimp [hlt, hc]; (repeat (simp -dsimp (disch := (first | omega | assumption | (refine Bool.eq_false_iff.1 ?_; assumption))) only [wrap_in, if_pos, if_neg]; (try simp -dsimp [hlt, hc]))))))))
      · have e : allIn (-3600) 3600 table = false := by
          unfold allIn
          rw [List.all_eq_false]
          exact ⟨table[k], List.getElem_mem hlt, by unfold within1 at hc; unfold inB; simpa using hc⟩
        rw [e]; simp
        exact .refl _
      · exact ⟨hlt, by simp, none_succ hlt hno (by simpa using hc), by simp, by simp⟩
    · have hkl : k = table.length := by omega
      subst hkl
      have e : allIn (-3600) 3600 table = true := by
        unfold allIn
        rw [List.all_eq_true]
        intro x hx
        have := hno x (by rw [List.take_length]; exact hx)
        unfold within1 at this; unfold inB
        simpa using this
      rw [e]
      (repeat' (first | ((first | with_reducible refine st_skip ?_ | with_reducible refine st_exit ?_); (try simp only [seqQ, blockQ, loopQ, forQ, whileQ, reduceIte, Nat.reduceEqDiff])) | (with_reducible refine st_ret ?_; ((try simp only [seqQ, blockQ, loopQ, forQ, whileQ]); first | (with_reducible refine retM_ret ?_) | refine retQ_ret ?_; simp [hlt])) | refine st_seq ?_ | refine st_block ?_ | ((with_reducible show (STri _ _ _ _ _) ∧ (STri _ _ _ _ _)); refine And.intro ?_ ?_) | ((first | refine st_reg ?_ | refine buildP_own ?_ | refine appP_own ?_ | refine callP_b (h5) rfl ?_) <;> (simp -dsimp [hlt]; (repeat (simp -dsimp (disch := (first | omega | assumption | (refine Bool.eq_false_iff.1 ?_; assumption))) only [wrap_in, if_pos, if_neg]; (try simp -dsimp [hlt]))))) | ((first | refine guardP_of (fun hc => ?_) (fun hc => ?_) | refine st_cond rfl (fun hc => ?_) (fun hc => ?_)) <;> (try simp only [lqA, lqB, lqC, lqD, lqE, lqF, lqG, lqH, lqI, lqJ, lqK, lqL, lqM, lqN, lqO] at hc) <;> (try (exfalso; first | omega | exact bool_tf hc (by assumption) | exact bool_ft hc (by assumption) | exact absurd (by assumption) hc)) <;> (first | with_reducible show STri _ _ _ _ _ _ | (simp -dsimp [hlt, hc]; (repeat (simp -dsimp (disch := (first | omega | assumption | (refine Bool.eq_false_iff.1 ?_; assumption))) only [wrap_in, if_pos, if_neg]; (try simp -dsimp [hlt, hc]))))))))
      all_goals (refine CLe.bool ?_; simp)
  · have hv : validV ⟨kind, elo, ehi, at', dlo, dhi, every, table⟩ = decide (kind = 4) := by
      simp [validV, baseV, kindOK, useV, hsp, k1, k2, k3]
    rw [hv]
    (repeat' (first | ((first | with_reducible refine st_skip ?_ | with_reducible refine st_exit ?_); (try simp only [seqQ, blockQ, loopQ, forQ, whileQ, reduceIte, Nat.reduceEqDiff])) | (with_reducible refine st_ret ?_; ((try simp only [seqQ, blockQ, loopQ, forQ, whileQ]); first | (with_reducible refine retM_ret ?_) | refine retQ_ret ?_; simp [k1, k2, k3])) | refine st_seq ?_ | refine st_block ?_ | ((with_reducible show (STri _ _ _ _ _) ∧ (STri _ _ _ _ _)); refine And.intro ?_ ?_) | ((first | refine st_reg ?_ | refine buildP_own ?_ | refine appP_own ?_ | refine callP_b (h1) rfl ?_) <;> (simp -dsimp [k1, k2, k3]; (repeat (simp -dsimp (disch := (first | omega | assumption | (refine Bool.eq_false_iff.1 ?_; assumption))) only [wrap_in, if_pos, if_neg]; (try simp -dsimp [k1, k2, k3]))))) | ((first | refine guardP_of (fun hc => ?_) (fun hc => ?_) | refine st_cond rfl (fun hc => ?_) (fun hc => ?_)) <;> (try simp only [lqA, lqB, lqC, lqD, lqE, lqF, lqG, lqH, lqI, lqJ, lqK, lqL, lqM, lqN, lqO] at hc) <;> (try (exfalso; first | omega | exact bool_tf hc (by assumption) | exact bool_ft hc (by assumption) | exact absurd (by assumption) hc)) <;> (first | with_reducible show STri _ _ _ _ _ _ | (simp -dsimp [k1, k2, k3, hc]; (repeat (simp -dsimp (disch := (first | omega | assumption | (refine Bool.eq_false_iff.1 ?_; assumption))) only [wrap_in, if_pos, if_neg]; (try simp -dsimp [k1, k2, k3, hc]))))))))
    all_goals (refine CLe.bool ?_; rw [Bool.eq_iff_iff]; simp)
theorem rSources (w : List Wsrc) (hw : WLen w) (hl : w.length ≤ 1000000) : SC Try.prog 41 [slSr w] (B (sizeW w && w.all validV)) := by
  refine law_turretref08_Sources _ _ (by simp) ?_
  have h5 := rIn w.length 1 10
  change SC _ _ _ (B (sizeW w)) at h5
  (repeat' (first | ((first | with_reducible refine st_skip ?_ | with_reducible refine st_exit ?_); (try simp only [seqQ, blockQ, loopQ, forQ, whileQ, reduceIte, Nat.reduceEqDiff])) | (with_reducible refine st_ret ?_; ((try simp only [seqQ, blockQ, loopQ, forQ, whileQ]); first | (with_reducible refine retM_ret ?_) | refine retQ_ret ?_; simp)) | refine st_seq ?_ | refine st_block ?_ | ((with_reducible show (STri _ _ _ _ _) ∧ (STri _ _ _ _ _)); refine And.intro ?_ ?_) | ((first | refine st_reg ?_ | refine buildP_own ?_ | refine appP_own ?_) <;> (simp -dsimp; (repeat (simp -dsimp (disch := (first | omega | assumption | (refine Bool.eq_false_iff.1 ?_; assumption))) only [wrap_in, if_pos, if_neg]; (try simp -dsimp))))) | ((first | refine guardP_of (fun hc => ?_) (fun hc => ?_) | refine st_cond rfl (fun hc => ?_) (fun hc => ?_)) <;> (try simp only [lqA, lqB, lqC, lqD, lqE, lqF, lqG, lqH, lqI, lqJ, lqK, lqL, lqM, lqN, lqO] at hc) <;> (try (exfalso; first | omega | exact bool_tf hc (by assumption) | exact bool_ft hc (by assumption) | exact absurd (by assumption) hc)) <;> (first | with_reducible show STri _ _ _ _ _ _ | (simp -dsimp [hc]; (repeat (simp -dsimp (disch := (first | omega | assumption | (refine Bool.eq_false_iff.1 ?_; assumption))) only [wrap_in, if_pos, if_neg]; (try simp -dsimp [hc]))))))))
  refine st_for [] w.length (fun k T H => AllV w k ∧ T = [(0, .c (slSr w)), (3, .c (I k))] ∧ H = []) (by simp) ⟨fun s hs => by simp at hs, by simp, by simp⟩ ?_
  rintro k T H hk ⟨hall, rfl, rfl⟩
  by_cases hlt : k < w.length
  · have hs := rSource w[k] (hw.h _ (List.getElem_mem hlt))
    by_cases hv : validV w[k] = true
    · rw [hv] at hs
      (repeat' (first | ((first | with_reducible refine st_skip ?_ | with_reducible refine st_exit ?_); (try simp only [seqQ, blockQ, loopQ, forQ, whileQ, reduceIte, Nat.reduceEqDiff])) | (with_reducible refine st_ret ?_; ((try simp only [seqQ, blockQ, loopQ, forQ, whileQ]); first | (with_reducible refine retM_ret ?_) | refine retQ_ret ?_; simp [hlt])) | refine st_seq ?_ | refine st_block ?_ | ((with_reducible show (STri _ _ _ _ _) ∧ (STri _ _ _ _ _)); refine And.intro ?_ ?_) | ((first | refine st_reg ?_ | refine buildP_own ?_ | refine appP_own ?_ | refine callP_b (hs) rfl ?_) <;> (simp -dsimp [hlt]; (repeat (simp -dsimp (disch := (first | omega | assumption | (refine Bool.eq_false_iff.1 ?_; assumption))) only [wrap_in, if_pos, if_neg]; (try simp -dsimp [hlt]))))) | ((first | refine guardP_of (fun hc => ?_) (fun hc => ?_) | refine st_cond rfl (fun hc => ?_) (fun hc => ?_)) <;> (try simp only [lqA, lqB, lqC, lqD, lqE, lqF, lqG, lqH, lqI, lqJ, lqK, lqL, lqM, lqN, lqO] at hc) <;> (try (exfalso; first | omega | exact bool_tf hc (by assumption) | exact bool_ft hc (by assumption) | exact absurd (by assumption) hc)) <;> (first | with_reducible show STri _ _ _ _ _ _ | (simp -dsimp [hlt, hc]; (repeat (simp -dsimp (disch := (first | omega | assumption | (refine Bool.eq_false_iff.1 ?_; assumption))) only [wrap_in, if_pos, if_neg]; (try simp -dsimp [hlt, hc]))))))))
      exact ⟨hlt, by simp, allV_succ hlt hall hv, by simp, by simp⟩
    · rw [Bool.not_eq_true] at hv
      rw [hv] at hs
      have e : w.all validV = false := by
        have := (allV_stop hlt hall hv).2
        simpa using this
      rw [e, Bool.and_false]
      (repeat' (first | ((first | with_reducible refine st_skip ?_ | with_reducible refine st_exit ?_); (try simp only [seqQ, blockQ, loopQ, forQ, whileQ, reduceIte, Nat.reduceEqDiff])) | (with_reducible refine st_ret ?_; ((try simp only [seqQ, blockQ, loopQ, forQ, whileQ]); first | (with_reducible refine retM_ret ?_) | refine retQ_ret ?_; simp [hlt])) | refine st_seq ?_ | refine st_block ?_ | ((with_reducible show (STri _ _ _ _ _) ∧ (STri _ _ _ _ _)); refine And.intro ?_ ?_) | ((first | refine st_reg ?_ | refine buildP_own ?_ | refine appP_own ?_ | refine callP_b (hs) rfl ?_) <;> (simp -dsimp [hlt]; (repeat (simp -dsimp (disch := (first | omega | assumption | (refine Bool.eq_false_iff.1 ?_; assumption))) only [wrap_in, if_pos, if_neg]; (try simp -dsimp [hlt]))))) | ((first | refine guardP_of (fun hc => ?_) (fun hc => ?_) | refine st_cond rfl (fun hc => ?_) (fun hc => ?_)) <;> (try simp only [lqA, lqB, lqC, lqD, lqE, lqF, lqG, lqH, lqI, lqJ, lqK, lqL, lqM, lqN, lqO] at hc) <;> (try (exfalso; first | omega | exact bool_tf hc (by assumption) | exact bool_ft hc (by assumption) | exact absurd (by assumption) hc)) <;> (first | with_reducible show STri _ _ _ _ _ _ | (simp -dsimp [hlt, hc]; (repeat (simp -dsimp (disch := (first | omega | assumption | (refine Bool.eq_false_iff.1 ?_; assumption))) only [wrap_in, if_pos, if_neg]; (try simp -dsimp [hlt, hc]))))))))
      exact .refl _
  · have hkw : k = w.length := by omega
    subst hkw
    rw [allV_all hall, Bool.and_true]
    (repeat' (first | ((first | with_reducible refine st_skip ?_ | with_reducible refine st_exit ?_); (try simp only [seqQ, blockQ, loopQ, forQ, whileQ, reduceIte, Nat.reduceEqDiff])) | (with_reducible refine st_ret ?_; ((try simp only [seqQ, blockQ, loopQ, forQ, whileQ]); first | (with_reducible refine retM_ret ?_) | refine retQ_ret ?_; simp [hlt])) | refine st_seq ?_ | refine st_block ?_ | ((with_reducible show (STri _ _ _ _ _) ∧ (STri _ _ _ _ _)); refine And.intro ?_ ?_) | ((first | refine st_reg ?_ | refine buildP_own ?_ | refine appP_own ?_ | refine callP_b (h5) rfl ?_) <;> (simp -dsimp [hlt]; (repeat (simp -dsimp (disch := (first | omega | assumption | (refine Bool.eq_false_iff.1 ?_; assumption))) only [wrap_in, if_pos, if_neg]; (try simp -dsimp [hlt]))))) | ((first | refine guardP_of (fun hc => ?_) (fun hc => ?_) | refine st_cond rfl (fun hc => ?_) (fun hc => ?_)) <;> (try simp only [lqA, lqB, lqC, lqD, lqE, lqF, lqG, lqH, lqI, lqJ, lqK, lqL, lqM, lqN, lqO] at hc) <;> (try (exfalso; first | omega | exact bool_tf hc (by assumption) | exact bool_ft hc (by assumption) | exact absurd (by assumption) hc)) <;> (first | with_reducible show STri _ _ _ _ _ _ | (simp -dsimp [hlt, hc]; (repeat (simp -dsimp (disch := (first | omega | assumption | (refine Bool.eq_false_iff.1 ?_; assumption))) only [wrap_in, if_pos, if_neg]; (try simp -dsimp [hlt, hc]))))))))
    exact .refl _
def mostI (k : Int) : Int := if k = 1 then 43199 else if k = 4 then 3155760000 else 0
theorem said_most {s : Wsrc} (h : kindOK s.kind = true) (n : Int) : saidB s n = within1 0 (mostI s.kind) n := by
  unfold saidB mostI
  rcases kind_cases h with e | e | e | e <;> rw [e] <;> simp only [if_true, Int.reduceEq, if_false, or_self, or_true, true_or, false_or]
  all_goals (unfold within1; rw [Bool.eq_iff_iff]; simp; omega)
theorem rNotes (w : List Wsrc) (hw : WLen w) (hwl : w.length ≤ 1000000) (l : List Wnt) (hl : l.length ≤ 1000000) (nlo nhi : Int) : SC Try.prog 20 [slSr w, slN l, .agg [I nlo, I nhi]] (I (newErr w l nlo nhi)) := by
  refine law_turretref08_Notes _ _ (by simp) ?_
  have s1 := rSources w hw hwl
  by_cases hz : (sizeW w && w.all validV) = true
  case neg =>
    have e : newErr w l nlo nhi = 2 := by
      unfold newErr
      by_cases h1 : sizeW w = true
      · rw [if_neg (by simp [h1]), if_pos (by simpa [h1] using hz)]
      · rw [if_pos h1]
    rw [e]
    rw [Bool.not_eq_true] at hz
    rw [hz] at s1
    (repeat' (first | ((first | with_reducible refine st_skip ?_ | with_reducible refine st_exit ?_); (try simp only [seqQ, blockQ, loopQ, forQ, whileQ, reduceIte, Nat.reduceEqDiff])) | (with_reducible refine st_ret ?_; ((try simp only [seqQ, blockQ, loopQ, forQ, whileQ]); first | (with_reducible refine retM_ret ?_) | refine retQ_ret ?_; simp)) | refine st_seq ?_ | refine st_block ?_ | ((with_reducible show (STri _ _ _ _ _) ∧ (STri _ _ _ _ _)); refine And.intro ?_ ?_) | ((first | refine st_reg ?_ | refine buildP_own ?_ | refine appP_own ?_ | refine callP_b (s1) rfl ?_) <;> (simp -dsimp; (repeat (simp -dsimp (disch := (first | omega | assumption | (refine Bool.eq_false_iff.1 ?_; assumption))) only [wrap_in, if_pos, if_neg]; (try simp -dsimp))))) | ((first | refine guardP_of (fun hc => ?_) (fun hc => ?_) | refine st_cond rfl (fun hc => ?_) (fun hc => ?_)) <;> (try simp only [lqA, lqB, lqC, lqD, lqE, lqF, lqG, lqH, lqI, lqJ, lqK, lqL, lqM, lqN, lqO] at hc) <;> (try (exfalso; first | omega | exact bool_tf hc (by assumption) | exact bool_ft hc (by assumption) | exact absurd (by assumption) hc)) <;> (first | with_reducible show STri _ _ _ _ _ _ | (simp -dsimp [hc]; (repeat (simp -dsimp (disch := (first | omega | assumption | (refine Bool.eq_false_iff.1 ?_; assumption))) only [wrap_in, if_pos, if_neg]; (try simp -dsimp [hc]))))))))
    all_goals exact .refl _
  rw [hz] at s1
  rw [Bool.and_eq_true] at hz
  obtain ⟨hz1, hz2⟩ := hz
  have her : newErr w l nlo nhi = if 60 < l.length then 5 else if ¬ notesErr w l = 0 then notesErr w l else if spanW nlo nhi 7200 = true then 0 else 3 := by
    unfold newErr; rw [if_neg (by simp [hz1]), if_neg (by simp [hz2])]
  by_cases h60 : 60 < l.length
  · rw [if_pos h60] at her
    rw [her]
    (repeat' (first | ((first | with_reducible refine st_skip ?_ | with_reducible refine st_exit ?_); (try simp only [seqQ, blockQ, loopQ, forQ, whileQ, reduceIte, Nat.reduceEqDiff])) | (with_reducible refine st_ret ?_; ((try simp only [seqQ, blockQ, loopQ, forQ, whileQ]); first | (with_reducible refine retM_ret ?_) | refine retQ_ret ?_; simp [h60])) | refine st_seq ?_ | refine st_block ?_ | ((with_reducible show (STri _ _ _ _ _) ∧ (STri _ _ _ _ _)); refine And.intro ?_ ?_) | ((first | refine st_reg ?_ | refine buildP_own ?_ | refine appP_own ?_ | refine callP_b (s1) rfl ?_) <;> (simp -dsimp [h60]; (repeat (simp -dsimp (disch := (first | omega | assumption | (refine Bool.eq_false_iff.1 ?_; assumption))) only [wrap_in, if_pos, if_neg]; (try simp -dsimp [h60]))))) | ((first | refine guardP_of (fun hc => ?_) (fun hc => ?_) | refine st_cond rfl (fun hc => ?_) (fun hc => ?_)) <;> (try simp only [lqA, lqB, lqC, lqD, lqE, lqF, lqG, lqH, lqI, lqJ, lqK, lqL, lqM, lqN, lqO] at hc) <;> (try (exfalso; first | omega | exact bool_tf hc (by assumption) | exact bool_ft hc (by assumption) | exact absurd (by assumption) hc)) <;> (first | with_reducible show STri _ _ _ _ _ _ | (simp -dsimp [h60, hc]; (repeat (simp -dsimp (disch := (first | omega | assumption | (refine Bool.eq_false_iff.1 ?_; assumption))) only [wrap_in, if_pos, if_neg]; (try simp -dsimp [h60, hc]))))))))
    all_goals exact .refl _
  rw [if_neg h60] at her
  (repeat' (first | ((first | with_reducible refine st_skip ?_ | with_reducible refine st_exit ?_); (try simp only [seqQ, blockQ, loopQ, forQ, whileQ, reduceIte, Nat.reduceEqDiff])) | (with_reducible refine st_ret ?_; ((try simp only [seqQ, blockQ, loopQ, forQ, whileQ]); first | (with_reducible refine retM_ret ?_) | refine retQ_ret ?_; simp [h60])) | refine st_seq ?_ | refine st_block ?_ | ((with_reducible show (STri _ _ _ _ _) ∧ (STri _ _ _ _ _)); refine And.intro ?_ ?_) | ((first | refine st_reg ?_ | refine buildP_own ?_ | refine appP_own ?_ | refine callP_b (s1) rfl ?_) <;> (simp -dsimp [h60]; (repeat (simp -dsimp (disch := (first | omega | assumption | (refine Bool.eq_false_iff.1 ?_; assumption))) only [wrap_in, if_pos, if_neg]; (try simp -dsimp [h60]))))) | ((first | refine guardP_of (fun hc => ?_) (fun hc => ?_) | refine st_cond rfl (fun hc => ?_) (fun hc => ?_)) <;> (try simp only [lqA, lqB, lqC, lqD, lqE, lqF, lqG, lqH, lqI, lqJ, lqK, lqL, lqM, lqN, lqO] at hc) <;> (try (exfalso; first | omega | exact bool_tf hc (by assumption) | exact bool_ft hc (by assumption) | exact absurd (by assumption) hc)) <;> (first | with_reducible show STri _ _ _ _ _ _ | (simp -dsimp [h60, hc]; (repeat (simp -dsimp (disch := (first | omega | assumption | (refine Bool.eq_false_iff.1 ?_; assumption))) only [wrap_in, if_pos, if_neg]; (try simp -dsimp [h60, hc]))))))))
  refine st_for [5] l.length (fun j T H => NotesTo w l j ∧ T = [(0, .c (slSr w)), (1, .c (slN l)), (5, .ptr 5 0), (7, .c (I j))] ∧ H = [(5, .box 25 [.c (I nlo), .c (I nhi)])]) (by simp) ⟨fun s hs => by simp at hs, by simp, by simp⟩ ?_
  rintro j T H hj ⟨hno, rfl, rfl⟩
  by_cases hlt : j < l.length
  · have i1 := rIn l[j].src 0 (w.length - 1)
    have i2 := rIn l[j].tick 0 3155760000
    by_cases b1 : within1 0 (w.length - 1) l[j].src = true
    · rw [b1] at i1
      have hr : 0 ≤ l[j].src ∧ l[j].src.toNat < w.length := by
        unfold within1 at b1; simp at b1; omega
      obtain ⟨r1, r2⟩ := hr
      have hsv := List.all_eq_true.1 hz2 _ (List.getElem_mem r2)
      have hk : kindOK (w[l[j].src.toNat]).kind = true := by
        unfold validV baseV at hsv; simp at hsv; exact hsv.1.1
      have i3 := rIn l[j].said 0 (mostI (w[l[j].src.toNat]).kind)
      rw [← said_most hk] at i3
      have hget : (w.map fun s => saidB s l[j].said).getD l[j].src.toNat false = saidB (w[l[j].src.toNat]) l[j].said := by simp [r2]
      have hne : noteErr w l[j] = if within1 0 3155760000 l[j].tick = true ∧ saidB (w[l[j].src.toNat]) l[j].said = true then 0 else 2 := by unfold noteErr; rw [if_pos b1, hget]
      have hstop : ¬ noteErr w l[j] = 0 → newErr w l nlo nhi = noteErr w l[j] := fun hn => by
        have h2 := notes_stop hlt hno hn
        rw [her, h2, if_pos hn]
      have hgo : noteErr w l[j] = 0 → NotesTo w l (j + 1) := notes_succ hlt hno
      generalize hkd : (w[l[j].src.toNat]).kind = kd at *
      generalize saidB (w[l[j].src.toNat]) l[j].said = sb at *
      generalize within1 0 3155760000 l[j].tick = tb at *
      have hm1 : kd = 1 → mostI kd = 43199 := fun e => by rw [e]; rfl
      have hm4 : kd = 4 → mostI kd = 3155760000 := fun e => by rw [e]; rfl
      have hm0 : ¬ kd = 1 → ¬ kd = 4 → mostI kd = 0 := fun e1 e2 => by unfold mostI; rw [if_neg e1, if_neg e2]
      by_cases h4 : tb = true
      · by_cases h5 : sb = true
        · rw [h4] at i2
          rw [h5] at i3
          have h0 := hgo (by rw [hne, if_pos ⟨h4, h5⟩])
          by_cases e1 : kd = 1
          · rw [hm1 e1] at i3
            (repeat' (first | ((first | with_reducible refine st_skip ?_ | with_reducible refine st_exit ?_); (try simp only [seqQ, blockQ, loopQ, forQ, whileQ, reduceIte, Nat.reduceEqDiff])) | (with_reducible refine st_ret ?_; ((try simp only [seqQ, blockQ, loopQ, forQ, whileQ]); first | (with_reducible refine retM_ret ?_) | refine retQ_ret ?_; simp [hlt, r1, r2, hkd, e1])) | refine st_seq ?_ | refine st_block ?_ | ((with_reducible show (STri _ _ _ _ _) ∧ (STri _ _ _ _ _)); refine And.intro ?_ ?_) | ((first | refine st_reg ?_ | refine buildP_own ?_ | refine appP_own ?_ | refine callP_b (i1) rfl ?_ | refine callP_b (i2) rfl ?_ | refine callP_b (i3) rfl ?_) <;> (simp -dsimp [hlt, r1, r2, hkd, e1]; (repeat (simp -dsimp (disch := (first | omega | assumption | (refine Bool.eq_false_iff.1 ?_; assumption))) only [wrap_in, if_pos, if_neg]; (try simp -dsimp [hlt, r1, r2, hkd, e1]))))) | ((first | refine guardP_of (fun hc => ?_) (fun hc => ?_) | refine st_cond rfl (fun hc => ?_) (fun hc => ?_)) <;> (try simp only [lqA, lqB, lqC, lqD, lqE, lqF, lqG, lqH, lqI, lqJ, lqK, lqL, lqM, lqN, lqO] at hc) <;> (try (exfalso; first | omega | exact bool_tf hc (by assumption) | exact bool_ft hc (by assumption) | exact absurd (by assumption) hc)) <;> (first | with_reducible show STri _ _ _ _ _ _ | (simp -dsimp [hlt, r1, r2, hkd, e1, hc]; (repeat (simp -dsimp (disch := (first | omega | assumption | (refine Bool.eq_false_iff.1 ?_; assumption))) only [wrap_in, if_pos, if_neg]; (try simp -dsimp [hlt, r1, r2, hkd, e1, hc]))))))))
            all_goals exact ⟨hlt, by simp, h0, by simp, by simp⟩
          by_cases e4 : kd = 4
          · rw [hm4 e4] at i3
            (repeat' (first | ((first | with_reducible refine st_skip ?_ | with_reducible refine st_exit ?_); (try simp only [seqQ, blockQ, loopQ, forQ, whileQ, reduceIte, Nat.reduceEqDiff])) | (with_reducible refine st_ret ?_; ((try simp only [seqQ, blockQ, loopQ, forQ, whileQ]); first | (with_reducible refine retM_ret ?_) | refine retQ_ret ?_; simp [hlt, r1, r2, hkd, e4])) | refine st_seq ?_ | refine st_block ?_ | ((with_reducible show (STri _ _ _ _ _) ∧ (STri _ _ _ _ _)); refine And.intro ?_ ?_) | ((first | refine st_reg ?_ | refine buildP_own ?_ | refine appP_own ?_ | refine callP_b (i1) rfl ?_ | refine callP_b (i2) rfl ?_ | refine callP_b (i3) rfl ?_) <;> (simp -dsimp [hlt, r1, r2, hkd, e4]; (repeat (simp -dsimp (disch := (first | omega | assumption | (refine Bool.eq_false_iff.1 ?_; assumption))) only [wrap_in, if_pos, if_neg]; (try simp -dsimp [hlt, r1, r2, hkd, e4]))))) | ((first | refine guardP_of (fun hc => ?_) (fun hc => ?_) | refine st_cond rfl (fun hc => ?_) (fun hc => ?_)) <;> (try simp only [lqA, lqB, lqC, lqD, lqE, lqF, lqG, lqH, lqI, lqJ, lqK, lqL, lqM, lqN, lqO] at hc) <;> (try (exfalso; first | omega | exact bool_tf hc (by assumption) | exact bool_ft hc (by assumption) | exact absurd (by assumption) hc)) <;> (first | with_reducible show STri _ _ _ _ _ _ | (simp -dsimp [hlt, r1, r2, hkd, e4, hc]; (repeat (simp -dsimp (disch := (first | omega | assumption | (refine Bool.eq_false_iff.1 ?_; assumption))) only [wrap_in, if_pos, if_neg]; (try simp -dsimp [hlt, r1, r2, hkd, e4, hc]))))))))
            all_goals exact ⟨hlt, by simp, h0, by simp, by simp⟩
          · rw [hm0 e1 e4] at i3
            (repeat' (first | ((first | with_reducible refine st_skip ?_ | with_reducible refine st_exit ?_); (try simp only [seqQ, blockQ, loopQ, forQ, whileQ, reduceIte, Nat.reduceEqDiff])) | (with_reducible refine st_ret ?_; ((try simp only [seqQ, blockQ, loopQ, forQ, whileQ]); first | (with_reducible refine retM_ret ?_) | refine retQ_ret ?_; simp [hlt, r1, r2, hkd, e1, e4])) | refine st_seq ?_ | refine st_block ?_ | ((with_reducible show (STri _ _ _ _ _) ∧ (STri _ _ _ _ _)); refine And.intro ?_ ?_) | ((first | refine st_reg ?_ | refine buildP_own ?_ | refine appP_own ?_ | refine callP_b (i1) rfl ?_ | refine callP_b (i2) rfl ?_ | refine callP_b (i3) rfl ?_) <;> (simp -dsimp [hlt, r1, r2, hkd, e1, e4]; (repeat (simp -dsimp (disch := (first | omega | assumption | (refine Bool.eq_false_iff.1 ?_; assumption))) only [wrap_in, if_pos, if_neg]; (try simp -dsimp [hlt, r1, r2, hkd, e1, e4]))))) | ((first | refine guardP_of (fun hc => ?_) (fun hc => ?_) | refine st_cond rfl (fun hc => ?_) (fun hc => ?_)) <;> (try simp only [lqA, lqB, lqC, lqD, lqE, lqF, lqG, lqH, lqI, lqJ, lqK, lqL, lqM, lqN, lqO] at hc) <;> (try (exfalso; first | omega | exact bool_tf hc (by assumption) | exact bool_ft hc (by assumption) | exact absurd (by assumption) hc)) <;> (first | with_reducible show STri _ _ _ _ _ _ | (simp -dsimp [hlt, r1, r2, hkd, e1, e4, hc]; (repeat (simp -dsimp (disch := (first | omega | assumption | (refine Bool.eq_false_iff.1 ?_; assumption))) only [wrap_in, if_pos, if_neg]; (try simp -dsimp [hlt, r1, r2, hkd, e1, e4, hc]))))))))
            all_goals exact ⟨hlt, by simp, h0, by simp, by simp⟩
        · have h2 : noteErr w l[j] = 2 := by rw [hne, if_neg (fun h => h5 h.2)]
          rw [hstop (by rw [h2]; decide), h2]
          rw [Bool.not_eq_true] at h5
          rw [h4] at i2
          rw [h5] at i3
          by_cases e1 : kd = 1
          · rw [hm1 e1] at i3
            (repeat' (first | ((first | with_reducible refine st_skip ?_ | with_reducible refine st_exit ?_); (try simp only [seqQ, blockQ, loopQ, forQ, whileQ, reduceIte, Nat.reduceEqDiff])) | (with_reducible refine st_ret ?_; ((try simp only [seqQ, blockQ, loopQ, forQ, whileQ]); first | (with_reducible refine retM_ret ?_) | refine retQ_ret ?_; simp [hlt, r1, r2, hkd, e1])) | refine st_seq ?_ | refine st_block ?_ | ((with_reducible show (STri _ _ _ _ _) ∧ (STri _ _ _ _ _)); refine And.intro ?_ ?_) | ((first | refine st_reg ?_ | refine buildP_own ?_ | refine appP_own ?_ | refine callP_b (i1) rfl ?_ | refine callP_b (i2) rfl ?_ | refine callP_b (i3) rfl ?_) <;> (simp -dsimp [hlt, r1, r2, hkd, e1]; (repeat (simp -dsimp (disch := (first | omega | assumption | (refine Bool.eq_false_iff.1 ?_; assumption))) only [wrap_in, if_pos, if_neg]; (try simp -dsimp [hlt, r1, r2, hkd, e1]))))) | ((first | refine guardP_of (fun hc => ?_) (fun hc => ?_) | refine st_cond rfl (fun hc => ?_) (fun hc => ?_)) <;> (try simp only [lqA, lqB, lqC, lqD, lqE, lqF, lqG, lqH, lqI, lqJ, lqK, lqL, lqM, lqN, lqO] at hc) <;> (try (exfalso; first | omega | exact bool_tf hc (by assumption) | exact bool_ft hc (by assumption) | exact absurd (by assumption) hc)) <;> (first | with_reducible show STri _ _ _ _ _ _ | (simp -dsimp [hlt, r1, r2, hkd, e1, hc]; (repeat (simp -dsimp (disch := (first | omega | assumption | (refine Bool.eq_false_iff.1 ?_; assumption))) only [wrap_in, if_pos, if_neg]; (try simp -dsimp [hlt, r1, r2, hkd, e1, hc]))))))))
            all_goals exact .refl _
          by_cases e4 : kd = 4
          · rw [hm4 e4] at i3
            (repeat' (first | ((first | with_reducible refine st_skip ?_ | with_reducible refine st_exit ?_); (try simp only [seqQ, blockQ, loopQ, forQ, whileQ, reduceIte, Nat.reduceEqDiff])) | (with_reducible refine st_ret ?_; ((try simp only [seqQ, blockQ, loopQ, forQ, whileQ]); first | (with_reducible refine retM_ret ?_) | refine retQ_ret ?_; simp [hlt, r1, r2, hkd, e4])) | refine st_seq ?_ | refine st_block ?_ | ((with_reducible show (STri _ _ _ _ _) ∧ (STri _ _ _ _ _)); refine And.intro ?_ ?_) | ((first | refine st_reg ?_ | refine buildP_own ?_ | refine appP_own ?_ | refine callP_b (i1) rfl ?_ | refine callP_b (i2) rfl ?_ | refine callP_b (i3) rfl ?_) <;> (simp -dsimp [hlt, r1, r2, hkd, e4]; (repeat (simp -dsimp (disch := (first | omega | assumption | (refine Bool.eq_false_iff.1 ?_; assumption))) only [wrap_in, if_pos, if_neg]; (try simp -dsimp [hlt, r1, r2, hkd, e4]))))) | ((first | refine guardP_of (fun hc => ?_) (fun hc => ?_) | refine st_cond rfl (fun hc => ?_) (fun hc => ?_)) <;> (try simp only [lqA, lqB, lqC, lqD, lqE, lqF, lqG, lqH, lqI, lqJ, lqK, lqL, lqM, lqN, lqO] at hc) <;> (try (exfalso; first | omega | exact bool_tf hc (by assumption) | exact bool_ft hc (by assumption) | exact absurd (by assumption) hc)) <;> (first | with_reducible show STri _ _ _ _ _ _ | (simp -dsimp [hlt, r1, r2, hkd, e4, hc]; (repeat (simp -dsimp (disch := (first | omega | assumption | (refine Bool.eq_false_iff.1 ?_; assumption))) only [wrap_in, if_pos, if_neg]; (try simp -dsimp [hlt, r1, r2, hkd, e4, hc]))))))))
            all_goals exact .refl _
          · rw [hm0 e1 e4] at i3
            (repeat' (first | ((first | with_reducible refine st_skip ?_ | with_reducible refine st_exit ?_); (try simp only [seqQ, blockQ, loopQ, forQ, whileQ, reduceIte, Nat.reduceEqDiff])) | (with_reducible refine st_ret ?_; ((try simp only [seqQ, blockQ, loopQ, forQ, whileQ]); first | (with_reducible refine retM_ret ?_) | refine retQ_ret ?_; simp [hlt, r1, r2, hkd, e1, e4])) | refine st_seq ?_ | refine st_block ?_ | ((with_reducible show (STri _ _ _ _ _) ∧ (STri _ _ _ _ _)); refine And.intro ?_ ?_) | ((first | refine st_reg ?_ | refine buildP_own ?_ | refine appP_own ?_ | refine callP_b (i1) rfl ?_ | refine callP_b (i2) rfl ?_ | refine callP_b (i3) rfl ?_) <;> (simp -dsimp [hlt, r1, r2, hkd, e1, e4]; (repeat (simp -dsimp (disch := (first | omega | assumption | (refine Bool.eq_false_iff.1 ?_; assumption))) only [wrap_in, if_pos, if_neg]; (try simp -dsimp [hlt, r1, r2, hkd, e1, e4]))))) | ((first | refine guardP_of (fun hc => ?_) (fun hc => ?_) | refine st_cond rfl (fun hc => ?_) (fun hc => ?_)) <;> (try simp only [lqA, lqB, lqC, lqD, lqE, lqF, lqG, lqH, lqI, lqJ, lqK, lqL, lqM, lqN, lqO] at hc) <;> (try (exfalso; first | omega | exact bool_tf hc (by assumption) | exact bool_ft hc (by assumption) | exact absurd (by assumption) hc)) <;> (first | with_reducible show STri _ _ _ _ _ _ | (simp -dsimp [hlt, r1, r2, hkd, e1, e4, hc]; (repeat (simp -dsimp (disch := (first | omega | assumption | (refine Bool.eq_false_iff.1 ?_; assumption))) only [wrap_in, if_pos, if_neg]; (try simp -dsimp [hlt, r1, r2, hkd, e1, e4, hc]))))))))
            all_goals exact .refl _
      · have h2 : noteErr w l[j] = 2 := by rw [hne, if_neg (fun h => h4 h.1)]
        rw [hstop (by rw [h2]; decide), h2]
        rw [Bool.not_eq_true] at h4
        rw [h4] at i2
        by_cases e1 : kd = 1
        · (repeat' (first | ((first | with_reducible refine st_skip ?_ | with_reducible refine st_exit ?_); (try simp only [seqQ, blockQ, loopQ, forQ, whileQ, reduceIte, Nat.reduceEqDiff])) | (with_reducible refine st_ret ?_; ((try simp only [seqQ, blockQ, loopQ, forQ, whileQ]); first | (with_reducible refine retM_ret ?_) | refine retQ_ret ?_; simp [hlt, r1, r2, hkd, e1])) | refine st_seq ?_ | refine st_block ?_ | ((with_reducible show (STri _ _ _ _ _) ∧ (STri _ _ _ _ _)); refine And.intro ?_ ?_) | ((first | refine st_reg ?_ | refine buildP_own ?_ | refine appP_own ?_ | refine callP_b (i1) rfl ?_ | refine callP_b (i2) rfl ?_) <;> (simp -dsimp [hlt, r1, r2, hkd, e1]; (repeat (simp -dsimp (disch := (first | omega | assumption | (refine Bool.eq_false_iff.1 ?_; assumption))) only [wrap_in, if_pos, if_neg]; (try simp -dsimp [hlt, r1, r2, hkd, e1]))))) | ((first | refine guardP_of (fun hc => ?_) (fun hc => ?_) | refine st_cond rfl (fun hc => ?_) (fun hc => ?_)) <;> (try simp only [lqA, lqB, lqC, lqD, lqE, lqF, lqG, lqH, lqI, lqJ, lqK, lqL, lqM, lqN, lqO] at hc) <;> (try (exfalso; first | omega | exact bool_tf hc (by assumption) | exact bool_ft hc (by assumption) | exact absurd (by assumption) hc)) <;> (first | with_reducible show STri _ _ _ _ _ _ | (simp -dsimp [hlt, r1, r2, hkd, e1, hc]; (repeat (simp -dsimp (disch := (first | omega | assumption | (refine Bool.eq_false_iff.1 ?_; assumption))) only [wrap_in, if_pos, if_neg]; (try simp -dsimp [hlt, r1, r2, hkd, e1, hc]))))))))
          all_goals exact .refl _
        by_cases e4 : kd = 4
        · (repeat' (first | ((first | with_reducible refine st_skip ?_ | with_reducible refine st_exit ?_); (try simp only [seqQ, blockQ, loopQ, forQ, whileQ, reduceIte, Nat.reduceEqDiff])) | (with_reducible refine st_ret ?_; ((try simp only [seqQ, blockQ, loopQ, forQ, whileQ]); first | (with_reducible refine retM_ret ?_) | refine retQ_ret ?_; simp [hlt, r1, r2, hkd, e4])) | refine st_seq ?_ | refine st_block ?_ | ((with_reducible show (STri _ _ _ _ _) ∧ (STri _ _ _ _ _)); refine And.intro ?_ ?_) | ((first | refine st_reg ?_ | refine buildP_own ?_ | refine appP_own ?_ | refine callP_b (i1) rfl ?_ | refine callP_b (i2) rfl ?_) <;> (simp -dsimp [hlt, r1, r2, hkd, e4]; (repeat (simp -dsimp (disch := (first | omega | assumption | (refine Bool.eq_false_iff.1 ?_; assumption))) only [wrap_in, if_pos, if_neg]; (try simp -dsimp [hlt, r1, r2, hkd, e4]))))) | ((first | refine guardP_of (fun hc => ?_) (fun hc => ?_) | refine st_cond rfl (fun hc => ?_) (fun hc => ?_)) <;> (try simp only [lqA, lqB, lqC, lqD, lqE, lqF, lqG, lqH, lqI, lqJ, lqK, lqL, lqM, lqN, lqO] at hc) <;> (try (exfalso; first | omega | exact bool_tf hc (by assumption) | exact bool_ft hc (by assumption) | exact absurd (by assumption) hc)) <;> (first | with_reducible show STri _ _ _ _ _ _ | (simp -dsimp [hlt, r1, r2, hkd, e4, hc]; (repeat (simp -dsimp (disch := (first | omega | assumption | (refine Bool.eq_false_iff.1 ?_; assumption))) only [wrap_in, if_pos, if_neg]; (try simp -dsimp [hlt, r1, r2, hkd, e4, hc]))))))))
          all_goals exact .refl _
        · (repeat' (first | ((first | with_reducible refine st_skip ?_ | with_reducible refine st_exit ?_); (try simp only [seqQ, blockQ, loopQ, forQ, whileQ, reduceIte, Nat.reduceEqDiff])) | (with_reducible refine st_ret ?_; ((try simp only [seqQ, blockQ, loopQ, forQ, whileQ]); first | (with_reducible refine retM_ret ?_) | refine retQ_ret ?_; simp [hlt, r1, r2, hkd, e1, e4])) | refine st_seq ?_ | refine st_block ?_ | ((with_reducible show (STri _ _ _ _ _) ∧ (STri _ _ _ _ _)); refine And.intro ?_ ?_) | ((first | refine st_reg ?_ | refine buildP_own ?_ | refine appP_own ?_ | refine callP_b (i1) rfl ?_ | refine callP_b (i2) rfl ?_) <;> (simp -dsimp [hlt, r1, r2, hkd, e1, e4]; (repeat (simp -dsimp (disch := (first | omega | assumption | (refine Bool.eq_false_iff.1 ?_; assumption))) only [wrap_in, if_pos, if_neg]; (try simp -dsimp [hlt, r1, r2, hkd, e1, e4]))))) | ((first | refine guardP_of (fun hc => ?_) (fun hc => ?_) | refine st_cond rfl (fun hc => ?_) (fun hc => ?_)) <;> (try simp only [lqA, lqB, lqC, lqD, lqE, lqF, lqG, lqH, lqI, lqJ, lqK, lqL, lqM, lqN, lqO] at hc) <;> (try (exfalso; first | omega | exact bool_tf hc (by assumption) | exact bool_ft hc (by assumption) | exact absurd (by assumption) hc)) <;> (first | with_reducible show STri _ _ _ _ _ _ | (simp -dsimp [hlt, r1, r2, hkd, e1, e4, hc]; (repeat (simp -dsimp (disch := (first | omega | assumption | (refine Bool.eq_false_iff.1 ?_; assumption))) only [wrap_in, if_pos, if_neg]; (try simp -dsimp [hlt, r1, r2, hkd, e1, e4, hc]))))))))
          all_goals exact .refl _
    · have hne : noteErr w l[j] = 7 := by unfold noteErr; rw [if_neg b1]
      have h2 := notes_stop hlt hno (by rw [hne]; decide)
      rw [her, h2, hne, if_pos (by decide)]
      rw [Bool.not_eq_true] at b1
      rw [b1] at i1
      (repeat' (first | ((first | with_reducible refine st_skip ?_ | with_reducible refine st_exit ?_); (try simp only [seqQ, blockQ, loopQ, forQ, whileQ, reduceIte, Nat.reduceEqDiff])) | (with_reducible refine st_ret ?_; ((try simp only [seqQ, blockQ, loopQ, forQ, whileQ]); first | (with_reducible refine retM_ret ?_) | refine retQ_ret ?_; simp [hlt])) | refine st_seq ?_ | refine st_block ?_ | ((with_reducible show (STri _ _ _ _ _) ∧ (STri _ _ _ _ _)); refine And.intro ?_ ?_) | ((first | refine st_reg ?_ | refine buildP_own ?_ | refine appP_own ?_ | refine callP_b (i1) rfl ?_) <;> (simp -dsimp [hlt]; (repeat (simp -dsimp (disch := (first | omega | assumption | (refine Bool.eq_false_iff.1 ?_; assumption))) only [wrap_in, if_pos, if_neg]; (try simp -dsimp [hlt]))))) | ((first | refine guardP_of (fun hc => ?_) (fun hc => ?_) | refine st_cond rfl (fun hc => ?_) (fun hc => ?_)) <;> (try simp only [lqA, lqB, lqC, lqD, lqE, lqF, lqG, lqH, lqI, lqJ, lqK, lqL, lqM, lqN, lqO] at hc) <;> (try (exfalso; first | omega | exact bool_tf hc (by assumption) | exact bool_ft hc (by assumption) | exact absurd (by assumption) hc)) <;> (first | with_reducible show STri _ _ _ _ _ _ | (simp -dsimp [hlt, hc]; (repeat (simp -dsimp (disch := (first | omega | assumption | (refine Bool.eq_false_iff.1 ?_; assumption))) only [wrap_in, if_pos, if_neg]; (try simp -dsimp [hlt, hc]))))))))
      all_goals exact .refl _
  · have hjl : j = l.length := by omega
    subst hjl
    have h2 := notes_all hno
    have s3 := rSpan nlo nhi 7200 (by omega) (by omega)
    rw [her, h2, if_neg (by decide)]
    by_cases b4 : spanW nlo nhi 7200 = true
    · rw [b4] at s3 ⊢
      (repeat' (first | ((first | with_reducible refine st_skip ?_ | with_reducible refine st_exit ?_); (try simp only [seqQ, blockQ, loopQ, forQ, whileQ, reduceIte, Nat.reduceEqDiff])) | (with_reducible refine st_ret ?_; ((try simp only [seqQ, blockQ, loopQ, forQ, whileQ]); first | (with_reducible refine retM_ret ?_) | refine retQ_ret ?_; simp [hlt])) | refine st_seq ?_ | refine st_block ?_ | ((with_reducible show (STri _ _ _ _ _) ∧ (STri _ _ _ _ _)); refine And.intro ?_ ?_) | ((first | refine st_reg ?_ | refine buildP_own ?_ | refine appP_own ?_ | refine callP_b (s3) rfl ?_) <;> (simp -dsimp [hlt]; (repeat (simp -dsimp (disch := (first | omega | assumption | (refine Bool.eq_false_iff.1 ?_; assumption))) only [wrap_in, if_pos, if_neg]; (try simp -dsimp [hlt]))))) | ((first | refine guardP_of (fun hc => ?_) (fun hc => ?_) | refine st_cond rfl (fun hc => ?_) (fun hc => ?_)) <;> (try simp only [lqA, lqB, lqC, lqD, lqE, lqF, lqG, lqH, lqI, lqJ, lqK, lqL, lqM, lqN, lqO] at hc) <;> (try (exfalso; first | omega | exact bool_tf hc (by assumption) | exact bool_ft hc (by assumption) | exact absurd (by assumption) hc)) <;> (first | with_reducible show STri _ _ _ _ _ _ | (simp -dsimp [hlt, hc]; (repeat (simp -dsimp (disch := (first | omega | assumption | (refine Bool.eq_false_iff.1 ?_; assumption))) only [wrap_in, if_pos, if_neg]; (try simp -dsimp [hlt, hc]))))))))
      all_goals exact .refl _
    · rw [Bool.not_eq_true] at b4
      rw [b4] at s3 ⊢
      (repeat' (first | ((first | with_reducible refine st_skip ?_ | with_reducible refine st_exit ?_); (try simp only [seqQ, blockQ, loopQ, forQ, whileQ, reduceIte, Nat.reduceEqDiff])) | (with_reducible refine st_ret ?_; ((try simp only [seqQ, blockQ, loopQ, forQ, whileQ]); first | (with_reducible refine retM_ret ?_) | refine retQ_ret ?_; simp [hlt])) | refine st_seq ?_ | refine st_block ?_ | ((with_reducible show (STri _ _ _ _ _) ∧ (STri _ _ _ _ _)); refine And.intro ?_ ?_) | ((first | refine st_reg ?_ | refine buildP_own ?_ | refine appP_own ?_ | refine callP_b (s3) rfl ?_) <;> (simp -dsimp [hlt]; (repeat (simp -dsimp (disch := (first | omega | assumption | (refine Bool.eq_false_iff.1 ?_; assumption))) only [wrap_in, if_pos, if_neg]; (try simp -dsimp [hlt]))))) | ((first | refine guardP_of (fun hc => ?_) (fun hc => ?_) | refine st_cond rfl (fun hc => ?_) (fun hc => ?_)) <;> (try simp only [lqA, lqB, lqC, lqD, lqE, lqF, lqG, lqH, lqI, lqJ, lqK, lqL, lqM, lqN, lqO] at hc) <;> (try (exfalso; first | omega | exact bool_tf hc (by assumption) | exact bool_ft hc (by assumption) | exact absurd (by assumption) hc)) <;> (first | with_reducible show STri _ _ _ _ _ _ | (simp -dsimp [hlt, hc]; (repeat (simp -dsimp (disch := (first | omega | assumption | (refine Bool.eq_false_iff.1 ?_; assumption))) only [wrap_in, if_pos, if_neg]; (try simp -dsimp [hlt, hc]))))))))
      all_goals exact .refl _
end Go.Proofs.Ytakdmliblijgmaa
/- Wire, reference II: when a note is right. -/
namespace Go.Proofs.Ytakdmliblijgmaa
open Go.RowKit
theorem down_q (n b : Int) (hb : 0 < b) : n / b = if n.tdiv b * b > n then n.tdiv b - 1 else n.tdiv b := by
  have h1 := Int.emod_add_mul_ediv n b
  have h2 := Int.emod_nonneg n (show b ≠ 0 by omega)
  have h3 := Int.emod_lt_of_pos n hb
  rw [Int.tdiv_eq_ediv]
  have hbn : ¬ b < 0 := by omega
  have hs : b.sign = 1 := Int.sign_eq_one_of_pos hb
  rw [hs]
  by_cases hc : 0 ≤ n ∨ b ∣ n
  · rw [if_pos hc, Int.add_zero]
    have : ¬ n / b * b > n := by rw [Int.mul_comm]; omega
    rw [if_neg this]
  · rw [if_neg hc]
    have hne : n % b ≠ 0 := fun e => hc (.inr (Int.dvd_of_emod_eq_zero e))
    have : (n / b + 1) * b > n := by rw [Int.add_mul, Int.mul_comm]; omega
    rw [if_pos this]; omega
theorem mul_q (n b : Int) : (n.tdiv b * b).natAbs ≤ n.natAbs := by
  rw [Int.natAbs_mul, Int.natAbs_tdiv]
  exact Nat.div_mul_le_self _ _
theorem rDown (n b : Int) (h1 : -1000000000000000000 ≤ n) (h2 : n ≤ 1000000000000000000) (h3 : 0 < b) (h4 : b ≤ 1000000000000) : SC Try.prog 74 [I n, I b] (I (n / b)) := by
  refine law_turretref08_Down _ _ (by simp) ?_
  have hne : ¬ b = 0 := by omega
  have hq := Int.natAbs_tdiv_le_natAbs n b
  have hm := mul_q n b
  rw [down_q n b h3]
  generalize hQ : n.tdiv b = q at *
  generalize hP : q * b = p at *
  (repeat' (first | ((first | with_reducible refine st_skip ?_ | with_reducible refine st_exit ?_); (try simp only [seqQ, blockQ, loopQ, forQ, whileQ, reduceIte, Nat.reduceEqDiff])) | (with_reducible refine st_ret ?_; ((try simp only [seqQ, blockQ, loopQ, forQ, whileQ]); first | (with_reducible refine retM_ret ?_) | refine retQ_ret ?_; simp [hne, hQ, hP])) | refine st_seq ?_ | refine st_block ?_ | ((with_reducible show (STri _ _ _ _ _) ∧ (STri _ _ _ _ _)); refine And.intro ?_ ?_) | ((first | refine st_reg ?_ | refine buildP_own ?_ | refine appP_own ?_) <;> (simp -dsimp [hne, hQ, hP]; (repeat (simp -dsimp (disch := (first | omega | assumption | (refine Bool.eq_false_iff.1 ?_; assumption))) only [wrap_in, if_pos, if_neg]; (try simp -dsimp [hne, hQ, hP]))))) | ((first | refine guardP_of (fun hc => ?_) (fun hc => ?_) | refine st_cond rfl (fun hc => ?_) (fun hc => ?_)) <;> (try simp only [lqA, lqB, lqC, lqD, lqE, lqF, lqG, lqH, lqI, lqJ, lqK, lqL, lqM, lqN, lqO] at hc) <;> (try (exfalso; first | omega | exact bool_tf hc (by assumption) | exact bool_ft hc (by assumption) | exact absurd (by assumption) hc)) <;> (first | with_reducible show STri _ _ _ _ _ _ | (simp -dsimp [hne, hQ, hP, hc]; (repeat (simp -dsimp (disch := (first | omega | assumption | (refine Bool.eq_false_iff.1 ?_; assumption))) only [wrap_in, if_pos, if_neg]; (try simp -dsimp [hne, hQ, hP, hc]))))))))
  · rw [if_pos hc]; exact .refl _
  · rw [if_neg hc]; exact .refl _
theorem up_q (n b : Int) (hb : 0 < b) : upI n b = if n.tdiv b * b < n then n.tdiv b + 1 else n.tdiv b := by
  unfold upI
  rw [down_q (-n) b hb]
  have e : (-n).tdiv b = -(n.tdiv b) := Int.neg_tdiv n b
  rw [e]
  have e2 : -(n.tdiv b) * b > -n ↔ n.tdiv b * b < n := by rw [Int.neg_mul]; omega
  by_cases h : n.tdiv b * b < n
  · rw [if_pos (e2.2 h), if_pos h]; omega
  · rw [if_neg (fun hh => h (e2.1 hh)), if_neg h]; omega
theorem rUp (n b : Int) (h1 : -1000000000000000000 ≤ n) (h2 : n ≤ 1000000000000000000) (h3 : 0 < b) (h4 : b ≤ 1000000000000) : SC Try.prog 75 [I n, I b] (I (upI n b)) := by
  refine law_turretref08_Up _ _ (by simp) ?_
  have hne : ¬ b = 0 := by omega
  have hq := Int.natAbs_tdiv_le_natAbs n b
  have hm := mul_q n b
  rw [up_q n b h3]
  generalize hQ : n.tdiv b = q at *
  generalize hP : q * b = p at *
  (repeat' (first | ((first | with_reducible refine st_skip ?_ | with_reducible refine st_exit ?_); (try simp only [seqQ, blockQ, loopQ, forQ, whileQ, reduceIte, Nat.reduceEqDiff])) | (with_reducible refine st_ret ?_; ((try simp only [seqQ, blockQ, loopQ, forQ, whileQ]); first | (with_reducible refine retM_ret ?_) | refine retQ_ret ?_; simp [hne, hQ, hP])) | refine st_seq ?_ | refine st_block ?_ | ((with_reducible show (STri _ _ _ _ _) ∧ (STri _ _ _ _ _)); refine And.intro ?_ ?_) | ((first | refine st_reg ?_ | refine buildP_own ?_ | refine appP_own ?_) <;> (simp -dsimp [hne, hQ, hP]; (repeat (simp -dsimp (disch := (first | omega | assumption | (refine Bool.eq_false_iff.1 ?_; assumption))) only [wrap_in, if_pos, if_neg]; (try simp -dsimp [hne, hQ, hP]))))) | ((first | refine guardP_of (fun hc => ?_) (fun hc => ?_) | refine st_cond rfl (fun hc => ?_) (fun hc => ?_)) <;> (try simp only [lqA, lqB, lqC, lqD, lqE, lqF, lqG, lqH, lqI, lqJ, lqK, lqL, lqM, lqN, lqO] at hc) <;> (try (exfalso; first | omega | exact bool_tf hc (by assumption) | exact bool_ft hc (by assumption) | exact absurd (by assumption) hc)) <;> (first | with_reducible show STri _ _ _ _ _ _ | (simp -dsimp [hne, hQ, hP, hc]; (repeat (simp -dsimp (disch := (first | omega | assumption | (refine Bool.eq_false_iff.1 ?_; assumption))) only [wrap_in, if_pos, if_neg]; (try simp -dsimp [hne, hQ, hP, hc]))))))))
  · rw [if_pos hc]; exact .refl _
  · rw [if_neg hc]; exact .refl _
theorem rMod (n b : Int) (h1 : -1000000000000000000 ≤ n) (h2 : n ≤ 1000000000000000000) (h3 : 0 < b) (h4 : b ≤ 1000000) : SC Try.prog 76 [I n, I b] (I (n % b)) := by
  refine law_turretref08_Mod _ _ (by simp) ?_
  have e : n % b = n - b * (n / b) := by have := Int.emod_add_mul_ediv n b; omega
  have h5 := Int.emod_nonneg n (show b ≠ 0 by omega)
  have h6 := Int.emod_lt_of_pos n h3
  have hd := rDown n b h1 h2 h3 (by omega)
  rw [e] at h5 h6
  rw [e]
  generalize n / b = q at *
  generalize hp : b * q = p at *
  (repeat' (first | ((first | with_reducible refine st_skip ?_ | with_reducible refine st_exit ?_); (try simp only [seqQ, blockQ, loopQ, forQ, whileQ, reduceIte, Nat.reduceEqDiff])) | (with_reducible refine st_ret ?_; ((try simp only [seqQ, blockQ, loopQ, forQ, whileQ]); first | (with_reducible refine retM_ret ?_) | refine retQ_ret ?_; simp [hp])) | refine st_seq ?_ | refine st_block ?_ | ((with_reducible show (STri _ _ _ _ _) ∧ (STri _ _ _ _ _)); refine And.intro ?_ ?_) | ((first | refine st_reg ?_ | refine buildP_own ?_ | refine appP_own ?_ | refine callP_b (hd) rfl ?_) <;> (simp -dsimp [hp]; (repeat (simp -dsimp (disch := (first | omega | assumption | (refine Bool.eq_false_iff.1 ?_; assumption))) only [wrap_in, if_pos, if_neg]; (try simp -dsimp [hp]))))) | ((first | refine guardP_of (fun hc => ?_) (fun hc => ?_) | refine st_cond rfl (fun hc => ?_) (fun hc => ?_)) <;> (try simp only [lqA, lqB, lqC, lqD, lqE, lqF, lqG, lqH, lqI, lqJ, lqK, lqL, lqM, lqN, lqO] at hc) <;> (try (exfalso; first | omega | exact bool_tf hc (by assumption) | exact bool_ft hc (by assumption) | exact absurd (by assumption) hc)) <;> (first | with_reducible show STri _ _ _ _ _ _ | (simp -dsimp [hp, hc]; (repeat (simp -dsimp (disch := (first | omega | assumption | (refine Bool.eq_false_iff.1 ?_; assumption))) only [wrap_in, if_pos, if_neg]; (try simp -dsimp [hp, hc]))))))))
  exact .refl _
def errE (s : Wsrc) (t said e : Int) : Bool :=
  if s.kind = 2 then decide (0 ≤ t - e - s.at') && decide ((t - e - s.at') % s.every = 0)
  else if s.kind = 3 then (List.range (max 0 ((t - e).tdiv 86400 + 1) + 1 - max 0 ((t - e).tdiv 86400 - 1)).toNat).any fun (k : Nat) => decide (noonI s (max 0 ((t - e).tdiv 86400 - 1) + k) = t - e)
  else decide (t = said + e)
def NoErr (s : Wsrc) (t said : Int) (k : Nat) : Prop := ∀ i, i < k → errE s t said (s.elo + (i : Nat)) = false
def someE (s : Wsrc) (t said : Int) : Bool := (List.range (s.ehi + 1 - s.elo).toNat).any fun (k : Nat) => errE s t said (s.elo + k)
def refR (s : Wsrc) (t said : Int) : Bool := within1 0 3155760000 t && if s.kind = 1 then clockR s t said s.elo s.ehi else someE s t said
theorem some_yes {s : Wsrc} {t said : Int} {k : Nat} (h1 : s.elo + (k : Nat) ≤ s.ehi) (h : errE s t said (s.elo + (k : Nat)) = true) : someE s t said = true := by
  unfold someE
  rw [List.any_eq_true]
  exact ⟨k, List.mem_range.2 (by omega), h⟩
theorem some_no {s : Wsrc} {t said : Int} (h : NoErr s t said (s.ehi + 1 - s.elo).toNat) : someE s t said = false := by
  unfold someE
  rw [List.any_eq_false]
  intro k hk
  rw [h k (List.mem_range.1 hk)]; decide
theorem rRight1 (s : Wsrc) (h1 : s.kind = 1) (hu : clockV s = true) (t said : Int) (ht : TSm t said s.elo s.ehi) : SC Try.prog 65 [cSr s, I said, I t] (B (refR s t said)) := by
  refine law_turretref08_Right _ _ (by simp) ?_
  have i1 := rIn t 0 3155760000
  unfold refR
  rw [if_pos h1]
  by_cases hw : within1 0 3155760000 t = true
  case neg =>
    rw [Bool.not_eq_true] at hw
    rw [hw] at i1 ⊢
    (repeat' (first | ((first | with_reducible refine st_skip ?_ | with_reducible refine st_exit ?_); (try simp only [seqQ, blockQ, loopQ, forQ, whileQ, reduceIte, Nat.reduceEqDiff])) | (with_reducible refine st_ret ?_; ((try simp only [seqQ, blockQ, loopQ, forQ, whileQ]); first | (with_reducible refine retM_ret ?_) | refine retQ_ret ?_; simp)) | refine st_seq ?_ | refine st_block ?_ | ((with_reducible show (STri _ _ _ _ _) ∧ (STri _ _ _ _ _)); refine And.intro ?_ ?_) | ((first | refine st_reg ?_ | refine buildP_own ?_ | refine appP_own ?_ | refine callP_b (i1) rfl ?_) <;> (simp -dsimp; (repeat (simp -dsimp (disch := (first | omega | assumption | (refine Bool.eq_false_iff.1 ?_; assumption))) only [wrap_in, if_pos, if_neg]; (try simp -dsimp))))) | ((first | refine guardP_of (fun hc => ?_) (fun hc => ?_) | refine st_cond rfl (fun hc => ?_) (fun hc => ?_)) <;> (try simp only [lqA, lqB, lqC, lqD, lqE, lqF, lqG, lqH, lqI, lqJ, lqK, lqL, lqM, lqN, lqO] at hc) <;> (try (exfalso; first | omega | exact bool_tf hc (by assumption) | exact bool_ft hc (by assumption) | exact absurd (by assumption) hc)) <;> (first | with_reducible show STri _ _ _ _ _ _ | (simp -dsimp [hc]; (repeat (simp -dsimp (disch := (first | omega | assumption | (refine Bool.eq_false_iff.1 ?_; assumption))) only [wrap_in, if_pos, if_neg]; (try simp -dsimp [hc]))))))))
    all_goals exact .refl _
  rw [hw] at i1 ⊢
  rw [Bool.true_and]
  obtain ⟨g1, g2, g3, g4, g5⟩ := clockV_is hu
  obtain ⟨b1, b2, b3, b4⟩ := cl_bd hu ht
  obtain ⟨t0, t1, s0, s1, l0, l1, e0, e1⟩ := ht
  have c1 := div_bd (s.dlo * (t - s.at')) 86400000
  have c2 := div_bd (-(s.dhi * (t - s.at'))) 86400000
  unfold clockR clLo clHi
  generalize hx : s.dlo * (t - s.at') = x at *
  generalize hy : s.dhi * (t - s.at') = y at *
  have hu : upI y 86400000 = -(-y / 86400000) := rfl
  generalize hX : x / 86400000 = X at *
  generalize hY : upI y 86400000 = Y at *
  have sd := rDown x 86400000 (by omega) (by omega) (by omega) (by omega)
  have su := rUp y 86400000 (by omega) (by omega) (by omega) (by omega)
  rw [hX] at sd
  rw [hY] at su
  (repeat' (first | ((first | with_reducible refine st_skip ?_ | with_reducible refine st_exit ?_); (try simp only [seqQ, blockQ, loopQ, forQ, whileQ, reduceIte, Nat.reduceEqDiff])) | (with_reducible refine st_ret ?_; ((try simp only [seqQ, blockQ, loopQ, forQ, whileQ]); first | (with_reducible refine retM_ret ?_) | refine retQ_ret ?_; simp [h1, hx, hy])) | refine st_seq ?_ | refine st_block ?_ | ((with_reducible show (STri _ _ _ _ _) ∧ (STri _ _ _ _ _)); refine And.intro ?_ ?_) | ((first | refine st_reg ?_ | refine buildP_own ?_ | refine appP_own ?_ | refine callP_b (i1) rfl ?_ | refine callP_b (sd) rfl ?_ | refine callP_b (su) rfl ?_ | refine callP_b (rMod (said - t - (s.elo + X)) 43200 (by omega) (by omega) (by omega) (by omega)) rfl ?_) <;> (simp -dsimp [h1, hx, hy]; (repeat (simp -dsimp (disch := (first | omega | assumption | (refine Bool.eq_false_iff.1 ?_; assumption))) only [wrap_in, if_pos, if_neg]; (try simp -dsimp [h1, hx, hy]))))) | ((first | refine guardP_of (fun hc => ?_) (fun hc => ?_) | refine st_cond rfl (fun hc => ?_) (fun hc => ?_)) <;> (try simp only [lqA, lqB, lqC, lqD, lqE, lqF, lqG, lqH, lqI, lqJ, lqK, lqL, lqM, lqN, lqO] at hc) <;> (try (exfalso; first | omega | exact bool_tf hc (by assumption) | exact bool_ft hc (by assumption) | exact absurd (by assumption) hc)) <;> (first | with_reducible show STri _ _ _ _ _ _ | (simp -dsimp [h1, hx, hy, hc]; (repeat (simp -dsimp (disch := (first | omega | assumption | (refine Bool.eq_false_iff.1 ?_; assumption))) only [wrap_in, if_pos, if_neg]; (try simp -dsimp [h1, hx, hy, hc]))))))))
  all_goals (refine CLe.bool ?_; simp_all; try (intros; omega))
theorem none_e_succ {s : Wsrc} {t said : Int} {k : Nat} (h : NoErr s t said k) (he : errE s t said (s.elo + (k : Nat)) = false) : NoErr s t said (k + 1) := fun i hi => by
  by_cases hik : i = k
  · subst hik; exact he
  · exact h i (by omega)
theorem rRight2 (s : Wsrc) (hk2 : s.kind = 2) (hu : eventV s = true) (t said : Int) (ht : TSm t said s.elo s.ehi) : SC Try.prog 65 [cSr s, I said, I t] (B (refR s t said)) := by
  refine law_turretref08_Right _ _ (by simp) ?_
  have i1 := rIn t 0 3155760000
  have hk1 : ¬ s.kind = 1 := by omega
  unfold refR
  rw [if_neg hk1]
  by_cases hw : within1 0 3155760000 t = true
  case neg =>
    rw [Bool.not_eq_true] at hw
    rw [hw] at i1 ⊢
    (repeat' (first | ((first | with_reducible refine st_skip ?_ | with_reducible refine st_exit ?_); (try simp only [seqQ, blockQ, loopQ, forQ, whileQ, reduceIte, Nat.reduceEqDiff])) | (with_reducible refine st_ret ?_; ((try simp only [seqQ, blockQ, loopQ, forQ, whileQ]); first | (with_reducible refine retM_ret ?_) | refine retQ_ret ?_; simp)) | refine st_seq ?_ | refine st_block ?_ | ((with_reducible show (STri _ _ _ _ _) ∧ (STri _ _ _ _ _)); refine And.intro ?_ ?_) | ((first | refine st_reg ?_ | refine buildP_own ?_ | refine appP_own ?_ | refine callP_b (i1) rfl ?_) <;> (simp -dsimp; (repeat (simp -dsimp (disch := (first | omega | assumption | (refine Bool.eq_false_iff.1 ?_; assumption))) only [wrap_in, if_pos, if_neg]; (try simp -dsimp))))) | ((first | refine guardP_of (fun hc => ?_) (fun hc => ?_) | refine st_cond rfl (fun hc => ?_) (fun hc => ?_)) <;> (try simp only [lqA, lqB, lqC, lqD, lqE, lqF, lqG, lqH, lqI, lqJ, lqK, lqL, lqM, lqN, lqO] at hc) <;> (try (exfalso; first | omega | exact bool_tf hc (by assumption) | exact bool_ft hc (by assumption) | exact absurd (by assumption) hc)) <;> (first | with_reducible show STri _ _ _ _ _ _ | (simp -dsimp [hc]; (repeat (simp -dsimp (disch := (first | omega | assumption | (refine Bool.eq_false_iff.1 ?_; assumption))) only [wrap_in, if_pos, if_neg]; (try simp -dsimp [hc]))))))))
    all_goals exact .refl _
  rw [hw] at i1 ⊢
  rw [Bool.true_and]
  obtain ⟨g1, g2, g3, g4⟩ := eventV_is hu
  obtain ⟨t0, t1, s0, s1, l0, l1, e0, e1⟩ := ht
  have hne : ¬ s.every = 0 := by omega
  (repeat' (first | ((first | with_reducible refine st_skip ?_ | with_reducible refine st_exit ?_); (try simp only [seqQ, blockQ, loopQ, forQ, whileQ, reduceIte, Nat.reduceEqDiff])) | (with_reducible refine st_ret ?_; ((try simp only [seqQ, blockQ, loopQ, forQ, whileQ]); first | (with_reducible refine retM_ret ?_) | refine retQ_ret ?_; simp [hk1])) | refine st_seq ?_ | refine st_block ?_ | ((with_reducible show (STri _ _ _ _ _) ∧ (STri _ _ _ _ _)); refine And.intro ?_ ?_) | ((first | refine st_reg ?_ | refine buildP_own ?_ | refine appP_own ?_ | refine callP_b (i1) rfl ?_) <;> (simp -dsimp [hk1]; (repeat (simp -dsimp (disch := (first | omega | assumption | (refine Bool.eq_false_iff.1 ?_; assumption))) only [wrap_in, if_pos, if_neg]; (try simp -dsimp [hk1]))))) | ((first | refine guardP_of (fun hc => ?_) (fun hc => ?_) | refine st_cond rfl (fun hc => ?_) (fun hc => ?_)) <;> (try simp only [lqA, lqB, lqC, lqD, lqE, lqF, lqG, lqH, lqI, lqJ, lqK, lqL, lqM, lqN, lqO] at hc) <;> (try (exfalso; first | omega | exact bool_tf hc (by assumption) | exact bool_ft hc (by assumption) | exact absurd (by assumption) hc)) <;> (first | with_reducible show STri _ _ _ _ _ _ | (simp -dsimp [hk1, hc]; (repeat (simp -dsimp (disch := (first | omega | assumption | (refine Bool.eq_false_iff.1 ?_; assumption))) only [wrap_in, if_pos, if_neg]; (try simp -dsimp [hk1, hc]))))))))
  refine st_for [3] (s.ehi + 1 - s.elo).toNat (fun k T H => NoErr s t said k ∧ T = [(1, .c (I said)), (2, .c (I t)), (3, .ptr 3 0), (8, .c (I s.ehi)), (9, .c (I (s.elo + k)))] ∧ H = [(3, .box 79 ((rowSr s).map .c))]) (by simp) ⟨fun i hi => by omega, by simp, by simp⟩ ?_
  rintro k T H hk ⟨hno, rfl, rfl⟩
  by_cases hlt : k < (s.ehi + 1 - s.elo).toNat
  · have hle : s.elo + (k : Int) ≤ s.ehi := by omega
    have he : errE s t said (s.elo + (k : Nat)) = (decide (0 ≤ t - (s.elo + (k : Nat)) - s.at') && decide ((t - (s.elo + (k : Nat)) - s.at') % s.every = 0)) := by unfold errE; rw [if_pos hk2]
    by_cases h0 : 0 ≤ t - (s.elo + (k : Nat)) - s.at'
    · have hm : (t - (s.elo + (k : Nat)) - s.at').tmod s.every = (t - (s.elo + (k : Nat)) - s.at') % s.every := Int.tmod_eq_emod_of_nonneg h0
      have h0' : 0 ≤ t - (s.elo + (k : Int)) - s.at' := h0
      rw [decide_eq_true h0, Bool.true_and] at he
      (repeat' (first | ((first | with_reducible refine st_skip ?_ | with_reducible refine st_exit ?_); (try simp only [seqQ, blockQ, loopQ, forQ, whileQ, reduceIte, Nat.reduceEqDiff])) | (with_reducible refine st_ret ?_; ((try simp only [seqQ, blockQ, loopQ, forQ, whileQ]); first | (with_reducible refine retM_ret ?_) | refine retQ_ret ?_; simp [hk2, hle, h0', hne, hm])) | refine st_seq ?_ | refine st_block ?_ | ((with_reducible show (STri _ _ _ _ _) ∧ (STri _ _ _ _ _)); refine And.intro ?_ ?_) | ((first | refine st_reg ?_ | refine buildP_own ?_ | refine appP_own ?_) <;> (simp -dsimp [hk2, hle, h0', hne, hm]; (repeat (simp -dsimp (disch := (first | omega | assumption | (refine Bool.eq_false_iff.1 ?_; assumption))) only [wrap_in, if_pos, if_neg]; (try simp -dsimp [hk2, hle, h0', hne, hm]))))) | ((first | refine guardP_of (fun hc => ?_) (fun hc => ?_) | refine st_cond rfl (fun hc => ?_) (fun hc => ?_)) <;> (try simp only [lqA, lqB, lqC, lqD, lqE, lqF, lqG, lqH, lqI, lqJ, lqK, lqL, lqM, lqN, lqO] at hc) <;> (try (exfalso; first | omega | exact bool_tf hc (by assumption) | exact bool_ft hc (by assumption) | exact absurd (by assumption) hc)) <;> (first | with_reducible show STri _ _ _ _ _ _ | (simp -dsimp [hk2, hle, h0', hne, hm, hc]; (repeat (simp -dsimp (disch := (first | omega | assumption | (refine Bool.eq_false_iff.1 ?_; assumption))) only [wrap_in, if_pos, if_neg]; (try simp -dsimp [hk2, hle, h0', hne, hm, hc]))))))))
      · rw [some_yes hle (by rw [he]; exact decide_eq_true hc)]
        exact .refl _
      · exact ⟨hlt, by simp, none_e_succ hno (by rw [he]; exact decide_eq_false hc), by simp; omega, by simp [hk2]⟩
    · have h0' : ¬ 0 ≤ t - (s.elo + (k : Int)) - s.at' := h0
      rw [decide_eq_false h0, Bool.false_and] at he
      (repeat' (first | ((first | with_reducible refine st_skip ?_ | with_reducible refine st_exit ?_); (try simp only [seqQ, blockQ, loopQ, forQ, whileQ, reduceIte, Nat.reduceEqDiff])) | (with_reducible refine st_ret ?_; ((try simp only [seqQ, blockQ, loopQ, forQ, whileQ]); first | (with_reducible refine retM_ret ?_) | refine retQ_ret ?_; simp [hk2, hle, h0'])) | refine st_seq ?_ | refine st_block ?_ | ((with_reducible show (STri _ _ _ _ _) ∧ (STri _ _ _ _ _)); refine And.intro ?_ ?_) | ((first | refine st_reg ?_ | refine buildP_own ?_ | refine appP_own ?_) <;> (simp -dsimp [hk2, hle, h0']; (repeat (simp -dsimp (disch := (first | omega | assumption | (refine Bool.eq_false_iff.1 ?_; assumption))) only [wrap_in, if_pos, if_neg]; (try simp -dsimp [hk2, hle, h0']))))) | ((first | refine guardP_of (fun hc => ?_) (fun hc => ?_) | refine st_cond rfl (fun hc => ?_) (fun hc => ?_)) <;> (try simp only [lqA, lqB, lqC, lqD, lqE, lqF, lqG, lqH, lqI, lqJ, lqK, lqL, lqM, lqN, lqO] at hc) <;> (try (exfalso; first | omega | exact bool_tf hc (by assumption) | exact bool_ft hc (by assumption) | exact absurd (by assumption) hc)) <;> (first | with_reducible show STri _ _ _ _ _ _ | (simp -dsimp [hk2, hle, h0', hc]; (repeat (simp -dsimp (disch := (first | omega | assumption | (refine Bool.eq_false_iff.1 ?_; assumption))) only [wrap_in, if_pos, if_neg]; (try simp -dsimp [hk2, hle, h0', hc]))))))))
      exact ⟨hlt, by simp, none_e_succ hno he, by simp; omega, by simp [hk2]⟩
  · have hle : ¬ s.elo + (k : Int) ≤ s.ehi := by omega
    have hkk : k = (s.ehi + 1 - s.elo).toNat := by omega
    subst hkk
    rw [some_no hno]
    (repeat' (first | ((first | with_reducible refine st_skip ?_ | with_reducible refine st_exit ?_); (try simp only [seqQ, blockQ, loopQ, forQ, whileQ, reduceIte, Nat.reduceEqDiff])) | (with_reducible refine st_ret ?_; ((try simp only [seqQ, blockQ, loopQ, forQ, whileQ]); first | (with_reducible refine retM_ret ?_) | refine retQ_ret ?_; simp [hle])) | refine st_seq ?_ | refine st_block ?_ | ((with_reducible show (STri _ _ _ _ _) ∧ (STri _ _ _ _ _)); refine And.intro ?_ ?_) | ((first | refine st_reg ?_ | refine buildP_own ?_ | refine appP_own ?_) <;> (simp -dsimp [hle]; (repeat (simp -dsimp (disch := (first | omega | assumption | (refine Bool.eq_false_iff.1 ?_; assumption))) only [wrap_in, if_pos, if_neg]; (try simp -dsimp [hle]))))) | ((first | refine guardP_of (fun hc => ?_) (fun hc => ?_) | refine st_cond rfl (fun hc => ?_) (fun hc => ?_)) <;> (try simp only [lqA, lqB, lqC, lqD, lqE, lqF, lqG, lqH, lqI, lqJ, lqK, lqL, lqM, lqN, lqO] at hc) <;> (try (exfalso; first | omega | exact bool_tf hc (by assumption) | exact bool_ft hc (by assumption) | exact absurd (by assumption) hc)) <;> (first | with_reducible show STri _ _ _ _ _ _ | (simp -dsimp [hle, hc]; (repeat (simp -dsimp (disch := (first | omega | assumption | (refine Bool.eq_false_iff.1 ?_; assumption))) only [wrap_in, if_pos, if_neg]; (try simp -dsimp [hle, hc]))))))))
    all_goals exact .refl _
theorem rRight4 (s : Wsrc) (hk4 : s.kind = 4) (t said : Int) (ht : TSm t said s.elo s.ehi) : SC Try.prog 65 [cSr s, I said, I t] (B (refR s t said)) := by
  refine law_turretref08_Right _ _ (by simp) ?_
  have i1 := rIn t 0 3155760000
  have hk1 : ¬ s.kind = 1 := by omega
  unfold refR
  rw [if_neg hk1]
  by_cases hw : within1 0 3155760000 t = true
  case neg =>
    rw [Bool.not_eq_true] at hw
    rw [hw] at i1 ⊢
    (repeat' (first | ((first | with_reducible refine st_skip ?_ | with_reducible refine st_exit ?_); (try simp only [seqQ, blockQ, loopQ, forQ, whileQ, reduceIte, Nat.reduceEqDiff])) | (with_reducible refine st_ret ?_; ((try simp only [seqQ, blockQ, loopQ, forQ, whileQ]); first | (with_reducible refine retM_ret ?_) | refine retQ_ret ?_; simp)) | refine st_seq ?_ | refine st_block ?_ | ((with_reducible show (STri _ _ _ _ _) ∧ (STri _ _ _ _ _)); refine And.intro ?_ ?_) | ((first | refine st_reg ?_ | refine buildP_own ?_ | refine appP_own ?_ | refine callP_b (i1) rfl ?_) <;> (simp -dsimp; (repeat (simp -dsimp (disch := (first | omega | assumption | (refine Bool.eq_false_iff.1 ?_; assumption))) only [wrap_in, if_pos, if_neg]; (try simp -dsimp))))) | ((first | refine guardP_of (fun hc => ?_) (fun hc => ?_) | refine st_cond rfl (fun hc => ?_) (fun hc => ?_)) <;> (try simp only [lqA, lqB, lqC, lqD, lqE, lqF, lqG, lqH, lqI, lqJ, lqK, lqL, lqM, lqN, lqO] at hc) <;> (try (exfalso; first | omega | exact bool_tf hc (by assumption) | exact bool_ft hc (by assumption) | exact absurd (by assumption) hc)) <;> (first | with_reducible show STri _ _ _ _ _ _ | (simp -dsimp [hc]; (repeat (simp -dsimp (disch := (first | omega | assumption | (refine Bool.eq_false_iff.1 ?_; assumption))) only [wrap_in, if_pos, if_neg]; (try simp -dsimp [hc]))))))))
    all_goals exact .refl _
  rw [hw] at i1 ⊢
  rw [Bool.true_and]
  obtain ⟨t0, t1, s0, s1, l0, l1, e0, e1⟩ := ht
  (repeat' (first | ((first | with_reducible refine st_skip ?_ | with_reducible refine st_exit ?_); (try simp only [seqQ, blockQ, loopQ, forQ, whileQ, reduceIte, Nat.reduceEqDiff])) | (with_reducible refine st_ret ?_; ((try simp only [seqQ, blockQ, loopQ, forQ, whileQ]); first | (with_reducible refine retM_ret ?_) | refine retQ_ret ?_; simp [hk1])) | refine st_seq ?_ | refine st_block ?_ | ((with_reducible show (STri _ _ _ _ _) ∧ (STri _ _ _ _ _)); refine And.intro ?_ ?_) | ((first | refine st_reg ?_ | refine buildP_own ?_ | refine appP_own ?_ | refine callP_b (i1) rfl ?_) <;> (simp -dsimp [hk1]; (repeat (simp -dsimp (disch := (first | omega | assumption | (refine Bool.eq_false_iff.1 ?_; assumption))) only [wrap_in, if_pos, if_neg]; (try simp -dsimp [hk1]))))) | ((first | refine guardP_of (fun hc => ?_) (fun hc => ?_) | refine st_cond rfl (fun hc => ?_) (fun hc => ?_)) <;> (try simp only [lqA, lqB, lqC, lqD, lqE, lqF, lqG, lqH, lqI, lqJ, lqK, lqL, lqM, lqN, lqO] at hc) <;> (try (exfalso; first | omega | exact bool_tf hc (by assumption) | exact bool_ft hc (by assumption) | exact absurd (by assumption) hc)) <;> (first | with_reducible show STri _ _ _ _ _ _ | (simp -dsimp [hk1, hc]; (repeat (simp -dsimp (disch := (first | omega | assumption | (refine Bool.eq_false_iff.1 ?_; assumption))) only [wrap_in, if_pos, if_neg]; (try simp -dsimp [hk1, hc]))))))))
  refine st_for [3] (s.ehi + 1 - s.elo).toNat (fun k T H => NoErr s t said k ∧ T = [(1, .c (I said)), (2, .c (I t)), (3, .ptr 3 0), (8, .c (I s.ehi)), (9, .c (I (s.elo + k)))] ∧ H = [(3, .box 79 ((rowSr s).map .c))]) (by simp) ⟨fun i hi => by omega, by simp, by simp⟩ ?_
  rintro k T H hk ⟨hno, rfl, rfl⟩
  by_cases hlt : k < (s.ehi + 1 - s.elo).toNat
  · have hle : s.elo + (k : Int) ≤ s.ehi := by omega
    have he : errE s t said (s.elo + (k : Nat)) = decide (t = said + (s.elo + (k : Nat))) := by unfold errE; rw [if_neg (by omega), if_neg (by omega)]
    (repeat' (first | ((first | with_reducible refine st_skip ?_ | with_reducible refine st_exit ?_); (try simp only [seqQ, blockQ, loopQ, forQ, whileQ, reduceIte, Nat.reduceEqDiff])) | (with_reducible refine st_ret ?_; ((try simp only [seqQ, blockQ, loopQ, forQ, whileQ]); first | (with_reducible refine retM_ret ?_) | refine retQ_ret ?_; simp [hk4, hle])) | refine st_seq ?_ | refine st_block ?_ | ((with_reducible show (STri _ _ _ _ _) ∧ (STri _ _ _ _ _)); refine And.intro ?_ ?_) | ((first | refine st_reg ?_ | refine buildP_own ?_ | refine appP_own ?_) <;> (simp -dsimp [hk4, hle]; (repeat (simp -dsimp (disch := (first | omega | assumption | (refine Bool.eq_false_iff.1 ?_; assumption))) only [wrap_in, if_pos, if_neg]; (try simp -dsimp [hk4, hle]))))) | ((first | refine guardP_of (fun hc => ?_) (fun hc => ?_) | refine st_cond rfl (fun hc => ?_) (fun hc => ?_)) <;> (try simp only [lqA, lqB, lqC, lqD, lqE, lqF, lqG, lqH, lqI, lqJ, lqK, lqL, lqM, lqN, lqO] at hc) <;> (try (exfalso; first | omega | exact bool_tf hc (by assumption) | exact bool_ft hc (by assumption) | exact absurd (by assumption) hc)) <;> (first | with_reducible show STri _ _ _ _ _ _ | (simp -dsimp [hk4, hle, hc]; (repeat (simp -dsimp (disch := (first | omega | assumption | (refine Bool.eq_false_iff.1 ?_; assumption))) only [wrap_in, if_pos, if_neg]; (try simp -dsimp [hk4, hle, hc]))))))))
    · rw [some_yes hle (by rw [he]; exact decide_eq_true hc)]
      exact .refl _
    · exact ⟨hlt, by simp, none_e_succ hno (by rw [he]; exact decide_eq_false hc), by simp; omega, by simp [hk4]⟩
  · have hle : ¬ s.elo + (k : Int) ≤ s.ehi := by omega
    have hkk : k = (s.ehi + 1 - s.elo).toNat := by omega
    subst hkk
    rw [some_no hno]
    (repeat' (first | ((first | with_reducible refine st_skip ?_ | with_reducible refine st_exit ?_); (try simp only [seqQ, blockQ, loopQ, forQ, whileQ, reduceIte, Nat.reduceEqDiff])) | (with_reducible refine st_ret ?_; ((try simp only [seqQ, blockQ, loopQ, forQ, whileQ]); first | (with_reducible refine retM_ret ?_) | refine retQ_ret ?_; simp [hle])) | refine st_seq ?_ | refine st_block ?_ | ((with_reducible show (STri _ _ _ _ _) ∧ (STri _ _ _ _ _)); refine And.intro ?_ ?_) | ((first | refine st_reg ?_ | refine buildP_own ?_ | refine appP_own ?_) <;> (simp -dsimp [hle]; (repeat (simp -dsimp (disch := (first | omega | assumption | (refine Bool.eq_false_iff.1 ?_; assumption))) only [wrap_in, if_pos, if_neg]; (try simp -dsimp [hle]))))) | ((first | refine guardP_of (fun hc => ?_) (fun hc => ?_) | refine st_cond rfl (fun hc => ?_) (fun hc => ?_)) <;> (try simp only [lqA, lqB, lqC, lqD, lqE, lqF, lqG, lqH, lqI, lqJ, lqK, lqL, lqM, lqN, lqO] at hc) <;> (try (exfalso; first | omega | exact bool_tf hc (by assumption) | exact bool_ft hc (by assumption) | exact absurd (by assumption) hc)) <;> (first | with_reducible show STri _ _ _ _ _ _ | (simp -dsimp [hle, hc]; (repeat (simp -dsimp (disch := (first | omega | assumption | (refine Bool.eq_false_iff.1 ?_; assumption))) only [wrap_in, if_pos, if_neg]; (try simp -dsimp [hle, hc]))))))))
    all_goals exact .refl _
def NoDay (s : Wsrc) (d0 x : Int) (k : Nat) : Prop := ∀ i, i < k → ¬ noonI s (d0 + (i : Nat)) = x
theorem rRight3 (s : Wsrc) (hk3 : s.kind = 3) (hu : sunV s = true) (t said : Int) (ht : TSm t said s.elo s.ehi) : SC Try.prog 65 [cSr s, I said, I t] (B (refR s t said)) := by
  refine law_turretref08_Right _ _ (by simp) ?_
  have i1 := rIn t 0 3155760000
  have hk1 : ¬ s.kind = 1 := by omega
  unfold refR
  rw [if_neg hk1]
  by_cases hw : within1 0 3155760000 t = true
  case neg =>
    rw [Bool.not_eq_true] at hw
    rw [hw] at i1 ⊢
    (repeat' (first | ((first | with_reducible refine st_skip ?_ | with_reducible refine st_exit ?_); (try simp only [seqQ, blockQ, loopQ, forQ, whileQ, reduceIte, Nat.reduceEqDiff])) | (with_reducible refine st_ret ?_; ((try simp only [seqQ, blockQ, loopQ, forQ, whileQ]); first | (with_reducible refine retM_ret ?_) | refine retQ_ret ?_; simp)) | refine st_seq ?_ | refine st_block ?_ | ((with_reducible show (STri _ _ _ _ _) ∧ (STri _ _ _ _ _)); refine And.intro ?_ ?_) | ((first | refine st_reg ?_ | refine buildP_own ?_ | refine appP_own ?_ | refine callP_b (i1) rfl ?_) <;> (simp -dsimp; (repeat (simp -dsimp (disch := (first | omega | assumption | (refine Bool.eq_false_iff.1 ?_; assumption))) only [wrap_in, if_pos, if_neg]; (try simp -dsimp))))) | ((first | refine guardP_of (fun hc => ?_) (fun hc => ?_) | refine st_cond rfl (fun hc => ?_) (fun hc => ?_)) <;> (try simp only [lqA, lqB, lqC, lqD, lqE, lqF, lqG, lqH, lqI, lqJ, lqK, lqL, lqM, lqN, lqO] at hc) <;> (try (exfalso; first | omega | exact bool_tf hc (by assumption) | exact bool_ft hc (by assumption) | exact absurd (by assumption) hc)) <;> (first | with_reducible show STri _ _ _ _ _ _ | (simp -dsimp [hc]; (repeat (simp -dsimp (disch := (first | omega | assumption | (refine Bool.eq_false_iff.1 ?_; assumption))) only [wrap_in, if_pos, if_neg]; (try simp -dsimp [hc]))))))))
    all_goals exact .refl _
  rw [hw] at i1 ⊢
  rw [Bool.true_and]
  obtain ⟨l1', l2', l3'⟩ := sunV_is hu
  obtain ⟨t0, t1, s0, s1, l0, l1, e0, e1⟩ := ht
  have hle0 : ¬ (s.table.length : Int) = 0 := by omega
  have hne2 : ¬ s.table = [] := fun e => by rw [e] at l1'; simp at l1'
  (repeat' (first | ((first | with_reducible refine st_skip ?_ | with_reducible refine st_exit ?_); (try simp only [seqQ, blockQ, loopQ, forQ, whileQ, reduceIte, Nat.reduceEqDiff])) | (with_reducible refine st_ret ?_; ((try simp only [seqQ, blockQ, loopQ, forQ, whileQ]); first | (with_reducible refine retM_ret ?_) | refine retQ_ret ?_; simp [hk1])) | refine st_seq ?_ | refine st_block ?_ | ((with_reducible show (STri _ _ _ _ _) ∧ (STri _ _ _ _ _)); refine And.intro ?_ ?_) | ((first | refine st_reg ?_ | refine buildP_own ?_ | refine appP_own ?_ | refine callP_b (i1) rfl ?_) <;> (simp -dsimp [hk1]; (repeat (simp -dsimp (disch := (first | omega | assumption | (refine Bool.eq_false_iff.1 ?_; assumption))) only [wrap_in, if_pos, if_neg]; (try simp -dsimp [hk1]))))) | ((first | refine guardP_of (fun hc => ?_) (fun hc => ?_) | refine st_cond rfl (fun hc => ?_) (fun hc => ?_)) <;> (try simp only [lqA, lqB, lqC, lqD, lqE, lqF, lqG, lqH, lqI, lqJ, lqK, lqL, lqM, lqN, lqO] at hc) <;> (try (exfalso; first | omega | exact bool_tf hc (by assumption) | exact bool_ft hc (by assumption) | exact absurd (by assumption) hc)) <;> (first | with_reducible show STri _ _ _ _ _ _ | (simp -dsimp [hk1, hc]; (repeat (simp -dsimp (disch := (first | omega | assumption | (refine Bool.eq_false_iff.1 ?_; assumption))) only [wrap_in, if_pos, if_neg]; (try simp -dsimp [hk1, hc]))))))))
  refine st_for [3] (s.ehi + 1 - s.elo).toNat (fun k T H => NoErr s t said k ∧ T = [(1, .c (I said)), (2, .c (I t)), (3, .ptr 3 0), (8, .c (I s.ehi)), (9, .c (I (s.elo + k)))] ∧ H = [(3, .box 79 ((rowSr s).map .c))]) (by simp) ⟨fun i hi => by omega, by simp, by simp⟩ ?_
  rintro k T H hk ⟨hno, rfl, rfl⟩
  by_cases hlt : k < (s.ehi + 1 - s.elo).toNat
  · have hle : s.elo + (k : Int) ≤ s.ehi := by omega
    obtain ⟨x, hx⟩ : ∃ x, t - (s.elo + (k : Int)) = x := ⟨_, rfl⟩
    obtain ⟨q, hq⟩ : ∃ q, x.tdiv 86400 = q := ⟨_, rfl⟩
    have hqb := Int.natAbs_tdiv_le_natAbs x 86400
    rw [hq] at hqb
    obtain ⟨d0, hd0⟩ : ∃ d0, max 0 (q - 1) = d0 := ⟨_, rfl⟩
    obtain ⟨d1, hd1⟩ : ∃ d1, max 0 (q + 1) = d1 := ⟨_, rfl⟩
    have hm0 : (if 1 < q then q - 1 else 0) = d0 := by rw [← hd0]; split <;> omega
    have hm1 : (if 0 < q + 1 then q + 1 else 0) = d1 := by rw [← hd1]; split <;> omega
    have hq2 : q ≤ 200000 ∧ -200000 ≤ q := by
      have := @Int.tdiv_eq_ediv x 86400
      rw [hq] at this
      split at this
      · omega
      · have h86 : (86400 : Int).sign = 1 := rfl
        rw [h86] at this; omega
    have he : errE s t said (s.elo + (k : Nat)) = (List.range (d1 + 1 - d0).toNat).any fun (i : Nat) => decide (noonI s (d0 + i) = x) := by
      unfold errE
      rw [if_neg (by omega), if_pos hk3]
      rw [hx, hq, hd0, hd1]
    have hdb : 0 ≤ d0 ∧ d0 ≤ 300000 ∧ 0 ≤ d1 ∧ d1 ≤ 300000 := by omega
    (repeat' (first | ((first | with_reducible refine st_skip ?_ | with_reducible refine st_exit ?_); (try simp only [seqQ, blockQ, loopQ, forQ, whileQ, reduceIte, Nat.reduceEqDiff])) | (with_reducible refine st_ret ?_; ((try simp only [seqQ, blockQ, loopQ, forQ, whileQ]); first | (with_reducible refine retM_ret ?_) | refine retQ_ret ?_; simp [hk3, hle, hx, hq, hm0, hm1])) | refine st_seq ?_ | refine st_block ?_ | ((with_reducible show (STri _ _ _ _ _) ∧ (STri _ _ _ _ _)); refine And.intro ?_ ?_) | ((first | refine st_reg ?_ | refine buildP_own ?_ | refine appP_own ?_) <;> (simp -dsimp [hk3, hle, hx, hq, hm0, hm1]; (repeat (simp -dsimp (disch := (first | omega | assumption | (refine Bool.eq_false_iff.1 ?_; assumption))) only [wrap_in, if_pos, if_neg]; (try simp -dsimp [hk3, hle, hx, hq, hm0, hm1]))))) | ((first | refine guardP_of (fun hc => ?_) (fun hc => ?_) | refine st_cond rfl (fun hc => ?_) (fun hc => ?_)) <;> (try simp only [lqA, lqB, lqC, lqD, lqE, lqF, lqG, lqH, lqI, lqJ, lqK, lqL, lqM, lqN, lqO] at hc) <;> (try (exfalso; first | omega | exact bool_tf hc (by assumption) | exact bool_ft hc (by assumption) | exact absurd (by assumption) hc)) <;> (first | with_reducible show STri _ _ _ _ _ _ | (simp -dsimp [hk3, hle, hx, hq, hm0, hm1, hc]; (repeat (simp -dsimp (disch := (first | omega | assumption | (refine Bool.eq_false_iff.1 ?_; assumption))) only [wrap_in, if_pos, if_neg]; (try simp -dsimp [hk3, hle, hx, hq, hm0, hm1, hc]))))))))
    refine st_for [3] (d1 + 1 - d0).toNat (fun i T H => NoDay s d0 x i ∧ T = [(1, .c (I said)), (2, .c (I t)), (3, .ptr 3 0), (8, .c (I s.ehi)), (9, .c (I (s.elo + k))), (11, .c (I (d0 + i)))] ∧ H = [(3, .box 79 [.c (I 3), .c (I s.elo), .c (I s.ehi), .c (I s.at'), .c (I s.dlo), .c (I s.dhi), .c (I s.every), .c (slI s.table)])]) (by simp) ⟨fun i hi => by omega, by simp, by simp⟩ ?_
    rintro i T H hi ⟨hnd, rfl, rfl⟩
    by_cases hlt2 : i < (d1 + 1 - d0).toNat
    · have hle2 : d0 + (i : Int) ≤ d1 := by omega
      have hm : (d0 + (i : Int)).tmod s.table.length = (d0 + (i : Int)) % s.table.length := Int.tmod_eq_emod_of_nonneg (by omega)
      have hj0 := Int.emod_nonneg (d0 + (i : Int)) hle0
      have hj1 := Int.emod_lt_of_pos (d0 + (i : Int)) (show (0 : Int) < s.table.length by omega)
      obtain ⟨j, hj⟩ : ∃ j, (d0 + (i : Int)) % s.table.length = j := ⟨_, rfl⟩
      rw [hj] at hm hj0 hj1
      have hjl : j.toNat < s.table.length := by omega
      have hno2 : noonI s (d0 + (i : Nat)) = (d0 + (i : Int)) * 86400 + s.table[j.toNat]'hjl := by
        unfold noonI
        rw [hj]
        simp [hjl]
      have htb := l3' _ (List.getElem_mem hjl)
      (repeat' (first | ((first | with_reducible refine st_skip ?_ | with_reducible refine st_exit ?_); (try simp only [seqQ, blockQ, loopQ, forQ, whileQ, reduceIte, Nat.reduceEqDiff])) | (with_reducible refine st_ret ?_; ((try simp only [seqQ, blockQ, loopQ, forQ, whileQ]); first | (with_reducible refine retM_ret ?_) | refine retQ_ret ?_; simp [hle2, hx, hq, hm1, hm, hle0, hne2, hj0, hjl])) | refine st_seq ?_ | refine st_block ?_ | ((with_reducible show (STri _ _ _ _ _) ∧ (STri _ _ _ _ _)); refine And.intro ?_ ?_) | ((first | refine st_reg ?_ | refine buildP_own ?_ | refine appP_own ?_) <;> (simp -dsimp [hle2, hx, hq, hm1, hm, hle0, hne2, hj0, hjl]; (repeat (simp -dsimp (disch := (first | omega | assumption | (refine Bool.eq_false_iff.1 ?_; assumption))) only [wrap_in, if_pos, if_neg]; (try simp -dsimp [hle2, hx, hq, hm1, hm, hle0, hne2, hj0, hjl]))))) | ((first | refine guardP_of (fun hc => ?_) (fun hc => ?_) | refine st_cond rfl (fun hc => ?_) (fun hc => ?_)) <;> (try simp only [lqA, lqB, lqC, lqD, lqE, lqF, lqG, lqH, lqI, lqJ, lqK, lqL, lqM, lqN, lqO] at hc) <;> (try (exfalso; first | omega | exact bool_tf hc (by assumption) | exact bool_ft hc (by assumption) | exact absurd (by assumption) hc)) <;> (first | with_reducible show STri _ _ _ _ _ _ | (simp -dsimp [hle2, hx, hq, hm1, hm, hle0, hne2, hj0, hjl, hc]; (repeat (simp -dsimp (disch := (first | omega | assumption | (refine Bool.eq_false_iff.1 ?_; assumption))) only [wrap_in, if_pos, if_neg]; (try simp -dsimp [hle2, hx, hq, hm1, hm, hle0, hne2, hj0, hjl, hc]))))))))
      · have hyes : errE s t said (s.elo + (k : Nat)) = true := by
          rw [he, List.any_eq_true]
          exact ⟨i, List.mem_range.2 hlt2, by rw [decide_eq_true_eq, hno2]; exact hc⟩
        rw [some_yes hle hyes]
        exact .refl _
      · refine ⟨hlt2, by simp, fun i' hi' => ?_, by simp; omega, by simp⟩
        by_cases hii : i' = i
        · subst hii; rw [hno2]; exact hc
        · exact hnd i' (by omega)
    · have hle2 : ¬ d0 + (i : Int) ≤ d1 := by omega
      have hid : i = (d1 + 1 - d0).toNat := by omega
      subst hid
      have hno3 : errE s t said (s.elo + (k : Nat)) = false := by
        rw [he, List.any_eq_false]
        intro i' hi'
        rw [decide_eq_true_eq]
        exact hnd i' (List.mem_range.1 hi')
      (repeat' (first | ((first | with_reducible refine st_skip ?_ | with_reducible refine st_exit ?_); (try simp only [seqQ, blockQ, loopQ, forQ, whileQ, reduceIte, Nat.reduceEqDiff])) | (with_reducible refine st_ret ?_; ((try simp only [seqQ, blockQ, loopQ, forQ, whileQ]); first | (with_reducible refine retM_ret ?_) | refine retQ_ret ?_; simp [hle2, hx, hq, hm1])) | refine st_seq ?_ | refine st_block ?_ | ((with_reducible show (STri _ _ _ _ _) ∧ (STri _ _ _ _ _)); refine And.intro ?_ ?_) | ((first | refine st_reg ?_ | refine buildP_own ?_ | refine appP_own ?_) <;> (simp -dsimp [hle2, hx, hq, hm1]; (repeat (simp -dsimp (disch := (first | omega | assumption | (refine Bool.eq_false_iff.1 ?_; assumption))) only [wrap_in, if_pos, if_neg]; (try simp -dsimp [hle2, hx, hq, hm1]))))) | ((first | refine guardP_of (fun hc => ?_) (fun hc => ?_) | refine st_cond rfl (fun hc => ?_) (fun hc => ?_)) <;> (try simp only [lqA, lqB, lqC, lqD, lqE, lqF, lqG, lqH, lqI, lqJ, lqK, lqL, lqM, lqN, lqO] at hc) <;> (try (exfalso; first | omega | exact bool_tf hc (by assumption) | exact bool_ft hc (by assumption) | exact absurd (by assumption) hc)) <;> (first | with_reducible show STri _ _ _ _ _ _ | (simp -dsimp [hle2, hx, hq, hm1, hc]; (repeat (simp -dsimp (disch := (first | omega | assumption | (refine Bool.eq_false_iff.1 ?_; assumption))) only [wrap_in, if_pos, if_neg]; (try simp -dsimp [hle2, hx, hq, hm1, hc]))))))))
      exact ⟨hlt, by simp, none_e_succ hno hno3, by simp; omega, by simp [hk3]⟩
  · have hle : ¬ s.elo + (k : Int) ≤ s.ehi := by omega
    have hkk : k = (s.ehi + 1 - s.elo).toNat := by omega
    subst hkk
    rw [some_no hno]
    (repeat' (first | ((first | with_reducible refine st_skip ?_ | with_reducible refine st_exit ?_); (try simp only [seqQ, blockQ, loopQ, forQ, whileQ, reduceIte, Nat.reduceEqDiff])) | (with_reducible refine st_ret ?_; ((try simp only [seqQ, blockQ, loopQ, forQ, whileQ]); first | (with_reducible refine retM_ret ?_) | refine retQ_ret ?_; simp [hle])) | refine st_seq ?_ | refine st_block ?_ | ((with_reducible show (STri _ _ _ _ _) ∧ (STri _ _ _ _ _)); refine And.intro ?_ ?_) | ((first | refine st_reg ?_ | refine buildP_own ?_ | refine appP_own ?_) <;> (simp -dsimp [hle]; (repeat (simp -dsimp (disch := (first | omega | assumption | (refine Bool.eq_false_iff.1 ?_; assumption))) only [wrap_in, if_pos, if_neg]; (try simp -dsimp [hle]))))) | ((first | refine guardP_of (fun hc => ?_) (fun hc => ?_) | refine st_cond rfl (fun hc => ?_) (fun hc => ?_)) <;> (try simp only [lqA, lqB, lqC, lqD, lqE, lqF, lqG, lqH, lqI, lqJ, lqK, lqL, lqM, lqN, lqO] at hc) <;> (try (exfalso; first | omega | exact bool_tf hc (by assumption) | exact bool_ft hc (by assumption) | exact absurd (by assumption) hc)) <;> (first | with_reducible show STri _ _ _ _ _ _ | (simp -dsimp [hle, hc]; (repeat (simp -dsimp (disch := (first | omega | assumption | (refine Bool.eq_false_iff.1 ?_; assumption))) only [wrap_in, if_pos, if_neg]; (try simp -dsimp [hle, hc]))))))))
    all_goals exact .refl _
end Go.Proofs.Ytakdmliblijgmaa
/- Wire, reference III: trying each error comes to the same. -/
namespace Go.Proofs.Ytakdmliblijgmaa
open Go.RowKit
theorem up_le {n b m : Int} (hb : 0 < b) : upI n b ≤ m ↔ n ≤ m * b := by
  unfold upI
  have h := Int.le_ediv_iff_mul_le (a := -m) (b := -n) hb
  rw [Int.neg_mul] at h
  constructor
  · intro h1
    have := h.1 (by omega)
    omega
  · intro h1
    have := h.2 (by omega)
    omega
theorem some_iff {s : Wsrc} {t said : Int} : someE s t said = true ↔ ∃ e, s.elo ≤ e ∧ e ≤ s.ehi ∧ errE s t said e = true := by
  unfold someE
  rw [List.any_eq_true]
  constructor
  · rintro ⟨k, hk, h⟩
    have := List.mem_range.1 hk
    exact ⟨s.elo + k, by omega, by omega, h⟩
  · rintro ⟨e, h1, h2, h⟩
    refine ⟨(e - s.elo).toNat, List.mem_range.2 (by omega), ?_⟩
    have : s.elo + ((e - s.elo).toNat : Int) = e := by omega
    rw [this]; exact h
theorem noon_is {s : Wsrc} (hu : sunV s = true) (d : Int) : ∃ x, noonI s d = d * 86400 + x ∧ -3600 ≤ x ∧ x ≤ 3600 := by
  obtain ⟨l1, l2, l3⟩ := sunV_is hu
  refine ⟨_, rfl, ?_⟩
  rw [List.getD_eq_getElem?_getD]
  cases h : s.table[(d % s.table.length).toNat]? with
  | none => simp
  | some x => simpa using l3 x (List.mem_of_getElem? h)
theorem ref_right (s : Wsrc) (hk : kindOK s.kind = true) (hu : useV s = true) (b0 : -20000 ≤ s.elo) (b1 : s.elo ≤ 20000) (b2 : -20000 ≤ s.ehi) (b3 : s.ehi ≤ 20000) (t said : Int) : refR s t said = (within1 0 3155760000 t && rightB s t said s.elo s.ehi) := by
  unfold refR
  by_cases hw : within1 0 3155760000 t = true
  case neg => rw [Bool.not_eq_true] at hw; rw [hw]; rfl
  rw [hw, Bool.true_and, Bool.true_and]
  have ht : 0 ≤ t ∧ t ≤ 3155760000 := by unfold within1 at hw; simp at hw; exact hw
  unfold rightB
  unfold useV at hu
  rcases kind_cases hk with hq | hq | hq | hq
  · rw [if_pos hq, if_pos hq]
  · simp only [hq, Int.reduceEq, if_true, if_false] at hu ⊢
    obtain ⟨g1, g2, g3, g4⟩ := eventV_is hu
    rw [Bool.eq_iff_iff, some_iff]
    unfold eventR errE
    simp only [hq, if_true, Bool.and_eq_true, decide_eq_true_eq]
    constructor
    · rintro ⟨e, h1, h2, h3, h4⟩
      have h5 := Int.emod_add_mul_ediv (t - e - s.at') s.every
      rw [h4, Int.zero_add, Int.mul_comm] at h5
      have h6 : 0 ≤ (t - e - s.at') / s.every := Int.ediv_nonneg h3 (by omega)
      have h7 := (up_le (n := t - s.at' - s.ehi) (m := (t - e - s.at') / s.every) (b := s.every) (by omega)).2 (by omega)
      have h8 := (Int.le_ediv_iff_mul_le (a := (t - e - s.at') / s.every) (b := t - s.at' - s.elo) (c := s.every) (by omega)).2 (by omega)
      omega
    · intro h
      obtain ⟨m, hm⟩ : ∃ m, max 0 (upI (t - s.at' - s.ehi) s.every) = m := ⟨_, rfl⟩
      rw [hm] at h
      have h1 := (up_le (n := t - s.at' - s.ehi) (m := m) (b := s.every) (by omega)).1 (by omega)
      have h2 := (Int.le_ediv_iff_mul_le (a := m) (b := t - s.at' - s.elo) (c := s.every) (by omega)).1 h
      have h3 : 0 ≤ m * s.every := Int.mul_nonneg (by omega) (by omega)
      have e1 : t - (t - s.at' - m * s.every) - s.at' = m * s.every := by omega
      refine ⟨t - s.at' - m * s.every, by omega, by omega, by omega, ?_⟩
      rw [e1, Int.mul_emod_left]
  · simp only [hq, Int.reduceEq, if_true, if_false] at hu ⊢
    rw [Bool.eq_iff_iff, some_iff]
    unfold sunR errE dayL dayN dayLo
    simp only [hq, Int.reduceEq, if_true, if_false, List.any_map, List.any_eq_true, Function.comp_def, decide_eq_true_eq, within1, Bool.and_eq_true]
    constructor
    · rintro ⟨e, h1, h2, i, hi, h3⟩
      have hi := List.mem_range.1 hi
      obtain ⟨q, hq2⟩ : ∃ q, (t - e).tdiv 86400 = q := ⟨_, rfl⟩
      rw [hq2] at hi h3
      obtain ⟨d, hd⟩ : ∃ d, max 0 (q - 1) + (i : Int) = d := ⟨_, rfl⟩
      rw [hd] at h3
      obtain ⟨x, hx, x0, x1⟩ := noon_is hu d
      rw [hx] at h3
      obtain ⟨d0, hd0⟩ : ∃ d0, max 0 (t / 86400 - 1) = d0 := ⟨_, rfl⟩
      rw [hd0]
      have e2 : d0 + ((d - d0).toNat : Int) = d := by omega
      refine ⟨(d - d0).toNat, List.mem_range.2 (by omega), ?_⟩
      rw [e2, hx]
      omega
    · rintro ⟨i, hi, h1, h2⟩
      have hi := List.mem_range.1 hi
      obtain ⟨d, hd⟩ : ∃ d, max 0 (t / 86400 - 1) + (i : Int) = d := ⟨_, rfl⟩
      rw [hd] at h1 h2
      obtain ⟨x, hx, x0, x1⟩ := noon_is hu d
      obtain ⟨q, hq2⟩ : ∃ q, (noonI s d).tdiv 86400 = q := ⟨_, rfl⟩
      have e1 : t - (t - noonI s d) = noonI s d := by omega
      obtain ⟨d0, hd0⟩ : ∃ d0, max 0 (q - 1) = d0 := ⟨_, rfl⟩
      have hqv : q = noonI s d / 86400 ∨ (q = 0 ∧ d = 0) := by
        by_cases hn : 0 ≤ noonI s d
        · left; rw [← hq2]; exact Int.tdiv_eq_ediv_of_nonneg hn
        · right
          have hd2 : d = 0 := by omega
          refine ⟨?_, hd2⟩
          rw [← hq2]
          have h9 := @Int.tdiv_eq_ediv (noonI s d) 86400
          have h86 : (86400 : Int).sign = 1 := rfl
          rw [h86] at h9
          split at h9 <;> omega
      have e2 : d0 + ((d - d0).toNat : Int) = d := by omega
      refine ⟨t - noonI s d, h1, h2, ?_⟩
      rw [e1, hq2, hd0]
      refine ⟨(d - d0).toNat, List.mem_range.2 (by omega), ?_⟩
      rw [e2]
  · simp only [hq, Int.reduceEq, if_true, if_false] at hu ⊢
    rw [Bool.eq_iff_iff, some_iff]
    unfold signalR errE within1
    simp only [hq, Int.reduceEq, if_false, Bool.and_eq_true, decide_eq_true_eq]
    constructor
    · rintro ⟨e, h1, h2, h3⟩; omega
    · intro h; exact ⟨t - said, h.1, h.2, by omega⟩
theorem rRight (s : Wsrc) (hk : kindOK s.kind = true) (hu : useV s = true) (b0 : -20000 ≤ s.elo) (b1 : s.elo ≤ 20000) (b2 : -20000 ≤ s.ehi) (b3 : s.ehi ≤ 20000) (t said : Int) (t0 : -10000000000 ≤ t) (t1 : t ≤ 10000000000) (s0 : -10000000000 ≤ said) (s1 : said ≤ 10000000000) :
    SC Try.prog 65 [cSr s, I said, I t] (B (within1 0 3155760000 t && rightB s t said s.elo s.ehi)) := by
  rw [← ref_right s hk hu b0 b1 b2 b3]
  have ht : TSm t said s.elo s.ehi := ⟨t0, t1, s0, s1, by omega, by omega, by omega, by omega⟩
  unfold useV at hu
  rcases kind_cases hk with hq | hq | hq | hq
  · rw [if_pos hq] at hu; exact rRight1 s hq hu t said ht
  · rw [if_neg (by omega), if_pos hq] at hu; exact rRight2 s hq hu t said ht
  · rw [if_neg (by omega), if_neg (by omega), if_pos hq] at hu; exact rRight3 s hq hu t said ht
  · exact rRight4 s hq t said ht
end Go.Proofs.Ytakdmliblijgmaa
/- Wire, reference IV: which sources are wrong. -/
namespace Go.Proofs.Ytakdmliblijgmaa
open Go.RowKit
structure RefOK (b : Wbk) : Prop where
  len : b.srcs.length ≤ 10
  one : 1 ≤ b.srcs.length
  el : b.errs = b.srcs.map errOf
  va : ∀ s ∈ b.srcs, kindOK s.kind = true ∧ useV s = true ∧ -20000 ≤ s.elo ∧ s.elo ≤ 20000 ∧ -20000 ≤ s.ehi ∧ s.ehi ≤ 20000
  nl : b.notes.length ≤ 60
  no : ∀ n ∈ b.notes, 0 ≤ n.src ∧ n.src < b.srcs.length ∧ 0 ≤ n.tick ∧ n.tick ≤ 3155760000 ∧ 0 ≤ n.said ∧ n.said ≤ 3155760000
  n0 : -7200 ≤ b.nlo
  n1 : b.nlo ≤ b.nhi
  n2 : b.nhi ≤ 7200
def rowB (x : Bool) : List CV := [B x]
def slB (l : List Bool) : CV := .sl 1 (l.map rowB)
attribute [simp] rowB slB
def badTo (b : Wbk) (y : Int) (k : Nat) : List Bool := (List.range b.srcs.length).map fun i => wrongB b y k i
def badL (b : Wbk) (y : Int) : List Bool := badTo b y b.notes.length
theorem badTo_get {b : Wbk} {y : Int} {k i : Nat} (h : i < b.srcs.length) : (badTo b y k)[i]? = some (wrongB b y k i) := by simp [badTo, h]
theorem badTo_len (b : Wbk) (y : Int) (k : Nat) : (badTo b y k).length = b.srcs.length := by simp [badTo]
theorem badTo_succ {b : Wbk} {y : Int} {k : Nat} (hlt : k < b.notes.length) : badTo b y (k + 1) = (badTo b y k).set (b.notes[k]).src.toNat (wrongB b y k (b.notes[k]).src.toNat || !rightN b b.notes[k] y) := by
  apply List.ext_getElem?
  intro i
  rw [List.getElem?_set]
  have e : wrongB b y (k + 1) i = (wrongB b y k i || (decide ((b.notes[k]).src.toNat = i) && !rightN b b.notes[k] y)) := by
    unfold wrongB
    rw [List.take_succ_eq_append_getElem hlt, List.any_append]
    simp
  by_cases hi : i < b.srcs.length
  · rw [badTo_get hi, badTo_get hi, badTo_len, e]
    by_cases h : (b.notes[k]).src.toNat = i
    · rw [if_pos h, if_pos (by omega)]
      simp [h]
    · rw [if_neg h]; simp [h]
  · rw [List.getElem?_eq_none (by rw [badTo_len]; omega), List.getElem?_eq_none (by rw [badTo_len]; omega), badTo_len]
    split
    · split
      · omega
      · rfl
    · rfl
theorem ref_at {b : Wbk} (hb : RefOK b) {n : Wnt} (hn : n ∈ b.notes) {y : Int} (y0 : -7200 ≤ y) (y1 : y ≤ 7200) : ∃ h : n.src.toNat < b.srcs.length, SC Try.prog 65 [cSr (b.srcs[n.src.toNat]), I n.said, I (n.tick + y)] (B (rightN b n y)) := by
  obtain ⟨n1, n2, n3, n4, n5, n6⟩ := hb.no n hn
  have hs : n.src.toNat < b.srcs.length := by omega
  refine ⟨hs, ?_⟩
  obtain ⟨v1, v2, v3, v4, v5, v6⟩ := hb.va _ (List.getElem_mem hs)
  have h := rRight (b.srcs[n.src.toNat]) v1 v2 v3 v4 v5 v6 (n.tick + y) n.said (by omega) (by omega) (by omega) (by omega)
  have e1 : b.srcs.getD n.src.toNat noSrc = b.srcs[n.src.toNat] := by simp [hs]
  have e2 : b.errs.getD n.src.toNat (0, 0) = errOf (b.srcs[n.src.toNat]) := by rw [hb.el]; simp [hs]
  unfold rightN
  rw [e1, e2]
  exact h
theorem rBad (b : Wbk) (hb : RefOK b) (y : Int) (y0 : -7200 ≤ y) (y1 : y ≤ 7200) : SC Try.prog 52 [slSr b.srcs, slN b.notes, I y] (slB (badL b y)) := by
  refine law_turretref08_Bad _ _ (by simp) ?_
  have hl := hb.len
  have hn := hb.nl
  have hrep : List.replicate b.srcs.length [B false] = (badTo b y 0).map rowB := by
    apply List.ext_getElem?
    intro i
    rw [List.getElem?_map]
    by_cases hi : i < b.srcs.length
    · rw [badTo_get hi]; simp [hi, wrongB]
    · rw [List.getElem?_eq_none (by simp; omega), List.getElem?_eq_none (by rw [badTo_len]; omega)]; rfl
  have hA : (b.srcs.length : Int) ≤ 140737488355328 := by omega
  have hB : (b.srcs.length : Int) ≤ 9223372036854775807 := by omega
  (repeat' (first | ((first | with_reducible refine st_skip ?_ | with_reducible refine st_exit ?_); (try simp only [seqQ, blockQ, loopQ, forQ, whileQ, reduceIte, Nat.reduceEqDiff])) | (with_reducible refine st_ret ?_; ((try simp only [seqQ, blockQ, loopQ, forQ, whileQ]); first | (with_reducible refine retM_ret ?_) | refine retQ_ret ?_; simp [hA, hB, hrep])) | refine st_seq ?_ | refine st_block ?_ | ((with_reducible show (STri _ _ _ _ _) ∧ (STri _ _ _ _ _)); refine And.intro ?_ ?_) | ((first | refine st_reg ?_ | refine buildP_own ?_ | refine appP_own ?_) <;> (simp -dsimp [hA, hB, hrep]; (repeat (simp -dsimp (disch := (first | omega | assumption | (refine Bool.eq_false_iff.1 ?_; assumption))) only [wrap_in, if_pos, if_neg]; (try simp -dsimp [hA, hB, hrep]))))) | ((first | refine guardP_of (fun hc => ?_) (fun hc => ?_) | refine st_cond rfl (fun hc => ?_) (fun hc => ?_)) <;> (try simp only [lqA, lqB, lqC, lqD, lqE, lqF, lqG, lqH, lqI, lqJ, lqK, lqL, lqM, lqN, lqO] at hc) <;> (try (exfalso; first | omega | exact bool_tf hc (by assumption) | exact bool_ft hc (by assumption) | exact absurd (by assumption) hc)) <;> (first | with_reducible show STri _ _ _ _ _ _ | (simp -dsimp [hA, hB, hrep, hc]; (repeat (simp -dsimp (disch := (first | omega | assumption | (refine Bool.eq_false_iff.1 ?_; assumption))) only [wrap_in, if_pos, if_neg]; (try simp -dsimp [hA, hB, hrep, hc]))))))))
  refine st_for [12] b.notes.length (fun k T H => T = [(0, .c (slSr b.srcs)), (1, .c (slN b.notes)), (2, .c (I y)), (7, .own 12 b.srcs.length), (8, .c (I k))] ∧ H = [(12, .arr 4 1 ((badTo b y k).map rowB))]) (by simp) ⟨by simp, by simp⟩ ?_
  rintro k T H hk ⟨rfl, rfl⟩
  have hbl := badTo_len b y k
  by_cases hlt : k < b.notes.length
  · obtain ⟨hs, hr⟩ := ref_at hb (List.getElem_mem hlt) y0 y1
    obtain ⟨n1, n2, n3, n4, n5, n6⟩ := hb.no _ (List.getElem_mem hlt)
    have hsu := badTo_succ (y := y) hlt
    have hg : ∀ h : (b.notes[k]).src.toNat < (badTo b y k).length, (badTo b y k)[(b.notes[k]).src.toNat] = wrongB b y k (b.notes[k]).src.toNat := fun h => by
      have e1 := badTo_get (y := y) (k := k) hs
      have e2 := List.getElem?_eq_getElem h
      rw [e1] at e2
      exact (Option.some.inj e2).symm
    generalize badTo b y k = old at *
    by_cases hw : wrongB b y k (b.notes[k]).src.toNat = true
    · rw [hw] at hg hsu
      rw [Bool.true_or] at hsu
      (repeat' (first | ((first | with_reducible refine st_skip ?_ | with_reducible refine st_exit ?_); (try simp only [seqQ, blockQ, loopQ, forQ, whileQ, reduceIte, Nat.reduceEqDiff])) | (with_reducible refine st_ret ?_; ((try simp only [seqQ, blockQ, loopQ, forQ, whileQ]); first | (with_reducible refine retM_ret ?_) | refine retQ_ret ?_; simp [hlt, n1, hs, hbl, hg])) | refine st_seq ?_ | refine st_block ?_ | ((with_reducible show (STri _ _ _ _ _) ∧ (STri _ _ _ _ _)); refine And.intro ?_ ?_) | ((first | refine st_reg ?_ | refine buildP_own ?_ | refine appP_own ?_ | refine callP_b (hr) rfl ?_) <;> (simp -dsimp [hlt, n1, hs, hbl, hg]; (repeat (simp -dsimp (disch := (first | omega | assumption | (refine Bool.eq_false_iff.1 ?_; assumption))) only [wrap_in, if_pos, if_neg]; (try simp -dsimp [hlt, n1, hs, hbl, hg]))))) | ((first | refine guardP_of (fun hc => ?_) (fun hc => ?_) | refine st_cond rfl (fun hc => ?_) (fun hc => ?_)) <;> (try simp only [lqA, lqB, lqC, lqD, lqE, lqF, lqG, lqH, lqI, lqJ, lqK, lqL, lqM, lqN, lqO] at hc) <;> (try (exfalso; first | omega | exact bool_tf hc (by assumption) | exact bool_ft hc (by assumption) | exact absurd (by assumption) hc)) <;> (first | with_reducible show STri _ _ _ _ _ _ | (simp -dsimp [hlt, n1, hs, hbl, hg, hc]; (repeat (simp -dsimp (disch := (first | omega | assumption | (refine Bool.eq_false_iff.1 ?_; assumption))) only [wrap_in, if_pos, if_neg]; (try simp -dsimp [hlt, n1, hs, hbl, hg, hc]))))))))
      exact ⟨hlt, by simp, by simp, by simp [hsu]⟩
    · rw [Bool.not_eq_true] at hw
      rw [hw] at hg hsu
      rw [Bool.false_or] at hsu
      (repeat' (first | ((first | with_reducible refine st_skip ?_ | with_reducible refine st_exit ?_); (try simp only [seqQ, blockQ, loopQ, forQ, whileQ, reduceIte, Nat.reduceEqDiff])) | (with_reducible refine st_ret ?_; ((try simp only [seqQ, blockQ, loopQ, forQ, whileQ]); first | (with_reducible refine retM_ret ?_) | refine retQ_ret ?_; simp [hlt, n1, hs, hbl, hg])) | refine st_seq ?_ | refine st_block ?_ | ((with_reducible show (STri _ _ _ _ _) ∧ (STri _ _ _ _ _)); refine And.intro ?_ ?_) | ((first | refine st_reg ?_ | refine buildP_own ?_ | refine appP_own ?_ | refine callP_b (hr) rfl ?_) <;> (simp -dsimp [hlt, n1, hs, hbl, hg]; (repeat (simp -dsimp (disch := (first | omega | assumption | (refine Bool.eq_false_iff.1 ?_; assumption))) only [wrap_in, if_pos, if_neg]; (try simp -dsimp [hlt, n1, hs, hbl, hg]))))) | ((first | refine guardP_of (fun hc => ?_) (fun hc => ?_) | refine st_cond rfl (fun hc => ?_) (fun hc => ?_)) <;> (try simp only [lqA, lqB, lqC, lqD, lqE, lqF, lqG, lqH, lqI, lqJ, lqK, lqL, lqM, lqN, lqO] at hc) <;> (try (exfalso; first | omega | exact bool_tf hc (by assumption) | exact bool_ft hc (by assumption) | exact absurd (by assumption) hc)) <;> (first | with_reducible show STri _ _ _ _ _ _ | (simp -dsimp [hlt, n1, hs, hbl, hg, hc]; (repeat (simp -dsimp (disch := (first | omega | assumption | (refine Bool.eq_false_iff.1 ?_; assumption))) only [wrap_in, if_pos, if_neg]; (try simp -dsimp [hlt, n1, hs, hbl, hg, hc]))))))))
      all_goals exact ⟨hlt, by simp, by simp, by simp [hsu, hc]⟩
  · have hkk : k = b.notes.length := by omega
    subst hkk
    (repeat' (first | ((first | with_reducible refine st_skip ?_ | with_reducible refine st_exit ?_); (try simp only [seqQ, blockQ, loopQ, forQ, whileQ, reduceIte, Nat.reduceEqDiff])) | (with_reducible refine st_ret ?_; ((try simp only [seqQ, blockQ, loopQ, forQ, whileQ]); first | (with_reducible refine retM_ret ?_) | refine retQ_ret ?_; simp [hlt, hbl])) | refine st_seq ?_ | refine st_block ?_ | ((with_reducible show (STri _ _ _ _ _) ∧ (STri _ _ _ _ _)); refine And.intro ?_ ?_) | ((first | refine st_reg ?_ | refine buildP_own ?_ | refine appP_own ?_) <;> (simp -dsimp [hlt, hbl]; (repeat (simp -dsimp (disch := (first | omega | assumption | (refine Bool.eq_false_iff.1 ?_; assumption))) only [wrap_in, if_pos, if_neg]; (try simp -dsimp [hlt, hbl]))))) | ((first | refine guardP_of (fun hc => ?_) (fun hc => ?_) | refine st_cond rfl (fun hc => ?_) (fun hc => ?_)) <;> (try simp only [lqA, lqB, lqC, lqD, lqE, lqF, lqG, lqH, lqI, lqJ, lqK, lqL, lqM, lqN, lqO] at hc) <;> (try (exfalso; first | omega | exact bool_tf hc (by assumption) | exact bool_ft hc (by assumption) | exact absurd (by assumption) hc)) <;> (first | with_reducible show STri _ _ _ _ _ _ | (simp -dsimp [hlt, hbl, hc]; (repeat (simp -dsimp (disch := (first | omega | assumption | (refine Bool.eq_false_iff.1 ?_; assumption))) only [wrap_in, if_pos, if_neg]; (try simp -dsimp [hlt, hbl, hc]))))))))
    exact .refl _
end Go.Proofs.Ytakdmliblijgmaa
/- Wire, reference V: all corrections; with how few wrong sources there is one. -/
namespace Go.Proofs.Ytakdmliblijgmaa
open Go.RowKit
def cntB (l : List Bool) : Nat := l.count true
theorem cntB_succ {l : List Bool} {k : Nat} (h : k < l.length) : cntB (l.take (k + 1)) = if l[k] = true then cntB (l.take k) + 1 else cntB (l.take k) := by
  unfold cntB
  rw [List.take_succ_eq_append_getElem h, List.count_append]
  by_cases hx : l[k] = true
  · rw [if_pos hx, hx]; rfl
  · rw [if_neg hx]
    rw [Bool.not_eq_true] at hx
    rw [hx]; rfl
theorem cntB_le (l : List Bool) : cntB l ≤ l.length := List.count_le_length
theorem rCount (l : List Bool) (hl : l.length ≤ 1000000) : SC Try.prog 53 [slB l] (I (cntB l)) := by
  refine law_turretref08_Count _ _ (by simp) ?_
  (repeat' (first | ((first | with_reducible refine st_skip ?_ | with_reducible refine st_exit ?_); (try simp only [seqQ, blockQ, loopQ, forQ, whileQ, reduceIte, Nat.reduceEqDiff])) | (with_reducible refine st_ret ?_; ((try simp only [seqQ, blockQ, loopQ, forQ, whileQ]); first | (with_reducible refine retM_ret ?_) | refine retQ_ret ?_; simp)) | refine st_seq ?_ | refine st_block ?_ | ((with_reducible show (STri _ _ _ _ _) ∧ (STri _ _ _ _ _)); refine And.intro ?_ ?_) | ((first | refine st_reg ?_ | refine buildP_own ?_ | refine appP_own ?_) <;> (simp -dsimp; (repeat (simp -dsimp (disch := (first | omega | assumption | (refine Bool.eq_false_iff.1 ?_; assumption))) only [wrap_in, if_pos, if_neg]; (try simp -dsimp))))) | ((first | refine guardP_of (fun hc => ?_) (fun hc => ?_) | refine st_cond rfl (fun hc => ?_) (fun hc => ?_)) <;> (try simp only [lqA, lqB, lqC, lqD, lqE, lqF, lqG, lqH, lqI, lqJ, lqK, lqL, lqM, lqN, lqO] at hc) <;> (try (exfalso; first | omega | exact bool_tf hc (by assumption) | exact bool_ft hc (by assumption) | exact absurd (by assumption) hc)) <;> (first | with_reducible show STri _ _ _ _ _ _ | (simp -dsimp [hc]; (repeat (simp -dsimp (disch := (first | omega | assumption | (refine Bool.eq_false_iff.1 ?_; assumption))) only [wrap_in, if_pos, if_neg]; (try simp -dsimp [hc]))))))))
  refine st_for [] l.length (fun k T H => T = [(0, .c (slB l)), (3, .c (I (cntB (l.take k)))), (4, .c (I k))] ∧ H = []) (by simp) ⟨by simp [cntB], by simp⟩ ?_
  rintro k T H hk ⟨rfl, rfl⟩
  by_cases hlt : k < l.length
  · have hs := cntB_succ hlt
    have hb := cntB_le (l.take k)
    rw [List.length_take] at hb
    generalize cntB (l.take k) = c at *
    by_cases hx : l[k] = true
    · rw [if_pos hx] at hs
      have hg : ∀ h : k < l.length, l[k]'h = true := fun _ => hx
      (repeat' (first | ((first | with_reducible refine st_skip ?_ | with_reducible refine st_exit ?_); (try simp only [seqQ, blockQ, loopQ, forQ, whileQ, reduceIte, Nat.reduceEqDiff])) | (with_reducible refine st_ret ?_; ((try simp only [seqQ, blockQ, loopQ, forQ, whileQ]); first | (with_reducible refine retM_ret ?_) | refine retQ_ret ?_; simp [hlt, hg])) | refine st_seq ?_ | refine st_block ?_ | ((with_reducible show (STri _ _ _ _ _) ∧ (STri _ _ _ _ _)); refine And.intro ?_ ?_) | ((first | refine st_reg ?_ | refine buildP_own ?_ | refine appP_own ?_) <;> (simp -dsimp [hlt, hg]; (repeat (simp -dsimp (disch := (first | omega | assumption | (refine Bool.eq_false_iff.1 ?_; assumption))) only [wrap_in, if_pos, if_neg]; (try simp -dsimp [hlt, hg]))))) | ((first | refine guardP_of (fun hc => ?_) (fun hc => ?_) | refine st_cond rfl (fun hc => ?_) (fun hc => ?_)) <;> (try simp only [lqA, lqB, lqC, lqD, lqE, lqF, lqG, lqH, lqI, lqJ, lqK, lqL, lqM, lqN, lqO] at hc) <;> (try (exfalso; first | omega | exact bool_tf hc (by assumption) | exact bool_ft hc (by assumption) | exact absurd (by assumption) hc)) <;> (first | with_reducible show STri _ _ _ _ _ _ | (simp -dsimp [hlt, hg, hc]; (repeat (simp -dsimp (disch := (first | omega | assumption | (refine Bool.eq_false_iff.1 ?_; assumption))) only [wrap_in, if_pos, if_neg]; (try simp -dsimp [hlt, hg, hc]))))))))
      exact ⟨hlt, by simp, by simp [hs], by simp⟩
    · rw [if_neg hx] at hs
      rw [Bool.not_eq_true] at hx
      have hg : ∀ h : k < l.length, l[k]'h = false := fun _ => hx
      (repeat' (first | ((first | with_reducible refine st_skip ?_ | with_reducible refine st_exit ?_); (try simp only [seqQ, blockQ, loopQ, forQ, whileQ, reduceIte, Nat.reduceEqDiff])) | (with_reducible refine st_ret ?_; ((try simp only [seqQ, blockQ, loopQ, forQ, whileQ]); first | (with_reducible refine retM_ret ?_) | refine retQ_ret ?_; simp [hlt, hg])) | refine st_seq ?_ | refine st_block ?_ | ((with_reducible show (STri _ _ _ _ _) ∧ (STri _ _ _ _ _)); refine And.intro ?_ ?_) | ((first | refine st_reg ?_ | refine buildP_own ?_ | refine appP_own ?_) <;> (simp -dsimp [hlt, hg]; (repeat (simp -dsimp (disch := (first | omega | assumption | (refine Bool.eq_false_iff.1 ?_; assumption))) only [wrap_in, if_pos, if_neg]; (try simp -dsimp [hlt, hg]))))) | ((first | refine guardP_of (fun hc => ?_) (fun hc => ?_) | refine st_cond rfl (fun hc => ?_) (fun hc => ?_)) <;> (try simp only [lqA, lqB, lqC, lqD, lqE, lqF, lqG, lqH, lqI, lqJ, lqK, lqL, lqM, lqN, lqO] at hc) <;> (try (exfalso; first | omega | exact bool_tf hc (by assumption) | exact bool_ft hc (by assumption) | exact absurd (by assumption) hc)) <;> (first | with_reducible show STri _ _ _ _ _ _ | (simp -dsimp [hlt, hg, hc]; (repeat (simp -dsimp (disch := (first | omega | assumption | (refine Bool.eq_false_iff.1 ?_; assumption))) only [wrap_in, if_pos, if_neg]; (try simp -dsimp [hlt, hg, hc]))))))))
      exact ⟨hlt, by simp, by simp [hs], by simp⟩
  · have hkk : k = l.length := by omega
    subst hkk
    rw [List.take_length]
    (repeat' (first | ((first | with_reducible refine st_skip ?_ | with_reducible refine st_exit ?_); (try simp only [seqQ, blockQ, loopQ, forQ, whileQ, reduceIte, Nat.reduceEqDiff])) | (with_reducible refine st_ret ?_; ((try simp only [seqQ, blockQ, loopQ, forQ, whileQ]); first | (with_reducible refine retM_ret ?_) | refine retQ_ret ?_; simp [hlt])) | refine st_seq ?_ | refine st_block ?_ | ((with_reducible show (STri _ _ _ _ _) ∧ (STri _ _ _ _ _)); refine And.intro ?_ ?_) | ((first | refine st_reg ?_ | refine buildP_own ?_ | refine appP_own ?_) <;> (simp -dsimp [hlt]; (repeat (simp -dsimp (disch := (first | omega | assumption | (refine Bool.eq_false_iff.1 ?_; assumption))) only [wrap_in, if_pos, if_neg]; (try simp -dsimp [hlt]))))) | ((first | refine guardP_of (fun hc => ?_) (fun hc => ?_) | refine st_cond rfl (fun hc => ?_) (fun hc => ?_)) <;> (try simp only [lqA, lqB, lqC, lqD, lqE, lqF, lqG, lqH, lqI, lqJ, lqK, lqL, lqM, lqN, lqO] at hc) <;> (try (exfalso; first | omega | exact bool_tf hc (by assumption) | exact bool_ft hc (by assumption) | exact absurd (by assumption) hc)) <;> (first | with_reducible show STri _ _ _ _ _ _ | (simp -dsimp [hlt, hc]; (repeat (simp -dsimp (disch := (first | omega | assumption | (refine Bool.eq_false_iff.1 ?_; assumption))) only [wrap_in, if_pos, if_neg]; (try simp -dsimp [hlt, hc]))))))))
    exact .refl _
theorem filter_range {p : Nat → Bool} {n : Nat} (h : ∀ i, n ≤ i → p i = false) : ∀ m, n ≤ m → (List.range m).filter p = (List.range n).filter p := by
  intro m hm
  induction m with
  | zero => rw [show n = 0 by omega]
  | succ m ih =>
    by_cases he : n = m + 1
    · rw [he]
    · rw [List.range_succ, List.filter_append, ih (by omega)]
      simp [h m (by omega)]
theorem cnt_bad {b : Wbk} (hb : BkOK b) (y : Int) : cntB (badL b y) = popN (wrongN b y) := by
  have hlt := wrongTo_lt hb y b.notes.length (Nat.le_refl _)
  have hlen := hb.len
  unfold cntB badL badTo popN wrongN
  rw [List.count_eq_countP, List.countP_map, List.countP_eq_length_filter]
  rw [filter_range (n := b.srcs.length) (fun i hi => Nat.testBit_lt_two_pow (Nat.lt_of_lt_of_le hlt (Nat.pow_le_pow_right (by omega) hi))) 10 hlen]
  congr 1
  refine List.filter_congr fun i _ => ?_
  rw [wrongTo_bit b y b.notes.length i (Nat.le_refl _)]
  simp
def allB (b : Wbk) : List (List Bool) := (List.range (bookN b)).map fun (k : Nat) => badL b (b.nlo + k)
def rowBB (l : List Bool) : List CV := [slB l]
def slBB (l : List (List Bool)) : CV := .sl 1 (l.map rowBB)
attribute [simp] rowBB slBB
theorem allB_len (b : Wbk) : (allB b).length = bookN b := by simp [allB]
theorem allB_get {b : Wbk} {k : Nat} (h : k < (allB b).length) : (allB b)[k] = badL b (b.nlo + k) := by simp [allB]
theorem badL_len (b : Wbk) (y : Int) : (badL b y).length = b.srcs.length := badTo_len b y _
theorem rAll (b : Wbk) (hb : RefOK b) : SC Try.prog 21 [slSr b.srcs, slN b.notes, .agg [I b.nlo, I b.nhi]] (slBB (allB b)) := by
  refine law_turretref08_All _ _ (by simp) ?_
  have n0 := hb.n0
  have n1 := hb.n1
  have n2 := hb.n2
  have hlen := allB_len b
  have hN : (bookN b : Int) = b.nhi + 1 - b.nlo := by unfold bookN; omega
  (repeat' (first | ((first | with_reducible refine st_skip ?_ | with_reducible refine st_exit ?_); (try simp only [seqQ, blockQ, loopQ, forQ, whileQ, reduceIte, Nat.reduceEqDiff])) | (with_reducible refine st_ret ?_; ((try simp only [seqQ, blockQ, loopQ, forQ, whileQ]); first | (with_reducible refine retM_ret ?_) | refine retQ_ret ?_; simp)) | refine st_seq ?_ | refine st_block ?_ | ((with_reducible show (STri _ _ _ _ _) ∧ (STri _ _ _ _ _)); refine And.intro ?_ ?_) | ((first | refine st_reg ?_ | refine buildP_own ?_ | refine appP_own ?_) <;> (simp -dsimp; (repeat (simp -dsimp (disch := (first | omega | assumption | (refine Bool.eq_false_iff.1 ?_; assumption))) only [wrap_in, if_pos, if_neg]; (try simp -dsimp))))) | ((first | refine guardP_of (fun hc => ?_) (fun hc => ?_) | refine st_cond rfl (fun hc => ?_) (fun hc => ?_)) <;> (try simp only [lqA, lqB, lqC, lqD, lqE, lqF, lqG, lqH, lqI, lqJ, lqK, lqL, lqM, lqN, lqO] at hc) <;> (try (exfalso; first | omega | exact bool_tf hc (by assumption) | exact bool_ft hc (by assumption) | exact absurd (by assumption) hc)) <;> (first | with_reducible show STri _ _ _ _ _ _ | (simp -dsimp [hc]; (repeat (simp -dsimp (disch := (first | omega | assumption | (refine Bool.eq_false_iff.1 ?_; assumption))) only [wrap_in, if_pos, if_neg]; (try simp -dsimp [hc]))))))))
  refine st_for [5, 9] (bookN b) (fun k T H => T = [(0, .c (slSr b.srcs)), (1, .c (slN b.notes)), (5, .ptr 5 0), (7, .own 9 k), (8, .c (I (b.nlo + k)))] ∧ H = [(5, .box 25 [.c (I b.nlo), .c (I b.nhi)]), (9, .arr 101 1 (((allB b).take k).map rowBB))]) (by simp) ⟨by simp, by simp⟩ ?_
  rintro k T H hk ⟨rfl, rfl⟩
  by_cases hlt : k < bookN b
  · have hle : b.nlo + k ≤ b.nhi := by omega
    have hr := rBad b hb (b.nlo + k) (by omega) (by omega)
    have hk2 : k < (allB b).length := by omega
    have ht : (allB b).take (k + 1) = (allB b).take k ++ [badL b (b.nlo + k)] := by rw [List.take_succ_eq_append_getElem hk2, allB_get hk2]
    have hl0 : ((allB b).take k).length = k := by rw [List.length_take]; omega
    have hA : k ≤ 9223372036854775806 := by omega
    have hB : (k + 1) * 24 ≤ 140737488355328 := by omega
    generalize (allB b).take k = acc at *
    generalize badL b (b.nlo + k) = row at *
    (repeat' (first | ((first | with_reducible refine st_skip ?_ | with_reducible refine st_exit ?_); (try simp only [seqQ, blockQ, loopQ, forQ, whileQ, reduceIte, Nat.reduceEqDiff])) | (with_reducible refine st_ret ?_; ((try simp only [seqQ, blockQ, loopQ, forQ, whileQ]); first | (with_reducible refine retM_ret ?_) | refine retQ_ret ?_; simp [hle, hl0, hA, hB])) | refine st_seq ?_ | refine st_block ?_ | ((with_reducible show (STri _ _ _ _ _) ∧ (STri _ _ _ _ _)); refine And.intro ?_ ?_) | ((first | refine st_reg ?_ | refine buildP_own ?_ | refine appP_own ?_ | refine callP_b (hr) rfl ?_) <;> (simp -dsimp [hle, hl0, hA, hB]; (repeat (simp -dsimp (disch := (first | omega | assumption | (refine Bool.eq_false_iff.1 ?_; assumption))) only [wrap_in, if_pos, if_neg]; (try simp -dsimp [hle, hl0, hA, hB]))))) | ((first | refine guardP_of (fun hc => ?_) (fun hc => ?_) | refine st_cond rfl (fun hc => ?_) (fun hc => ?_)) <;> (try simp only [lqA, lqB, lqC, lqD, lqE, lqF, lqG, lqH, lqI, lqJ, lqK, lqL, lqM, lqN, lqO] at hc) <;> (try (exfalso; first | omega | exact bool_tf hc (by assumption) | exact bool_ft hc (by assumption) | exact absurd (by assumption) hc)) <;> (first | with_reducible show STri _ _ _ _ _ _ | (simp -dsimp [hle, hl0, hA, hB, hc]; (repeat (simp -dsimp (disch := (first | omega | assumption | (refine Bool.eq_false_iff.1 ?_; assumption))) only [wrap_in, if_pos, if_neg]; (try simp -dsimp [hle, hl0, hA, hB, hc]))))))))
    exact ⟨hlt, by simp, by simp; omega, by rw [← List.map_take, ht]; simp⟩
  · have hle : ¬ b.nlo + k ≤ b.nhi := by omega
    have hkk : k = (allB b).length := by omega
    subst hkk
    rw [List.take_length]
    (repeat' (first | ((first | with_reducible refine st_skip ?_ | with_reducible refine st_exit ?_); (try simp only [seqQ, blockQ, loopQ, forQ, whileQ, reduceIte, Nat.reduceEqDiff])) | (with_reducible refine st_ret ?_; ((try simp only [seqQ, blockQ, loopQ, forQ, whileQ]); first | (with_reducible refine retM_ret ?_) | refine retQ_ret ?_; simp [hle])) | refine st_seq ?_ | refine st_block ?_ | ((with_reducible show (STri _ _ _ _ _) ∧ (STri _ _ _ _ _)); refine And.intro ?_ ?_) | ((first | refine st_reg ?_ | refine buildP_own ?_ | refine appP_own ?_) <;> (simp -dsimp [hle]; (repeat (simp -dsimp (disch := (first | omega | assumption | (refine Bool.eq_false_iff.1 ?_; assumption))) only [wrap_in, if_pos, if_neg]; (try simp -dsimp [hle]))))) | ((first | refine guardP_of (fun hc => ?_) (fun hc => ?_) | refine st_cond rfl (fun hc => ?_) (fun hc => ?_)) <;> (try simp only [lqA, lqB, lqC, lqD, lqE, lqF, lqG, lqH, lqI, lqJ, lqK, lqL, lqM, lqN, lqO] at hc) <;> (try (exfalso; first | omega | exact bool_tf hc (by assumption) | exact bool_ft hc (by assumption) | exact absurd (by assumption) hc)) <;> (first | with_reducible show STri _ _ _ _ _ _ | (simp -dsimp [hle, hc]; (repeat (simp -dsimp (disch := (first | omega | assumption | (refine Bool.eq_false_iff.1 ?_; assumption))) only [wrap_in, if_pos, if_neg]; (try simp -dsimp [hle, hc]))))))))
    exact .refl _
theorem minU_same {l l' : List Nat} (h : ∀ x, x ∈ l ↔ x ∈ l') (m : Nat) : minU m l = minU m l' := by
  obtain ⟨a1, a2⟩ := minU_le l m
  obtain ⟨b1, b2⟩ := minU_le l' m
  have c1 : minU m l' ≤ minU m l := by
    rcases minU_at l m with e | ⟨x, hx, e⟩
    · omega
    · have := b2 x ((h x).1 hx); omega
  have c2 : minU m l ≤ minU m l' := by
    rcases minU_at l' m with e | ⟨x, hx, e⟩
    · omega
    · have := a2 x ((h x).2 hx); omega
  omega
def fewTo (b : Wbk) (k : Nat) : Nat := minU b.srcs.length (((allL b).take k).map (·.2))
theorem fewTo_all (b : Wbk) : fewTo b (bookN b) = fewN b := by
  unfold fewTo fewN
  rw [← allL_len b, List.take_length]
  refine minU_same (fun x => ?_) _
  rw [mem_setsL]
  simp
theorem fewTo_succ {b : Wbk} {k : Nat} (h : k < bookN b) : fewTo b (k + 1) = min (fewTo b k) (popN (wrongN b (b.nlo + k))) := by
  unfold fewTo
  have h2 : k < (allL b).length := by rw [allL_len]; exact h
  have h3 : (allL b)[k] = (b.nlo + (k : Int), wrongN b (b.nlo + k)) := by
    have := allL_get h
    rw [List.getElem?_eq_getElem h2] at this
    exact Option.some.inj this
  rw [List.take_succ_eq_append_getElem h2, h3, List.map_append]
  unfold minU
  rw [List.foldl_append]
  rfl
theorem fewTo_le (b : Wbk) (k : Nat) : fewTo b k ≤ b.srcs.length := (minU_le _ _).1
theorem rFewest (b : Wbk) (hb : BkOK b) : SC Try.prog 22 [slBB (allB b)] (I (fewN b)) := by
  refine law_turretref08_Fewest _ _ (by simp) ?_
  have n0 := hb.n0
  have n1 := hb.n1
  have n2 := hb.n2
  have hlen := allB_len b
  have hbl := hb.len
  have hN : (bookN b : Int) = b.nhi + 1 - b.nlo := by unfold bookN; omega
  have h0 : 0 < (allB b).length := by omega
  have hg0 : ∀ h : 0 < (allB b).length, ((allB b)[0]'h).length = b.srcs.length := fun h => by rw [allB_get h, badL_len]
  rw [← fewTo_all, ← hlen]
  have hf0 : fewTo b 0 = b.srcs.length := rfl
  have hfs : ∀ k, k < (allB b).length → fewTo b (k + 1) = min (fewTo b k) (popN (wrongN b (b.nlo + k))) := fun k h => fewTo_succ (by omega)
  have hfl := fewTo_le b
  have hgk : ∀ k, (h : k < (allB b).length) → (allB b)[k] = badL b (b.nlo + k) := fun k h => allB_get h
  generalize fewTo b = fe at *
  generalize hal : allB b = al at *
  (repeat' (first | ((first | with_reducible refine st_skip ?_ | with_reducible refine st_exit ?_); (try simp only [seqQ, blockQ, loopQ, forQ, whileQ, reduceIte, Nat.reduceEqDiff])) | (with_reducible refine st_ret ?_; ((try simp only [seqQ, blockQ, loopQ, forQ, whileQ]); first | (with_reducible refine retM_ret ?_) | refine retQ_ret ?_; simp [h0, hg0])) | refine st_seq ?_ | refine st_block ?_ | ((with_reducible show (STri _ _ _ _ _) ∧ (STri _ _ _ _ _)); refine And.intro ?_ ?_) | ((first | refine st_reg ?_ | refine buildP_own ?_ | refine appP_own ?_) <;> (simp -dsimp [h0, hg0]; (repeat (simp -dsimp (disch := (first | omega | assumption | (refine Bool.eq_false_iff.1 ?_; assumption))) only [wrap_in, if_pos, if_neg]; (try simp -dsimp [h0, hg0]))))) | ((first | refine guardP_of (fun hc => ?_) (fun hc => ?_) | refine st_cond rfl (fun hc => ?_) (fun hc => ?_)) <;> (try simp only [lqA, lqB, lqC, lqD, lqE, lqF, lqG, lqH, lqI, lqJ, lqK, lqL, lqM, lqN, lqO] at hc) <;> (try (exfalso; first | omega | exact bool_tf hc (by assumption) | exact bool_ft hc (by assumption) | exact absurd (by assumption) hc)) <;> (first | with_reducible show STri _ _ _ _ _ _ | (simp -dsimp [h0, hg0, hc]; (repeat (simp -dsimp (disch := (first | omega | assumption | (refine Bool.eq_false_iff.1 ?_; assumption))) only [wrap_in, if_pos, if_neg]; (try simp -dsimp [h0, hg0, hc]))))))))
  refine st_for [] al.length (fun k T H => T = [(0, .c (slBB al)), (3, .c (I (fe k))), (4, .c (I k))] ∧ H = []) (by simp) ⟨by simp [hf0], by simp⟩ ?_
  rintro k T H hk ⟨rfl, rfl⟩
  by_cases hlt : k < al.length
  · have hs := hfs k hlt
    have hfk := hfl k
    have hg := hgk k hlt
    have hpc := cnt_bad hb (b.nlo + k)
    have hp := pop_le (wrongN b (b.nlo + k))
    have hbll := badL_len b (b.nlo + k)
    have hr := rCount (badL b (b.nlo + k)) (by omega)
    rw [hpc] at hr
    generalize badL b (b.nlo + k) = row at *
    generalize popN (wrongN b (b.nlo + k)) = p at *
    have hg2 : ∀ h : k < al.length, al[k]'h = row := fun _ => hg
    (repeat' (first | ((first | with_reducible refine st_skip ?_ | with_reducible refine st_exit ?_); (try simp only [seqQ, blockQ, loopQ, forQ, whileQ, reduceIte, Nat.reduceEqDiff])) | (with_reducible refine st_ret ?_; ((try simp only [seqQ, blockQ, loopQ, forQ, whileQ]); first | (with_reducible refine retM_ret ?_) | refine retQ_ret ?_; simp [hlt, hg2])) | refine st_seq ?_ | refine st_block ?_ | ((with_reducible show (STri _ _ _ _ _) ∧ (STri _ _ _ _ _)); refine And.intro ?_ ?_) | ((first | refine st_reg ?_ | refine buildP_own ?_ | refine appP_own ?_ | refine callP_b (hr) rfl ?_) <;> (simp -dsimp [hlt, hg2]; (repeat (simp -dsimp (disch := (first | omega | assumption | (refine Bool.eq_false_iff.1 ?_; assumption))) only [wrap_in, if_pos, if_neg]; (try simp -dsimp [hlt, hg2]))))) | ((first | refine guardP_of (fun hc => ?_) (fun hc => ?_) | refine st_cond rfl (fun hc => ?_) (fun hc => ?_)) <;> (try simp only [lqA, lqB, lqC, lqD, lqE, lqF, lqG, lqH, lqI, lqJ, lqK, lqL, lqM, lqN, lqO] at hc) <;> (try (exfalso; first | omega | exact bool_tf hc (by assumption) | exact bool_ft hc (by assumption) | exact absurd (by assumption) hc)) <;> (first | with_reducible show STri _ _ _ _ _ _ | (simp -dsimp [hlt, hg2, hc]; (repeat (simp -dsimp (disch := (first | omega | assumption | (refine Bool.eq_false_iff.1 ?_; assumption))) only [wrap_in, if_pos, if_neg]; (try simp -dsimp [hlt, hg2, hc]))))))))
    refine ⟨hlt, by simp, ?_, by simp⟩
    simp [hs]
    omega
  · have hkk : k = al.length := by omega
    subst hkk
    (repeat' (first | ((first | with_reducible refine st_skip ?_ | with_reducible refine st_exit ?_); (try simp only [seqQ, blockQ, loopQ, forQ, whileQ, reduceIte, Nat.reduceEqDiff])) | (with_reducible refine st_ret ?_; ((try simp only [seqQ, blockQ, loopQ, forQ, whileQ]); first | (with_reducible refine retM_ret ?_) | refine retQ_ret ?_; simp [hlt])) | refine st_seq ?_ | refine st_block ?_ | ((with_reducible show (STri _ _ _ _ _) ∧ (STri _ _ _ _ _)); refine And.intro ?_ ?_) | ((first | refine st_reg ?_ | refine buildP_own ?_ | refine appP_own ?_) <;> (simp -dsimp [hlt]; (repeat (simp -dsimp (disch := (first | omega | assumption | (refine Bool.eq_false_iff.1 ?_; assumption))) only [wrap_in, if_pos, if_neg]; (try simp -dsimp [hlt]))))) | ((first | refine guardP_of (fun hc => ?_) (fun hc => ?_) | refine st_cond rfl (fun hc => ?_) (fun hc => ?_)) <;> (try simp only [lqA, lqB, lqC, lqD, lqE, lqF, lqG, lqH, lqI, lqJ, lqK, lqL, lqM, lqN, lqO] at hc) <;> (try (exfalso; first | omega | exact bool_tf hc (by assumption) | exact bool_ft hc (by assumption) | exact absurd (by assumption) hc)) <;> (first | with_reducible show STri _ _ _ _ _ _ | (simp -dsimp [hlt, hc]; (repeat (simp -dsimp (disch := (first | omega | assumption | (refine Bool.eq_false_iff.1 ?_; assumption))) only [wrap_in, if_pos, if_neg]; (try simp -dsimp [hlt, hc]))))))))
    exact .refl _
end Go.Proofs.Ytakdmliblijgmaa
/- Wire, reference VI: spans and pairs. -/
namespace Go.Proofs.Ytakdmliblijgmaa
open Go.RowKit
theorem rSpans (b : Wbk) (hb : BkOK b) (many : Nat) : SC Try.prog 25 [slBB (allB b), .agg [I b.nlo, I b.nhi], I many] (slE (spansL b fun m => decide (popN m = many))) := by
  refine law_turretref08_Spans _ _ (by simp) ?_
  have n0 := hb.n0
  have n1 := hb.n1
  have n2 := hb.n2
  have hlen := allB_len b
  have hlen2 := allL_len b
  have hbl := hb.len
  have hN : (bookN b : Int) = b.nhi + 1 - b.nlo := by unfold bookN; omega
  have e : spansTo b (fun m => decide (popN m = many)) (allB b).length = spansL b fun m => decide (popN m = many) := by unfold spansTo spansL; rw [hlen, ← hlen2, List.take_length]
  rw [← e]
  have hss : ∀ k, k < (allB b).length → spansTo b (fun m => decide (popN m = many)) (k + 1) = spanStep (fun m => decide (popN m = many)) (spansTo b (fun m => decide (popN m = many)) k) (b.nlo + (k : Int), wrongN b (b.nlo + k)) := fun k h => by
    rw [spansTo_succ (by omega)]
    congr 1
    have h3 := allL_get (b := b) (k := k) (by omega)
    rw [List.getElem?_eq_getElem (by omega)] at h3
    exact Option.some.inj h3
  have hs0 : spansTo b (fun m => decide (popN m = many)) 0 = [] := rfl
  have hsl := fun k h => spansTo_len b (fun m => decide (popN m = many)) k h
  have hgk : ∀ k, (h : k < (allB b).length) → (allB b)[k] = badL b (b.nlo + k) := fun k h => allB_get h
  generalize spansTo b (fun m => decide (popN m = many)) = sp at *
  generalize hal : allB b = al at *
  (repeat' (first | ((first | with_reducible refine st_skip ?_ | with_reducible refine st_exit ?_); (try simp only [seqQ, blockQ, loopQ, forQ, whileQ, reduceIte, Nat.reduceEqDiff])) | (with_reducible refine st_ret ?_; ((try simp only [seqQ, blockQ, loopQ, forQ, whileQ]); first | (with_reducible refine retM_ret ?_) | refine retQ_ret ?_; simp)) | refine st_seq ?_ | refine st_block ?_ | ((with_reducible show (STri _ _ _ _ _) ∧ (STri _ _ _ _ _)); refine And.intro ?_ ?_) | ((first | refine st_reg ?_ | refine buildP_own ?_ | refine appP_own ?_) <;> (simp -dsimp; (repeat (simp -dsimp (disch := (first | omega | assumption | (refine Bool.eq_false_iff.1 ?_; assumption))) only [wrap_in, if_pos, if_neg]; (try simp -dsimp))))) | ((first | refine guardP_of (fun hc => ?_) (fun hc => ?_) | refine st_cond rfl (fun hc => ?_) (fun hc => ?_)) <;> (try simp only [lqA, lqB, lqC, lqD, lqE, lqF, lqG, lqH, lqI, lqJ, lqK, lqL, lqM, lqN, lqO] at hc) <;> (try (exfalso; first | omega | exact bool_tf hc (by assumption) | exact bool_ft hc (by assumption) | exact absurd (by assumption) hc)) <;> (first | with_reducible show STri _ _ _ _ _ _ | (simp -dsimp [hc]; (repeat (simp -dsimp (disch := (first | omega | assumption | (refine Bool.eq_false_iff.1 ?_; assumption))) only [wrap_in, if_pos, if_neg]; (try simp -dsimp [hc]))))))))
  refine st_for [4, 10] al.length (fun k T H => T = [(0, .c (slBB al)), (2, .c (I many)), (4, .ptr 4 0), (7, .own 10 (sp k).length), (8, .c (I k))] ∧ H = [(4, .box 25 [.c (I b.nlo), .c (I b.nhi)]), (10, .arr 25 2 ((sp k).map rowE))]) (by simp) ⟨by simp [hs0], by simp [hs0]⟩ ?_
  rintro k T H hk ⟨rfl, rfl⟩
  by_cases hlt : k < al.length
  · have hs := hss k hlt
    have hslk := hsl k (by omega)
    have hg := hgk k hlt
    have hpc := cnt_bad hb (b.nlo + k)
    have hp := pop_le (wrongN b (b.nlo + k))
    have hbll := badL_len b (b.nlo + k)
    have hr := rCount (badL b (b.nlo + k)) (by omega)
    rw [hpc] at hr
    unfold spanStep at hs
    dsimp only at hs
    generalize badL b (b.nlo + k) = row at *
    have hg2 : ∀ h : k < al.length, al[k]'h = row := fun _ => hg
    generalize sp k = acc at *
    by_cases hpm : popN (wrongN b (b.nlo + k)) = many
    · rw [if_pos (by simpa using hpm)] at hs
      generalize popN (wrongN b (b.nlo + k)) = p at *
      rcases List.eq_nil_or_concat acc with rfl | ⟨ini, l, rfl⟩
      · simp only [List.getLast?_nil] at hs
        (repeat' (first | ((first | with_reducible refine st_skip ?_ | with_reducible refine st_exit ?_); (try simp only [seqQ, blockQ, loopQ, forQ, whileQ, reduceIte, Nat.reduceEqDiff])) | (with_reducible refine st_ret ?_; ((try simp only [seqQ, blockQ, loopQ, forQ, whileQ]); first | (with_reducible refine retM_ret ?_) | refine retQ_ret ?_; simp [hlt, hg2, hpm])) | refine st_seq ?_ | refine st_block ?_ | ((with_reducible show (STri _ _ _ _ _) ∧ (STri _ _ _ _ _)); refine And.intro ?_ ?_) | ((first | refine st_reg ?_ | refine buildP_own ?_ | refine appP_own ?_ | refine callP_b (hr) rfl ?_) <;> (simp -dsimp [hlt, hg2, hpm]; (repeat (simp -dsimp (disch := (first | omega | assumption | (refine Bool.eq_false_iff.1 ?_; assumption))) only [wrap_in, if_pos, if_neg]; (try simp -dsimp [hlt, hg2, hpm]))))) | ((first | refine guardP_of (fun hc => ?_) (fun hc => ?_) | refine st_cond rfl (fun hc => ?_) (fun hc => ?_)) <;> (try simp only [lqA, lqB, lqC, lqD, lqE, lqF, lqG, lqH, lqI, lqJ, lqK, lqL, lqM, lqN, lqO] at hc) <;> (try (exfalso; first | omega | exact bool_tf hc (by assumption) | exact bool_ft hc (by assumption) | exact absurd (by assumption) hc)) <;> (first | with_reducible show STri _ _ _ _ _ _ | (simp -dsimp [hlt, hg2, hpm, hc]; (repeat (simp -dsimp (disch := (first | omega | assumption | (refine Bool.eq_false_iff.1 ?_; assumption))) only [wrap_in, if_pos, if_neg]; (try simp -dsimp [hlt, hg2, hpm, hc]))))))))
        exact ⟨hlt, by simp, by simp [hs], by simp [hs]⟩
      · rw [List.concat_eq_append] at *
        simp only [List.getLast?_append, List.getLast?_singleton, Option.some_or, List.dropLast_concat] at hs
        have hA : ini.length + 1 ≤ 9223372036854775806 := by simp at hslk; omega
        have hB : (ini.length + 1 + 1) * 16 ≤ 140737488355328 := by simp at hslk; omega
        have hget : (ini.map rowE ++ [rowE l])[ini.length]? = some (rowE l) := by simp
        have hset : ∀ r, (ini.map rowE ++ [rowE l]).set ini.length r = ini.map rowE ++ [r] := fun r => by simp
        by_cases hl : l.2 = b.nlo + k - 1
        · rw [if_pos hl] at hs
          (repeat' (first | ((first | with_reducible refine st_skip ?_ | with_reducible refine st_exit ?_); (try simp only [seqQ, blockQ, loopQ, forQ, whileQ, reduceIte, Nat.reduceEqDiff])) | (with_reducible refine st_ret ?_; ((try simp only [seqQ, blockQ, loopQ, forQ, whileQ]); first | (with_reducible refine retM_ret ?_) | refine retQ_ret ?_; simp [hlt, hg2, hpm, hl, hget, hset])) | refine st_seq ?_ | refine st_block ?_ | ((with_reducible show (STri _ _ _ _ _) ∧ (STri _ _ _ _ _)); refine And.intro ?_ ?_) | ((first | refine st_reg ?_ | refine buildP_own ?_ | refine appP_own ?_ | refine callP_b (hr) rfl ?_) <;> (simp -dsimp [hlt, hg2, hpm, hl, hget, hset]; (repeat (simp -dsimp (disch := (first | omega | assumption | (refine Bool.eq_false_iff.1 ?_; assumption))) only [wrap_in, if_pos, if_neg]; (try simp -dsimp [hlt, hg2, hpm, hl, hget, hset]))))) | ((first | refine guardP_of (fun hc => ?_) (fun hc => ?_) | refine st_cond rfl (fun hc => ?_) (fun hc => ?_)) <;> (try simp only [lqA, lqB, lqC, lqD, lqE, lqF, lqG, lqH, lqI, lqJ, lqK, lqL, lqM, lqN, lqO] at hc) <;> (try (exfalso; first | omega | exact bool_tf hc (by assumption) | exact bool_ft hc (by assumption) | exact absurd (by assumption) hc)) <;> (first | with_reducible show STri _ _ _ _ _ _ | (simp -dsimp [hlt, hg2, hpm, hl, hget, hset, hc]; (repeat (simp -dsimp (disch := (first | omega | assumption | (refine Bool.eq_false_iff.1 ?_; assumption))) only [wrap_in, if_pos, if_neg]; (try simp -dsimp [hlt, hg2, hpm, hl, hget, hset, hc]))))))))
          exact ⟨hlt, by simp, by simp [hs], by simp [hs]⟩
        · rw [if_neg hl] at hs
          (repeat' (first | ((first | with_reducible refine st_skip ?_ | with_reducible refine st_exit ?_); (try simp only [seqQ, blockQ, loopQ, forQ, whileQ, reduceIte, Nat.reduceEqDiff])) | (with_reducible refine st_ret ?_; ((try simp only [seqQ, blockQ, loopQ, forQ, whileQ]); first | (with_reducible refine retM_ret ?_) | refine retQ_ret ?_; simp [hlt, hg2, hpm, hl, hget, hA, hB])) | refine st_seq ?_ | refine st_block ?_ | ((with_reducible show (STri _ _ _ _ _) ∧ (STri _ _ _ _ _)); refine And.intro ?_ ?_) | ((first | refine st_reg ?_ | refine buildP_own ?_ | refine appP_own ?_ | refine callP_b (hr) rfl ?_) <;> (simp -dsimp [hlt, hg2, hpm, hl, hget, hA, hB]; (repeat (simp -dsimp (disch := (first | omega | assumption | (refine Bool.eq_false_iff.1 ?_; assumption))) only [wrap_in, if_pos, if_neg]; (try simp -dsimp [hlt, hg2, hpm, hl, hget, hA, hB]))))) | ((first | refine guardP_of (fun hc => ?_) (fun hc => ?_) | refine st_cond rfl (fun hc => ?_) (fun hc => ?_)) <;> (try simp only [lqA, lqB, lqC, lqD, lqE, lqF, lqG, lqH, lqI, lqJ, lqK, lqL, lqM, lqN, lqO] at hc) <;> (try (exfalso; first | omega | exact bool_tf hc (by assumption) | exact bool_ft hc (by assumption) | exact absurd (by assumption) hc)) <;> (first | with_reducible show STri _ _ _ _ _ _ | (simp -dsimp [hlt, hg2, hpm, hl, hget, hA, hB, hc]; (repeat (simp -dsimp (disch := (first | omega | assumption | (refine Bool.eq_false_iff.1 ?_; assumption))) only [wrap_in, if_pos, if_neg]; (try simp -dsimp [hlt, hg2, hpm, hl, hget, hA, hB, hc]))))))))
          exact ⟨hlt, by simp, by simp [hs], by simp [hs]⟩
    · rw [if_neg (by simpa using hpm)] at hs
      generalize popN (wrongN b (b.nlo + k)) = p at *
      have hpm2 : ¬ (p : Int) = many := by omega
      (repeat' (first | ((first | with_reducible refine st_skip ?_ | with_reducible refine st_exit ?_); (try simp only [seqQ, blockQ, loopQ, forQ, whileQ, reduceIte, Nat.reduceEqDiff])) | (with_reducible refine st_ret ?_; ((try simp only [seqQ, blockQ, loopQ, forQ, whileQ]); first | (with_reducible refine retM_ret ?_) | refine retQ_ret ?_; simp [hlt, hg2, hpm, hpm2])) | refine st_seq ?_ | refine st_block ?_ | ((with_reducible show (STri _ _ _ _ _) ∧ (STri _ _ _ _ _)); refine And.intro ?_ ?_) | ((first | refine st_reg ?_ | refine buildP_own ?_ | refine appP_own ?_ | refine callP_b (hr) rfl ?_) <;> (simp -dsimp [hlt, hg2, hpm, hpm2]; (repeat (simp -dsimp (disch := (first | omega | assumption | (refine Bool.eq_false_iff.1 ?_; assumption))) only [wrap_in, if_pos, if_neg]; (try simp -dsimp [hlt, hg2, hpm, hpm2]))))) | ((first | refine guardP_of (fun hc => ?_) (fun hc => ?_) | refine st_cond rfl (fun hc => ?_) (fun hc => ?_)) <;> (try simp only [lqA, lqB, lqC, lqD, lqE, lqF, lqG, lqH, lqI, lqJ, lqK, lqL, lqM, lqN, lqO] at hc) <;> (try (exfalso; first | omega | exact bool_tf hc (by assumption) | exact bool_ft hc (by assumption) | exact absurd (by assumption) hc)) <;> (first | with_reducible show STri _ _ _ _ _ _ | (simp -dsimp [hlt, hg2, hpm, hpm2, hc]; (repeat (simp -dsimp (disch := (first | omega | assumption | (refine Bool.eq_false_iff.1 ?_; assumption))) only [wrap_in, if_pos, if_neg]; (try simp -dsimp [hlt, hg2, hpm, hpm2, hc]))))))))
      exact ⟨hlt, by simp, by simp [hs], by simp [hs]⟩
  · have hkk : k = al.length := by omega
    subst hkk
    (repeat' (first | ((first | with_reducible refine st_skip ?_ | with_reducible refine st_exit ?_); (try simp only [seqQ, blockQ, loopQ, forQ, whileQ, reduceIte, Nat.reduceEqDiff])) | (with_reducible refine st_ret ?_; ((try simp only [seqQ, blockQ, loopQ, forQ, whileQ]); first | (with_reducible refine retM_ret ?_) | refine retQ_ret ?_; simp [hlt])) | refine st_seq ?_ | refine st_block ?_ | ((with_reducible show (STri _ _ _ _ _) ∧ (STri _ _ _ _ _)); refine And.intro ?_ ?_) | ((first | refine st_reg ?_ | refine buildP_own ?_ | refine appP_own ?_) <;> (simp -dsimp [hlt]; (repeat (simp -dsimp (disch := (first | omega | assumption | (refine Bool.eq_false_iff.1 ?_; assumption))) only [wrap_in, if_pos, if_neg]; (try simp -dsimp [hlt]))))) | ((first | refine guardP_of (fun hc => ?_) (fun hc => ?_) | refine st_cond rfl (fun hc => ?_) (fun hc => ?_)) <;> (try simp only [lqA, lqB, lqC, lqD, lqE, lqF, lqG, lqH, lqI, lqJ, lqK, lqL, lqM, lqN, lqO] at hc) <;> (try (exfalso; first | omega | exact bool_tf hc (by assumption) | exact bool_ft hc (by assumption) | exact absurd (by assumption) hc)) <;> (first | with_reducible show STri _ _ _ _ _ _ | (simp -dsimp [hlt, hc]; (repeat (simp -dsimp (disch := (first | omega | assumption | (refine Bool.eq_false_iff.1 ?_; assumption))) only [wrap_in, if_pos, if_neg]; (try simp -dsimp [hlt, hc]))))))))
    exact .refl _
end Go.Proofs.Ytakdmliblijgmaa
/- Wire, reference VII: pairs. -/
namespace Go.Proofs.Ytakdmliblijgmaa
open Go.RowKit
def meetTo (b : Wbk) (i k n : Nat) : Bool := ((allL b).take n).any fun x => bothB i k x.2
theorem meetTo_succ {b : Wbk} {i k n : Nat} (h : n < bookN b) : meetTo b i k (n + 1) = (meetTo b i k n || bothB i k (wrongN b (b.nlo + n))) := by
  have h2 : n < (allL b).length := by rw [allL_len]; exact h
  have h3 : (allL b)[n] = (b.nlo + (n : Int), wrongN b (b.nlo + n)) := by
    have := allL_get h
    rw [List.getElem?_eq_getElem h2] at this
    exact Option.some.inj this
  unfold meetTo
  rw [List.take_succ_eq_append_getElem h2, List.any_append, h3]
  simp
theorem meetTo_all (b : Wbk) (i k : Nat) : meetTo b i k (bookN b) = meetB b i k := by
  unfold meetTo meetB
  rw [← allL_len b, List.take_length, Bool.eq_iff_iff, List.any_eq_true, List.any_eq_true]
  constructor
  · rintro ⟨x, hx, h⟩; exact ⟨x.2, mem_setsL.2 ⟨x, hx, rfl⟩, h⟩
  · rintro ⟨x, hx, h⟩
    obtain ⟨y, hy, rfl⟩ := mem_setsL.1 hx
    exact ⟨y, hy, h⟩
theorem badL_at {b : Wbk} {y : Int} {i : Nat} (h : i < (badL b y).length) : (badL b y)[i] = (wrongN b y).testBit i := by
  rw [badL_len] at h
  have h2 := badTo_get (b := b) (y := y) (k := b.notes.length) h
  rw [List.getElem?_eq_getElem (by rw [badTo_len]; exact h)] at h2
  have h3 := Option.some.inj h2
  exact h3.trans (wrongTo_bit b y _ i (Nat.le_refl _)).symm
theorem rPairs (b : Wbk) (hb : BkOK b) : SC Try.prog 23 [slBB (allB b), I b.srcs.length] (slP (pairsTo b b.srcs.length b.srcs.length)) := by
  refine law_turretref08_Pairs _ _ (by simp) ?_
  have n0 := hb.n0
  have n1 := hb.n1
  have n2 := hb.n2
  have hlen := allB_len b
  have hbl := hb.len
  have hN : (bookN b : Int) = b.nhi + 1 - b.nlo := by unfold bookN; omega
  have hms : ∀ i k n, n < (allB b).length → meetTo b i k (n + 1) = (meetTo b i k n || bothB i k (wrongN b (b.nlo + n))) := fun i k n h => meetTo_succ (by omega)
  have hma : ∀ i k, meetTo b i k (allB b).length = meetB b i k := fun i k => by rw [hlen]; exact meetTo_all b i k
  have hgk : ∀ k, (h : k < (allB b).length) → (allB b)[k] = badL b (b.nlo + k) := fun k h => allB_get h
  generalize hwn : b.srcs.length = wn at *
  generalize hal : allB b = al at *
  (repeat' (first | ((first | with_reducible refine st_skip ?_ | with_reducible refine st_exit ?_); (try simp only [seqQ, blockQ, loopQ, forQ, whileQ, reduceIte, Nat.reduceEqDiff])) | (with_reducible refine st_ret ?_; ((try simp only [seqQ, blockQ, loopQ, forQ, whileQ]); first | (with_reducible refine retM_ret ?_) | refine retQ_ret ?_; simp)) | refine st_seq ?_ | refine st_block ?_ | ((with_reducible show (STri _ _ _ _ _) ∧ (STri _ _ _ _ _)); refine And.intro ?_ ?_) | ((first | refine st_reg ?_ | refine buildP_own ?_ | refine appP_own ?_) <;> (simp -dsimp; (repeat (simp -dsimp (disch := (first | omega | assumption | (refine Bool.eq_false_iff.1 ?_; assumption))) only [wrap_in, if_pos, if_neg]; (try simp -dsimp))))) | ((first | refine guardP_of (fun hc => ?_) (fun hc => ?_) | refine st_cond rfl (fun hc => ?_) (fun hc => ?_)) <;> (try simp only [lqA, lqB, lqC, lqD, lqE, lqF, lqG, lqH, lqI, lqJ, lqK, lqL, lqM, lqN, lqO] at hc) <;> (try (exfalso; first | omega | exact bool_tf hc (by assumption) | exact bool_ft hc (by assumption) | exact absurd (by assumption) hc)) <;> (first | with_reducible show STri _ _ _ _ _ _ | (simp -dsimp [hc]; (repeat (simp -dsimp (disch := (first | omega | assumption | (refine Bool.eq_false_iff.1 ?_; assumption))) only [wrap_in, if_pos, if_neg]; (try simp -dsimp [hc]))))))))
  refine st_for [10] wn (fun i T H => T = [(0, .c (slBB al)), (1, .c (I wn)), (5, .own 10 (pairsTo b wn i).length), (6, .c (I i))] ∧ H = [(10, .arr 47 2 ((pairsTo b wn i).map rowP))]) (by simp) ⟨by simp [pairsTo], by simp [pairsTo]⟩ ?_
  rintro i T H hi ⟨rfl, rfl⟩
  have hpl := pairsTo_len b wn i
  have hpb : (pairsTo b wn i).length ≤ 100 := Nat.le_trans hpl (Nat.le_trans (Nat.mul_le_mul hi (Nat.le_refl _)) (Nat.mul_le_mul hbl hbl))
  by_cases hlt : i < wn
  · (repeat' (first | ((first | with_reducible refine st_skip ?_ | with_reducible refine st_exit ?_); (try simp only [seqQ, blockQ, loopQ, forQ, whileQ, reduceIte, Nat.reduceEqDiff])) | (with_reducible refine st_ret ?_; ((try simp only [seqQ, blockQ, loopQ, forQ, whileQ]); first | (with_reducible refine retM_ret ?_) | refine retQ_ret ?_; simp [hlt])) | refine st_seq ?_ | refine st_block ?_ | ((with_reducible show (STri _ _ _ _ _) ∧ (STri _ _ _ _ _)); refine And.intro ?_ ?_) | ((first | refine st_reg ?_ | refine buildP_own ?_ | refine appP_own ?_) <;> (simp -dsimp [hlt]; (repeat (simp -dsimp (disch := (first | omega | assumption | (refine Bool.eq_false_iff.1 ?_; assumption))) only [wrap_in, if_pos, if_neg]; (try simp -dsimp [hlt]))))) | ((first | refine guardP_of (fun hc => ?_) (fun hc => ?_) | refine st_cond rfl (fun hc => ?_) (fun hc => ?_)) <;> (try simp only [lqA, lqB, lqC, lqD, lqE, lqF, lqG, lqH, lqI, lqJ, lqK, lqL, lqM, lqN, lqO] at hc) <;> (try (exfalso; first | omega | exact bool_tf hc (by assumption) | exact bool_ft hc (by assumption) | exact absurd (by assumption) hc)) <;> (first | with_reducible show STri _ _ _ _ _ _ | (simp -dsimp [hlt, hc]; (repeat (simp -dsimp (disch := (first | omega | assumption | (refine Bool.eq_false_iff.1 ?_; assumption))) only [wrap_in, if_pos, if_neg]; (try simp -dsimp [hlt, hc]))))))))
    refine st_for [10] (wn - (i + 1)) (fun j T H => T = [(0, .c (slBB al)), (1, .c (I wn)), (5, .own 10 (pairsAt b wn i (i + 1 + j)).length), (6, .c (I i)), (7, .c (I ((i + 1 + j : Nat) : Int)))] ∧
      H = [(10, .arr 47 2 ((pairsAt b wn i (i + 1 + j)).map rowP))]) (by simp) ⟨by simp [pairsAt_start], by simp [pairsAt_start]⟩ ?_
    rintro j T H hj ⟨rfl, rfl⟩
    by_cases hlt2 : i + 1 + j < wn
    · have hk2 : ((i + 1 + j : Nat) : Int) < wn := by omega
      have hrl := pairRow_len b i (i + 1 + j)
      have hij : i + 1 + (j + 1) = (i + 1 + j) + 1 := by omega
      have hij2 : (i : Int) + 1 + ((j : Int) + 1) = ((i + 1 + j : Nat) : Int) + 1 := by omega
      have hik : i < i + 1 + j := by omega
      generalize hkk : i + 1 + j = k at *
      have hps := pairsAt_succ b wn i k
      have hrows : (pairsAt b wn i k).length ≤ 200 := by unfold pairsAt; rw [List.length_append]; omega
      generalize hrr : pairsAt b wn i k = rows at *
      have hrr2 : pairsAt b wn i (i + 1 + (j + 1)) = pairsAt b wn i (k + 1) := by rw [hij]
      generalize pairsAt b wn i (k + 1) = rows2 at *
      (repeat' (first | ((first | with_reducible refine st_skip ?_ | with_reducible refine st_exit ?_); (try simp only [seqQ, blockQ, loopQ, forQ, whileQ, reduceIte, Nat.reduceEqDiff])) | (with_reducible refine st_ret ?_; ((try simp only [seqQ, blockQ, loopQ, forQ, whileQ]); first | (with_reducible refine retM_ret ?_) | refine retQ_ret ?_; simp [hk2])) | refine st_seq ?_ | refine st_block ?_ | ((with_reducible show (STri _ _ _ _ _) ∧ (STri _ _ _ _ _)); refine And.intro ?_ ?_) | ((first | refine st_reg ?_ | refine buildP_own ?_ | refine appP_own ?_) <;> (simp -dsimp [hk2]; (repeat (simp -dsimp (disch := (first | omega | assumption | (refine Bool.eq_false_iff.1 ?_; assumption))) only [wrap_in, if_pos, if_neg]; (try simp -dsimp [hk2]))))) | ((first | refine guardP_of (fun hc => ?_) (fun hc => ?_) | refine st_cond rfl (fun hc => ?_) (fun hc => ?_)) <;> (try simp only [lqA, lqB, lqC, lqD, lqE, lqF, lqG, lqH, lqI, lqJ, lqK, lqL, lqM, lqN, lqO] at hc) <;> (try (exfalso; first | omega | exact bool_tf hc (by assumption) | exact bool_ft hc (by assumption) | exact absurd (by assumption) hc)) <;> (first | with_reducible show STri _ _ _ _ _ _ | (simp -dsimp [hk2, hc]; (repeat (simp -dsimp (disch := (first | omega | assumption | (refine Bool.eq_false_iff.1 ?_; assumption))) only [wrap_in, if_pos, if_neg]; (try simp -dsimp [hk2, hc]))))))))
      refine st_for [10] al.length (fun n T H => T = [(0, .c (slBB al)), (1, .c (I wn)), (5, .own 10 rows.length), (6, .c (I i)), (7, .c (I k)), (8, .c (B (meetTo b i k n))), (9, .c (I n))] ∧ H = [(10, .arr 47 2 (rows.map rowP))]) (by simp) ⟨by simp [meetTo], by simp⟩ ?_
      rintro n T H hn ⟨rfl, rfl⟩
      by_cases hlt3 : n < al.length
      · have hm := hms i k n hlt3
        have hg := hgk n hlt3
        have hat1 : ∀ h : i < (badL b (b.nlo + n)).length, (badL b (b.nlo + n))[i]'h = (wrongN b (b.nlo + n)).testBit i := fun h => badL_at h
        have hat2 : ∀ h : k < (badL b (b.nlo + n)).length, (badL b (b.nlo + n))[k]'h = (wrongN b (b.nlo + n)).testBit k := fun h => badL_at h
        have hbll := badL_len b (b.nlo + n)
        have hr1 : i < (badL b (b.nlo + n)).length := by omega
        have hr2 : k < (badL b (b.nlo + n)).length := by omega
        generalize badL b (b.nlo + n) = row at *
        unfold bothB at hm
        generalize (wrongN b (b.nlo + n)).testBit i = x1 at *
        generalize (wrongN b (b.nlo + n)).testBit k = x2 at *
        generalize meetTo b i k n = m0 at *
        have hg2 : ∀ h : n < al.length, al[n]'h = row := fun _ => hg
        have hl2 : n < al.length := hlt3
        cases m0 <;> cases x1 <;> cases x2
        all_goals
          (repeat' (first | ((first | with_reducible refine st_skip ?_ | with_reducible refine st_exit ?_); (try simp only [seqQ, blockQ, loopQ, forQ, whileQ, reduceIte, Nat.reduceEqDiff])) | (with_reducible refine st_ret ?_; ((try simp only [seqQ, blockQ, loopQ, forQ, whileQ]); first | (with_reducible refine retM_ret ?_) | refine retQ_ret ?_; simp [hl2, hg2, hat1, hat2, hr1, hr2])) | refine st_seq ?_ | refine st_block ?_ | ((with_reducible show (STri _ _ _ _ _) ∧ (STri _ _ _ _ _)); refine And.intro ?_ ?_) | ((first | refine st_reg ?_ | refine buildP_own ?_ | refine appP_own ?_) <;> (simp -dsimp [hl2, hg2, hat1, hat2, hr1, hr2]; (repeat (simp -dsimp (disch := (first | omega | assumption | (refine Bool.eq_false_iff.1 ?_; assumption))) only [wrap_in, if_pos, if_neg]; (try simp -dsimp [hl2, hg2, hat1, hat2, hr1, hr2]))))) | ((first | refine guardP_of (fun hc => ?_) (fun hc => ?_) | refine st_cond rfl (fun hc => ?_) (fun hc => ?_)) <;> (try simp only [lqA, lqB, lqC, lqD, lqE, lqF, lqG, lqH, lqI, lqJ, lqK, lqL, lqM, lqN, lqO] at hc) <;> (try (exfalso; first | omega | exact bool_tf hc (by assumption) | exact bool_ft hc (by assumption) | exact absurd (by assumption) hc)) <;> (first | with_reducible show STri _ _ _ _ _ _ | (simp -dsimp [hl2, hg2, hat1, hat2, hr1, hr2, hc]; (repeat (simp -dsimp (disch := (first | omega | assumption | (refine Bool.eq_false_iff.1 ?_; assumption))) only [wrap_in, if_pos, if_neg]; (try simp -dsimp [hl2, hg2, hat1, hat2, hr1, hr2, hc]))))))))
        all_goals exact ⟨hlt3, by simp, by simp [hm], by simp⟩
      · have hnn : n = al.length := by omega
        subst hnn
        rw [hma]
        by_cases hmb : meetB b i k = true
        · rw [hmb] at hps ⊢
          rw [if_neg (by simp)] at hps
          subst hps
          (repeat' (first | ((first | with_reducible refine st_skip ?_ | with_reducible refine st_exit ?_); (try simp only [seqQ, blockQ, loopQ, forQ, whileQ, reduceIte, Nat.reduceEqDiff])) | (with_reducible refine st_ret ?_; ((try simp only [seqQ, blockQ, loopQ, forQ, whileQ]); first | (with_reducible refine retM_ret ?_) | refine retQ_ret ?_; simp [hlt3])) | refine st_seq ?_ | refine st_block ?_ | ((with_reducible show (STri _ _ _ _ _) ∧ (STri _ _ _ _ _)); refine And.intro ?_ ?_) | ((first | refine st_reg ?_ | refine buildP_own ?_ | refine appP_own ?_) <;> (simp -dsimp [hlt3]; (repeat (simp -dsimp (disch := (first | omega | assumption | (refine Bool.eq_false_iff.1 ?_; assumption))) only [wrap_in, if_pos, if_neg]; (try simp -dsimp [hlt3]))))) | ((first | refine guardP_of (fun hc => ?_) (fun hc => ?_) | refine st_cond rfl (fun hc => ?_) (fun hc => ?_)) <;> (try simp only [lqA, lqB, lqC, lqD, lqE, lqF, lqG, lqH, lqI, lqJ, lqK, lqL, lqM, lqN, lqO] at hc) <;> (try (exfalso; first | omega | exact bool_tf hc (by assumption) | exact bool_ft hc (by assumption) | exact absurd (by assumption) hc)) <;> (first | with_reducible show STri _ _ _ _ _ _ | (simp -dsimp [hlt3, hc]; (repeat (simp -dsimp (disch := (first | omega | assumption | (refine Bool.eq_false_iff.1 ?_; assumption))) only [wrap_in, if_pos, if_neg]; (try simp -dsimp [hlt3, hc]))))))))
          exact ⟨by omega, by simp, by simp [hrr2, hij2], by simp [hrr2]⟩
        · rw [Bool.not_eq_true] at hmb
          rw [hmb] at hps ⊢
          rw [if_pos ⟨hik, rfl⟩] at hps
          have hA : rows.length ≤ 9223372036854775806 := by omega
          have hB : (rows.length + 1) * 16 ≤ 140737488355328 := by omega
          (repeat' (first | ((first | with_reducible refine st_skip ?_ | with_reducible refine st_exit ?_); (try simp only [seqQ, blockQ, loopQ, forQ, whileQ, reduceIte, Nat.reduceEqDiff])) | (with_reducible refine st_ret ?_; ((try simp only [seqQ, blockQ, loopQ, forQ, whileQ]); first | (with_reducible refine retM_ret ?_) | refine retQ_ret ?_; simp [hlt3, hA, hB])) | refine st_seq ?_ | refine st_block ?_ | ((with_reducible show (STri _ _ _ _ _) ∧ (STri _ _ _ _ _)); refine And.intro ?_ ?_) | ((first | refine st_reg ?_ | refine buildP_own ?_ | refine appP_own ?_) <;> (simp -dsimp [hlt3, hA, hB]; (repeat (simp -dsimp (disch := (first | omega | assumption | (refine Bool.eq_false_iff.1 ?_; assumption))) only [wrap_in, if_pos, if_neg]; (try simp -dsimp [hlt3, hA, hB]))))) | ((first | refine guardP_of (fun hc => ?_) (fun hc => ?_) | refine st_cond rfl (fun hc => ?_) (fun hc => ?_)) <;> (try simp only [lqA, lqB, lqC, lqD, lqE, lqF, lqG, lqH, lqI, lqJ, lqK, lqL, lqM, lqN, lqO] at hc) <;> (try (exfalso; first | omega | exact bool_tf hc (by assumption) | exact bool_ft hc (by assumption) | exact absurd (by assumption) hc)) <;> (first | with_reducible show STri _ _ _ _ _ _ | (simp -dsimp [hlt3, hA, hB, hc]; (repeat (simp -dsimp (disch := (first | omega | assumption | (refine Bool.eq_false_iff.1 ?_; assumption))) only [wrap_in, if_pos, if_neg]; (try simp -dsimp [hlt3, hA, hB, hc]))))))))
          exact ⟨by omega, by simp, by simp [hrr2, hij2, hps], by simp [hrr2, hps, rowP]⟩
    · have hk2 : ¬ ((i + 1 + j : Nat) : Int) < wn := by omega
      have hkw : i + 1 + j = wn := by omega
      rw [hkw] at hk2 ⊢
      rw [pairsAt_end]
      (repeat' (first | ((first | with_reducible refine st_skip ?_ | with_reducible refine st_exit ?_); (try simp only [seqQ, blockQ, loopQ, forQ, whileQ, reduceIte, Nat.reduceEqDiff])) | (with_reducible refine st_ret ?_; ((try simp only [seqQ, blockQ, loopQ, forQ, whileQ]); first | (with_reducible refine retM_ret ?_) | refine retQ_ret ?_; simp [hk2])) | refine st_seq ?_ | refine st_block ?_ | ((with_reducible show (STri _ _ _ _ _) ∧ (STri _ _ _ _ _)); refine And.intro ?_ ?_) | ((first | refine st_reg ?_ | refine buildP_own ?_ | refine appP_own ?_) <;> (simp -dsimp [hk2]; (repeat (simp -dsimp (disch := (first | omega | assumption | (refine Bool.eq_false_iff.1 ?_; assumption))) only [wrap_in, if_pos, if_neg]; (try simp -dsimp [hk2]))))) | ((first | refine guardP_of (fun hc => ?_) (fun hc => ?_) | refine st_cond rfl (fun hc => ?_) (fun hc => ?_)) <;> (try simp only [lqA, lqB, lqC, lqD, lqE, lqF, lqG, lqH, lqI, lqJ, lqK, lqL, lqM, lqN, lqO] at hc) <;> (try (exfalso; first | omega | exact bool_tf hc (by assumption) | exact bool_ft hc (by assumption) | exact absurd (by assumption) hc)) <;> (first | with_reducible show STri _ _ _ _ _ _ | (simp -dsimp [hk2, hc]; (repeat (simp -dsimp (disch := (first | omega | assumption | (refine Bool.eq_false_iff.1 ?_; assumption))) only [wrap_in, if_pos, if_neg]; (try simp -dsimp [hk2, hc]))))))))
      exact ⟨hlt, by simp, by simp, by simp⟩
  · have hii : i = wn := by omega
    subst hii
    (repeat' (first | ((first | with_reducible refine st_skip ?_ | with_reducible refine st_exit ?_); (try simp only [seqQ, blockQ, loopQ, forQ, whileQ, reduceIte, Nat.reduceEqDiff])) | (with_reducible refine st_ret ?_; ((try simp only [seqQ, blockQ, loopQ, forQ, whileQ]); first | (with_reducible refine retM_ret ?_) | refine retQ_ret ?_; simp [hlt])) | refine st_seq ?_ | refine st_block ?_ | ((with_reducible show (STri _ _ _ _ _) ∧ (STri _ _ _ _ _)); refine And.intro ?_ ?_) | ((first | refine st_reg ?_ | refine buildP_own ?_ | refine appP_own ?_) <;> (simp -dsimp [hlt]; (repeat (simp -dsimp (disch := (first | omega | assumption | (refine Bool.eq_false_iff.1 ?_; assumption))) only [wrap_in, if_pos, if_neg]; (try simp -dsimp [hlt]))))) | ((first | refine guardP_of (fun hc => ?_) (fun hc => ?_) | refine st_cond rfl (fun hc => ?_) (fun hc => ?_)) <;> (try simp only [lqA, lqB, lqC, lqD, lqE, lqF, lqG, lqH, lqI, lqJ, lqK, lqL, lqM, lqN, lqO] at hc) <;> (try (exfalso; first | omega | exact bool_tf hc (by assumption) | exact bool_ft hc (by assumption) | exact absurd (by assumption) hc)) <;> (first | with_reducible show STri _ _ _ _ _ _ | (simp -dsimp [hlt, hc]; (repeat (simp -dsimp (disch := (first | omega | assumption | (refine Bool.eq_false_iff.1 ?_; assumption))) only [wrap_in, if_pos, if_neg]; (try simp -dsimp [hlt, hc]))))))))
    exact .refl _
end Go.Proofs.Ytakdmliblijgmaa
/- Wire, reference VIII: lists compared; a source whose errors are wider. -/
namespace Go.Proofs.Ytakdmliblijgmaa
open Go.RowKit
theorem rSame (l : List (Int × Int)) (hl : l.length ≤ 1000000) : SC Try.prog 24 [slE l, slE l] (B true) := by
  refine law_turretref08_Same _ _ (by simp) ?_
  (repeat' (first | ((first | with_reducible refine st_skip ?_ | with_reducible refine st_exit ?_); (try simp only [seqQ, blockQ, loopQ, forQ, whileQ, reduceIte, Nat.reduceEqDiff])) | (with_reducible refine st_ret ?_; ((try simp only [seqQ, blockQ, loopQ, forQ, whileQ]); first | (with_reducible refine retM_ret ?_) | refine retQ_ret ?_; simp)) | refine st_seq ?_ | refine st_block ?_ | ((with_reducible show (STri _ _ _ _ _) ∧ (STri _ _ _ _ _)); refine And.intro ?_ ?_) | ((first | refine st_reg ?_ | refine buildP_own ?_ | refine appP_own ?_) <;> (simp -dsimp; (repeat (simp -dsimp (disch := (first | omega | assumption | (refine Bool.eq_false_iff.1 ?_; assumption))) only [wrap_in, if_pos, if_neg]; (try simp -dsimp))))) | ((first | refine guardP_of (fun hc => ?_) (fun hc => ?_) | refine st_cond rfl (fun hc => ?_) (fun hc => ?_)) <;> (try simp only [lqA, lqB, lqC, lqD, lqE, lqF, lqG, lqH, lqI, lqJ, lqK, lqL, lqM, lqN, lqO] at hc) <;> (try (exfalso; first | omega | exact bool_tf hc (by assumption) | exact bool_ft hc (by assumption) | exact absurd (by assumption) hc)) <;> (first | with_reducible show STri _ _ _ _ _ _ | (simp -dsimp [hc]; (repeat (simp -dsimp (disch := (first | omega | assumption | (refine Bool.eq_false_iff.1 ?_; assumption))) only [wrap_in, if_pos, if_neg]; (try simp -dsimp [hc]))))))))
  refine st_for [] l.length (fun k T H => T = [(0, .c (slE l)), (1, .c (slE l)), (5, .c (I k))] ∧ H = []) (by simp) ⟨by simp, by simp⟩ ?_
  rintro k T H hk ⟨rfl, rfl⟩
  by_cases hlt : k < l.length
  · (repeat' (first | ((first | with_reducible refine st_skip ?_ | with_reducible refine st_exit ?_); (try simp only [seqQ, blockQ, loopQ, forQ, whileQ, reduceIte, Nat.reduceEqDiff])) | (with_reducible refine st_ret ?_; ((try simp only [seqQ, blockQ, loopQ, forQ, whileQ]); first | (with_reducible refine retM_ret ?_) | refine retQ_ret ?_; simp [hlt])) | refine st_seq ?_ | refine st_block ?_ | ((with_reducible show (STri _ _ _ _ _) ∧ (STri _ _ _ _ _)); refine And.intro ?_ ?_) | ((first | refine st_reg ?_ | refine buildP_own ?_ | refine appP_own ?_) <;> (simp -dsimp [hlt]; (repeat (simp -dsimp (disch := (first | omega | assumption | (refine Bool.eq_false_iff.1 ?_; assumption))) only [wrap_in, if_pos, if_neg]; (try simp -dsimp [hlt]))))) | ((first | refine guardP_of (fun hc => ?_) (fun hc => ?_) | refine st_cond rfl (fun hc => ?_) (fun hc => ?_)) <;> (try simp only [lqA, lqB, lqC, lqD, lqE, lqF, lqG, lqH, lqI, lqJ, lqK, lqL, lqM, lqN, lqO] at hc) <;> (try (exfalso; first | omega | exact bool_tf hc (by assumption) | exact bool_ft hc (by assumption) | exact absurd (by assumption) hc)) <;> (first | with_reducible show STri _ _ _ _ _ _ | (simp -dsimp [hlt, hc]; (repeat (simp -dsimp (disch := (first | omega | assumption | (refine Bool.eq_false_iff.1 ?_; assumption))) only [wrap_in, if_pos, if_neg]; (try simp -dsimp [hlt, hc]))))))))
    exact ⟨hlt, by simp, by simp, by simp⟩
  · have hkk : k = l.length := by omega
    subst hkk
    (repeat' (first | ((first | with_reducible refine st_skip ?_ | with_reducible refine st_exit ?_); (try simp only [seqQ, blockQ, loopQ, forQ, whileQ, reduceIte, Nat.reduceEqDiff])) | (with_reducible refine st_ret ?_; ((try simp only [seqQ, blockQ, loopQ, forQ, whileQ]); first | (with_reducible refine retM_ret ?_) | refine retQ_ret ?_; simp [hlt])) | refine st_seq ?_ | refine st_block ?_ | ((with_reducible show (STri _ _ _ _ _) ∧ (STri _ _ _ _ _)); refine And.intro ?_ ?_) | ((first | refine st_reg ?_ | refine buildP_own ?_ | refine appP_own ?_) <;> (simp -dsimp [hlt]; (repeat (simp -dsimp (disch := (first | omega | assumption | (refine Bool.eq_false_iff.1 ?_; assumption))) only [wrap_in, if_pos, if_neg]; (try simp -dsimp [hlt]))))) | ((first | refine guardP_of (fun hc => ?_) (fun hc => ?_) | refine st_cond rfl (fun hc => ?_) (fun hc => ?_)) <;> (try simp only [lqA, lqB, lqC, lqD, lqE, lqF, lqG, lqH, lqI, lqJ, lqK, lqL, lqM, lqN, lqO] at hc) <;> (try (exfalso; first | omega | exact bool_tf hc (by assumption) | exact bool_ft hc (by assumption) | exact absurd (by assumption) hc)) <;> (first | with_reducible show STri _ _ _ _ _ _ | (simp -dsimp [hlt, hc]; (repeat (simp -dsimp (disch := (first | omega | assumption | (refine Bool.eq_false_iff.1 ?_; assumption))) only [wrap_in, if_pos, if_neg]; (try simp -dsimp [hlt, hc]))))))))
    exact .refl _
theorem pop_zero : ∀ x : Nat, x < 1024 → popN x = 0 → x = 0 := by decide +kernel
theorem few_fit {b : Wbk} (hb : BkOK b) (one : 1 ≤ b.srcs.length) : decide (fewN b = 0) = fitB b := by
  rw [Bool.eq_iff_iff, decide_eq_true_eq, fit_iff]
  constructor
  · intro h
    rcases minU_at (setsL b) b.srcs.length with e | ⟨x, hx, e⟩
    · unfold fewN at h; omega
    · unfold fewN at h
      have h0 := pop_zero x (set_lt hb hx) (by omega)
      obtain ⟨y, hy, rfl⟩ := mem_setsL.1 hx
      obtain ⟨h1, h2, h3⟩ := mem_allL.1 hy
      exact ⟨y.1, h1, h2, wrong_zero.1 (by rw [← h3]; exact h0)⟩
  · rintro ⟨y, h1, h2, h3⟩
    have hx : wrongN b y ∈ setsL b := mem_setsL.2 ⟨(y, wrongN b y), mem_allL.2 ⟨h1, h2, rfl⟩, rfl⟩
    have h4 := (minU_le (setsL b) b.srcs.length).2 _ hx
    rw [wrong_zero.2 h3] at h4
    have : popN 0 = 0 := by decide
    unfold fewN; omega
def wideS (s : Wsrc) (y : Int) : Wsrc := { s with elo := s.elo - y, ehi := s.ehi + y }
def wideR (b : Wbk) (j : Nat) (y : Int) : Wbk := { b with srcs := b.srcs.set j (wideS (b.srcs.getD j noSrc) y), errs := wide1 b.errs j y }
theorem wideR_right (b : Wbk) (j : Nat) (y : Int) (n : Wnt) (t : Int) : rightN (wideR b j y) n t = rightN (wideB b j y) n t := by
  have h : ∀ i, ∃ lo hi, (b.srcs.set j (wideS (b.srcs.getD j noSrc) y)).getD i noSrc = { b.srcs.getD i noSrc with elo := lo, ehi := hi } := fun i => by
    simp only [List.getD_eq_getElem?_getD, List.getElem?_set]
    by_cases hij : j = i
    · subst hij
      rw [if_pos rfl]
      by_cases hl : j < b.srcs.length
      · rw [if_pos hl]; exact ⟨_, _, rfl⟩
      · rw [if_neg hl]
        rw [List.getElem?_eq_none (by omega)]
        exact ⟨_, _, rfl⟩
    · rw [if_neg hij]; exact ⟨_, _, rfl⟩
  obtain ⟨lo, hi, h⟩ := h n.src.toNat
  unfold rightN
  simp only [wideR, wideB]
  rw [h]
  rfl
theorem wideR_all (b : Wbk) (j : Nat) (y : Int) : allB (wideR b j y) = allB (wideB b j y) := by
  have e1 : (wideR b j y).srcs.length = (wideB b j y).srcs.length := by simp [wideR, wideB]
  have e2 : bookN (wideR b j y) = bookN (wideB b j y) := rfl
  unfold allB
  rw [e2]
  refine List.map_congr_left fun k _ => ?_
  unfold badL badTo
  rw [e1]
  refine List.map_congr_left fun i _ => ?_
  unfold wrongB
  congr 1
  funext n
  rw [wideR_right]
  rfl
theorem wideR_ok {b : Wbk} (hb : BkOK b) (hel : b.errs = b.srcs.map errOf) (one : 1 ≤ b.srcs.length) {j : Nat} (hj : j < b.srcs.length) {y : Int} (y0 : 0 ≤ y) (y1 : y ≤ 10000) : RefOK (wideR b j y) := by
  have hv : ∀ s ∈ b.srcs, kindOK s.kind = true ∧ useV s = true ∧ -3600 ≤ s.elo ∧ s.elo ≤ 3600 ∧ -3600 ≤ s.ehi ∧ s.ehi ≤ 3600 := fun s hs => by
    have := hb.va s hs
    unfold validV baseV spanW at this
    simp at this
    exact ⟨this.1.1, this.2, by omega, by omega, by omega, by omega⟩
  have hg : b.srcs.getD j noSrc = b.srcs[j] := by simp [hj]
  refine ⟨by simpa [wideR] using hb.len, by simpa [wideR] using one, ?_, fun s hs => ?_, hb.nl, by simpa [wideR] using hb.no, hb.n0, hb.n1, hb.n2⟩
  · show wide1 b.errs j y = (b.srcs.set j _).map errOf
    unfold wide1
    rw [List.map_set, hel, hg]
    congr 1
    simp [hj, errOf, wideS]
  · rcases List.mem_or_eq_of_mem_set hs with h | rfl
    · obtain ⟨h1, h2, h3⟩ := hv s h
      exact ⟨h1, h2, by omega⟩
    · rw [hg]
      obtain ⟨h1, h2, h3⟩ := hv _ (List.getElem_mem hj)
      exact ⟨h1, h2, by simp only [wideS]; omega⟩
theorem rWide (b : Wbk) (hb : BkOK b) (hel : b.errs = b.srcs.map errOf) (one : 1 ≤ b.srcs.length) (j : Nat) (hj : j < b.srcs.length) (y : Int) (y0 : 0 ≤ y) (y1 : y ≤ 10000) :
    SC Try.prog 32 [slSr b.srcs, slN b.notes, .agg [I b.nlo, I b.nhi], I j, I y] (B (fitB (wideB b j y))) := by
  refine law_turretref08_Wide _ _ (by simp) ?_
  have he : ∀ e ∈ b.errs, -3600 ≤ e.1 ∧ e.1 ≤ 3600 ∧ -3600 ≤ e.2 ∧ e.2 ≤ 3600 := fun e hm => by
    rw [hel] at hm
    obtain ⟨s, hs, rfl⟩ := List.mem_map.1 hm
    have := hb.va s hs
    unfold validV baseV spanW at this
    simp at this
    show -3600 ≤ s.elo ∧ s.elo ≤ 3600 ∧ -3600 ≤ s.ehi ∧ s.ehi ≤ 3600
    omega
  have hlen := hb.len
  have hev : b.errs.length = b.srcs.length := hb.el
  have hw := wide_ok hb he (j := j) (by omega) y0 y1
  have ra := rAll _ (wideR_ok hb hel one hj y0 y1)
  have rf := rFewest _ hw
  have ff := few_fit hw one
  rw [wideR_all] at ra
  have hsj : b.srcs[j] ∈ b.srcs := List.getElem_mem hj
  have hvj := hb.va _ hsj
  unfold validV baseV spanW at hvj
  simp at hvj
  have hg : b.srcs.getD j noSrc = b.srcs[j] := by simp [hj]
  have hset : (b.srcs.map rowSr).set j [I (b.srcs[j]).kind, I ((b.srcs[j]).elo - y), I ((b.srcs[j]).ehi + y), I (b.srcs[j]).at', I (b.srcs[j]).dlo, I (b.srcs[j]).dhi, I (b.srcs[j]).every, .sl 1 ((b.srcs[j]).table.map rowI)] = (wideR b j y).srcs.map rowSr := by
    show _ = (b.srcs.set j _).map rowSr
    rw [List.map_set, hg]
    rfl
  have hwl : (wideR b j y).srcs.length = b.srcs.length := by simp [wideR]
  have hA : (b.srcs.length : Int) ≤ 9223372036854775806 := by omega
  have hB : b.srcs.length * 80 ≤ 140737488355328 := by omega
  have e1 : (wideR b j y).notes = b.notes := rfl
  have e2 : (wideR b j y).nlo = b.nlo := rfl
  have e3 : (wideR b j y).nhi = b.nhi := rfl
  rw [e1, e2, e3] at ra
  rw [← ff]
  generalize (wideR b j y).srcs = ws at *
  generalize allB (wideB b j y) = al at *
  generalize fewN (wideB b j y) = f at *
  (repeat' (first | ((with_reducible show STri _ k60_4 _ _ _); refine st_shut1 12 rfl (by simp [dropOK, dropK]) (by simp [ClosO, ownS, dropK, SV.outD, hwl]) (by simp [ShutH, ShutB, ownL, ownS, dropK, SV.outD, outDL, Blk.outD]) ?_; simp) | ((first | with_reducible refine st_skip ?_ | with_reducible refine st_exit ?_); (try simp only [seqQ, blockQ, loopQ, forQ, whileQ, reduceIte, Nat.reduceEqDiff])) | (with_reducible refine st_ret ?_; ((try simp only [seqQ, blockQ, loopQ, forQ, whileQ]); first | (with_reducible refine retM_ret ?_) | refine retQ_ret ?_; simp [hj, hA, hB, hset])) | refine st_seq ?_ | refine st_block ?_ | ((with_reducible show (STri _ _ _ _ _) ∧ (STri _ _ _ _ _)); refine And.intro ?_ ?_) | ((first | refine st_reg ?_ | refine buildP_own ?_ | refine appP_own ?_ | refine callP_b (ra) rfl ?_ | refine callP_b (rf) rfl ?_) <;> (simp -dsimp [hj, hA, hB, hset]; (repeat (simp -dsimp (disch := (first | omega | assumption | (refine Bool.eq_false_iff.1 ?_; assumption))) only [wrap_in, if_pos, if_neg]; (try simp -dsimp [hj, hA, hB, hset]))))) | ((first | refine guardP_of (fun hc => ?_) (fun hc => ?_) | refine st_cond rfl (fun hc => ?_) (fun hc => ?_)) <;> (try simp only [lqA, lqB, lqC, lqD, lqE, lqF, lqG, lqH, lqI, lqJ, lqK, lqL, lqM, lqN, lqO] at hc) <;> (try (exfalso; first | omega | exact bool_tf hc (by assumption) | exact bool_ft hc (by assumption) | exact absurd (by assumption) hc)) <;> (first | with_reducible show STri _ _ _ _ _ _ | (simp -dsimp [hj, hA, hB, hset, hc]; (repeat (simp -dsimp (disch := (first | omega | assumption | (refine Bool.eq_false_iff.1 ?_; assumption))) only [wrap_in, if_pos, if_neg]; (try simp -dsimp [hj, hA, hB, hset, hc]))))))))
  all_goals (refine CLe.bool ?_; rw [Bool.eq_iff_iff]; simp)
end Go.Proofs.Ytakdmliblijgmaa
/- Wire, reference IX: lists of lists compared. -/
namespace Go.Proofs.Ytakdmliblijgmaa
open Go.RowKit
end Go.Proofs.Ytakdmliblijgmaa
