/- Part 6 of a proof: Va, Vb, Vc, Vd, Ve, Vf, Vg, Vh, Vi, CodeWL, Ka, Kb, Kc0, Kc, Kd, Ke. -/
import Derived.Test.YtakdmliblijgmaaS5
set_option linter.unusedSimpArgs false
set_option linter.unusedVariables false
/- Wire, reference I: sources and notes. -/
namespace Go.Proofs.Ytakdmliblijgmaa
open Go.RowKit
theorem rIn (n lo hi : Int) : SC Try.prog 31 [I n, I lo, I hi] (B (within1 lo hi n)) := by
  refine law_turretref08_In _ _ (by simp) ?_
  unfold within1
  (repeat' (first | ((first | with_reducible refine st_skip ?_ | with_reducible refine st_exit ?_); (try simp only [seqQ, blockQ, loopQ, forQ, whileQ, reduceIte, Nat.reduceEqDiff])) | (with_reducible refine st_ret ?_; ((try simp only [seqQ, blockQ, loopQ, forQ, whileQ]); first | (with_reducible refine retM_ret ?_) | refine retQ_ret ?_; simp)) | refine st_seq ?_ | refine st_block ?_ | ((with_reducible show (STri _ _ _ _ _) ∧ (STri _ _ _ _ _)); refine And.intro ?_ ?_) | ((first | refine st_reg ?_ | refine buildP_own ?_ | refine appP_own ?_) <;> (simp -dsimp; (repeat (simp -dsimp (disch := (first | omega | assumption | (refine Bool.eq_false_iff.1 ?_; assumption))) only [wrap_in, if_pos, if_neg]; (try simp -dsimp))))) | ((first | refine guardP_of (fun hc => ?_) (fun hc => ?_) | refine st_cond rfl (fun hc => ?_) (fun hc => ?_)) <;> (try simp only [lqA, lqB, lqC, lqD, lqE, lqF, lqG, lqH, lqI, lqJ, lqK, lqL, lqM, lqN, lqO] at hc) <;> (try (exfalso; first | omega | exact bool_tf hc (by assumption) | exact bool_ft hc (by assumption) | exact absurd (by assumption) hc)) <;> (first | with_reducible show STri _ _ _ _ _ _ | (simp -dsimp [hc]; (repeat (simp -dsimp (disch := (first | omega | assumption | (refine Bool.eq_false_iff.1 ?_; assumption))) only [wrap_in, if_pos, if_neg]; (try simp -dsimp [hc]))))))))
  all_goals (refine CLe.bool ?_; rw [Bool.eq_iff_iff]; simp; try omega)
theorem rSpan (lo hi most : Int) (h0 : 0 ≤ most) (h1 : most ≤ 1000000) : SC Try.prog 51 [.agg [I lo, I hi], I most] (B (spanW lo hi most)) := by
  refine law_turretref08_Span _ _ (by simp) ?_
  have e : spanW lo hi most = (within1 (-most) hi lo && decide (hi ≤ most)) := by
    rfl
  rw [e]
  (repeat' (first | ((first | with_reducible refine st_skip ?_ | with_reducible refine st_exit ?_); (try simp only [seqQ, blockQ, loopQ, forQ, whileQ, reduceIte, Nat.reduceEqDiff])) | (with_reducible refine st_ret ?_; ((try simp only [seqQ, blockQ, loopQ, forQ, whileQ]); first | (with_reducible refine retM_ret ?_) | refine retQ_ret ?_; simp)) | refine st_seq ?_ | refine st_block ?_ | ((with_reducible show (STri _ _ _ _ _) ∧ (STri _ _ _ _ _)); refine And.intro ?_ ?_) | ((first | refine st_reg ?_ | refine buildP_own ?_ | refine appP_own ?_ | refine callP_b (rIn lo (-most) hi) rfl ?_) <;> (simp -dsimp; (repeat (simp -dsimp (disch := (first | omega | assumption | (refine Bool.eq_false_iff.1 ?_; assumption))) only [wrap_in, if_pos, if_neg]; (try simp -dsimp))))) | ((first | refine guardP_of (fun hc => ?_) (fun hc => ?_) | refine st_cond rfl (fun hc => ?_) (fun hc => ?_)) <;> (try simp only [lqA, lqB, lqC, lqD, lqE, lqF, lqG, lqH, lqI, lqJ, lqK, lqL, lqM, lqN, lqO] at hc) <;> (try (exfalso; first | omega | exact bool_tf hc (by assumption) | exact bool_ft hc (by assumption) | exact absurd (by assumption) hc)) <;> (first | with_reducible show STri _ _ _ _ _ _ | (simp -dsimp [hc]; (repeat (simp -dsimp (disch := (first | omega | assumption | (refine Bool.eq_false_iff.1 ?_; assumption))) only [wrap_in, if_pos, if_neg]; (try simp -dsimp [hc]))))))))
  all_goals (first | exact .refl _ | (refine CLe.bool ?_; simp_all))
theorem rSource (s : Wsrc) (hl : s.table.length ≤ 1000000) : SC Try.prog 59 [cSr s] (B (validV s)) := by
  refine law_turretref08_Source _ _ (by simp) ?_
  have h1 := rSpan s.elo s.ehi 3600 (by omega) (by omega)
  have h2 := rSpan s.dlo s.dhi 100000 (by omega) (by omega)
  have h3 := rIn s.at' 0 3155760000
  have h4 := rIn s.every 1 3155760000
  have h5 := rIn s.table.length 1 366
  by_cases hsp : spanW s.elo s.ehi 3600 = true
  case neg =>
    have hv : validV s = false := by unfold validV baseV; simp [hsp]
    rw [Bool.not_eq_true] at hsp
    rw [hsp] at h1
    rw [hv]
    (repeat' (first | ((first | with_reducible refine st_skip ?_ | with_reducible refine st_exit ?_); (try simp only [seqQ, blockQ, loopQ, forQ, whileQ, reduceIte, Nat.reduceEqDiff])) | (with_reducible refine st_ret ?_; ((try simp only [seqQ, blockQ, loopQ, forQ, whileQ]); first | (with_reducible refine retM_ret ?_) | refine retQ_ret ?_; simp)) | refine st_seq ?_ | refine st_block ?_ | ((with_reducible show (STri _ _ _ _ _) ∧ (STri _ _ _ _ _)); refine And.intro ?_ ?_) | ((first | refine st_reg ?_ | refine buildP_own ?_ | refine appP_own ?_ | refine callP_b (h1) rfl ?_) <;> (simp -dsimp; (repeat (simp -dsimp (disch := (first | omega | assumption | (refine Bool.eq_false_iff.1 ?_; assumption))) only [wrap_in, if_pos, if_neg]; (try simp -dsimp))))) | ((first | refine guardP_of (fun hc => ?_) (fun hc => ?_) | refine st_cond rfl (fun hc => ?_) (fun hc => ?_)) <;> (try simp only [lqA, lqB, lqC, lqD, lqE, lqF, lqG, lqH, lqI, lqJ, lqK, lqL, lqM, lqN, lqO] at hc) <;> (try (exfalso; first | omega | exact bool_tf hc (by assumption) | exact bool_ft hc (by assumption) | exact absurd (by assumption) hc)) <;> (first | with_reducible show STri _ _ _ _ _ _ | (simp -dsimp [hc]; (repeat (simp -dsimp (disch := (first | omega | assumption | (refine Bool.eq_false_iff.1 ?_; assumption))) only [wrap_in, if_pos, if_neg]; (try simp -dsimp [hc]))))))))
    all_goals exact .refl _
  rw [hsp] at h1
  obtain ⟨kind, elo, ehi, at', dlo, dhi, every, table⟩ := s
  simp only at *
  by_cases k1 : kind = 1
  · subst k1
    have hv : validV ⟨1, elo, ehi, at', dlo, dhi, every, table⟩ = (within1 0 3155760000 at' && spanW dlo dhi 100000) := by
      simp [validV, baseV, kindOK, useV, clockV, hsp]
    rw [hv]
    (repeat' (first | ((first | with_reducible refine st_skip ?_ | with_reducible refine st_exit ?_); (try simp only [seqQ, blockQ, loopQ, forQ, whileQ, reduceIte, Nat.reduceEqDiff])) | (with_reducible refine st_ret ?_; ((try simp only [seqQ, blockQ, loopQ, forQ, whileQ]); first | (with_reducible refine retM_ret ?_) | refine retQ_ret ?_; simp)) | refine st_seq ?_ | refine st_block ?_ | ((with_reducible show (STri _ _ _ _ _) ∧ (STri _ _ _ _ _)); refine And.intro ?_ ?_) | ((first | refine st_reg ?_ | refine buildP_own ?_ | refine appP_own ?_ | refine callP_b (h1) rfl ?_ | refine callP_b (h2) rfl ?_ | refine callP_b (h3) rfl ?_) <;> (simp -dsimp; (repeat (simp -dsimp (disch := (first | omega | assumption | (refine Bool.eq_false_iff.1 ?_; assumption))) only [wrap_in, if_pos, if_neg]; (try simp -dsimp))))) | ((first | refine guardP_of (fun hc => ?_) (fun hc => ?_) | refine st_cond rfl (fun hc => ?_) (fun hc => ?_)) <;> (try simp only [lqA, lqB, lqC, lqD, lqE, lqF, lqG, lqH, lqI, lqJ, lqK, lqL, lqM, lqN, lqO] at hc) <;> (try (exfalso; first | omega | exact bool_tf hc (by assumption) | exact bool_ft hc (by assumption) | exact absurd (by assumption) hc)) <;> (first | with_reducible show STri _ _ _ _ _ _ | (simp -dsimp [hc]; (repeat (simp -dsimp (disch := (first | omega | assumption | (refine Bool.eq_false_iff.1 ?_; assumption))) only [wrap_in, if_pos, if_neg]; (try simp -dsimp [hc]))))))))
    all_goals (refine CLe.bool ?_; simp_all)
  by_cases k2 : kind = 2
  · subst k2
    have hv : validV ⟨2, elo, ehi, at', dlo, dhi, every, table⟩ = (within1 0 3155760000 at' && within1 1 3155760000 every) := by
      simp [validV, baseV, kindOK, useV, eventV, hsp]
    rw [hv]
    (repeat' (first | ((first | with_reducible refine st_skip ?_ | with_reducible refine st_exit ?_); (try simp only [seqQ, blockQ, loopQ, forQ, whileQ, reduceIte, Nat.reduceEqDiff])) | (with_reducible refine st_ret ?_; ((try simp only [seqQ, blockQ, loopQ, forQ, whileQ]); first | (with_reducible refine retM_ret ?_) | refine retQ_ret ?_; simp)) | refine st_seq ?_ | refine st_block ?_ | ((with_reducible show (STri _ _ _ _ _) ∧ (STri _ _ _ _ _)); refine And.intro ?_ ?_) | ((first | refine st_reg ?_ | refine buildP_own ?_ | refine appP_own ?_ | refine callP_b (h1) rfl ?_ | refine callP_b (h3) rfl ?_ | refine callP_b (h4) rfl ?_) <;> (simp -dsimp; (repeat (simp -dsimp (disch := (first | omega | assumption | (refine Bool.eq_false_iff.1 ?_; assumption))) only [wrap_in, if_pos, if_neg]; (try simp -dsimp))))) | ((first | refine guardP_of (fun hc => ?_) (fun hc => ?_) | refine st_cond rfl (fun hc => ?_) (fun hc => ?_)) <;> (try simp only [lqA, lqB, lqC, lqD, lqE, lqF, lqG, lqH, lqI, lqJ, lqK, lqL, lqM, lqN, lqO] at hc) <;> (try (exfalso; first | omega | exact bool_tf hc (by assumption) | exact bool_ft hc (by assumption) | exact absurd (by assumption) hc)) <;> (first | with_reducible show STri _ _ _ _ _ _ | (simp -dsimp [hc]; (repeat (simp -dsimp (disch := (first | omega | assumption | (refine Bool.eq_false_iff.1 ?_; assumption))) only [wrap_in, if_pos, if_neg]; (try simp -dsimp [hc]))))))))
    all_goals (refine CLe.bool ?_; simp_all)
  by_cases k3 : kind = 3
  · subst k3
    have hv : validV ⟨3, elo, ehi, at', dlo, dhi, every, table⟩ = (within1 1 366 table.length && allIn (-3600) 3600 table) := by
      simp [validV, baseV, kindOK, useV, sunV, hsp]
    rw [hv]
    (repeat' (first | ((first | with_reducible refine st_skip ?_ | with_reducible refine st_exit ?_); (try simp only [seqQ, blockQ, loopQ, forQ, whileQ, reduceIte, Nat.reduceEqDiff])) | (with_reducible refine st_ret ?_; ((try simp only [seqQ, blockQ, loopQ, forQ, whileQ]); first | (with_reducible refine retM_ret ?_) | refine retQ_ret ?_; simp)) | refine st_seq ?_ | refine st_block ?_ | ((with_reducible show (STri _ _ _ _ _) ∧ (STri _ _ _ _ _)); refine And.intro ?_ ?_) | ((first | refine st_reg ?_ | refine buildP_own ?_ | refine appP_own ?_ | refine callP_b (h1) rfl ?_) <;> (simp -dsimp; (repeat (simp -dsimp (disch := (first | omega | assumption | (refine Bool.eq_false_iff.1 ?_; assumption))) only [wrap_in, if_pos, if_neg]; (try simp -dsimp))))) | ((first | refine guardP_of (fun hc => ?_) (fun hc => ?_) | refine st_cond rfl (fun hc => ?_) (fun hc => ?_)) <;> (try simp only [lqA, lqB, lqC, lqD, lqE, lqF, lqG, lqH, lqI, lqJ, lqK, lqL, lqM, lqN, lqO] at hc) <;> (try (exfalso; first | omega | exact bool_tf hc (by assumption) | exact bool_ft hc (by assumption) | exact absurd (by assumption) hc)) <;> (first | with_reducible show STri _ _ _ _ _ _ | (simp -dsimp [hc]; (repeat (simp -dsimp (disch := (first | omega | assumption | (refine Bool.eq_false_iff.1 ?_; assumption))) only [wrap_in, if_pos, if_neg]; (try simp -dsimp [hc]))))))))
    refine st_for [1] table.length (fun k T H => NoneTo (fun x => !within1 (-3600) 3600 x) table k ∧ T = [(1, .ptr 1 0), (3, .c (I k))] ∧ H = [(1, .box 79 [.c (I 3), .c (I elo), .c (I ehi), .c (I at'), .c (I dlo), .c (I dhi), .c (I every), .c (slI table)])]) (by simp) ⟨fun x hx => by simp at hx, by simp, by simp⟩ ?_
    rintro k T H hk ⟨hno, rfl, rfl⟩
    by_cases hlt : k < table.length
    · have hi := rIn table[k] (-3600) 3600
      (repeat' (first | ((first | with_reducible refine st_skip ?_ | with_reducible refine st_exit ?_); (try simp only [seqQ, blockQ, loopQ, forQ, whileQ, reduceIte, Nat.reduceEqDiff])) | (with_reducible refine st_ret ?_; ((try simp only [seqQ, blockQ, loopQ, forQ, whileQ]); first | (with_reducible refine retM_ret ?_) | refine retQ_ret ?_; simp [hlt])) | refine st_seq ?_ | refine st_block ?_ | ((with_reducible show (STri _ _ _ _ _) ∧ (STri _ _ _ _ _)); refine And.intro ?_ ?_) | ((first | refine st_reg ?_ | refine buildP_own ?_ | refine appP_own ?_ | refine callP_b (hi) rfl ?_) <;> (simp -dsimp [hlt]; (repeat (simp -dsimp (disch := (first | omega | assumption | (refine Bool.eq_false_iff.1 ?_; assumption))) only [wrap_in, if_pos, if_neg]; (try simp -dsimp [hlt]))))) | ((first | refine guardP_of (fun hc => ?_) (fun hc => ?_) | refine st_cond rfl (fun hc => ?_) (fun hc => ?_)) <;> (try simp only [lqA, lqB, lqC, lqD, lqE, lqF, lqG, lqH, lqI, lqJ, lqK, lqL, lqM, lqN, lqO] at hc) <;> (try (exfalso; first | omega | exact bool_tf hc (by assumption) | exact bool_ft hc (by assumption) | exact absurd (by assumption) hc)) <;> (first | with_reducible show STri _ _ _ _ _ _ | (simp -dsimp [hlt, hc]; (repeat (simp -dsimp (disch := (first | omega | assumption | (refine Bool.eq_false_iff.1 ?_; assumption))) only [wrap_in, if_pos, if_neg]; (try simp -dsimp [hlt, hc]))))))))
      · have e : allIn (-3600) 3600 table = false := by
          unfold allIn
          rw [List.all_eq_false]
          exact ⟨table[k], List.getElem_mem hlt, by unfold within1 at hc; unfold inB; simpa using hc⟩
        rw [e]; simp
        exact .refl _
      · exact ⟨hlt, by simp, none_succ hlt hno (by simpa using hc), by simp, by simp⟩
    · have hkl : k = table.length := by omega
      subst hkl
      have e : allIn (-3600) 3600 table = true := by
        unfold allIn
        rw [List.all_eq_true]
        intro x hx
        have := hno x (by rw [List.take_length]; exact hx)
        unfold within1 at this; unfold inB
        simpa using this
      rw [e]
      (repeat' (first | ((first | with_reducible refine st_skip ?_ | with_reducible refine st_exit ?_); (try simp only [seqQ, blockQ, loopQ, forQ, whileQ, reduceIte, Nat.reduceEqDiff])) | (with_reducible refine st_ret ?_; ((try simp only [seqQ, blockQ, loopQ, forQ, whileQ]); first | (with_reducible refine retM_ret ?_) | refine retQ_ret ?_; simp [hlt])) | refine st_seq ?_ | refine st_block ?_ | ((with_reducible show (STri _ _ _ _ _) ∧ (STri _ _ _ _ _)); refine And.intro ?_ ?_) | ((first | refine st_reg ?_ | refine buildP_own ?_ | refine appP_own ?_ | refine callP_b (h5) rfl ?_) <;> (simp -dsimp [hlt]; (repeat (simp -dsimp (disch := (first | omega | assumption | (refine Bool.eq_false_iff.1 ?_; assumption))) only [wrap_in, if_pos, if_neg]; (try simp -dsimp [hlt]))))) | ((first | refine guardP_of (fun hc => ?_) (fun hc => ?_) | refine st_cond rfl (fun hc => ?_) (fun hc => ?_)) <;> (try simp only [lqA, lqB, lqC, lqD, lqE, lqF, lqG, lqH, lqI, lqJ, lqK, lqL, lqM, lqN, lqO] at hc) <;> (try (exfalso; first | omega | exact bool_tf hc (by assumption) | exact bool_ft hc (by assumption) | exact absurd (by assumption) hc)) <;> (first | with_reducible show STri _ _ _ _ _ _ | (simp -dsimp [hlt, hc]; (repeat (simp -dsimp (disch := (first | omega | assumption | (refine Bool.eq_false_iff.1 ?_; assumption))) only [wrap_in, if_pos, if_neg]; (try simp -dsimp [hlt, hc]))))))))
      all_goals (refine CLe.bool ?_; simp)
  · have hv : validV ⟨kind, elo, ehi, at', dlo, dhi, every, table⟩ = decide (kind = 4) := by
      simp [validV, baseV, kindOK, useV, hsp, k1, k2, k3]
    rw [hv]
    (repeat' (first | ((first | with_reducible refine st_skip ?_ | with_reducible refine st_exit ?_); (try simp only [seqQ, blockQ, loopQ, forQ, whileQ, reduceIte, Nat.reduceEqDiff])) | (with_reducible refine st_ret ?_; ((try simp only [seqQ, blockQ, loopQ, forQ, whileQ]); first | (with_reducible refine retM_ret ?_) | refine retQ_ret ?_; simp [k1, k2, k3])) | refine st_seq ?_ | refine st_block ?_ | ((with_reducible show (STri _ _ _ _ _) ∧ (STri _ _ _ _ _)); refine And.intro ?_ ?_) | ((first | refine st_reg ?_ | refine buildP_own ?_ | refine appP_own ?_ | refine callP_b (h1) rfl ?_) <;> (simp -dsimp [k1, k2, k3]; (repeat (simp -dsimp (disch := (first | omega | assumption | (refine Bool.eq_false_iff.1 ?_; assumption))) only [wrap_in, if_pos, if_neg]; (try simp -dsimp [k1, k2, k3]))))) | ((first | refine guardP_of (fun hc => ?_) (fun hc => ?_) | refine st_cond rfl (fun hc => ?_) (fun hc => ?_)) <;> (try simp only [lqA, lqB, lqC, lqD, lqE, lqF, lqG, lqH, lqI, lqJ, lqK, lqL, lqM, lqN, lqO] at hc) <;> (try (exfalso; first | omega | exact bool_tf hc (by assumption) | exact bool_ft hc (by assumption) | exact absurd (by assumption) hc)) <;> (first | with_reducible show STri _ _ _ _ _ _ | (simp -dsimp [k1, k2, k3, hc]; (repeat (simp -dsimp (disch := (first | omega | assumption | (refine Bool.eq_false_iff.1 ?_; assumption))) only [wrap_in, if_pos, if_neg]; (try simp -dsimp [k1, k2, k3, hc]))))))))
    all_goals (refine CLe.bool ?_; rw [Bool.eq_iff_iff]; simp)
theorem rSources (w : List Wsrc) (hw : WLen w) (hl : w.length ≤ 1000000) : SC Try.prog 41 [slSr w] (B (sizeW w && w.all validV)) := by
  refine law_turretref08_Sources _ _ (by simp) ?_
  have h5 := rIn w.length 1 10
  change SC _ _ _ (B (sizeW w)) at h5
  (repeat' (first | ((first | with_reducible refine st_skip ?_ | with_reducible refine st_exit ?_); (try simp only [seqQ, blockQ, loopQ, forQ, whileQ, reduceIte, Nat.reduceEqDiff])) | (with_reducible refine st_ret ?_; ((try simp only [seqQ, blockQ, loopQ, forQ, whileQ]); first | (with_reducible refine retM_ret ?_) | refine retQ_ret ?_; simp)) | refine st_seq ?_ | refine st_block ?_ | ((with_reducible show (STri _ _ _ _ _) ∧ (STri _ _ _ _ _)); refine And.intro ?_ ?_) | ((first | refine st_reg ?_ | refine buildP_own ?_ | refine appP_own ?_) <;> (simp -dsimp; (repeat (simp -dsimp (disch := (first | omega | assumption | (refine Bool.eq_false_iff.1 ?_; assumption))) only [wrap_in, if_pos, if_neg]; (try simp -dsimp))))) | ((first | refine guardP_of (fun hc => ?_) (fun hc => ?_) | refine st_cond rfl (fun hc => ?_) (fun hc => ?_)) <;> (try simp only [lqA, lqB, lqC, lqD, lqE, lqF, lqG, lqH, lqI, lqJ, lqK, lqL, lqM, lqN, lqO] at hc) <;> (try (exfalso; first | omega | exact bool_tf hc (by assumption) | exact bool_ft hc (by assumption) | exact absurd (by assumption) hc)) <;> (first | with_reducible show STri _ _ _ _ _ _ | (simp -dsimp [hc]; (repeat (simp -dsimp (disch := (first | omega | assumption | (refine Bool.eq_false_iff.1 ?_; assumption))) only [wrap_in, if_pos, if_neg]; (try simp -dsimp [hc]))))))))
  refine st_for [] w.length (fun k T H => AllV w k ∧ T = [(0, .c (slSr w)), (3, .c (I k))] ∧ H = []) (by simp) ⟨fun s hs => by simp at hs, by simp, by simp⟩ ?_
  rintro k T H hk ⟨hall, rfl, rfl⟩
  by_cases hlt : k < w.length
  · have hs := rSource w[k] (hw.h _ (List.getElem_mem hlt))
    by_cases hv : validV w[k] = true
    · rw [hv] at hs
      (repeat' (first | ((first | with_reducible refine st_skip ?_ | with_reducible refine st_exit ?_); (try simp only [seqQ, blockQ, loopQ, forQ, whileQ, reduceIte, Nat.reduceEqDiff])) | (with_reducible refine st_ret ?_; ((try simp only [seqQ, blockQ, loopQ, forQ, whileQ]); first | (with_reducible refine retM_ret ?_) | refine retQ_ret ?_; simp [hlt])) | refine st_seq ?_ | refine st_block ?_ | ((with_reducible show (STri _ _ _ _ _) ∧ (STri _ _ _ _ _)); refine And.intro ?_ ?_) | ((first | refine st_reg ?_ | refine buildP_own ?_ | refine appP_own ?_ | refine callP_b (hs) rfl ?_) <;> (simp -dsimp [hlt]; (repeat (simp -dsimp (disch := (first | omega | assumption | (refine Bool.eq_false_iff.1 ?_; assumption))) only [wrap_in, if_pos, if_neg]; (try simp -dsimp [hlt]))))) | ((first | refine guardP_of (fun hc => ?_) (fun hc => ?_) | refine st_cond rfl (fun hc => ?_) (fun hc => ?_)) <;> (try simp only [lqA, lqB, lqC, lqD, lqE, lqF, lqG, lqH, lqI, lqJ, lqK, lqL, lqM, lqN, lqO] at hc) <;> (try (exfalso; first | omega | exact bool_tf hc (by assumption) | exact bool_ft hc (by assumption) | exact absurd (by assumption) hc)) <;> (first | with_reducible show STri _ _ _ _ _ _ | (simp -dsimp [hlt, hc]; (repeat (simp -dsimp (disch := (first | omega | assumption | (refine Bool.eq_false_iff.1 ?_; assumption))) only [wrap_in, if_pos, if_neg]; (try simp -dsimp [hlt, hc]))))))))
      exact ⟨hlt, by simp, allV_succ hlt hall hv, by simp, by simp⟩
    · rw [Bool.not_eq_true] at hv
      rw [hv] at hs
      have e : w.all validV = false := by
        have := (allV_stop hlt hall hv).2
        simpa using this
      rw [e, Bool.and_false]
      (repeat' (first | ((first | with_reducible refine st_skip ?_ | with_reducible refine st_exit ?_); (try simp only [seqQ, blockQ, loopQ, forQ, whileQ, reduceIte, Nat.reduceEqDiff])) | (with_reducible refine st_ret ?_; ((try simp only [seqQ, blockQ, loopQ, forQ, whileQ]); first | (with_reducible refine retM_ret ?_) | refine retQ_ret ?_; simp [hlt])) | refine st_seq ?_ | refine st_block ?_ | ((with_reducible show (STri _ _ _ _ _) ∧ (STri _ _ _ _ _)); refine And.intro ?_ ?_) | ((first | refine st_reg ?_ | refine buildP_own ?_ | refine appP_own ?_ | refine callP_b (hs) rfl ?_) <;> (simp -dsimp [hlt]; (repeat (simp -dsimp (disch := (first | omega | assumption | (refine Bool.eq_false_iff.1 ?_; assumption))) only [wrap_in, if_pos, if_neg]; (try simp -dsimp [hlt]))))) | ((first | refine guardP_of (fun hc => ?_) (fun hc => ?_) | refine st_cond rfl (fun hc => ?_) (fun hc => ?_)) <;> (try simp only [lqA, lqB, lqC, lqD, lqE, lqF, lqG, lqH, lqI, lqJ, lqK, lqL, lqM, lqN, lqO] at hc) <;> (try (exfalso; first | omega | exact bool_tf hc (by assumption) | exact bool_ft hc (by assumption) | exact absurd (by assumption) hc)) <;> (first | with_reducible show STri _ _ _ _ _ _ | (simp -dsimp [hlt, hc]; (repeat (simp -dsimp (disch := (first | omega | assumption | (refine Bool.eq_false_iff.1 ?_; assumption))) only [wrap_in, if_pos, if_neg]; (try simp -dsimp [hlt, hc]))))))))
      exact .refl _
  · have hkw : k = w.length := by omega
    subst hkw
    rw [allV_all hall, Bool.and_true]
    (repeat' (first | ((first | with_reducible refine st_skip ?_ | with_reducible refine st_exit ?_); (try simp only [seqQ, blockQ, loopQ, forQ, whileQ, reduceIte, Nat.reduceEqDiff])) | (with_reducible refine st_ret ?_; ((try simp only [seqQ, blockQ, loopQ, forQ, whileQ]); first | (with_reducible refine retM_ret ?_) | refine retQ_ret ?_; simp [hlt])) | refine st_seq ?_ | refine st_block ?_ | ((with_reducible show (STri _ _ _ _ _) ∧ (STri _ _ _ _ _)); refine And.intro ?_ ?_) | ((first | refine st_reg ?_ | refine buildP_own ?_ | refine appP_own ?_ | refine callP_b (h5) rfl ?_) <;> (simp -dsimp [hlt]; (repeat (simp -dsimp (disch := (first | omega | assumption | (refine Bool.eq_false_iff.1 ?_; assumption))) only [wrap_in, if_pos, if_neg]; (try simp -dsimp [hlt]))))) | ((first | refine guardP_of (fun hc => ?_) (fun hc => ?_) | refine st_cond rfl (fun hc => ?_) (fun hc => ?_)) <;> (try simp only [lqA, lqB, lqC, lqD, lqE, lqF, lqG, lqH, lqI, lqJ, lqK, lqL, lqM, lqN, lqO] at hc) <;> (try (exfalso; first | omega | exact bool_tf hc (by assumption) | exact bool_ft hc (by assumption) | exact absurd (by assumption) hc)) <;> (first | with_reducible show STri _ _ _ _ _ _ | (simp -dsimp [hlt, hc]; (repeat (simp -dsimp (disch := (first | omega | assumption | (refine Bool.eq_false_iff.1 ?_; assumption))) only [wrap_in, if_pos, if_neg]; (try simp -dsimp [hlt, hc]))))))))
    exact .refl _
def mostI (k : Int) : Int := if k = 1 then 43199 else if k = 4 then 3155760000 else 0
theorem said_most {s : Wsrc} (h : kindOK s.kind = true) (n : Int) : saidB s n = within1 0 (mostI s.kind) n := by
  unfold saidB mostI
  rcases kind_cases h with e | e | e | e <;> rw [e] <;> simp only [if_true, Int.reduceEq, if_false, or_self, or_true, true_or, false_or]
  all_goals (unfold within1; rw [Bool.eq_iff_iff]; simp; omega)
theorem rNotes (w : List Wsrc) (hw : WLen w) (hwl : w.length ≤ 1000000) (l : List Wnt) (hl : l.length ≤ 1000000) (nlo nhi : Int) : SC Try.prog 20 [slSr w, slN l, .agg [I nlo, I nhi]] (I (newErr w l nlo nhi)) := by
  refine law_turretref08_Notes _ _ (by simp) ?_
  have s1 := rSources w hw hwl
  by_cases hz : (sizeW w && w.all validV) = true
  case neg =>
    have e : newErr w l nlo nhi = 2 := by
      unfold newErr
      by_cases h1 : sizeW w = true
      · rw [if_neg (by simp [h1]), if_pos (by simpa [h1] using hz)]
      · rw [if_pos h1]
    rw [e]
    rw [Bool.not_eq_true] at hz
    rw [hz] at s1
    (repeat' (first | ((first | with_reducible refine st_skip ?_ | with_reducible refine st_exit ?_); (try simp only [seqQ, blockQ, loopQ, forQ, whileQ, reduceIte, Nat.reduceEqDiff])) | (with_reducible refine st_ret ?_; ((try simp only [seqQ, blockQ, loopQ, forQ, whileQ]); first | (with_reducible refine retM_ret ?_) | refine retQ_ret ?_; simp)) | refine st_seq ?_ | refine st_block ?_ | ((with_reducible show (STri _ _ _ _ _) ∧ (STri _ _ _ _ _)); refine And.intro ?_ ?_) | ((first | refine st_reg ?_ | refine buildP_own ?_ | refine appP_own ?_ | refine callP_b (s1) rfl ?_) <;> (simp -dsimp; (repeat (simp -dsimp (disch := (first | omega | assumption | (refine Bool.eq_false_iff.1 ?_; assumption))) only [wrap_in, if_pos, if_neg]; (try simp -dsimp))))) | ((first | refine guardP_of (fun hc => ?_) (fun hc => ?_) | refine st_cond rfl (fun hc => ?_) (fun hc => ?_)) <;> (try simp only [lqA, lqB, lqC, lqD, lqE, lqF, lqG, lqH, lqI, lqJ, lqK, lqL, lqM, lqN, lqO] at hc) <;> (try (exfalso; first | omega | exact bool_tf hc (by assumption) | exact bool_ft hc (by assumption) | exact absurd (by assumption) hc)) <;> (first | with_reducible show STri _ _ _ _ _ _ | (simp -dsimp [hc]; (repeat (simp -dsimp (disch := (first | omega | assumption | (refine Bool.eq_false_iff.1 ?_; assumption))) only [wrap_in, if_pos, if_neg]; (try simp -dsimp [hc]))))))))
    all_goals exact .refl _
  rw [hz] at s1
  rw [Bool.and_eq_true] at hz
  obtain ⟨hz1, hz2⟩ := hz
  have her : newErr w l nlo nhi = if 60 < l.length then 5 else if ¬ notesErr w l = 0 then notesErr w l else if spanW nlo nhi 7200 = true then 0 else 3 := by
    unfold newErr; rw [if_neg (by simp [hz1]), if_neg (by simp [hz2])]
  by_cases h60 : 60 < l.length
  · rw [if_pos h60] at her
    rw [her]
    (repeat' (first | ((first | with_reducible refine st_skip ?_ | with_reducible refine st_exit ?_); (try simp only [seqQ, blockQ, loopQ, forQ, whileQ, reduceIte, Nat.reduceEqDiff])) | (with_reducible refine st_ret ?_; ((try simp only [seqQ, blockQ, loopQ, forQ, whileQ]); first | (with_reducible refine retM_ret ?_) | refine retQ_ret ?_; simp [h60])) | refine st_seq ?_ | refine st_block ?_ | ((with_reducible show (STri _ _ _ _ _) ∧ (STri _ _ _ _ _)); refine And.intro ?_ ?_) | ((first | refine st_reg ?_ | refine buildP_own ?_ | refine appP_own ?_ | refine callP_b (s1) rfl ?_) <;> (simp -dsimp [h60]; (repeat (simp -dsimp (disch := (first | omega | assumption | (refine Bool.eq_false_iff.1 ?_; assumption))) only [wrap_in, if_pos, if_neg]; (try simp -dsimp [h60]))))) | ((first | refine guardP_of (fun hc => ?_) (fun hc => ?_) | refine st_cond rfl (fun hc => ?_) (fun hc => ?_)) <;> (try simp only [lqA, lqB, lqC, lqD, lqE, lqF, lqG, lqH, lqI, lqJ, lqK, lqL, lqM, lqN, lqO] at hc) <;> (try (exfalso; first | omega | exact bool_tf hc (by assumption) | exact bool_ft hc (by assumption) | exact absurd (by assumption) hc)) <;> (first | with_reducible show STri _ _ _ _ _ _ | (simp -dsimp [h60, hc]; (repeat (simp -dsimp (disch := (first | omega | assumption | (refine Bool.eq_false_iff.1 ?_; assumption))) only [wrap_in, if_pos, if_neg]; (try simp -dsimp [h60, hc]))))))))
    all_goals exact .refl _
  rw [if_neg h60] at her
  (repeat' (first | ((first | with_reducible refine st_skip ?_ | with_reducible refine st_exit ?_); (try simp only [seqQ, blockQ, loopQ, forQ, whileQ, reduceIte, Nat.reduceEqDiff])) | (with_reducible refine st_ret ?_; ((try simp only [seqQ, blockQ, loopQ, forQ, whileQ]); first | (with_reducible refine retM_ret ?_) | refine retQ_ret ?_; simp [h60])) | refine st_seq ?_ | refine st_block ?_ | ((with_reducible show (STri _ _ _ _ _) ∧ (STri _ _ _ _ _)); refine And.intro ?_ ?_) | ((first | refine st_reg ?_ | refine buildP_own ?_ | refine appP_own ?_ | refine callP_b (s1) rfl ?_) <;> (simp -dsimp [h60]; (repeat (simp -dsimp (disch := (first | omega | assumption | (refine Bool.eq_false_iff.1 ?_; assumption))) only [wrap_in, if_pos, if_neg]; (try simp -dsimp [h60]))))) | ((first | refine guardP_of (fun hc => ?_) (fun hc => ?_) | refine st_cond rfl (fun hc => ?_) (fun hc => ?_)) <;> (try simp only [lqA, lqB, lqC, lqD, lqE, lqF, lqG, lqH, lqI, lqJ, lqK, lqL, lqM, lqN, lqO] at hc) <;> (try (exfalso; first | omega | exact bool_tf hc (by assumption) | exact bool_ft hc (by assumption) | exact absurd (by assumption) hc)) <;> (first | with_reducible show STri _ _ _ _ _ _ | (simp -dsimp [h60, hc]; (repeat (simp -dsimp (disch := (first | omega | assumption | (refine Bool.eq_false_iff.1 ?_; assumption))) only [wrap_in, if_pos, if_neg]; (try simp -dsimp [h60, hc]))))))))
  refine st_for [5] l.length (fun j T H => NotesTo w l j ∧ T = [(0, .c (slSr w)), (1, .c (slN l)), (5, .ptr 5 0), (7, .c (I j))] ∧ H = [(5, .box 25 [.c (I nlo), .c (I nhi)])]) (by simp) ⟨fun s hs => by simp at hs, by simp, by simp⟩ ?_
  rintro j T H hj ⟨hno, rfl, rfl⟩
  by_cases hlt : j < l.length
  · have i1 := rIn l[j].src 0 (w.length - 1)
    have i2 := rIn l[j].tick 0 3155760000
    by_cases b1 : within1 0 (w.length - 1) l[j].src = true
    · rw [b1] at i1
      have hr : 0 ≤ l[j].src ∧ l[j].src.toNat < w.length := by
        unfold within1 at b1; simp at b1; omega
      obtain ⟨r1, r2⟩ := hr
      have hsv := List.all_eq_true.1 hz2 _ (List.getElem_mem r2)
      have hk : kindOK (w[l[j].src.toNat]).kind = true := by
        unfold validV baseV at hsv; simp at hsv; exact hsv.1.1
      have i3 := rIn l[j].said 0 (mostI (w[l[j].src.toNat]).kind)
      rw [← said_most hk] at i3
      have hget : (w.map fun s => saidB s l[j].said).getD l[j].src.toNat false = saidB (w[l[j].src.toNat]) l[j].said := by simp [r2]
      have hne : noteErr w l[j] = if within1 0 3155760000 l[j].tick = true ∧ saidB (w[l[j].src.toNat]) l[j].said = true then 0 else 2 := by unfold noteErr; rw [if_pos b1, hget]
      have hstop : ¬ noteErr w l[j] = 0 → newErr w l nlo nhi = noteErr w l[j] := fun hn => by
        have h2 := notes_stop hlt hno hn
        rw [her, h2, if_pos hn]
      have hgo : noteErr w l[j] = 0 → NotesTo w l (j + 1) := notes_succ hlt hno
      generalize hkd : (w[l[j].src.toNat]).kind = kd at *
      generalize saidB (w[l[j].src.toNat]) l[j].said = sb at *
      generalize within1 0 3155760000 l[j].tick = tb at *
      have hm1 : kd = 1 → mostI kd = 43199 := fun e => by rw [e]; rfl
      have hm4 : kd = 4 → mostI kd = 3155760000 := fun e => by rw [e]; rfl
      have hm0 : ¬ kd = 1 → ¬ kd = 4 → mostI kd = 0 := fun e1 e2 => by unfold mostI; rw [if_neg e1, if_neg e2]
      by_cases h4 : tb = true
      · by_cases h5 : sb = true
        · rw [h4] at i2
          rw [h5] at i3
          have h0 := hgo (by rw [hne, if_pos ⟨h4, h5⟩])
          by_cases e1 : kd = 1
          · rw [hm1 e1] at i3
            (repeat' (first | ((first | with_reducible refine st_skip ?_ | with_reducible refine st_exit ?_); (try simp only [seqQ, blockQ, loopQ, forQ, whileQ, reduceIte, Nat.reduceEqDiff])) | (with_reducible refine st_ret ?_; ((try simp only [seqQ, blockQ, loopQ, forQ, whileQ]); first | (with_reducible refine retM_ret ?_) | refine retQ_ret ?_; simp [hlt, r1, r2, hkd, e1])) | refine st_seq ?_ | refine st_block ?_ | ((with_reducible show (STri _ _ _ _ _) ∧ (STri _ _ _ _ _)); refine And.intro ?_ ?_) | ((first | refine st_reg ?_ | refine buildP_own ?_ | refine appP_own ?_ | refine callP_b (i1) rfl ?_ | refine callP_b (i2) rfl ?_ | refine callP_b (i3) rfl ?_) <;> (simp -dsimp [hlt, r1, r2, hkd, e1]; (repeat (simp -dsimp (disch := (first | omega | assumption | (refine Bool.eq_false_iff.1 ?_; assumption))) only [wrap_in, if_pos, if_neg]; (try simp -dsimp [hlt, r1, r2, hkd, e1]))))) | ((first | refine guardP_of (fun hc => ?_) (fun hc => ?_) | refine st_cond rfl (fun hc => ?_) (fun hc => ?_)) <;> (try simp only [lqA, lqB, lqC, lqD, lqE, lqF, lqG, lqH, lqI, lqJ, lqK, lqL, lqM, lqN, lqO] at hc) <;> (try (exfalso; first | omega | exact bool_tf hc (by assumption) | exact bool_ft hc (by assumption) | exact absurd (by assumption) hc)) <;> (first | with_reducible show STri _ _ _ _ _ _ | (simp -dsimp [hlt, r1, r2, hkd, e1, hc]; (repeat (simp -dsimp (disch := (first | omega | assumption | (refine Bool.eq_false_iff.1 ?_; assumption))) only [wrap_in, if_pos, if_neg]; (try simp -dsimp [hlt, r1, r2, hkd, e1, hc]))))))))
            all_goals exact ⟨hlt, by simp, h0, by simp, by simp⟩
          by_cases e4 : kd = 4
          · rw [hm4 e4] at i3
            (repeat' (first | ((first | with_reducible refine st_skip ?_ | with_reducible refine st_exit ?_); (try simp only [seqQ, blockQ, loopQ, forQ, whileQ, reduceIte, Nat.reduceEqDiff])) | (with_reducible refine st_ret ?_; ((try simp only [seqQ, blockQ, loopQ, forQ, whileQ]); first | (with_reducible refine retM_ret ?_) | refine retQ_ret ?_; simp [hlt, r1, r2, hkd, e4])) | refine st_seq ?_ | refine st_block ?_ | ((with_reducible show (STri _ _ _ _ _) ∧ (STri _ _ _ _ _)); refine And.intro ?_ ?_) | ((first | refine st_reg ?_ | refine buildP_own ?_ | refine appP_own ?_ | refine callP_b (i1) rfl ?_ | refine callP_b (i2) rfl ?_ | refine callP_b (i3) rfl ?_) <;> (simp -dsimp [hlt, r1, r2, hkd, e4]; (repeat (simp -dsimp (disch := (first | omega | assumption | (refine Bool.eq_false_iff.1 ?_; assumption))) only [wrap_in, if_pos, if_neg]; (try simp -dsimp [hlt, r1, r2, hkd, e4]))))) | ((first | refine guardP_of (fun hc => ?_) (fun hc => ?_) | refine st_cond rfl (fun hc => ?_) (fun hc => ?_)) <;> (try simp only [lqA, lqB, lqC, lqD, lqE, lqF, lqG, lqH, lqI, lqJ, lqK, lqL, lqM, lqN, lqO] at hc) <;> (try (exfalso; first | omega | exact bool_tf hc (by assumption) | exact bool_ft hc (by assumption) | exact absurd (by assumption) hc)) <;> (first | with_reducible show STri _ _ _ _ _ _ | (simp -dsimp [hlt, r1, r2, hkd, e4, hc]; (repeat (simp -dsimp (disch := (first | omega | assumption | (refine Bool.eq_false_iff.1 ?_; assumption))) only [wrap_in, if_pos, if_neg]; (try simp -dsimp [hlt, r1, r2, hkd, e4, hc]))))))))
            all_goals exact ⟨hlt, by simp, h0, by simp, by simp⟩
          · rw [hm0 e1 e4] at i3
            (repeat' (first | ((first | with_reducible refine st_skip ?_ | with_reducible refine st_exit ?_); (try simp only [seqQ, blockQ, loopQ, forQ, whileQ, reduceIte, Nat.reduceEqDiff])) | (with_reducible refine st_ret ?_; ((try simp only [seqQ, blockQ, loopQ, forQ, whileQ]); first | (with_reducible refine retM_ret ?_) | refine retQ_ret ?_; simp [hlt, r1, r2, hkd, e1, e4])) | refine st_seq ?_ | refine st_block ?_ | ((with_reducible show (STri _ _ _ _ _) ∧ (STri _ _ _ _ _)); refine And.intro ?_ ?_) | ((first | refine st_reg ?_ | refine buildP_own ?_ | refine appP_own ?_ | refine callP_b (i1) rfl ?_ | refine callP_b (i2) rfl ?_ | refine callP_b (i3) rfl ?_) <;> (simp -dsimp [hlt, r1, r2, hkd, e1, e4]; (repeat (simp -dsimp (disch := (first | omega | assumption | (refine Bool.eq_false_iff.1 ?_; assumption))) only [wrap_in, if_pos, if_neg]; (try simp -dsimp [hlt, r1, r2, hkd, e1, e4]))))) | ((first | refine guardP_of (fun hc => ?_) (fun hc => ?_) | refine st_cond rfl (fun hc => ?_) (fun hc => ?_)) <;> (try simp only [lqA, lqB, lqC, lqD, lqE, lqF, lqG, lqH, lqI, lqJ, lqK, lqL, lqM, lqN, lqO] at hc) <;> (try (exfalso; first | omega | exact bool_tf hc (by assumption) | exact bool_ft hc (by assumption) | exact absurd (by assumption) hc)) <;> (first | with_reducible show STri _ _ _ _ _ _ | (simp -dsimp [hlt, r1, r2, hkd, e1, e4, hc]; (repeat (simp -dsimp (disch := (first | omega | assumption | (refine Bool.eq_false_iff.1 ?_; assumption))) only [wrap_in, if_pos, if_neg]; (try simp -dsimp [hlt, r1, r2, hkd, e1, e4, hc]))))))))
            all_goals exact ⟨hlt, by simp, h0, by simp, by simp⟩
        · have h2 : noteErr w l[j] = 2 := by rw [hne, if_neg (fun h => h5 h.2)]
          rw [hstop (by rw [h2]; decide), h2]
          rw [Bool.not_eq_true] at h5
          rw [h4] at i2
          rw [h5] at i3
          by_cases e1 : kd = 1
          · rw [hm1 e1] at i3
            (repeat' (first | ((first | with_reducible refine st_skip ?_ | with_reducible refine st_exit ?_); (try simp only [seqQ, blockQ, loopQ, forQ, whileQ, reduceIte, Nat.reduceEqDiff])) | (with_reducible refine st_ret ?_; ((try simp only [seqQ, blockQ, loopQ, forQ, whileQ]); first | (with_reducible refine retM_ret ?_) | refine retQ_ret ?_; simp [hlt, r1, r2, hkd, e1])) | refine st_seq ?_ | refine st_block ?_ | ((with_reducible show (STri _ _ _ _ _) ∧ (STri _ _ _ _ _)); refine And.intro ?_ ?_) | ((first | refine st_reg ?_ | refine buildP_own ?_ | refine appP_own ?_ | refine callP_b (i1) rfl ?_ | refine callP_b (i2) rfl ?_ | refine callP_b (i3) rfl ?_) <;> (simp -dsimp [hlt, r1, r2, hkd, e1]; (repeat (simp -dsimp (disch := (first | omega | assumption | (refine Bool.eq_false_iff.1 ?_; assumption))) only [wrap_in, if_pos, if_neg]; (try simp -dsimp [hlt, r1, r2, hkd, e1]))))) | ((first | refine guardP_of (fun hc => ?_) (fun hc => ?_) | refine st_cond rfl (fun hc => ?_) (fun hc => ?_)) <;> (try simp only [lqA, lqB, lqC, lqD, lqE, lqF, lqG, lqH, lqI, lqJ, lqK, lqL, lqM, lqN, lqO] at hc) <;> (try (exfalso; first | omega | exact bool_tf hc (by assumption) | exact bool_ft hc (by assumption) | exact absurd (by assumption) hc)) <;> (first | with_reducible show STri _ _ _ _ _ _ | (simp -dsimp [hlt, r1, r2, hkd, e1, hc]; (repeat (simp -dsimp (disch := (first | omega | assumption | (refine Bool.eq_false_iff.1 ?_; assumption))) only [wrap_in, if_pos, if_neg]; (try simp -dsimp [hlt, r1, r2, hkd, e1, hc]))))))))
            all_goals exact .refl _
          by_cases e4 : kd = 4
          · rw [hm4 e4] at i3
            (repeat' (first | ((first | with_reducible refine st_skip ?_ | with_reducible refine st_exit ?_); (try simp only [seqQ, blockQ, loopQ, forQ, whileQ, reduceIte, Nat.reduceEqDiff])) | (with_reducible refine st_ret ?_; ((try simp only [seqQ, blockQ, loopQ, forQ, whileQ]); first | (with_reducible refine retM_ret ?_) | refine retQ_ret ?_; simp [hlt, r1, r2, hkd, e4])) | refine st_seq ?_ | refine st_block ?_ | ((with_reducible show (STri _ _ _ _ _) ∧ (STri _ _ _ _ _)); refine And.intro ?_ ?_) | ((first | refine st_reg ?_ | refine buildP_own ?_ | refine appP_own ?_ | refine callP_b (i1) rfl ?_ | refine callP_b (i2) rfl ?_ | refine callP_b (i3) rfl ?_) <;> (simp -dsimp [hlt, r1, r2, hkd, e4]; (repeat (simp -dsimp (disch := (first | omega | assumption | (refine Bool.eq_false_iff.1 ?_; assumption))) only [wrap_in, if_pos, if_neg]; (try simp -dsimp [hlt, r1, r2, hkd, e4]))))) | ((first | refine guardP_of (fun hc => ?_) (fun hc => ?_) | refine st_cond rfl (fun hc => ?_) (fun hc => ?_)) <;> (try simp only [lqA, lqB, lqC, lqD, lqE, lqF, lqG, lqH, lqI, lqJ, lqK, lqL, lqM, lqN, lqO] at hc) <;> (try (exfalso; first | omega | exact bool_tf hc (by assumption) | exact bool_ft hc (by assumption) | exact absurd (by assumption) hc)) <;> (first | with_reducible show STri _ _ _ _ _ _ | (simp -dsimp [hlt, r1, r2, hkd, e4, hc]; (repeat (simp -dsimp (disch := (first | omega | assumption | (refine Bool.eq_false_iff.1 ?_; assumption))) only [wrap_in, if_pos, if_neg]; (try simp -dsimp [hlt, r1, r2, hkd, e4, hc]))))))))
            all_goals exact .refl _
          · rw [hm0 e1 e4] at i3
            (repeat' (first | ((first | with_reducible refine st_skip ?_ | with_reducible refine st_exit ?_); (try simp only [seqQ, blockQ, loopQ, forQ, whileQ, reduceIte, Nat.reduceEqDiff])) | (with_reducible refine st_ret ?_; ((try simp only [seqQ, blockQ, loopQ, forQ, whileQ]); first | (with_reducible refine retM_ret ?_) | refine retQ_ret ?_; simp [hlt, r1, r2, hkd, e1, e4])) | refine st_seq ?_ | refine st_block ?_ | ((with_reducible show (STri _ _ _ _ _) ∧ (STri _ _ _ _ _)); refine And.intro ?_ ?_) | ((first | refine st_reg ?_ | refine buildP_own ?_ | refine appP_own ?_ | refine callP_b (i1) rfl ?_ | refine callP_b (i2) rfl ?_ | refine callP_b (i3) rfl ?_) <;> (simp -dsimp [hlt, r1, r2, hkd, e1, e4]; (repeat (simp -dsimp (disch := (first | omega | assumption | (refine Bool.eq_false_iff.1 ?_; assumption))) only [wrap_in, if_pos, if_neg]; (try simp -dsimp [hlt, r1, r2, hkd, e1, e4]))))) | ((first | refine guardP_of (fun hc => ?_) (fun hc => ?_) | refine st_cond rfl (fun hc => ?_) (fun hc => ?_)) <;> (try simp only [lqA, lqB, lqC, lqD, lqE, lqF, lqG, lqH, lqI, lqJ, lqK, lqL, lqM, lqN, lqO] at hc) <;> (try (exfalso; first | omega | exact bool_tf hc (by assumption) | exact bool_ft hc (by assumption) | exact absurd (by assumption) hc)) <;> (first | with_reducible show STri _ _ _ _ _ _ | (simp -dsimp [hlt, r1, r2, hkd, e1, e4, hc]; (repeat (simp -dsimp (disch := (first | omega | assumption | (refine Bool.eq_false_iff.1 ?_; assumption))) only [wrap_in, if_pos, if_neg]; (try simp -dsimp [hlt, r1, r2, hkd, e1, e4, hc]))))))))
            all_goals exact .refl _
      · have h2 : noteErr w l[j] = 2 := by rw [hne, if_neg (fun h => h4 h.1)]
        rw [hstop (by rw [h2]; decide), h2]
        rw [Bool.not_eq_true] at h4
        rw [h4] at i2
        by_cases e1 : kd = 1
        · (repeat' (first | ((first | with_reducible refine st_skip ?_ | with_reducible refine st_exit ?_); (try simp only [seqQ, blockQ, loopQ, forQ, whileQ, reduceIte, Nat.reduceEqDiff])) | (with_reducible refine st_ret ?_; ((try simp only [seqQ, blockQ, loopQ, forQ, whileQ]); first | (with_reducible refine retM_ret ?_) | refine retQ_ret ?_; simp [hlt, r1, r2, hkd, e1])) | refine st_seq ?_ | refine st_block ?_ | ((with_reducible show (STri _ _ _ _ _) ∧ (STri _ _ _ _ _)); refine And.intro ?_ ?_) | ((first | refine st_reg ?_ | refine buildP_own ?_ | refine appP_own ?_ | refine callP_b (i1) rfl ?_ | refine callP_b (i2) rfl ?_) <;> (simp -dsimp [hlt, r1, r2, hkd, e1]; (repeat (simp -dsimp (disch := (first | omega | assumption | (refine Bool.eq_false_iff.1 ?_; assumption))) only [wrap_in, if_pos, if_neg]; (try simp -dsimp [hlt, r1, r2, hkd, e1]))))) | ((first | refine guardP_of (fun hc => ?_) (fun hc => ?_) | refine st_cond rfl (fun hc => ?_) (fun hc => ?_)) <;> (try simp only [lqA, lqB, lqC, lqD, lqE, lqF, lqG, lqH, lqI, lqJ, lqK, lqL, lqM, lqN, lqO] at hc) <;> (try (exfalso; first | omega | exact bool_tf hc (by assumption) | exact bool_ft hc (by assumption) | exact absurd (by assumption) hc)) <;> (first | with_reducible show STri _ _ _ _ _ _ | (simp -dsimp [hlt, r1, r2, hkd, e1, hc]; (repeat (simp -dsimp (disch := (first | omega | assumption | (refine Bool.eq_false_iff.1 ?_; assumption))) only [wrap_in, if_pos, if_neg]; (try simp -dsimp [hlt, r1, r2, hkd, e1, hc]))))))))
          all_goals exact .refl _
        by_cases e4 : kd = 4
        · (repeat' (first | ((first | with_reducible refine st_skip ?_ | with_reducible refine st_exit ?_); (try simp only [seqQ, blockQ, loopQ, forQ, whileQ, reduceIte, Nat.reduceEqDiff])) | (with_reducible refine st_ret ?_; ((try simp only [seqQ, blockQ, loopQ, forQ, whileQ]); first | (with_reducible refine retM_ret ?_) | refine retQ_ret ?_; simp [hlt, r1, r2, hkd, e4])) | refine st_seq ?_ | refine st_block ?_ | ((with_reducible show (STri _ _ _ _ _) ∧ (STri _ _ _ _ _)); refine And.intro ?_ ?_) | ((first | refine st_reg ?_ | refine buildP_own ?_ | refine appP_own ?_ | refine callP_b (i1) rfl ?_ | refine callP_b (i2) rfl ?_) <;> (simp -dsimp [hlt, r1, r2, hkd, e4]; (repeat (simp -dsimp (disch := (first | omega | assumption | (refine Bool.eq_false_iff.1 ?_; assumption))) only [wrap_in, if_pos, if_neg]; (try simp -dsimp [hlt, r1, r2, hkd, e4]))))) | ((first | refine guardP_of (fun hc => ?_) (fun hc => ?_) | refine st_cond rfl (fun hc => ?_) (fun hc => ?_)) <;> (try simp only [lqA, lqB, lqC, lqD, lqE, lqF, lqG, lqH, lqI, lqJ, lqK, lqL, lqM, lqN, lqO] at hc) <;> (try (exfalso; first | omega | exact bool_tf hc (by assumption) | exact bool_ft hc (by assumption) | exact absurd (by assumption) hc)) <;> (first | with_reducible show STri _ _ _ _ _ _ | (simp -dsimp [hlt, r1, r2, hkd, e4, hc]; (repeat (simp -dsimp (disch := (first | omega | assumption | (refine Bool.eq_false_iff.1 ?_; assumption))) only [wrap_in, if_pos, if_neg]; (try simp -dsimp [hlt, r1, r2, hkd, e4, hc]))))))))
          all_goals exact .refl _
        · (repeat' (first | ((first | with_reducible refine st_skip ?_ | with_reducible refine st_exit ?_); (try simp only [seqQ, blockQ, loopQ, forQ, whileQ, reduceIte, Nat.reduceEqDiff])) | (with_reducible refine st_ret ?_; ((try simp only [seqQ, blockQ, loopQ, forQ, whileQ]); first | (with_reducible refine retM_ret ?_) | refine retQ_ret ?_; simp [hlt, r1, r2, hkd, e1, e4])) | refine st_seq ?_ | refine st_block ?_ | ((with_reducible show (STri _ _ _ _ _) ∧ (STri _ _ _ _ _)); refine And.intro ?_ ?_) | ((first | refine st_reg ?_ | refine buildP_own ?_ | refine appP_own ?_ | refine callP_b (i1) rfl ?_ | refine callP_b (i2) rfl ?_) <;> (simp -dsimp [hlt, r1, r2, hkd, e1, e4]; (repeat (simp -dsimp (disch := (first | omega | assumption | (refine Bool.eq_false_iff.1 ?_; assumption))) only [wrap_in, if_pos, if_neg]; (try simp -dsimp [hlt, r1, r2, hkd, e1, e4]))))) | ((first | refine guardP_of (fun hc => ?_) (fun hc => ?_) | refine st_cond rfl (fun hc => ?_) (fun hc => ?_)) <;> (try simp only [lqA, lqB, lqC, lqD, lqE, lqF, lqG, lqH, lqI, lqJ, lqK, lqL, lqM, lqN, lqO] at hc) <;> (try (exfalso; first | omega | exact bool_tf hc (by assumption) | exact bool_ft hc (by assumption) | exact absurd (by assumption) hc)) <;> (first | with_reducible show STri _ _ _ _ _ _ | (simp -dsimp [hlt, r1, r2, hkd, e1, e4, hc]; (repeat (simp -dsimp (disch := (first | omega | assumption | (refine Bool.eq_false_iff.1 ?_; assumption))) only [wrap_in, if_pos, if_neg]; (try simp -dsimp [hlt, r1, r2, hkd, e1, e4, hc]))))))))
          all_goals exact .refl _
    · have hne : noteErr w l[j] = 7 := by unfold noteErr; rw [if_neg b1]
      have h2 := notes_stop hlt hno (by rw [hne]; decide)
      rw [her, h2, hne, if_pos (by decide)]
      rw [Bool.not_eq_true] at b1
      rw [b1] at i1
      (repeat' (first | ((first | with_reducible refine st_skip ?_ | with_reducible refine st_exit ?_); (try simp only [seqQ, blockQ, loopQ, forQ, whileQ, reduceIte, Nat.reduceEqDiff])) | (with_reducible refine st_ret ?_; ((try simp only [seqQ, blockQ, loopQ, forQ, whileQ]); first | (with_reducible refine retM_ret ?_) | refine retQ_ret ?_; simp [hlt])) | refine st_seq ?_ | refine st_block ?_ | ((with_reducible show (STri _ _ _ _ _) ∧ (STri _ _ _ _ _)); refine And.intro ?_ ?_) | ((first | refine st_reg ?_ | refine buildP_own ?_ | refine appP_own ?_ | refine callP_b (i1) rfl ?_) <;> (simp -dsimp [hlt]; (repeat (simp -dsimp (disch := (first | omega | assumption | (refine Bool.eq_false_iff.1 ?_; assumption))) only [wrap_in, if_pos, if_neg]; (try simp -dsimp [hlt]))))) | ((first | refine guardP_of (fun hc => ?_) (fun hc => ?_) | refine st_cond rfl (fun hc => ?_) (fun hc => ?_)) <;> (try simp only [lqA, lqB, lqC, lqD, lqE, lqF, lqG, lqH, lqI, lqJ, lqK, lqL, lqM, lqN, lqO] at hc) <;> (try (exfalso; first | omega | exact bool_tf hc (by assumption) | exact bool_ft hc (by assumption) | exact absurd (by assumption) hc)) <;> (first | with_reducible show STri _ _ _ _ _ _ | (simp -dsimp [hlt, hc]; (repeat (simp -dsimp (disch := (first | omega | assumption | (refine Bool.eq_false_iff.1 ?_; assumption))) only [wrap_in, if_pos, if_neg]; (try simp -dsimp [hlt, hc]))))))))
      all_goals exact .refl _
  · have hjl : j = l.length := by omega
    subst hjl
    have h2 := notes_all hno
    have s3 := rSpan nlo nhi 7200 (by omega) (by omega)
    rw [her, h2, if_neg (by decide)]
    by_cases b4 : spanW nlo nhi 7200 = true
    · rw [b4] at s3 ⊢
      (repeat' (first | ((first | with_reducible refine st_skip ?_ | with_reducible refine st_exit ?_); (try simp only [seqQ, blockQ, loopQ, forQ, whileQ, reduceIte, Nat.reduceEqDiff])) | (with_reducible refine st_ret ?_; ((try simp only [seqQ, blockQ, loopQ, forQ, whileQ]); first | (with_reducible refine retM_ret ?_) | refine retQ_ret ?_; simp [hlt])) | refine st_seq ?_ | refine st_block ?_ | ((with_reducible show (STri _ _ _ _ _) ∧ (STri _ _ _ _ _)); refine And.intro ?_ ?_) | ((first | refine st_reg ?_ | refine buildP_own ?_ | refine appP_own ?_ | refine callP_b (s3) rfl ?_) <;> (simp -dsimp [hlt]; (repeat (simp -dsimp (disch := (first | omega | assumption | (refine Bool.eq_false_iff.1 ?_; assumption))) only [wrap_in, if_pos, if_neg]; (try simp -dsimp [hlt]))))) | ((first | refine guardP_of (fun hc => ?_) (fun hc => ?_) | refine st_cond rfl (fun hc => ?_) (fun hc => ?_)) <;> (try simp only [lqA, lqB, lqC, lqD, lqE, lqF, lqG, lqH, lqI, lqJ, lqK, lqL, lqM, lqN, lqO] at hc) <;> (try (exfalso; first | omega | exact bool_tf hc (by assumption) | exact bool_ft hc (by assumption) | exact absurd (by assumption) hc)) <;> (first | with_reducible show STri _ _ _ _ _ _ | (simp -dsimp [hlt, hc]; (repeat (simp -dsimp (disch := (first | omega | assumption | (refine Bool.eq_false_iff.1 ?_; assumption))) only [wrap_in, if_pos, if_neg]; (try simp -dsimp [hlt, hc]))))))))
      all_goals exact .refl _
    · rw [Bool.not_eq_true] at b4
      rw [b4] at s3 ⊢
      (repeat' (first | ((first | with_reducible refine st_skip ?_ | with_reducible refine st_exit ?_); (try simp only [seqQ, blockQ, loopQ, forQ, whileQ, reduceIte, Nat.reduceEqDiff])) | (with_reducible refine st_ret ?_; ((try simp only [seqQ, blockQ, loopQ, forQ, whileQ]); first | (with_reducible refine retM_ret ?_) | refine retQ_ret ?_; simp [hlt])) | refine st_seq ?_ | refine st_block ?_ | ((with_reducible show (STri _ _ _ _ _) ∧ (STri _ _ _ _ _)); refine And.intro ?_ ?_) | ((first | refine st_reg ?_ | refine buildP_own ?_ | refine appP_own ?_ | refine callP_b (s3) rfl ?_) <;> (simp -dsimp [hlt]; (repeat (simp -dsimp (disch := (first | omega | assumption | (refine Bool.eq_false_iff.1 ?_; assumption))) only [wrap_in, if_pos, if_neg]; (try simp -dsimp [hlt]))))) | ((first | refine guardP_of (fun hc => ?_) (fun hc => ?_) | refine st_cond rfl (fun hc => ?_) (fun hc => ?_)) <;> (try simp only [lqA, lqB, lqC, lqD, lqE, lqF, lqG, lqH, lqI, lqJ, lqK, lqL, lqM, lqN, lqO] at hc) <;> (try (exfalso; first | omega | exact bool_tf hc (by assumption) | exact bool_ft hc (by assumption) | exact absurd (by assumption) hc)) <;> (first | with_reducible show STri _ _ _ _ _ _ | (simp -dsimp [hlt, hc]; (repeat (simp -dsimp (disch := (first | omega | assumption | (refine Bool.eq_false_iff.1 ?_; assumption))) only [wrap_in, if_pos, if_neg]; (try simp -dsimp [hlt, hc]))))))))
      all_goals exact .refl _
end Go.Proofs.Ytakdmliblijgmaa
/- Wire, reference II: when a note is right. -/
namespace Go.Proofs.Ytakdmliblijgmaa
open Go.RowKit
theorem down_q (n b : Int) (hb : 0 < b) : n / b = if n.tdiv b * b > n then n.tdiv b - 1 else n.tdiv b := by
  have h1 := Int.emod_add_mul_ediv n b
  have h2 := Int.emod_nonneg n (show b ≠ 0 by omega)
  have h3 := Int.emod_lt_of_pos n hb
  rw [Int.tdiv_eq_ediv]
  have hbn : ¬ b < 0 := by omega
  have hs : b.sign = 1 := Int.sign_eq_one_of_pos hb
  rw [hs]
  by_cases hc : 0 ≤ n ∨ b ∣ n
  · rw [if_pos hc, Int.add_zero]
    have : ¬ n / b * b > n := by rw [Int.mul_comm]; omega
    rw [if_neg this]
  · rw [if_neg hc]
    have hne : n % b ≠ 0 := fun e => hc (.inr (Int.dvd_of_emod_eq_zero e))
    have : (n / b + 1) * b > n := by rw [Int.add_mul, Int.mul_comm]; omega
    rw [if_pos this]; omega
theorem mul_q (n b : Int) : (n.tdiv b * b).natAbs ≤ n.natAbs := by
  rw [Int.natAbs_mul, Int.natAbs_tdiv]
  exact Nat.div_mul_le_self _ _
theorem rDown (n b : Int) (h1 : -1000000000000000000 ≤ n) (h2 : n ≤ 1000000000000000000) (h3 : 0 < b) (h4 : b ≤ 1000000000000) : SC Try.prog 74 [I n, I b] (I (n / b)) := by
  refine law_turretref08_Down _ _ (by simp) ?_
  have hne : ¬ b = 0 := by omega
  have hq := Int.natAbs_tdiv_le_natAbs n b
  have hm := mul_q n b
  rw [down_q n b h3]
  generalize hQ : n.tdiv b = q at *
  generalize hP : q * b = p at *
  (repeat' (first | ((first | with_reducible refine st_skip ?_ | with_reducible refine st_exit ?_); (try simp only [seqQ, blockQ, loopQ, forQ, whileQ, reduceIte, Nat.reduceEqDiff])) | (with_reducible refine st_ret ?_; ((try simp only [seqQ, blockQ, loopQ, forQ, whileQ]); first | (with_reducible refine retM_ret ?_) | refine retQ_ret ?_; simp [hne, hQ, hP])) | refine st_seq ?_ | refine st_block ?_ | ((with_reducible show (STri _ _ _ _ _) ∧ (STri _ _ _ _ _)); refine And.intro ?_ ?_) | ((first | refine st_reg ?_ | refine buildP_own ?_ | refine appP_own ?_) <;> (simp -dsimp [hne, hQ, hP]; (repeat (simp -dsimp (disch := (first | omega | assumption | (refine Bool.eq_false_iff.1 ?_; assumption))) only [wrap_in, if_pos, if_neg]; (try simp -dsimp [hne, hQ, hP]))))) | ((first | refine guardP_of (fun hc => ?_) (fun hc => ?_) | refine st_cond rfl (fun hc => ?_) (fun hc => ?_)) <;> (try simp only [lqA, lqB, lqC, lqD, lqE, lqF, lqG, lqH, lqI, lqJ, lqK, lqL, lqM, lqN, lqO] at hc) <;> (try (exfalso; first | omega | exact bool_tf hc (by assumption) | exact bool_ft hc (by assumption) | exact absurd (by assumption) hc)) <;> (first | with_reducible show STri _ _ _ _ _ _ | (simp -dsimp [hne, hQ, hP, hc]; (repeat (simp -dsimp (disch := (first | omega | assumption | (refine Bool.eq_false_iff.1 ?_; assumption))) only [wrap_in, if_pos, if_neg]; (try simp -dsimp [hne, hQ, hP, hc]))))))))
  · rw [if_pos hc]; exact .refl _
  · rw [if_neg hc]; exact .refl _
theorem up_q (n b : Int) (hb : 0 < b) : upI n b = if n.tdiv b * b < n then n.tdiv b + 1 else n.tdiv b := by
  unfold upI
  rw [down_q (-n) b hb]
  have e : (-n).tdiv b = -(n.tdiv b) := Int.neg_tdiv n b
  rw [e]
  have e2 : -(n.tdiv b) * b > -n ↔ n.tdiv b * b < n := by rw [Int.neg_mul]; omega
  by_cases h : n.tdiv b * b < n
  · rw [if_pos (e2.2 h), if_pos h]; omega
  · rw [if_neg (fun hh => h (e2.1 hh)), if_neg h]; omega
theorem rUp (n b : Int) (h1 : -1000000000000000000 ≤ n) (h2 : n ≤ 1000000000000000000) (h3 : 0 < b) (h4 : b ≤ 1000000000000) : SC Try.prog 75 [I n, I b] (I (upI n b)) := by
  refine law_turretref08_Up _ _ (by simp) ?_
  have hne : ¬ b = 0 := by omega
  have hq := Int.natAbs_tdiv_le_natAbs n b
  have hm := mul_q n b
  rw [up_q n b h3]
  generalize hQ : n.tdiv b = q at *
  generalize hP : q * b = p at *
  (repeat' (first | ((first | with_reducible refine st_skip ?_ | with_reducible refine st_exit ?_); (try simp only [seqQ, blockQ, loopQ, forQ, whileQ, reduceIte, Nat.reduceEqDiff])) | (with_reducible refine st_ret ?_; ((try simp only [seqQ, blockQ, loopQ, forQ, whileQ]); first | (with_reducible refine retM_ret ?_) | refine retQ_ret ?_; simp [hne, hQ, hP])) | refine st_seq ?_ | refine st_block ?_ | ((with_reducible show (STri _ _ _ _ _) ∧ (STri _ _ _ _ _)); refine And.intro ?_ ?_) | ((first | refine st_reg ?_ | refine buildP_own ?_ | refine appP_own ?_) <;> (simp -dsimp [hne, hQ, hP]; (repeat (simp -dsimp (disch := (first | omega | assumption | (refine Bool.eq_false_iff.1 ?_; assumption))) only [wrap_in, if_pos, if_neg]; (try simp -dsimp [hne, hQ, hP]))))) | ((first | refine guardP_of (fun hc => ?_) (fun hc => ?_) | refine st_cond rfl (fun hc => ?_) (fun hc => ?_)) <;> (try simp only [lqA, lqB, lqC, lqD, lqE, lqF, lqG, lqH, lqI, lqJ, lqK, lqL, lqM, lqN, lqO] at hc) <;> (try (exfalso; first | omega | exact bool_tf hc (by assumption) | exact bool_ft hc (by assumption) | exact absurd (by assumption) hc)) <;> (first | with_reducible show STri _ _ _ _ _ _ | (simp -dsimp [hne, hQ, hP, hc]; (repeat (simp -dsimp (disch := (first | omega | assumption | (refine Bool.eq_false_iff.1 ?_; assumption))) only [wrap_in, if_pos, if_neg]; (try simp -dsimp [hne, hQ, hP, hc]))))))))
  · rw [if_pos hc]; exact .refl _
  · rw [if_neg hc]; exact .refl _
theorem rMod (n b : Int) (h1 : -1000000000000000000 ≤ n) (h2 : n ≤ 1000000000000000000) (h3 : 0 < b) (h4 : b ≤ 1000000) : SC Try.prog 76 [I n, I b] (I (n % b)) := by
  refine law_turretref08_Mod _ _ (by simp) ?_
  have e : n % b = n - b * (n / b) := by have := Int.emod_add_mul_ediv n b; omega
  have h5 := Int.emod_nonneg n (show b ≠ 0 by omega)
  have h6 := Int.emod_lt_of_pos n h3
  have hd := rDown n b h1 h2 h3 (by omega)
  rw [e] at h5 h6
  rw [e]
  generalize n / b = q at *
  generalize hp : b * q = p at *
  (repeat' (first | ((first | with_reducible refine st_skip ?_ | with_reducible refine st_exit ?_); (try simp only [seqQ, blockQ, loopQ, forQ, whileQ, reduceIte, Nat.reduceEqDiff])) | (with_reducible refine st_ret ?_; ((try simp only [seqQ, blockQ, loopQ, forQ, whileQ]); first | (with_reducible refine retM_ret ?_) | refine retQ_ret ?_; simp [hp])) | refine st_seq ?_ | refine st_block ?_ | ((with_reducible show (STri _ _ _ _ _) ∧ (STri _ _ _ _ _)); refine And.intro ?_ ?_) | ((first | refine st_reg ?_ | refine buildP_own ?_ | refine appP_own ?_ | refine callP_b (hd) rfl ?_) <;> (simp -dsimp [hp]; (repeat (simp -dsimp (disch := (first | omega | assumption | (refine Bool.eq_false_iff.1 ?_; assumption))) only [wrap_in, if_pos, if_neg]; (try simp -dsimp [hp]))))) | ((first | refine guardP_of (fun hc => ?_) (fun hc => ?_) | refine st_cond rfl (fun hc => ?_) (fun hc => ?_)) <;> (try simp only [lqA, lqB, lqC, lqD, lqE, lqF, lqG, lqH, lqI, lqJ, lqK, lqL, lqM, lqN, lqO] at hc) <;> (try (exfalso; first | omega | exact bool_tf hc (by assumption) | exact bool_ft hc (by assumption) | exact absurd (by assumption) hc)) <;> (first | with_reducible show STri _ _ _ _ _ _ | (simp -dsimp [hp, hc]; (repeat (simp -dsimp (disch := (first | omega | assumption | (refine Bool.eq_false_iff.1 ?_; assumption))) only [wrap_in, if_pos, if_neg]; (try simp -dsimp [hp, hc]))))))))
  exact .refl _
def errE (s : Wsrc) (t said e : Int) : Bool :=
  if s.kind = 2 then decide (0 ≤ t - e - s.at') && decide ((t - e - s.at') % s.every = 0)
  else if s.kind = 3 then (List.range (max 0 ((t - e).tdiv 86400 + 1) + 1 - max 0 ((t - e).tdiv 86400 - 1)).toNat).any fun (k : Nat) => decide (noonI s (max 0 ((t - e).tdiv 86400 - 1) + k) = t - e)
  else decide (t = said + e)
def NoErr (s : Wsrc) (t said : Int) (k : Nat) : Prop := ∀ i, i < k → errE s t said (s.elo + (i : Nat)) = false
def someE (s : Wsrc) (t said : Int) : Bool := (List.range (s.ehi + 1 - s.elo).toNat).any fun (k : Nat) => errE s t said (s.elo + k)
def refR (s : Wsrc) (t said : Int) : Bool := within1 0 3155760000 t && if s.kind = 1 then clockR s t said s.elo s.ehi else someE s t said
theorem some_yes {s : Wsrc} {t said : Int} {k : Nat} (h1 : s.elo + (k : Nat) ≤ s.ehi) (h : errE s t said (s.elo + (k : Nat)) = true) : someE s t said = true := by
  unfold someE
  rw [List.any_eq_true]
  exact ⟨k, List.mem_range.2 (by omega), h⟩
theorem some_no {s : Wsrc} {t said : Int} (h : NoErr s t said (s.ehi + 1 - s.elo).toNat) : someE s t said = false := by
  unfold someE
  rw [List.any_eq_false]
  intro k hk
  rw [h k (List.mem_range.1 hk)]; decide
theorem rRight1 (s : Wsrc) (h1 : s.kind = 1) (hu : clockV s = true) (t said : Int) (ht : TSm t said s.elo s.ehi) : SC Try.prog 65 [cSr s, I said, I t] (B (refR s t said)) := by
  refine law_turretref08_Right _ _ (by simp) ?_
  have i1 := rIn t 0 3155760000
  unfold refR
  rw [if_pos h1]
  by_cases hw : within1 0 3155760000 t = true
  case neg =>
    rw [Bool.not_eq_true] at hw
    rw [hw] at i1 ⊢
    (repeat' (first | ((first | with_reducible refine st_skip ?_ | with_reducible refine st_exit ?_); (try simp only [seqQ, blockQ, loopQ, forQ, whileQ, reduceIte, Nat.reduceEqDiff])) | (with_reducible refine st_ret ?_; ((try simp only [seqQ, blockQ, loopQ, forQ, whileQ]); first | (with_reducible refine retM_ret ?_) | refine retQ_ret ?_; simp)) | refine st_seq ?_ | refine st_block ?_ | ((with_reducible show (STri _ _ _ _ _) ∧ (STri _ _ _ _ _)); refine And.intro ?_ ?_) | ((first | refine st_reg ?_ | refine buildP_own ?_ | refine appP_own ?_ | refine callP_b (i1) rfl ?_) <;> (simp -dsimp; (repeat (simp -dsimp (disch := (first | omega | assumption | (refine Bool.eq_false_iff.1 ?_; assumption))) only [wrap_in, if_pos, if_neg]; (try simp -dsimp))))) | ((first | refine guardP_of (fun hc => ?_) (fun hc => ?_) | refine st_cond rfl (fun hc => ?_) (fun hc => ?_)) <;> (try simp only [lqA, lqB, lqC, lqD, lqE, lqF, lqG, lqH, lqI, lqJ, lqK, lqL, lqM, lqN, lqO] at hc) <;> (try (exfalso; first | omega | exact bool_tf hc (by assumption) | exact bool_ft hc (by assumption) | exact absurd (by assumption) hc)) <;> (first | with_reducible show STri _ _ _ _ _ _ | (simp -dsimp [hc]; (repeat (simp -dsimp (disch := (first | omega | assumption | (refine Bool.eq_false_iff.1 ?_; assumption))) only [wrap_in, if_pos, if_neg]; (try simp -dsimp [hc]))))))))
    all_goals exact .refl _
  rw [hw] at i1 ⊢
  rw [Bool.true_and]
  obtain ⟨g1, g2, g3, g4, g5⟩ := clockV_is hu
  obtain ⟨b1, b2, b3, b4⟩ := cl_bd hu ht
  obtain ⟨t0, t1, s0, s1, l0, l1, e0, e1⟩ := ht
  have c1 := div_bd (s.dlo * (t - s.at')) 86400000
  have c2 := div_bd (-(s.dhi * (t - s.at'))) 86400000
  unfold clockR clLo clHi
  generalize hx : s.dlo * (t - s.at') = x at *
  generalize hy : s.dhi * (t - s.at') = y at *
  have hu : upI y 86400000 = -(-y / 86400000) := rfl
  generalize hX : x / 86400000 = X at *
  generalize hY : upI y 86400000 = Y at *
  have sd := rDown x 86400000 (by omega) (by omega) (by omega) (by omega)
  have su := rUp y 86400000 (by omega) (by omega) (by omega) (by omega)
  rw [hX] at sd
  rw [hY] at su
  (repeat' (first | ((first | with_reducible refine st_skip ?_ | with_reducible refine st_exit ?_); (try simp only [seqQ, blockQ, loopQ, forQ, whileQ, reduceIte, Nat.reduceEqDiff])) | (with_reducible refine st_ret ?_; ((try simp only [seqQ, blockQ, loopQ, forQ, whileQ]); first | (with_reducible refine retM_ret ?_) | refine retQ_ret ?_; simp [h1, hx, hy])) | refine st_seq ?_ | refine st_block ?_ | ((with_reducible show (STri _ _ _ _ _) ∧ (STri _ _ _ _ _)); refine And.intro ?_ ?_) | ((first | refine st_reg ?_ | refine buildP_own ?_ | refine appP_own ?_ | refine callP_b (i1) rfl ?_ | refine callP_b (sd) rfl ?_ | refine callP_b (su) rfl ?_ | refine callP_b (rMod (said - t - (s.elo + X)) 43200 (by omega) (by omega) (by omega) (by omega)) rfl ?_) <;> (simp -dsimp [h1, hx, hy]; (repeat (simp -dsimp (disch := (first | omega | assumption | (refine Bool.eq_false_iff.1 ?_; assumption))) only [wrap_in, if_pos, if_neg]; (try simp -dsimp [h1, hx, hy]))))) | ((first | refine guardP_of (fun hc => ?_) (fun hc => ?_) | refine st_cond rfl (fun hc => ?_) (fun hc => ?_)) <;> (try simp only [lqA, lqB, lqC, lqD, lqE, lqF, lqG, lqH, lqI, lqJ, lqK, lqL, lqM, lqN, lqO] at hc) <;> (try (exfalso; first | omega | exact bool_tf hc (by assumption) | exact bool_ft hc (by assumption) | exact absurd (by assumption) hc)) <;> (first | with_reducible show STri _ _ _ _ _ _ | (simp -dsimp [h1, hx, hy, hc]; (repeat (simp -dsimp (disch := (first | omega | assumption | (refine Bool.eq_false_iff.1 ?_; assumption))) only [wrap_in, if_pos, if_neg]; (try simp -dsimp [h1, hx, hy, hc]))))))))
  all_goals (refine CLe.bool ?_; simp_all; try (intros; omega))
theorem none_e_succ {s : Wsrc} {t said : Int} {k : Nat} (h : NoErr s t said k) (he : errE s t said (s.elo + (k : Nat)) = false) : NoErr s t said (k + 1) := fun i hi => by
  by_cases hik : i = k
  · subst hik; exact he
  · exact h i (by omega)
theorem rRight2 (s : Wsrc) (hk2 : s.kind = 2) (hu : eventV s = true) (t said : Int) (ht : TSm t said s.elo s.ehi) : SC Try.prog 65 [cSr s, I said, I t] (B (refR s t said)) := by
  refine law_turretref08_Right _ _ (by simp) ?_
  have i1 := rIn t 0 3155760000
  have hk1 : ¬ s.kind = 1 := by omega
  unfold refR
  rw [if_neg hk1]
  by_cases hw : within1 0 3155760000 t = true
  case neg =>
    rw [Bool.not_eq_true] at hw
    rw [hw] at i1 ⊢
    (repeat' (first | ((first | with_reducible refine st_skip ?_ | with_reducible refine st_exit ?_); (try simp only [seqQ, blockQ, loopQ, forQ, whileQ, reduceIte, Nat.reduceEqDiff])) | (with_reducible refine st_ret ?_; ((try simp only [seqQ, blockQ, loopQ, forQ, whileQ]); first | (with_reducible refine retM_ret ?_) | refine retQ_ret ?_; simp)) | refine st_seq ?_ | refine st_block ?_ | ((with_reducible show (STri _ _ _ _ _) ∧ (STri _ _ _ _ _)); refine And.intro ?_ ?_) | ((first | refine st_reg ?_ | refine buildP_own ?_ | refine appP_own ?_ | refine callP_b (i1) rfl ?_) <;> (simp -dsimp; (repeat (simp -dsimp (disch := (first | omega | assumption | (refine Bool.eq_false_iff.1 ?_; assumption))) only [wrap_in, if_pos, if_neg]; (try simp -dsimp))))) | ((first | refine guardP_of (fun hc => ?_) (fun hc => ?_) | refine st_cond rfl (fun hc => ?_) (fun hc => ?_)) <;> (try simp only [lqA, lqB, lqC, lqD, lqE, lqF, lqG, lqH, lqI, lqJ, lqK, lqL, lqM, lqN, lqO] at hc) <;> (try (exfalso; first | omega | exact bool_tf hc (by assumption) | exact bool_ft hc (by assumption) | exact absurd (by assumption) hc)) <;> (first | with_reducible show STri _ _ _ _ _ _ | (simp -dsimp [hc]; (repeat (simp -dsimp (disch := (first | omega | assumption | (refine Bool.eq_false_iff.1 ?_; assumption))) only [wrap_in, if_pos, if_neg]; (try simp -dsimp [hc]))))))))
    all_goals exact .refl _
  rw [hw] at i1 ⊢
  rw [Bool.true_and]
  obtain ⟨g1, g2, g3, g4⟩ := eventV_is hu
  obtain ⟨t0, t1, s0, s1, l0, l1, e0, e1⟩ := ht
  have hne : ¬ s.every = 0 := by omega
  (repeat' (first | ((first | with_reducible refine st_skip ?_ | with_reducible refine st_exit ?_); (try simp only [seqQ, blockQ, loopQ, forQ, whileQ, reduceIte, Nat.reduceEqDiff])) | (with_reducible refine st_ret ?_; ((try simp only [seqQ, blockQ, loopQ, forQ, whileQ]); first | (with_reducible refine retM_ret ?_) | refine retQ_ret ?_; simp [hk1])) | refine st_seq ?_ | refine st_block ?_ | ((with_reducible show (STri _ _ _ _ _) ∧ (STri _ _ _ _ _)); refine And.intro ?_ ?_) | ((first | refine st_reg ?_ | refine buildP_own ?_ | refine appP_own ?_ | refine callP_b (i1) rfl ?_) <;> (simp -dsimp [hk1]; (repeat (simp -dsimp (disch := (first | omega | assumption | (refine Bool.eq_false_iff.1 ?_; assumption))) only [wrap_in, if_pos, if_neg]; (try simp -dsimp [hk1]))))) | ((first | refine guardP_of (fun hc => ?_) (fun hc => ?_) | refine st_cond rfl (fun hc => ?_) (fun hc => ?_)) <;> (try simp only [lqA, lqB, lqC, lqD, lqE, lqF, lqG, lqH, lqI, lqJ, lqK, lqL, lqM, lqN, lqO] at hc) <;> (try (exfalso; first | omega | exact bool_tf hc (by assumption) | exact bool_ft hc (by assumption) | exact absurd (by assumption) hc)) <;> (first | with_reducible show STri _ _ _ _ _ _ | (simp -dsimp [hk1, hc]; (repeat (simp -dsimp (disch := (first | omega | assumption | (refine Bool.eq_false_iff.1 ?_; assumption))) only [wrap_in, if_pos, if_neg]; (try simp -dsimp [hk1, hc]))))))))
  refine st_for [3] (s.ehi + 1 - s.elo).toNat (fun k T H => NoErr s t said k ∧ T = [(1, .c (I said)), (2, .c (I t)), (3, .ptr 3 0), (8, .c (I s.ehi)), (9, .c (I (s.elo + k)))] ∧ H = [(3, .box 79 ((rowSr s).map .c))]) (by simp) ⟨fun i hi => by omega, by simp, by simp⟩ ?_
  rintro k T H hk ⟨hno, rfl, rfl⟩
  by_cases hlt : k < (s.ehi + 1 - s.elo).toNat
  · have hle : s.elo + (k : Int) ≤ s.ehi := by omega
    have he : errE s t said (s.elo + (k : Nat)) = (decide (0 ≤ t - (s.elo + (k : Nat)) - s.at') && decide ((t - (s.elo + (k : Nat)) - s.at') % s.every = 0)) := by unfold errE; rw [if_pos hk2]
    by_cases h0 : 0 ≤ t - (s.elo + (k : Nat)) - s.at'
    · have hm : (t - (s.elo + (k : Nat)) - s.at').tmod s.every = (t - (s.elo + (k : Nat)) - s.at') % s.every := Int.tmod_eq_emod_of_nonneg h0
      have h0' : 0 ≤ t - (s.elo + (k : Int)) - s.at' := h0
      rw [decide_eq_true h0, Bool.true_and] at he
      (repeat' (first | ((first | with_reducible refine st_skip ?_ | with_reducible refine st_exit ?_); (try simp only [seqQ, blockQ, loopQ, forQ, whileQ, reduceIte, Nat.reduceEqDiff])) | (with_reducible refine st_ret ?_; ((try simp only [seqQ, blockQ, loopQ, forQ, whileQ]); first | (with_reducible refine retM_ret ?_) | refine retQ_ret ?_; simp [hk2, hle, h0', hne, hm])) | refine st_seq ?_ | refine st_block ?_ | ((with_reducible show (STri _ _ _ _ _) ∧ (STri _ _ _ _ _)); refine And.intro ?_ ?_) | ((first | refine st_reg ?_ | refine buildP_own ?_ | refine appP_own ?_) <;> (simp -dsimp [hk2, hle, h0', hne, hm]; (repeat (simp -dsimp (disch := (first | omega | assumption | (refine Bool.eq_false_iff.1 ?_; assumption))) only [wrap_in, if_pos, if_neg]; (try simp -dsimp [hk2, hle, h0', hne, hm]))))) | ((first | refine guardP_of (fun hc => ?_) (fun hc => ?_) | refine st_cond rfl (fun hc => ?_) (fun hc => ?_)) <;> (try simp only [lqA, lqB, lqC, lqD, lqE, lqF, lqG, lqH, lqI, lqJ, lqK, lqL, lqM, lqN, lqO] at hc) <;> (try (exfalso; first | omega | exact bool_tf hc (by assumption) | exact bool_ft hc (by assumption) | exact absurd (by assumption) hc)) <;> (first | with_reducible show STri _ _ _ _ _ _ | (simp -dsimp [hk2, hle, h0', hne, hm, hc]; (repeat (simp -dsimp (disch := (first | omega | assumption | (refine Bool.eq_false_iff.1 ?_; assumption))) only [wrap_in, if_pos, if_neg]; (try simp -dsimp [hk2, hle, h0', hne, hm, hc]))))))))
      · rw [some_yes hle (by rw [he]; exact decide_eq_true hc)]
        exact .refl _
      · exact ⟨hlt, by simp, none_e_succ hno (by rw [he]; exact decide_eq_false hc), by simp; omega, by simp [hk2]⟩
    · have h0' : ¬ 0 ≤ t - (s.elo + (k : Int)) - s.at' := h0
      rw [decide_eq_false h0, Bool.false_and] at he
      (repeat' (first | ((first | with_reducible refine st_skip ?_ | with_reducible refine st_exit ?_); (try simp only [seqQ, blockQ, loopQ, forQ, whileQ, reduceIte, Nat.reduceEqDiff])) | (with_reducible refine st_ret ?_; ((try simp only [seqQ, blockQ, loopQ, forQ, whileQ]); first | (with_reducible refine retM_ret ?_) | refine retQ_ret ?_; simp [hk2, hle, h0'])) | refine st_seq ?_ | refine st_block ?_ | ((with_reducible show (STri _ _ _ _ _) ∧ (STri _ _ _ _ _)); refine And.intro ?_ ?_) | ((first | refine st_reg ?_ | refine buildP_own ?_ | refine appP_own ?_) <;> (simp -dsimp [hk2, hle, h0']; (repeat (simp -dsimp (disch := (first | omega | assumption | (refine Bool.eq_false_iff.1 ?_; assumption))) only [wrap_in, if_pos, if_neg]; (try simp -dsimp [hk2, hle, h0']))))) | ((first | refine guardP_of (fun hc => ?_) (fun hc => ?_) | refine st_cond rfl (fun hc => ?_) (fun hc => ?_)) <;> (try simp only [lqA, lqB, lqC, lqD, lqE, lqF, lqG, lqH, lqI, lqJ, lqK, lqL, lqM, lqN, lqO] at hc) <;> (try (exfalso; first | omega | exact bool_tf hc (by assumption) | exact bool_ft hc (by assumption) | exact absurd (by assumption) hc)) <;> (first | with_reducible show STri _ _ _ _ _ _ | (simp -dsimp [hk2, hle, h0', hc]; (repeat (simp -dsimp (disch := (first | omega | assumption | (refine Bool.eq_false_iff.1 ?_; assumption))) only [wrap_in, if_pos, if_neg]; (try simp -dsimp [hk2, hle, h0', hc]))))))))
      exact ⟨hlt, by simp, none_e_succ hno he, by simp; omega, by simp [hk2]⟩
  · have hle : ¬ s.elo + (k : Int) ≤ s.ehi := by omega
    have hkk : k = (s.ehi + 1 - s.elo).toNat := by omega
    subst hkk
    rw [some_no hno]
    (repeat' (first | ((first | with_reducible refine st_skip ?_ | with_reducible refine st_exit ?_); (try simp only [seqQ, blockQ, loopQ, forQ, whileQ, reduceIte, Nat.reduceEqDiff])) | (with_reducible refine st_ret ?_; ((try simp only [seqQ, blockQ, loopQ, forQ, whileQ]); first | (with_reducible refine retM_ret ?_) | refine retQ_ret ?_; simp [hle])) | refine st_seq ?_ | refine st_block ?_ | ((with_reducible show (STri _ _ _ _ _) ∧ (STri _ _ _ _ _)); refine And.intro ?_ ?_) | ((first | refine st_reg ?_ | refine buildP_own ?_ | refine appP_own ?_) <;> (simp -dsimp [hle]; (repeat (simp -dsimp (disch := (first | omega | assumption | (refine Bool.eq_false_iff.1 ?_; assumption))) only [wrap_in, if_pos, if_neg]; (try simp -dsimp [hle]))))) | ((first | refine guardP_of (fun hc => ?_) (fun hc => ?_) | refine st_cond rfl (fun hc => ?_) (fun hc => ?_)) <;> (try simp only [lqA, lqB, lqC, lqD, lqE, lqF, lqG, lqH, lqI, lqJ, lqK, lqL, lqM, lqN, lqO] at hc) <;> (try (exfalso; first | omega | exact bool_tf hc (by assumption) | exact bool_ft hc (by assumption) | exact absurd (by assumption) hc)) <;> (first | with_reducible show STri _ _ _ _ _ _ | (simp -dsimp [hle, hc]; (repeat (simp -dsimp (disch := (first | omega | assumption | (refine Bool.eq_false_iff.1 ?_; assumption))) only [wrap_in, if_pos, if_neg]; (try simp -dsimp [hle, hc]))))))))
    all_goals exact .refl _
theorem rRight4 (s : Wsrc) (hk4 : s.kind = 4) (t said : Int) (ht : TSm t said s.elo s.ehi) : SC Try.prog 65 [cSr s, I said, I t] (B (refR s t said)) := by
  refine law_turretref08_Right _ _ (by simp) ?_
  have i1 := rIn t 0 3155760000
  have hk1 : ¬ s.kind = 1 := by omega
  unfold refR
  rw [if_neg hk1]
  by_cases hw : within1 0 3155760000 t = true
  case neg =>
    rw [Bool.not_eq_true] at hw
    rw [hw] at i1 ⊢
    (repeat' (first | ((first | with_reducible refine st_skip ?_ | with_reducible refine st_exit ?_); (try simp only [seqQ, blockQ, loopQ, forQ, whileQ, reduceIte, Nat.reduceEqDiff])) | (with_reducible refine st_ret ?_; ((try simp only [seqQ, blockQ, loopQ, forQ, whileQ]); first | (with_reducible refine retM_ret ?_) | refine retQ_ret ?_; simp)) | refine st_seq ?_ | refine st_block ?_ | ((with_reducible show (STri _ _ _ _ _) ∧ (STri _ _ _ _ _)); refine And.intro ?_ ?_) | ((first | refine st_reg ?_ | refine buildP_own ?_ | refine appP_own ?_ | refine callP_b (i1) rfl ?_) <;> (simp -dsimp; (repeat (simp -dsimp (disch := (first | omega | assumption | (refine Bool.eq_false_iff.1 ?_; assumption))) only [wrap_in, if_pos, if_neg]; (try simp -dsimp))))) | ((first | refine guardP_of (fun hc => ?_) (fun hc => ?_) | refine st_cond rfl (fun hc => ?_) (fun hc => ?_)) <;> (try simp only [lqA, lqB, lqC, lqD, lqE, lqF, lqG, lqH, lqI, lqJ, lqK, lqL, lqM, lqN, lqO] at hc) <;> (try (exfalso; first | omega | exact bool_tf hc (by assumption) | exact bool_ft hc (by assumption) | exact absurd (by assumption) hc)) <;> (first | with_reducible show STri _ _ _ _ _ _ | (simp -dsimp [hc]; (repeat (simp -dsimp (disch := (first | omega | assumption | (refine Bool.eq_false_iff.1 ?_; assumption))) only [wrap_in, if_pos, if_neg]; (try simp -dsimp [hc]))))))))
    all_goals exact .refl _
  rw [hw] at i1 ⊢
  rw [Bool.true_and]
  obtain ⟨t0, t1, s0, s1, l0, l1, e0, e1⟩ := ht
  (repeat' (first | ((first | with_reducible refine st_skip ?_ | with_reducible refine st_exit ?_); (try simp only [seqQ, blockQ, loopQ, forQ, whileQ, reduceIte, Nat.reduceEqDiff])) | (with_reducible refine st_ret ?_; ((try simp only [seqQ, blockQ, loopQ, forQ, whileQ]); first | (with_reducible refine retM_ret ?_) | refine retQ_ret ?_; simp [hk1])) | refine st_seq ?_ | refine st_block ?_ | ((with_reducible show (STri _ _ _ _ _) ∧ (STri _ _ _ _ _)); refine And.intro ?_ ?_) | ((first | refine st_reg ?_ | refine buildP_own ?_ | refine appP_own ?_ | refine callP_b (i1) rfl ?_) <;> (simp -dsimp [hk1]; (repeat (simp -dsimp (disch := (first | omega | assumption | (refine Bool.eq_false_iff.1 ?_; assumption))) only [wrap_in, if_pos, if_neg]; (try simp -dsimp [hk1]))))) | ((first | refine guardP_of (fun hc => ?_) (fun hc => ?_) | refine st_cond rfl (fun hc => ?_) (fun hc => ?_)) <;> (try simp only [lqA, lqB, lqC, lqD, lqE, lqF, lqG, lqH, lqI, lqJ, lqK, lqL, lqM, lqN, lqO] at hc) <;> (try (exfalso; first | omega | exact bool_tf hc (by assumption) | exact bool_ft hc (by assumption) | exact absurd (by assumption) hc)) <;> (first | with_reducible show STri _ _ _ _ _ _ | (simp -dsimp [hk1, hc]; (repeat (simp -dsimp (disch := (first | omega | assumption | (refine Bool.eq_false_iff.1 ?_; assumption))) only [wrap_in, if_pos, if_neg]; (try simp -dsimp [hk1, hc]))))))))
  refine st_for [3] (s.ehi + 1 - s.elo).toNat (fun k T H => NoErr s t said k ∧ T = [(1, .c (I said)), (2, .c (I t)), (3, .ptr 3 0), (8, .c (I s.ehi)), (9, .c (I (s.elo + k)))] ∧ H = [(3, .box 79 ((rowSr s).map .c))]) (by simp) ⟨fun i hi => by omega, by simp, by simp⟩ ?_
  rintro k T H hk ⟨hno, rfl, rfl⟩
  by_cases hlt : k < (s.ehi + 1 - s.elo).toNat
  · have hle : s.elo + (k : Int) ≤ s.ehi := by omega
    have he : errE s t said (s.elo + (k : Nat)) = decide (t = said + (s.elo + (k : Nat))) := by unfold errE; rw [if_neg (by omega), if_neg (by omega)]
    (repeat' (first | ((first | with_reducible refine st_skip ?_ | with_reducible refine st_exit ?_); (try simp only [seqQ, blockQ, loopQ, forQ, whileQ, reduceIte, Nat.reduceEqDiff])) | (with_reducible refine st_ret ?_; ((try simp only [seqQ, blockQ, loopQ, forQ, whileQ]); first | (with_reducible refine retM_ret ?_) | refine retQ_ret ?_; simp [hk4, hle])) | refine st_seq ?_ | refine st_block ?_ | ((with_reducible show (STri _ _ _ _ _) ∧ (STri _ _ _ _ _)); refine And.intro ?_ ?_) | ((first | refine st_reg ?_ | refine buildP_own ?_ | refine appP_own ?_) <;> (simp -dsimp [hk4, hle]; (repeat (simp -dsimp (disch := (first | omega | assumption | (refine Bool.eq_false_iff.1 ?_; assumption))) only [wrap_in, if_pos, if_neg]; (try simp -dsimp [hk4, hle]))))) | ((first | refine guardP_of (fun hc => ?_) (fun hc => ?_) | refine st_cond rfl (fun hc => ?_) (fun hc => ?_)) <;> (try simp only [lqA, lqB, lqC, lqD, lqE, lqF, lqG, lqH, lqI, lqJ, lqK, lqL, lqM, lqN, lqO] at hc) <;> (try (exfalso; first | omega | exact bool_tf hc (by assumption) | exact bool_ft hc (by assumption) | exact absurd (by assumption) hc)) <;> (first | with_reducible show STri _ _ _ _ _ _ | (simp -dsimp [hk4, hle, hc]; (repeat (simp -dsimp (disch := (first | omega | assumption | (refine Bool.eq_false_iff.1 ?_; assumption))) only [wrap_in, if_pos, if_neg]; (try simp -dsimp [hk4, hle, hc]))))))))
    · rw [some_yes hle (by rw [he]; exact decide_eq_true hc)]
      exact .refl _
    · exact ⟨hlt, by simp, none_e_succ hno (by rw [he]; exact decide_eq_false hc), by simp; omega, by simp [hk4]⟩
  · have hle : ¬ s.elo + (k : Int) ≤ s.ehi := by omega
    have hkk : k = (s.ehi + 1 - s.elo).toNat := by omega
    subst hkk
    rw [some_no hno]
    (repeat' (first | ((first | with_reducible refine st_skip ?_ | with_reducible refine st_exit ?_); (try simp only [seqQ, blockQ, loopQ, forQ, whileQ, reduceIte, Nat.reduceEqDiff])) | (with_reducible refine st_ret ?_; ((try simp only [seqQ, blockQ, loopQ, forQ, whileQ]); first | (with_reducible refine retM_ret ?_) | refine retQ_ret ?_; simp [hle])) | refine st_seq ?_ | refine st_block ?_ | ((with_reducible show (STri _ _ _ _ _) ∧ (STri _ _ _ _ _)); refine And.intro ?_ ?_) | ((first | refine st_reg ?_ | refine buildP_own ?_ | refine appP_own ?_) <;> (simp -dsimp [hle]; (repeat (simp -dsimp (disch := (first | omega | assumption | (refine Bool.eq_false_iff.1 ?_; assumption))) only [wrap_in, if_pos, if_neg]; (try simp -dsimp [hle]))))) | ((first | refine guardP_of (fun hc => ?_) (fun hc => ?_) | refine st_cond rfl (fun hc => ?_) (fun hc => ?_)) <;> (try simp only [lqA, lqB, lqC, lqD, lqE, lqF, lqG, lqH, lqI, lqJ, lqK, lqL, lqM, lqN, lqO] at hc) <;> (try (exfalso; first | omega | exact bool_tf hc (by assumption) | exact bool_ft hc (by assumption) | exact absurd (by assumption) hc)) <;> (first | with_reducible show STri _ _ _ _ _ _ | (simp -dsimp [hle, hc]; (repeat (simp -dsimp (disch := (first | omega | assumption | (refine Bool.eq_false_iff.1 ?_; assumption))) only [wrap_in, if_pos, if_neg]; (try simp -dsimp [hle, hc]))))))))
    all_goals exact .refl _
def NoDay (s : Wsrc) (d0 x : Int) (k : Nat) : Prop := ∀ i, i < k → ¬ noonI s (d0 + (i : Nat)) = x
theorem rRight3 (s : Wsrc) (hk3 : s.kind = 3) (hu : sunV s = true) (t said : Int) (ht : TSm t said s.elo s.ehi) : SC Try.prog 65 [cSr s, I said, I t] (B (refR s t said)) := by
  refine law_turretref08_Right _ _ (by simp) ?_
  have i1 := rIn t 0 3155760000
  have hk1 : ¬ s.kind = 1 := by omega
  unfold refR
  rw [if_neg hk1]
  by_cases hw : within1 0 3155760000 t = true
  case neg =>
    rw [Bool.not_eq_true] at hw
    rw [hw] at i1 ⊢
    (repeat' (first | ((first | with_reducible refine st_skip ?_ | with_reducible refine st_exit ?_); (try simp only [seqQ, blockQ, loopQ, forQ, whileQ, reduceIte, Nat.reduceEqDiff])) | (with_reducible refine st_ret ?_; ((try simp only [seqQ, blockQ, loopQ, forQ, whileQ]); first | (with_reducible refine retM_ret ?_) | refine retQ_ret ?_; simp)) | refine st_seq ?_ | refine st_block ?_ | ((with_reducible show (STri _ _ _ _ _) ∧ (STri _ _ _ _ _)); refine And.intro ?_ ?_) | ((first | refine st_reg ?_ | refine buildP_own ?_ | refine appP_own ?_ | refine callP_b (i1) rfl ?_) <;> (simp -dsimp; (repeat (simp -dsimp (disch := (first | omega | assumption | (refine Bool.eq_false_iff.1 ?_; assumption))) only [wrap_in, if_pos, if_neg]; (try simp -dsimp))))) | ((first | refine guardP_of (fun hc => ?_) (fun hc => ?_) | refine st_cond rfl (fun hc => ?_) (fun hc => ?_)) <;> (try simp only [lqA, lqB, lqC, lqD, lqE, lqF, lqG, lqH, lqI, lqJ, lqK, lqL, lqM, lqN, lqO] at hc) <;> (try (exfalso; first | omega | exact bool_tf hc (by assumption) | exact bool_ft hc (by assumption) | exact absurd (by assumption) hc)) <;> (first | with_reducible show STri _ _ _ _ _ _ | (simp -dsimp [hc]; (repeat (simp -dsimp (disch := (first | omega | assumption | (refine Bool.eq_false_iff.1 ?_; assumption))) only [wrap_in, if_pos, if_neg]; (try simp -dsimp [hc]))))))))
    all_goals exact .refl _
  rw [hw] at i1 ⊢
  rw [Bool.true_and]
  obtain ⟨l1', l2', l3'⟩ := sunV_is hu
  obtain ⟨t0, t1, s0, s1, l0, l1, e0, e1⟩ := ht
  have hle0 : ¬ (s.table.length : Int) = 0 := by omega
  have hne2 : ¬ s.table = [] := fun e => by rw [e] at l1'; simp at l1'
  (repeat' (first | ((first | with_reducible refine st_skip ?_ | with_reducible refine st_exit ?_); (try simp only [seqQ, blockQ, loopQ, forQ, whileQ, reduceIte, Nat.reduceEqDiff])) | (with_reducible refine st_ret ?_; ((try simp only [seqQ, blockQ, loopQ, forQ, whileQ]); first | (with_reducible refine retM_ret ?_) | refine retQ_ret ?_; simp [hk1])) | refine st_seq ?_ | refine st_block ?_ | ((with_reducible show (STri _ _ _ _ _) ∧ (STri _ _ _ _ _)); refine And.intro ?_ ?_) | ((first | refine st_reg ?_ | refine buildP_own ?_ | refine appP_own ?_ | refine callP_b (i1) rfl ?_) <;> (simp -dsimp [hk1]; (repeat (simp -dsimp (disch := (first | omega | assumption | (refine Bool.eq_false_iff.1 ?_; assumption))) only [wrap_in, if_pos, if_neg]; (try simp -dsimp [hk1]))))) | ((first | refine guardP_of (fun hc => ?_) (fun hc => ?_) | refine st_cond rfl (fun hc => ?_) (fun hc => ?_)) <;> (try simp only [lqA, lqB, lqC, lqD, lqE, lqF, lqG, lqH, lqI, lqJ, lqK, lqL, lqM, lqN, lqO] at hc) <;> (try (exfalso; first | omega | exact bool_tf hc (by assumption) | exact bool_ft hc (by assumption) | exact absurd (by assumption) hc)) <;> (first | with_reducible show STri _ _ _ _ _ _ | (simp -dsimp [hk1, hc]; (repeat (simp -dsimp (disch := (first | omega | assumption | (refine Bool.eq_false_iff.1 ?_; assumption))) only [wrap_in, if_pos, if_neg]; (try simp -dsimp [hk1, hc]))))))))
  refine st_for [3] (s.ehi + 1 - s.elo).toNat (fun k T H => NoErr s t said k ∧ T = [(1, .c (I said)), (2, .c (I t)), (3, .ptr 3 0), (8, .c (I s.ehi)), (9, .c (I (s.elo + k)))] ∧ H = [(3, .box 79 ((rowSr s).map .c))]) (by simp) ⟨fun i hi => by omega, by simp, by simp⟩ ?_
  rintro k T H hk ⟨hno, rfl, rfl⟩
  by_cases hlt : k < (s.ehi + 1 - s.elo).toNat
  · have hle : s.elo + (k : Int) ≤ s.ehi := by omega
    obtain ⟨x, hx⟩ : ∃ x, t - (s.elo + (k : Int)) = x := ⟨_, rfl⟩
    obtain ⟨q, hq⟩ : ∃ q, x.tdiv 86400 = q := ⟨_, rfl⟩
    have hqb := Int.natAbs_tdiv_le_natAbs x 86400
    rw [hq] at hqb
    obtain ⟨d0, hd0⟩ : ∃ d0, max 0 (q - 1) = d0 := ⟨_, rfl⟩
    obtain ⟨d1, hd1⟩ : ∃ d1, max 0 (q + 1) = d1 := ⟨_, rfl⟩
    have hm0 : (if 1 < q then q - 1 else 0) = d0 := by rw [← hd0]; split <;> omega
    have hm1 : (if 0 < q + 1 then q + 1 else 0) = d1 := by rw [← hd1]; split <;> omega
    have hq2 : q ≤ 200000 ∧ -200000 ≤ q := by
      have := @Int.tdiv_eq_ediv x 86400
      rw [hq] at this
      split at this
      · omega
      · have h86 : (86400 : Int).sign = 1 := rfl
        rw [h86] at this; omega
    have he : errE s t said (s.elo + (k : Nat)) = (List.range (d1 + 1 - d0).toNat).any fun (i : Nat) => decide (noonI s (d0 + i) = x) := by
      unfold errE
      rw [if_neg (by omega), if_pos hk3]
      rw [hx, hq, hd0, hd1]
    have hdb : 0 ≤ d0 ∧ d0 ≤ 300000 ∧ 0 ≤ d1 ∧ d1 ≤ 300000 := by omega
    (repeat' (first | ((first | with_reducible refine st_skip ?_ | with_reducible refine st_exit ?_); (try simp only [seqQ, blockQ, loopQ, forQ, whileQ, reduceIte, Nat.reduceEqDiff])) | (with_reducible refine st_ret ?_; ((try simp only [seqQ, blockQ, loopQ, forQ, whileQ]); first | (with_reducible refine retM_ret ?_) | refine retQ_ret ?_; simp [hk3, hle, hx, hq, hm0, hm1])) | refine st_seq ?_ | refine st_block ?_ | ((with_reducible show (STri _ _ _ _ _) ∧ (STri _ _ _ _ _)); refine And.intro ?_ ?_) | ((first | refine st_reg ?_ | refine buildP_own ?_ | refine appP_own ?_) <;> (simp -dsimp [hk3, hle, hx, hq, hm0, hm1]; (repeat (simp -dsimp (disch := (first | omega | assumption | (refine Bool.eq_false_iff.1 ?_; assumption))) only [wrap_in, if_pos, if_neg]; (try simp -dsimp [hk3, hle, hx, hq, hm0, hm1]))))) | ((first | refine guardP_of (fun hc => ?_) (fun hc => ?_) | refine st_cond rfl (fun hc => ?_) (fun hc => ?_)) <;> (try simp only [lqA, lqB, lqC, lqD, lqE, lqF, lqG, lqH, lqI, lqJ, lqK, lqL, lqM, lqN, lqO] at hc) <;> (try (exfalso; first | omega | exact bool_tf hc (by assumption) | exact bool_ft hc (by assumption) | exact absurd (by assumption) hc)) <;> (first | with_reducible show STri _ _ _ _ _ _ | (simp -dsimp [hk3, hle, hx, hq, hm0, hm1, hc]; (repeat (simp -dsimp (disch := (first | omega | assumption | (refine Bool.eq_false_iff.1 ?_; assumption))) only [wrap_in, if_pos, if_neg]; (try simp -dsimp [hk3, hle, hx, hq, hm0, hm1, hc]))))))))
    refine st_for [3] (d1 + 1 - d0).toNat (fun i T H => NoDay s d0 x i ∧ T = [(1, .c (I said)), (2, .c (I t)), (3, .ptr 3 0), (8, .c (I s.ehi)), (9, .c (I (s.elo + k))), (11, .c (I (d0 + i)))] ∧ H = [(3, .box 79 [.c (I 3), .c (I s.elo), .c (I s.ehi), .c (I s.at'), .c (I s.dlo), .c (I s.dhi), .c (I s.every), .c (slI s.table)])]) (by simp) ⟨fun i hi => by omega, by simp, by simp⟩ ?_
    rintro i T H hi ⟨hnd, rfl, rfl⟩
    by_cases hlt2 : i < (d1 + 1 - d0).toNat
    · have hle2 : d0 + (i : Int) ≤ d1 := by omega
      have hm : (d0 + (i : Int)).tmod s.table.length = (d0 + (i : Int)) % s.table.length := Int.tmod_eq_emod_of_nonneg (by omega)
      have hj0 := Int.emod_nonneg (d0 + (i : Int)) hle0
      have hj1 := Int.emod_lt_of_pos (d0 + (i : Int)) (show (0 : Int) < s.table.length by omega)
      obtain ⟨j, hj⟩ : ∃ j, (d0 + (i : Int)) % s.table.length = j := ⟨_, rfl⟩
      rw [hj] at hm hj0 hj1
      have hjl : j.toNat < s.table.length := by omega
      have hno2 : noonI s (d0 + (i : Nat)) = (d0 + (i : Int)) * 86400 + s.table[j.toNat]'hjl := by
        unfold noonI
        rw [hj]
        simp [hjl]
      have htb := l3' _ (List.getElem_mem hjl)
      (repeat' (first | ((first | with_reducible refine st_skip ?_ | with_reducible refine st_exit ?_); (try simp only [seqQ, blockQ, loopQ, forQ, whileQ, reduceIte, Nat.reduceEqDiff])) | (with_reducible refine st_ret ?_; ((try simp only [seqQ, blockQ, loopQ, forQ, whileQ]); first | (with_reducible refine retM_ret ?_) | refine retQ_ret ?_; simp [hle2, hx, hq, hm1, hm, hle0, hne2, hj0, hjl])) | refine st_seq ?_ | refine st_block ?_ | ((with_reducible show (STri _ _ _ _ _) ∧ (STri _ _ _ _ _)); refine And.intro ?_ ?_) | ((first | refine st_reg ?_ | refine buildP_own ?_ | refine appP_own ?_) <;> (simp -dsimp [hle2, hx, hq, hm1, hm, hle0, hne2, hj0, hjl]; (repeat (simp -dsimp (disch := (first | omega | assumption | (refine Bool.eq_false_iff.1 ?_; assumption))) only [wrap_in, if_pos, if_neg]; (try simp -dsimp [hle2, hx, hq, hm1, hm, hle0, hne2, hj0, hjl]))))) | ((first | refine guardP_of (fun hc => ?_) (fun hc => ?_) | refine st_cond rfl (fun hc => ?_) (fun hc => ?_)) <;> (try simp only [lqA, lqB, lqC, lqD, lqE, lqF, lqG, lqH, lqI, lqJ, lqK, lqL, lqM, lqN, lqO] at hc) <;> (try (exfalso; first | omega | exact bool_tf hc (by assumption) | exact bool_ft hc (by assumption) | exact absurd (by assumption) hc)) <;> (first | with_reducible show STri _ _ _ _ _ _ | (simp -dsimp [hle2, hx, hq, hm1, hm, hle0, hne2, hj0, hjl, hc]; (repeat (simp -dsimp (disch := (first | omega | assumption | (refine Bool.eq_false_iff.1 ?_; assumption))) only [wrap_in, if_pos, if_neg]; (try simp -dsimp [hle2, hx, hq, hm1, hm, hle0, hne2, hj0, hjl, hc]))))))))
      · have hyes : errE s t said (s.elo + (k : Nat)) = true := by
          rw [he, List.any_eq_true]
          exact ⟨i, List.mem_range.2 hlt2, by rw [decide_eq_true_eq, hno2]; exact hc⟩
        rw [some_yes hle hyes]
        exact .refl _
      · refine ⟨hlt2, by simp, fun i' hi' => ?_, by simp; omega, by simp⟩
        by_cases hii : i' = i
        · subst hii; rw [hno2]; exact hc
        · exact hnd i' (by omega)
    · have hle2 : ¬ d0 + (i : Int) ≤ d1 := by omega
      have hid : i = (d1 + 1 - d0).toNat := by omega
      subst hid
      have hno3 : errE s t said (s.elo + (k : Nat)) = false := by
        rw [he, List.any_eq_false]
        intro i' hi'
        rw [decide_eq_true_eq]
        exact hnd i' (List.mem_range.1 hi')
      (repeat' (first | ((first | with_reducible refine st_skip ?_ | with_reducible refine st_exit ?_); (try simp only [seqQ, blockQ, loopQ, forQ, whileQ, reduceIte, Nat.reduceEqDiff])) | (with_reducible refine st_ret ?_; ((try simp only [seqQ, blockQ, loopQ, forQ, whileQ]); first | (with_reducible refine retM_ret ?_) | refine retQ_ret ?_; simp [hle2, hx, hq, hm1])) | refine st_seq ?_ | refine st_block ?_ | ((with_reducible show (STri _ _ _ _ _) ∧ (STri _ _ _ _ _)); refine And.intro ?_ ?_) | ((first | refine st_reg ?_ | refine buildP_own ?_ | refine appP_own ?_) <;> (simp -dsimp [hle2, hx, hq, hm1]; (repeat (simp -dsimp (disch := (first | omega | assumption | (refine Bool.eq_false_iff.1 ?_; assumption))) only [wrap_in, if_pos, if_neg]; (try simp -dsimp [hle2, hx, hq, hm1]))))) | ((first | refine guardP_of (fun hc => ?_) (fun hc => ?_) | refine st_cond rfl (fun hc => ?_) (fun hc => ?_)) <;> (try simp only [lqA, lqB, lqC, lqD, lqE, lqF, lqG, lqH, lqI, lqJ, lqK, lqL, lqM, lqN, lqO] at hc) <;> (try (exfalso; first | omega | exact bool_tf hc (by assumption) | exact bool_ft hc (by assumption) | exact absurd (by assumption) hc)) <;> (first | with_reducible show STri _ _ _ _ _ _ | (simp -dsimp [hle2, hx, hq, hm1, hc]; (repeat (simp -dsimp (disch := (first | omega | assumption | (refine Bool.eq_false_iff.1 ?_; assumption))) only [wrap_in, if_pos, if_neg]; (try simp -dsimp [hle2, hx, hq, hm1, hc]))))))))
      exact ⟨hlt, by simp, none_e_succ hno hno3, by simp; omega, by simp [hk3]⟩
  · have hle : ¬ s.elo + (k : Int) ≤ s.ehi := by omega
    have hkk : k = (s.ehi + 1 - s.elo).toNat := by omega
    subst hkk
    rw [some_no hno]
    (repeat' (first | ((first | with_reducible refine st_skip ?_ | with_reducible refine st_exit ?_); (try simp only [seqQ, blockQ, loopQ, forQ, whileQ, reduceIte, Nat.reduceEqDiff])) | (with_reducible refine st_ret ?_; ((try simp only [seqQ, blockQ, loopQ, forQ, whileQ]); first | (with_reducible refine retM_ret ?_) | refine retQ_ret ?_; simp [hle])) | refine st_seq ?_ | refine st_block ?_ | ((with_reducible show (STri _ _ _ _ _) ∧ (STri _ _ _ _ _)); refine And.intro ?_ ?_) | ((first | refine st_reg ?_ | refine buildP_own ?_ | refine appP_own ?_) <;> (simp -dsimp [hle]; (repeat (simp -dsimp (disch := (first | omega | assumption | (refine Bool.eq_false_iff.1 ?_; assumption))) only [wrap_in, if_pos, if_neg]; (try simp -dsimp [hle]))))) | ((first | refine guardP_of (fun hc => ?_) (fun hc => ?_) | refine st_cond rfl (fun hc => ?_) (fun hc => ?_)) <;> (try simp only [lqA, lqB, lqC, lqD, lqE, lqF, lqG, lqH, lqI, lqJ, lqK, lqL, lqM, lqN, lqO] at hc) <;> (try (exfalso; first | omega | exact bool_tf hc (by assumption) | exact bool_ft hc (by assumption) | exact absurd (by assumption) hc)) <;> (first | with_reducible show STri _ _ _ _ _ _ | (simp -dsimp [hle, hc]; (repeat (simp -dsimp (disch := (first | omega | assumption | (refine Bool.eq_false_iff.1 ?_; assumption))) only [wrap_in, if_pos, if_neg]; (try simp -dsimp [hle, hc]))))))))
    all_goals exact .refl _
end Go.Proofs.Ytakdmliblijgmaa
/- Wire, reference III: trying each error comes to the same. -/
namespace Go.Proofs.Ytakdmliblijgmaa
open Go.RowKit
theorem up_le {n b m : Int} (hb : 0 < b) : upI n b ≤ m ↔ n ≤ m * b := by
  unfold upI
  have h := Int.le_ediv_iff_mul_le (a := -m) (b := -n) hb
  rw [Int.neg_mul] at h
  constructor
  · intro h1
    have := h.1 (by omega)
    omega
  · intro h1
    have := h.2 (by omega)
    omega
theorem some_iff {s : Wsrc} {t said : Int} : someE s t said = true ↔ ∃ e, s.elo ≤ e ∧ e ≤ s.ehi ∧ errE s t said e = true := by
  unfold someE
  rw [List.any_eq_true]
  constructor
  · rintro ⟨k, hk, h⟩
    have := List.mem_range.1 hk
    exact ⟨s.elo + k, by omega, by omega, h⟩
  · rintro ⟨e, h1, h2, h⟩
    refine ⟨(e - s.elo).toNat, List.mem_range.2 (by omega), ?_⟩
    have : s.elo + ((e - s.elo).toNat : Int) = e := by omega
    rw [this]; exact h
theorem noon_is {s : Wsrc} (hu : sunV s = true) (d : Int) : ∃ x, noonI s d = d * 86400 + x ∧ -3600 ≤ x ∧ x ≤ 3600 := by
  obtain ⟨l1, l2, l3⟩ := sunV_is hu
  refine ⟨_, rfl, ?_⟩
  rw [List.getD_eq_getElem?_getD]
  cases h : s.table[(d % s.table.length).toNat]? with
  | none => simp
  | some x => simpa using l3 x (List.mem_of_getElem? h)
theorem ref_right (s : Wsrc) (hk : kindOK s.kind = true) (hu : useV s = true) (b0 : -20000 ≤ s.elo) (b1 : s.elo ≤ 20000) (b2 : -20000 ≤ s.ehi) (b3 : s.ehi ≤ 20000) (t said : Int) : refR s t said = (within1 0 3155760000 t && rightB s t said s.elo s.ehi) := by
  unfold refR
  by_cases hw : within1 0 3155760000 t = true
  case neg => rw [Bool.not_eq_true] at hw; rw [hw]; rfl
  rw [hw, Bool.true_and, Bool.true_and]
  have ht : 0 ≤ t ∧ t ≤ 3155760000 := by unfold within1 at hw; simp at hw; exact hw
  unfold rightB
  unfold useV at hu
  rcases kind_cases hk with hq | hq | hq | hq
  · rw [if_pos hq, if_pos hq]
  · simp only [hq, Int.reduceEq, if_true, if_false] at hu ⊢
    obtain ⟨g1, g2, g3, g4⟩ := eventV_is hu
    rw [Bool.eq_iff_iff, some_iff]
    unfold eventR errE
    simp only [hq, if_true, Bool.and_eq_true, decide_eq_true_eq]
    constructor
    · rintro ⟨e, h1, h2, h3, h4⟩
      have h5 := Int.emod_add_mul_ediv (t - e - s.at') s.every
      rw [h4, Int.zero_add, Int.mul_comm] at h5
      have h6 : 0 ≤ (t - e - s.at') / s.every := Int.ediv_nonneg h3 (by omega)
      have h7 := (up_le (n := t - s.at' - s.ehi) (m := (t - e - s.at') / s.every) (b := s.every) (by omega)).2 (by omega)
      have h8 := (Int.le_ediv_iff_mul_le (a := (t - e - s.at') / s.every) (b := t - s.at' - s.elo) (c := s.every) (by omega)).2 (by omega)
      omega
    · intro h
      obtain ⟨m, hm⟩ : ∃ m, max 0 (upI (t - s.at' - s.ehi) s.every) = m := ⟨_, rfl⟩
      rw [hm] at h
      have h1 := (up_le (n := t - s.at' - s.ehi) (m := m) (b := s.every) (by omega)).1 (by omega)
      have h2 := (Int.le_ediv_iff_mul_le (a := m) (b := t - s.at' - s.elo) (c := s.every) (by omega)).1 h
      have h3 : 0 ≤ m * s.every := Int.mul_nonneg (by omega) (by omega)
      have e1 : t - (t - s.at' - m * s.every) - s.at' = m * s.every := by omega
      refine ⟨t - s.at' - m * s.every, by omega, by omega, by omega, ?_⟩
      rw [e1, Int.mul_emod_left]
  · simp only [hq, Int.reduceEq, if_true, if_false] at hu ⊢
    rw [Bool.eq_iff_iff, some_iff]
    unfold sunR errE dayL dayN dayLo
    simp only [hq, Int.reduceEq, if_true, if_false, List.any_map, List.any_eq_true, Function.comp_def, decide_eq_true_eq, within1, Bool.and_eq_true]
    constructor
    · rintro ⟨e, h1, h2, i, hi, h3⟩
      have hi := List.mem_range.1 hi
      obtain ⟨q, hq2⟩ : ∃ q, (t - e).tdiv 86400 = q := ⟨_, rfl⟩
      rw [hq2] at hi h3
      obtain ⟨d, hd⟩ : ∃ d, max 0 (q - 1) + (i : Int) = d := ⟨_, rfl⟩
      rw [hd] at h3
      obtain ⟨x, hx, x0, x1⟩ := noon_is hu d
      rw [hx] at h3
      obtain ⟨d0, hd0⟩ : ∃ d0, max 0 (t / 86400 - 1) = d0 := ⟨_, rfl⟩
      rw [hd0]
      have e2 : d0 + ((d - d0).toNat : Int) = d := by omega
      refine ⟨(d - d0).toNat, List.mem_range.2 (by omega), ?_⟩
      rw [e2, hx]
      omega
    · rintro ⟨i, hi, h1, h2⟩
      have hi := List.mem_range.1 hi
      obtain ⟨d, hd⟩ : ∃ d, max 0 (t / 86400 - 1) + (i : Int) = d := ⟨_, rfl⟩
      rw [hd] at h1 h2
      obtain ⟨x, hx, x0, x1⟩ := noon_is hu d
      obtain ⟨q, hq2⟩ : ∃ q, (noonI s d).tdiv 86400 = q := ⟨_, rfl⟩
      have e1 : t - (t - noonI s d) = noonI s d := by omega
      obtain ⟨d0, hd0⟩ : ∃ d0, max 0 (q - 1) = d0 := ⟨_, rfl⟩
      have hqv : q = noonI s d / 86400 ∨ (q = 0 ∧ d = 0) := by
        by_cases hn : 0 ≤ noonI s d
        · left; rw [← hq2]; exact Int.tdiv_eq_ediv_of_nonneg hn
        · right
          have hd2 : d = 0 := by omega
          refine ⟨?_, hd2⟩
          rw [← hq2]
          have h9 := @Int.tdiv_eq_ediv (noonI s d) 86400
          have h86 : (86400 : Int).sign = 1 := rfl
          rw [h86] at h9
          split at h9 <;> omega
      have e2 : d0 + ((d - d0).toNat : Int) = d := by omega
      refine ⟨t - noonI s d, h1, h2, ?_⟩
      rw [e1, hq2, hd0]
      refine ⟨(d - d0).toNat, List.mem_range.2 (by omega), ?_⟩
      rw [e2]
  · simp only [hq, Int.reduceEq, if_true, if_false] at hu ⊢
    rw [Bool.eq_iff_iff, some_iff]
    unfold signalR errE within1
    simp only [hq, Int.reduceEq, if_false, Bool.and_eq_true, decide_eq_true_eq]
    constructor
    · rintro ⟨e, h1, h2, h3⟩; omega
    · intro h; exact ⟨t - said, h.1, h.2, by omega⟩
theorem rRight (s : Wsrc) (hk : kindOK s.kind = true) (hu : useV s = true) (b0 : -20000 ≤ s.elo) (b1 : s.elo ≤ 20000) (b2 : -20000 ≤ s.ehi) (b3 : s.ehi ≤ 20000) (t said : Int) (t0 : -10000000000 ≤ t) (t1 : t ≤ 10000000000) (s0 : -10000000000 ≤ said) (s1 : said ≤ 10000000000) :
    SC Try.prog 65 [cSr s, I said, I t] (B (within1 0 3155760000 t && rightB s t said s.elo s.ehi)) := by
  rw [← ref_right s hk hu b0 b1 b2 b3]
  have ht : TSm t said s.elo s.ehi := ⟨t0, t1, s0, s1, by omega, by omega, by omega, by omega⟩
  unfold useV at hu
  rcases kind_cases hk with hq | hq | hq | hq
  · rw [if_pos hq] at hu; exact rRight1 s hq hu t said ht
  · rw [if_neg (by omega), if_pos hq] at hu; exact rRight2 s hq hu t said ht
  · rw [if_neg (by omega), if_neg (by omega), if_pos hq] at hu; exact rRight3 s hq hu t said ht
  · exact rRight4 s hq t said ht
end Go.Proofs.Ytakdmliblijgmaa
/- Wire, reference IV: which sources are wrong. -/
namespace Go.Proofs.Ytakdmliblijgmaa
open Go.RowKit
structure RefOK (b : Wbk) : Prop where
  len : b.srcs.length ≤ 10
  one : 1 ≤ b.srcs.length
  el : b.errs = b.srcs.map errOf
  va : ∀ s ∈ b.srcs, kindOK s.kind = true ∧ useV s = true ∧ -20000 ≤ s.elo ∧ s.elo ≤ 20000 ∧ -20000 ≤ s.ehi ∧ s.ehi ≤ 20000
  nl : b.notes.length ≤ 60
  no : ∀ n ∈ b.notes, 0 ≤ n.src ∧ n.src < b.srcs.length ∧ 0 ≤ n.tick ∧ n.tick ≤ 3155760000 ∧ 0 ≤ n.said ∧ n.said ≤ 3155760000
  n0 : -7200 ≤ b.nlo
  n1 : b.nlo ≤ b.nhi
  n2 : b.nhi ≤ 7200
def rowB (x : Bool) : List CV := [B x]
def slB (l : List Bool) : CV := .sl 1 (l.map rowB)
attribute [simp] rowB slB
def badTo (b : Wbk) (y : Int) (k : Nat) : List Bool := (List.range b.srcs.length).map fun i => wrongB b y k i
def badL (b : Wbk) (y : Int) : List Bool := badTo b y b.notes.length
theorem badTo_get {b : Wbk} {y : Int} {k i : Nat} (h : i < b.srcs.length) : (badTo b y k)[i]? = some (wrongB b y k i) := by simp [badTo, h]
theorem badTo_len (b : Wbk) (y : Int) (k : Nat) : (badTo b y k).length = b.srcs.length := by simp [badTo]
theorem badTo_succ {b : Wbk} {y : Int} {k : Nat} (hlt : k < b.notes.length) : badTo b y (k + 1) = (badTo b y k).set (b.notes[k]).src.toNat (wrongB b y k (b.notes[k]).src.toNat || !rightN b b.notes[k] y) := by
  apply List.ext_getElem?
  intro i
  rw [List.getElem?_set]
  have e : wrongB b y (k + 1) i = (wrongB b y k i || (decide ((b.notes[k]).src.toNat = i) && !rightN b b.notes[k] y)) := by
    unfold wrongB
    rw [List.take_succ_eq_append_getElem hlt, List.any_append]
    simp
  by_cases hi : i < b.srcs.length
  · rw [badTo_get hi, badTo_get hi, badTo_len, e]
    by_cases h : (b.notes[k]).src.toNat = i
    · rw [if_pos h, if_pos (by omega)]
      simp [h]
    · rw [if_neg h]; simp [h]
  · rw [List.getElem?_eq_none (by rw [badTo_len]; omega), List.getElem?_eq_none (by rw [badTo_len]; omega), badTo_len]
    split
    · split
      · omega
      · rfl
    · rfl
theorem ref_at {b : Wbk} (hb : RefOK b) {n : Wnt} (hn : n ∈ b.notes) {y : Int} (y0 : -7200 ≤ y) (y1 : y ≤ 7200) : ∃ h : n.src.toNat < b.srcs.length, SC Try.prog 65 [cSr (b.srcs[n.src.toNat]), I n.said, I (n.tick + y)] (B (rightN b n y)) := by
  obtain ⟨n1, n2, n3, n4, n5, n6⟩ := hb.no n hn
  have hs : n.src.toNat < b.srcs.length := by omega
  refine ⟨hs, ?_⟩
  obtain ⟨v1, v2, v3, v4, v5, v6⟩ := hb.va _ (List.getElem_mem hs)
  have h := rRight (b.srcs[n.src.toNat]) v1 v2 v3 v4 v5 v6 (n.tick + y) n.said (by omega) (by omega) (by omega) (by omega)
  have e1 : b.srcs.getD n.src.toNat noSrc = b.srcs[n.src.toNat] := by simp [hs]
  have e2 : b.errs.getD n.src.toNat (0, 0) = errOf (b.srcs[n.src.toNat]) := by rw [hb.el]; simp [hs]
  unfold rightN
  rw [e1, e2]
  exact h
theorem rBad (b : Wbk) (hb : RefOK b) (y : Int) (y0 : -7200 ≤ y) (y1 : y ≤ 7200) : SC Try.prog 52 [slSr b.srcs, slN b.notes, I y] (slB (badL b y)) := by
  refine law_turretref08_Bad _ _ (by simp) ?_
  have hl := hb.len
  have hn := hb.nl
  have hrep : List.replicate b.srcs.length [B false] = (badTo b y 0).map rowB := by
    apply List.ext_getElem?
    intro i
    rw [List.getElem?_map]
    by_cases hi : i < b.srcs.length
    · rw [badTo_get hi]; simp [hi, wrongB]
    · rw [List.getElem?_eq_none (by simp; omega), List.getElem?_eq_none (by rw [badTo_len]; omega)]; rfl
  have hA : (b.srcs.length : Int) ≤ 140737488355328 := by omega
  have hB : (b.srcs.length : Int) ≤ 9223372036854775807 := by omega
  (repeat' (first | ((first | with_reducible refine st_skip ?_ | with_reducible refine st_exit ?_); (try simp only [seqQ, blockQ, loopQ, forQ, whileQ, reduceIte, Nat.reduceEqDiff])) | (with_reducible refine st_ret ?_; ((try simp only [seqQ, blockQ, loopQ, forQ, whileQ]); first | (with_reducible refine retM_ret ?_) | refine retQ_ret ?_; simp [hA, hB, hrep])) | refine st_seq ?_ | refine st_block ?_ | ((with_reducible show (STri _ _ _ _ _) ∧ (STri _ _ _ _ _)); refine And.intro ?_ ?_) | ((first | refine st_reg ?_ | refine buildP_own ?_ | refine appP_own ?_) <;> (simp -dsimp [hA, hB, hrep]; (repeat (simp -dsimp (disch := (first | omega | assumption | (refine Bool.eq_false_iff.1 ?_; assumption))) only [wrap_in, if_pos, if_neg]; (try simp -dsimp [hA, hB, hrep]))))) | ((first | refine guardP_of (fun hc => ?_) (fun hc => ?_) | refine st_cond rfl (fun hc => ?_) (fun hc => ?_)) <;> (try simp only [lqA, lqB, lqC, lqD, lqE, lqF, lqG, lqH, lqI, lqJ, lqK, lqL, lqM, lqN, lqO] at hc) <;> (try (exfalso; first | omega | exact bool_tf hc (by assumption) | exact bool_ft hc (by assumption) | exact absurd (by assumption) hc)) <;> (first | with_reducible show STri _ _ _ _ _ _ | (simp -dsimp [hA, hB, hrep, hc]; (repeat (simp -dsimp (disch := (first | omega | assumption | (refine Bool.eq_false_iff.1 ?_; assumption))) only [wrap_in, if_pos, if_neg]; (try simp -dsimp [hA, hB, hrep, hc]))))))))
  refine st_for [12] b.notes.length (fun k T H => T = [(0, .c (slSr b.srcs)), (1, .c (slN b.notes)), (2, .c (I y)), (7, .own 12 b.srcs.length), (8, .c (I k))] ∧ H = [(12, .arr 4 1 ((badTo b y k).map rowB))]) (by simp) ⟨by simp, by simp⟩ ?_
  rintro k T H hk ⟨rfl, rfl⟩
  have hbl := badTo_len b y k
  by_cases hlt : k < b.notes.length
  · obtain ⟨hs, hr⟩ := ref_at hb (List.getElem_mem hlt) y0 y1
    obtain ⟨n1, n2, n3, n4, n5, n6⟩ := hb.no _ (List.getElem_mem hlt)
    have hsu := badTo_succ (y := y) hlt
    have hg : ∀ h : (b.notes[k]).src.toNat < (badTo b y k).length, (badTo b y k)[(b.notes[k]).src.toNat] = wrongB b y k (b.notes[k]).src.toNat := fun h => by
      have e1 := badTo_get (y := y) (k := k) hs
      have e2 := List.getElem?_eq_getElem h
      rw [e1] at e2
      exact (Option.some.inj e2).symm
    generalize badTo b y k = old at *
    by_cases hw : wrongB b y k (b.notes[k]).src.toNat = true
    · rw [hw] at hg hsu
      rw [Bool.true_or] at hsu
      (repeat' (first | ((first | with_reducible refine st_skip ?_ | with_reducible refine st_exit ?_); (try simp only [seqQ, blockQ, loopQ, forQ, whileQ, reduceIte, Nat.reduceEqDiff])) | (with_reducible refine st_ret ?_; ((try simp only [seqQ, blockQ, loopQ, forQ, whileQ]); first | (with_reducible refine retM_ret ?_) | refine retQ_ret ?_; simp [hlt, n1, hs, hbl, hg])) | refine st_seq ?_ | refine st_block ?_ | ((with_reducible show (STri _ _ _ _ _) ∧ (STri _ _ _ _ _)); refine And.intro ?_ ?_) | ((first | refine st_reg ?_ | refine buildP_own ?_ | refine appP_own ?_ | refine callP_b (hr) rfl ?_) <;> (simp -dsimp [hlt, n1, hs, hbl, hg]; (repeat (simp -dsimp (disch := (first | omega | assumption | (refine Bool.eq_false_iff.1 ?_; assumption))) only [wrap_in, if_pos, if_neg]; (try simp -dsimp [hlt, n1, hs, hbl, hg]))))) | ((first | refine guardP_of (fun hc => ?_) (fun hc => ?_) | refine st_cond rfl (fun hc => ?_) (fun hc => ?_)) <;> (try simp only [lqA, lqB, lqC, lqD, lqE, lqF, lqG, lqH, lqI, lqJ, lqK, lqL, lqM, lqN, lqO] at hc) <;> (try (exfalso; first | omega | exact bool_tf hc (by assumption) | exact bool_ft hc (by assumption) | exact absurd (by assumption) hc)) <;> (first | with_reducible show STri _ _ _ _ _ _ | (simp -dsimp [hlt, n1, hs, hbl, hg, hc]; (repeat (simp -dsimp (disch := (first | omega | assumption | (refine Bool.eq_false_iff.1 ?_; assumption))) only [wrap_in, if_pos, if_neg]; (try simp -dsimp [hlt, n1, hs, hbl, hg, hc]))))))))
      exact ⟨hlt, by simp, by simp, by simp [hsu]⟩
    · rw [Bool.not_eq_true] at hw
      rw [hw] at hg hsu
      rw [Bool.false_or] at hsu
      (repeat' (first | ((first | with_reducible refine st_skip ?_ | with_reducible refine st_exit ?_); (try simp only [seqQ, blockQ, loopQ, forQ, whileQ, reduceIte, Nat.reduceEqDiff])) | (with_reducible refine st_ret ?_; ((try simp only [seqQ, blockQ, loopQ, forQ, whileQ]); first | (with_reducible refine retM_ret ?_) | refine retQ_ret ?_; simp [hlt, n1, hs, hbl, hg])) | refine st_seq ?_ | refine st_block ?_ | ((with_reducible show (STri _ _ _ _ _) ∧ (STri _ _ _ _ _)); refine And.intro ?_ ?_) | ((first | refine st_reg ?_ | refine buildP_own ?_ | refine appP_own ?_ | refine callP_b (hr) rfl ?_) <;> (simp -dsimp [hlt, n1, hs, hbl, hg]; (repeat (simp -dsimp (disch := (first | omega | assumption | (refine Bool.eq_false_iff.1 ?_; assumption))) only [wrap_in, if_pos, if_neg]; (try simp -dsimp [hlt, n1, hs, hbl, hg]))))) | ((first | refine guardP_of (fun hc => ?_) (fun hc => ?_) | refine st_cond rfl (fun hc => ?_) (fun hc => ?_)) <;> (try simp only [lqA, lqB, lqC, lqD, lqE, lqF, lqG, lqH, lqI, lqJ, lqK, lqL, lqM, lqN, lqO] at hc) <;> (try (exfalso; first | omega | exact bool_tf hc (by assumption) | exact bool_ft hc (by assumption) | exact absurd (by assumption) hc)) <;> (first | with_reducible show STri _ _ _ _ _ _ | (simp -dsimp [hlt, n1, hs, hbl, hg, hc]; (repeat (simp -dsimp (disch := (first | omega | assumption | (refine Bool.eq_false_iff.1 ?_; assumption))) only [wrap_in, if_pos, if_neg]; (try simp -dsimp [hlt, n1, hs, hbl, hg, hc]))))))))
      all_goals exact ⟨hlt, by simp, by simp, by simp [hsu, hc]⟩
  · have hkk : k = b.notes.length := by omega
    subst hkk
    (repeat' (first | ((first | with_reducible refine st_skip ?_ | with_reducible refine st_exit ?_); (try simp only [seqQ, blockQ, loopQ, forQ, whileQ, reduceIte, Nat.reduceEqDiff])) | (with_reducible refine st_ret ?_; ((try simp only [seqQ, blockQ, loopQ, forQ, whileQ]); first | (with_reducible refine retM_ret ?_) | refine retQ_ret ?_; simp [hlt, hbl])) | refine st_seq ?_ | refine st_block ?_ | ((with_reducible show (STri _ _ _ _ _) ∧ (STri _ _ _ _ _)); refine And.intro ?_ ?_) | ((first | refine st_reg ?_ | refine buildP_own ?_ | refine appP_own ?_) <;> (simp -dsimp [hlt, hbl]; (repeat (simp -dsimp (disch := (first | omega | assumption | (refine Bool.eq_false_iff.1 ?_; assumption))) only [wrap_in, if_pos, if_neg]; (try simp -dsimp [hlt, hbl]))))) | ((first | refine guardP_of (fun hc => ?_) (fun hc => ?_) | refine st_cond rfl (fun hc => ?_) (fun hc => ?_)) <;> (try simp only [lqA, lqB, lqC, lqD, lqE, lqF, lqG, lqH, lqI, lqJ, lqK, lqL, lqM, lqN, lqO] at hc) <;> (try (exfalso; first | omega | exact bool_tf hc (by assumption) | exact bool_ft hc (by assumption) | exact absurd (by assumption) hc)) <;> (first | with_reducible show STri _ _ _ _ _ _ | (simp -dsimp [hlt, hbl, hc]; (repeat (simp -dsimp (disch := (first | omega | assumption | (refine Bool.eq_false_iff.1 ?_; assumption))) only [wrap_in, if_pos, if_neg]; (try simp -dsimp [hlt, hbl, hc]))))))))
    exact .refl _
end Go.Proofs.Ytakdmliblijgmaa
/- Wire, reference V: all corrections; with how few wrong sources there is one. -/
namespace Go.Proofs.Ytakdmliblijgmaa
open Go.RowKit
def allB (b : Wbk) : List (List Bool) := (List.range (bookN b)).map fun (k : Nat) => badL b (b.nlo + k)
def rowBB (l : List Bool) : List CV := [slB l]
def slBB (l : List (List Bool)) : CV := .sl 1 (l.map rowBB)
attribute [simp] rowBB slBB
theorem allB_len (b : Wbk) : (allB b).length = bookN b := by simp [allB]
theorem allB_get {b : Wbk} {k : Nat} (h : k < (allB b).length) : (allB b)[k] = badL b (b.nlo + k) := by simp [allB]
theorem badL_len (b : Wbk) (y : Int) : (badL b y).length = b.srcs.length := badTo_len b y _
theorem rAll (b : Wbk) (hb : RefOK b) : SC Try.prog 21 [slSr b.srcs, slN b.notes, .agg [I b.nlo, I b.nhi]] (slBB (allB b)) := by
  refine law_turretref08_All _ _ (by simp) ?_
  have n0 := hb.n0
  have n1 := hb.n1
  have n2 := hb.n2
  have hlen := allB_len b
  have hN : (bookN b : Int) = b.nhi + 1 - b.nlo := by unfold bookN; omega
  (repeat' (first | ((first | with_reducible refine st_skip ?_ | with_reducible refine st_exit ?_); (try simp only [seqQ, blockQ, loopQ, forQ, whileQ, reduceIte, Nat.reduceEqDiff])) | (with_reducible refine st_ret ?_; ((try simp only [seqQ, blockQ, loopQ, forQ, whileQ]); first | (with_reducible refine retM_ret ?_) | refine retQ_ret ?_; simp)) | refine st_seq ?_ | refine st_block ?_ | ((with_reducible show (STri _ _ _ _ _) ∧ (STri _ _ _ _ _)); refine And.intro ?_ ?_) | ((first | refine st_reg ?_ | refine buildP_own ?_ | refine appP_own ?_) <;> (simp -dsimp; (repeat (simp -dsimp (disch := (first | omega | assumption | (refine Bool.eq_false_iff.1 ?_; assumption))) only [wrap_in, if_pos, if_neg]; (try simp -dsimp))))) | ((first | refine guardP_of (fun hc => ?_) (fun hc => ?_) | refine st_cond rfl (fun hc => ?_) (fun hc => ?_)) <;> (try simp only [lqA, lqB, lqC, lqD, lqE, lqF, lqG, lqH, lqI, lqJ, lqK, lqL, lqM, lqN, lqO] at hc) <;> (try (exfalso; first | omega | exact bool_tf hc (by assumption) | exact bool_ft hc (by assumption) | exact absurd (by assumption) hc)) <;> (first | with_reducible show STri _ _ _ _ _ _ | (simp -dsimp [hc]; (repeat (simp -dsimp (disch := (first | omega | assumption | (refine Bool.eq_false_iff.1 ?_; assumption))) only [wrap_in, if_pos, if_neg]; (try simp -dsimp [hc]))))))))
  refine st_for [5, 9] (bookN b) (fun k T H => T = [(0, .c (slSr b.srcs)), (1, .c (slN b.notes)), (5, .ptr 5 0), (7, .own 9 k), (8, .c (I (b.nlo + k)))] ∧ H = [(5, .box 25 [.c (I b.nlo), .c (I b.nhi)]), (9, .arr 101 1 (((allB b).take k).map rowBB))]) (by simp) ⟨by simp, by simp⟩ ?_
  rintro k T H hk ⟨rfl, rfl⟩
  by_cases hlt : k < bookN b
  · have hle : b.nlo + k ≤ b.nhi := by omega
    have hr := rBad b hb (b.nlo + k) (by omega) (by omega)
    have hk2 : k < (allB b).length := by omega
    have ht : (allB b).take (k + 1) = (allB b).take k ++ [badL b (b.nlo + k)] := by rw [List.take_succ_eq_append_getElem hk2, allB_get hk2]
    have hl0 : ((allB b).take k).length = k := by rw [List.length_take]; omega
    have hA : k ≤ 9223372036854775806 := by omega
    have hB : (k + 1) * 24 ≤ 140737488355328 := by omega
    generalize (allB b).take k = acc at *
    generalize badL b (b.nlo + k) = row at *
    (repeat' (first | ((first | with_reducible refine st_skip ?_ | with_reducible refine st_exit ?_); (try simp only [seqQ, blockQ, loopQ, forQ, whileQ, reduceIte, Nat.reduceEqDiff])) | (with_reducible refine st_ret ?_; ((try simp only [seqQ, blockQ, loopQ, forQ, whileQ]); first | (with_reducible refine retM_ret ?_) | refine retQ_ret ?_; simp [hle, hl0, hA, hB])) | refine st_seq ?_ | refine st_block ?_ | ((with_reducible show (STri _ _ _ _ _) ∧ (STri _ _ _ _ _)); refine And.intro ?_ ?_) | ((first | refine st_reg ?_ | refine buildP_own ?_ | refine appP_own ?_ | refine callP_b (hr) rfl ?_) <;> (simp -dsimp [hle, hl0, hA, hB]; (repeat (simp -dsimp (disch := (first | omega | assumption | (refine Bool.eq_false_iff.1 ?_; assumption))) only [wrap_in, if_pos, if_neg]; (try simp -dsimp [hle, hl0, hA, hB]))))) | ((first | refine guardP_of (fun hc => ?_) (fun hc => ?_) | refine st_cond rfl (fun hc => ?_) (fun hc => ?_)) <;> (try simp only [lqA, lqB, lqC, lqD, lqE, lqF, lqG, lqH, lqI, lqJ, lqK, lqL, lqM, lqN, lqO] at hc) <;> (try (exfalso; first | omega | exact bool_tf hc (by assumption) | exact bool_ft hc (by assumption) | exact absurd (by assumption) hc)) <;> (first | with_reducible show STri _ _ _ _ _ _ | (simp -dsimp [hle, hl0, hA, hB, hc]; (repeat (simp -dsimp (disch := (first | omega | assumption | (refine Bool.eq_false_iff.1 ?_; assumption))) only [wrap_in, if_pos, if_neg]; (try simp -dsimp [hle, hl0, hA, hB, hc]))))))))
    exact ⟨hlt, by simp, by simp; omega, by rw [← List.map_take, ht]; simp⟩
  · have hle : ¬ b.nlo + k ≤ b.nhi := by omega
    have hkk : k = (allB b).length := by omega
    subst hkk
    rw [List.take_length]
    (repeat' (first | ((first | with_reducible refine st_skip ?_ | with_reducible refine st_exit ?_); (try simp only [seqQ, blockQ, loopQ, forQ, whileQ, reduceIte, Nat.reduceEqDiff])) | (with_reducible refine st_ret ?_; ((try simp only [seqQ, blockQ, loopQ, forQ, whileQ]); first | (with_reducible refine retM_ret ?_) | refine retQ_ret ?_; simp [hle])) | refine st_seq ?_ | refine st_block ?_ | ((with_reducible show (STri _ _ _ _ _) ∧ (STri _ _ _ _ _)); refine And.intro ?_ ?_) | ((first | refine st_reg ?_ | refine buildP_own ?_ | refine appP_own ?_) <;> (simp -dsimp [hle]; (repeat (simp -dsimp (disch := (first | omega | assumption | (refine Bool.eq_false_iff.1 ?_; assumption))) only [wrap_in, if_pos, if_neg]; (try simp -dsimp [hle]))))) | ((first | refine guardP_of (fun hc => ?_) (fun hc => ?_) | refine st_cond rfl (fun hc => ?_) (fun hc => ?_)) <;> (try simp only [lqA, lqB, lqC, lqD, lqE, lqF, lqG, lqH, lqI, lqJ, lqK, lqL, lqM, lqN, lqO] at hc) <;> (try (exfalso; first | omega | exact bool_tf hc (by assumption) | exact bool_ft hc (by assumption) | exact absurd (by assumption) hc)) <;> (first | with_reducible show STri _ _ _ _ _ _ | (simp -dsimp [hle, hc]; (repeat (simp -dsimp (disch := (first | omega | assumption | (refine Bool.eq_false_iff.1 ?_; assumption))) only [wrap_in, if_pos, if_neg]; (try simp -dsimp [hle, hc]))))))))
    exact .refl _
end Go.Proofs.Ytakdmliblijgmaa
/- Wire, reference VI: spans and pairs. -/
namespace Go.Proofs.Ytakdmliblijgmaa
open Go.RowKit
end Go.Proofs.Ytakdmliblijgmaa
/- Wire, reference VII: pairs. -/
namespace Go.Proofs.Ytakdmliblijgmaa
open Go.RowKit
theorem badL_at {b : Wbk} {y : Int} {i : Nat} (h : i < (badL b y).length) : (badL b y)[i] = (wrongN b y).testBit i := by
  rw [badL_len] at h
  have h2 := badTo_get (b := b) (y := y) (k := b.notes.length) h
  rw [List.getElem?_eq_getElem (by rw [badTo_len]; exact h)] at h2
  have h3 := Option.some.inj h2
  exact h3.trans (wrongTo_bit b y _ i (Nat.le_refl _)).symm
end Go.Proofs.Ytakdmliblijgmaa
/- Wire, reference VIII: lists compared; a source whose errors are wider. -/
namespace Go.Proofs.Ytakdmliblijgmaa
open Go.RowKit
end Go.Proofs.Ytakdmliblijgmaa
/- Wire, reference IX: lists of lists compared. -/
namespace Go.Proofs.Ytakdmliblijgmaa
open Go.RowKit
theorem rLists (ls : List (List Int)) (hl : ls.length ≤ 1000000) (hr : ∀ l ∈ ls, l.length ≤ 1000000) : SC Try.prog 29 [slL ls, slL ls] (B true) := by
  refine law_turretref08_Lists _ _ (by simp) ?_
  (repeat' (first | ((first | with_reducible refine st_skip ?_ | with_reducible refine st_exit ?_); (try simp only [seqQ, blockQ, loopQ, forQ, whileQ, reduceIte, Nat.reduceEqDiff])) | (with_reducible refine st_ret ?_; ((try simp only [seqQ, blockQ, loopQ, forQ, whileQ]); first | (with_reducible refine retM_ret ?_) | refine retQ_ret ?_; simp)) | refine st_seq ?_ | refine st_block ?_ | ((with_reducible show (STri _ _ _ _ _) ∧ (STri _ _ _ _ _)); refine And.intro ?_ ?_) | ((first | refine st_reg ?_ | refine buildP_own ?_ | refine appP_own ?_) <;> (simp -dsimp; (repeat (simp -dsimp (disch := (first | omega | assumption | (refine Bool.eq_false_iff.1 ?_; assumption))) only [wrap_in, if_pos, if_neg]; (try simp -dsimp))))) | ((first | refine guardP_of (fun hc => ?_) (fun hc => ?_) | refine st_cond rfl (fun hc => ?_) (fun hc => ?_)) <;> (try simp only [lqA, lqB, lqC, lqD, lqE, lqF, lqG, lqH, lqI, lqJ, lqK, lqL, lqM, lqN, lqO] at hc) <;> (try (exfalso; first | omega | exact bool_tf hc (by assumption) | exact bool_ft hc (by assumption) | exact absurd (by assumption) hc)) <;> (first | with_reducible show STri _ _ _ _ _ _ | (simp -dsimp [hc]; (repeat (simp -dsimp (disch := (first | omega | assumption | (refine Bool.eq_false_iff.1 ?_; assumption))) only [wrap_in, if_pos, if_neg]; (try simp -dsimp [hc]))))))))
  refine st_for [] ls.length (fun k T H => T = [(0, .c (slL ls)), (1, .c (slL ls)), (5, .c (I k))] ∧ H = []) (by simp) ⟨by simp, by simp⟩ ?_
  rintro k T H hk ⟨rfl, rfl⟩
  by_cases hlt : k < ls.length
  · obtain ⟨row, hrow⟩ : ∃ row, ls[k] = row := ⟨_, rfl⟩
    have hg : ∀ h : k < ls.length, ls[k]'h = row := fun _ => hrow
    have hrl := hr row (by rw [← hrow]; exact List.getElem_mem hlt)
    (repeat' (first | ((first | with_reducible refine st_skip ?_ | with_reducible refine st_exit ?_); (try simp only [seqQ, blockQ, loopQ, forQ, whileQ, reduceIte, Nat.reduceEqDiff])) | (with_reducible refine st_ret ?_; ((try simp only [seqQ, blockQ, loopQ, forQ, whileQ]); first | (with_reducible refine retM_ret ?_) | refine retQ_ret ?_; simp [hlt, hg])) | refine st_seq ?_ | refine st_block ?_ | ((with_reducible show (STri _ _ _ _ _) ∧ (STri _ _ _ _ _)); refine And.intro ?_ ?_) | ((first | refine st_reg ?_ | refine buildP_own ?_ | refine appP_own ?_) <;> (simp -dsimp [hlt, hg]; (repeat (simp -dsimp (disch := (first | omega | assumption | (refine Bool.eq_false_iff.1 ?_; assumption))) only [wrap_in, if_pos, if_neg]; (try simp -dsimp [hlt, hg]))))) | ((first | refine guardP_of (fun hc => ?_) (fun hc => ?_) | refine st_cond rfl (fun hc => ?_) (fun hc => ?_)) <;> (try simp only [lqA, lqB, lqC, lqD, lqE, lqF, lqG, lqH, lqI, lqJ, lqK, lqL, lqM, lqN, lqO] at hc) <;> (try (exfalso; first | omega | exact bool_tf hc (by assumption) | exact bool_ft hc (by assumption) | exact absurd (by assumption) hc)) <;> (first | with_reducible show STri _ _ _ _ _ _ | (simp -dsimp [hlt, hg, hc]; (repeat (simp -dsimp (disch := (first | omega | assumption | (refine Bool.eq_false_iff.1 ?_; assumption))) only [wrap_in, if_pos, if_neg]; (try simp -dsimp [hlt, hg, hc]))))))))
    refine st_for [] row.length (fun n T H => T = [(0, .c (slL ls)), (1, .c (slL ls)), (5, .c (I k)), (6, .c (I n))] ∧ H = []) (by simp) ⟨by simp, by simp⟩ ?_
    rintro n T H hn ⟨rfl, rfl⟩
    by_cases hlt2 : n < row.length
    · (repeat' (first | ((first | with_reducible refine st_skip ?_ | with_reducible refine st_exit ?_); (try simp only [seqQ, blockQ, loopQ, forQ, whileQ, reduceIte, Nat.reduceEqDiff])) | (with_reducible refine st_ret ?_; ((try simp only [seqQ, blockQ, loopQ, forQ, whileQ]); first | (with_reducible refine retM_ret ?_) | refine retQ_ret ?_; simp [hlt, hg, hlt2])) | refine st_seq ?_ | refine st_block ?_ | ((with_reducible show (STri _ _ _ _ _) ∧ (STri _ _ _ _ _)); refine And.intro ?_ ?_) | ((first | refine st_reg ?_ | refine buildP_own ?_ | refine appP_own ?_) <;> (simp -dsimp [hlt, hg, hlt2]; (repeat (simp -dsimp (disch := (first | omega | assumption | (refine Bool.eq_false_iff.1 ?_; assumption))) only [wrap_in, if_pos, if_neg]; (try simp -dsimp [hlt, hg, hlt2]))))) | ((first | refine guardP_of (fun hc => ?_) (fun hc => ?_) | refine st_cond rfl (fun hc => ?_) (fun hc => ?_)) <;> (try simp only [lqA, lqB, lqC, lqD, lqE, lqF, lqG, lqH, lqI, lqJ, lqK, lqL, lqM, lqN, lqO] at hc) <;> (try (exfalso; first | omega | exact bool_tf hc (by assumption) | exact bool_ft hc (by assumption) | exact absurd (by assumption) hc)) <;> (first | with_reducible show STri _ _ _ _ _ _ | (simp -dsimp [hlt, hg, hlt2, hc]; (repeat (simp -dsimp (disch := (first | omega | assumption | (refine Bool.eq_false_iff.1 ?_; assumption))) only [wrap_in, if_pos, if_neg]; (try simp -dsimp [hlt, hg, hlt2, hc]))))))))
      exact ⟨hlt2, by simp, by simp, by simp⟩
    · have hnn : n = row.length := by omega
      subst hnn
      (repeat' (first | ((first | with_reducible refine st_skip ?_ | with_reducible refine st_exit ?_); (try simp only [seqQ, blockQ, loopQ, forQ, whileQ, reduceIte, Nat.reduceEqDiff])) | (with_reducible refine st_ret ?_; ((try simp only [seqQ, blockQ, loopQ, forQ, whileQ]); first | (with_reducible refine retM_ret ?_) | refine retQ_ret ?_; simp [hlt, hg, hlt2])) | refine st_seq ?_ | refine st_block ?_ | ((with_reducible show (STri _ _ _ _ _) ∧ (STri _ _ _ _ _)); refine And.intro ?_ ?_) | ((first | refine st_reg ?_ | refine buildP_own ?_ | refine appP_own ?_) <;> (simp -dsimp [hlt, hg, hlt2]; (repeat (simp -dsimp (disch := (first | omega | assumption | (refine Bool.eq_false_iff.1 ?_; assumption))) only [wrap_in, if_pos, if_neg]; (try simp -dsimp [hlt, hg, hlt2]))))) | ((first | refine guardP_of (fun hc => ?_) (fun hc => ?_) | refine st_cond rfl (fun hc => ?_) (fun hc => ?_)) <;> (try simp only [lqA, lqB, lqC, lqD, lqE, lqF, lqG, lqH, lqI, lqJ, lqK, lqL, lqM, lqN, lqO] at hc) <;> (try (exfalso; first | omega | exact bool_tf hc (by assumption) | exact bool_ft hc (by assumption) | exact absurd (by assumption) hc)) <;> (first | with_reducible show STri _ _ _ _ _ _ | (simp -dsimp [hlt, hg, hlt2, hc]; (repeat (simp -dsimp (disch := (first | omega | assumption | (refine Bool.eq_false_iff.1 ?_; assumption))) only [wrap_in, if_pos, if_neg]; (try simp -dsimp [hlt, hg, hlt2, hc]))))))))
      exact ⟨hlt, by simp, by simp, by simp⟩
  · have hkk : k = ls.length := by omega
    subst hkk
    (repeat' (first | ((first | with_reducible refine st_skip ?_ | with_reducible refine st_exit ?_); (try simp only [seqQ, blockQ, loopQ, forQ, whileQ, reduceIte, Nat.reduceEqDiff])) | (with_reducible refine st_ret ?_; ((try simp only [seqQ, blockQ, loopQ, forQ, whileQ]); first | (with_reducible refine retM_ret ?_) | refine retQ_ret ?_; simp [hlt])) | refine st_seq ?_ | refine st_block ?_ | ((with_reducible show (STri _ _ _ _ _) ∧ (STri _ _ _ _ _)); refine And.intro ?_ ?_) | ((first | refine st_reg ?_ | refine buildP_own ?_ | refine appP_own ?_) <;> (simp -dsimp [hlt]; (repeat (simp -dsimp (disch := (first | omega | assumption | (refine Bool.eq_false_iff.1 ?_; assumption))) only [wrap_in, if_pos, if_neg]; (try simp -dsimp [hlt]))))) | ((first | refine guardP_of (fun hc => ?_) (fun hc => ?_) | refine st_cond rfl (fun hc => ?_) (fun hc => ?_)) <;> (try simp only [lqA, lqB, lqC, lqD, lqE, lqF, lqG, lqH, lqI, lqJ, lqK, lqL, lqM, lqN, lqO] at hc) <;> (try (exfalso; first | omega | exact bool_tf hc (by assumption) | exact bool_ft hc (by assumption) | exact absurd (by assumption) hc)) <;> (first | with_reducible show STri _ _ _ _ _ _ | (simp -dsimp [hlt, hc]; (repeat (simp -dsimp (disch := (first | omega | assumption | (refine Bool.eq_false_iff.1 ?_; assumption))) only [wrap_in, if_pos, if_neg]; (try simp -dsimp [hlt, hc]))))))))
    exact .refl _
end Go.Proofs.Ytakdmliblijgmaa
/- The shadow code of functions, as the kit's translation has them. -/
namespace Go.Proofs.Ytakdmliblijgmaa
open Go.RowKit
def k67_0 : SCode := .reg [⟨some 5, none, .box 25 (.tmp 2), [], false⟩, ⟨some 6, none, .mov (.const (.bool false)), [], false⟩] [0, 1, 5]
def k67_1 : SCode := .reg [⟨some 15, none, .mov (.tmp 0), [], false⟩, ⟨some 16, none, .mov (.tmp 1), [], false⟩, ⟨some 17, none, .load true 2 (.tmp 5), [], false⟩, ⟨some 18, none, .call 12 [(.tmp 15), (.tmp 16), (.tmp 17)], [], false⟩] [0, 1, 5, 18]
def k67_2 : SCode := .reg [⟨some 19, none, .call 13 [], [], false⟩, ⟨some 6, none, .mov (.tmp 19), [], false⟩] [6]
def k67_3 : SCode := .seq k67_2 .ret
def k67_4 : SCode := .cond (.tmp 18) k67_3 .skip
def k67_5 : SCode := .seq k67_1 k67_4
def k67_6 : SCode := .reg [⟨some 20, none, .mov (.tmp 0), [], false⟩, ⟨some 21, none, .call 14 [(.tmp 20)], [], false⟩, ⟨some 22, none, .mov (.tmp 1), [], false⟩, ⟨some 23, none, .call 15 [(.tmp 22)], [], false⟩, ⟨some 7, none, .mov (.tmp 21), [], false⟩, ⟨some 8, none, .mov (.tmp 23), [], false⟩] [0, 1, 5, 7, 8]
def k67_7 : SCode := .reg [⟨some 25, none, .mov (.tmp 7), [], false⟩, ⟨some 26, none, .mov (.tmp 8), [], false⟩, ⟨some 27, none, .load true 2 (.tmp 5), [], false⟩, ⟨some 28, none, .call 26 [(.tmp 25), (.tmp 26), (.tmp 27)], [], false⟩, ⟨some 24, none, .mov (.tmp 28), [], false⟩, ⟨some 29, none, .ext (.tmp 24) 0, [], false⟩, ⟨some 30, none, .ext (.tmp 24) 1, [], false⟩, ⟨some 9, none, .mov (.tmp 29), [], false⟩, ⟨some 10, none, .mov (.tmp 30), [], false⟩] [0, 1, 5, 7, 8, 9, 10]
def k67_8 : SCode := .reg [⟨some 32, none, .mov (.tmp 7), [], false⟩, ⟨some 33, none, .mov (.tmp 8), [], false⟩, ⟨some 34, none, .load true 2 (.tmp 5), [], false⟩, ⟨some 35, none, .call 27 [(.tmp 32), (.tmp 33), (.tmp 34)], [], false⟩, ⟨some 31, none, .mov (.tmp 35), [], false⟩, ⟨some 36, none, .ext (.tmp 31) 0, [], false⟩, ⟨some 37, none, .ext (.tmp 31) 1, [], false⟩, ⟨some 11, none, .mov (.tmp 36), [], false⟩, ⟨some 12, none, .mov (.tmp 37), [], false⟩] [0, 1, 5, 7, 8, 9, 10, 11, 12]
def k67_9 : SCode := .reg [⟨some 38, none, .mov (.tmp 7), [], false⟩, ⟨some 39, none, .mov (.tmp 0), [], false⟩, ⟨some 40, none, .mov (.tmp 8), [], false⟩, ⟨some 41, none, .mov (.tmp 1), [], false⟩, ⟨some 42, none, .call 19 [(.tmp 38), (.tmp 39), (.tmp 40), (.tmp 41)], [], false⟩, ⟨some 43, none, .un .not (.tmp 42), [], false⟩] [0, 1, 5, 9, 10, 11, 12, 43]
def k67_10 : SCode := .reg [⟨some 6, none, .mov (.const (.bool false)), [], false⟩] [6]
def k67_11 : SCode := .seq k67_10 .ret
def k67_12 : SCode := .cond (.tmp 43) k67_11 .skip
def k67_13 : SCode := .seq k67_9 k67_12
def k67_14 : SCode := .reg [⟨some 44, none, .mov (.tmp 0), [], false⟩, ⟨some 45, none, .mov (.tmp 1), [], false⟩, ⟨some 46, none, .load true 2 (.tmp 5), [], false⟩, ⟨some 47, none, .call 20 [(.tmp 44), (.tmp 45), (.tmp 46)], [], false⟩, ⟨some 13, none, .mov (.tmp 47), [], false⟩] [0, 1, 5, 9, 10, 11, 12, 13]
def k67_15 : SCode := .reg [⟨some 48, none, .mov (.tmp 13), [], false⟩, ⟨some 49, none, .bin .neq (.tmp 48) (.const (.int .i64 0)), [], false⟩] [0, 1, 5, 9, 10, 11, 12, 13, 49]
def k67_16 : SCode := .reg [⟨some 50, none, .mov (.tmp 10), [], false⟩, ⟨some 51, none, .mov (.tmp 13), [], false⟩, ⟨some 52, none, .bin .eql (.tmp 50) (.tmp 51), [], false⟩, ⟨some 53, none, .mov (.tmp 52), [], false⟩, ⟨some 54, (some (53, true)), .mov (.tmp 12), [], false⟩, ⟨some 55, (some (53, true)), .mov (.tmp 13), [], false⟩, ⟨some 56, (some (53, true)), .bin .eql (.tmp 54) (.tmp 55), [], false⟩, ⟨some 57, none, .pick (.tmp 53) (.tmp 56) (.const (.bool false)), [], false⟩, ⟨some 58, none, .mov (.tmp 57), [], false⟩, ⟨some 59, (some (58, true)), .mov (.tmp 9), [], false⟩, ⟨some 60, (some (58, true)), .len (.tmp 59), [], false⟩, ⟨some 61, (some (58, true)), .bin .eql (.tmp 60) (.const (.int .i64 0)), [], false⟩, ⟨some 62, none, .pick (.tmp 58) (.tmp 61) (.const (.bool false)), [], false⟩, ⟨some 63, none, .mov (.tmp 62), [], false⟩, ⟨some 64, (some (63, true)), .mov (.tmp 11), [], false⟩, ⟨some 65, (some (63, true)), .bin .eql (.tmp 64) (.const (.int .i64 0)), [], false⟩, ⟨some 66, none, .pick (.tmp 63) (.tmp 65) (.const (.bool false)), [], false⟩, ⟨some 67, none, .mov (.tmp 66), [], false⟩, ⟨some 68, (some (67, true)), .call 13 [], [], false⟩, ⟨some 69, none, .pick (.tmp 67) (.tmp 68) (.const (.bool false)), [], false⟩, ⟨some 6, none, .mov (.tmp 69), [], false⟩] [6]
def k67_17 : SCode := .seq k67_16 .ret
def k67_18 : SCode := .cond (.tmp 49) k67_17 .skip
def k67_19 : SCode := .seq k67_15 k67_18
def k67_20 : SCode := .seq k67_14 k67_19
def k67_21 : SCode := .reg [⟨some 70, none, .mov (.tmp 0), [], false⟩, ⟨some 71, none, .mov (.tmp 1), [], false⟩, ⟨some 72, none, .load true 2 (.tmp 5), [], false⟩, ⟨some 73, none, .call 21 [(.tmp 70), (.tmp 71), (.tmp 72)], [], false⟩, ⟨some 74, none, .mov (.tmp 0), [], false⟩, ⟨some 75, none, .len (.tmp 74), [], false⟩, ⟨some 76, none, .call 28 [(.tmp 73), (.tmp 75)], [], false⟩, ⟨some 14, none, .mov (.tmp 76), [], false⟩] [9, 10, 11, 12, 14]
def k67_22 : SCode := .reg [⟨some 77, none, .mov (.tmp 10), [], false⟩, ⟨some 78, none, .bin .neq (.tmp 77) (.const (.int .i64 0)), [], false⟩, ⟨some 79, none, .mov (.tmp 78), [], false⟩, ⟨some 80, (some (79, false)), .mov (.tmp 9), [], false⟩, ⟨some 81, (some (79, false)), .mov (.tmp 14), [], false⟩, ⟨some 82, (some (79, false)), .call 29 [(.tmp 80), (.tmp 81)], [], false⟩, ⟨some 83, (some (79, false)), .un .not (.tmp 82), [], false⟩, ⟨some 84, none, .pick (.tmp 79) (.const (.bool true)) (.tmp 83), [], false⟩] [11, 12, 14, 84]
def k67_23 : SCode := .reg [⟨some 6, none, .mov (.const (.bool false)), [], false⟩] [6]
def k67_24 : SCode := .seq k67_23 .ret
def k67_25 : SCode := .cond (.tmp 84) k67_24 .skip
def k67_26 : SCode := .seq k67_22 k67_25
def k67_27 : SCode := .reg [⟨some 86, none, .mov (.tmp 14), [], false⟩, ⟨some 87, none, .idxS 1 (.tmp 86) (.const (.int .i64 0)), [], false⟩, ⟨some 88, none, .load false 1 (.tmp 87), [], false⟩, ⟨some 89, none, .len (.tmp 88), [], false⟩, ⟨some 90, none, .bin .eql (.tmp 89) (.const (.int .i64 0)), [], false⟩, ⟨some 85, none, .mov (.tmp 90), [], false⟩] [11, 12, 14, 85]
def k67_28 : SCode := .reg [⟨some 91, none, .mov (.tmp 12), [], false⟩, ⟨some 92, none, .bin .eql (.tmp 91) (.const (.int .i64 7)), [], false⟩, ⟨some 93, none, .mov (.tmp 92), [], false⟩, ⟨some 94, (some (93, true)), .mov (.tmp 11), [], false⟩, ⟨some 95, (some (93, true)), .bin .eql (.tmp 94) (.const (.int .i64 0)), [], false⟩, ⟨some 96, none, .pick (.tmp 93) (.tmp 95) (.const (.bool false)), [], false⟩, ⟨some 97, none, .mov (.tmp 96), [], false⟩, ⟨some 98, (some (97, true)), .call 13 [], [], false⟩, ⟨some 99, none, .pick (.tmp 97) (.tmp 98) (.const (.bool false)), [], false⟩, ⟨some 6, none, .mov (.tmp 99), [], false⟩] [6]
def k67_29 : SCode := .seq k67_28 .ret
def k67_30 : SCode := .reg [⟨some 101, none, .mov (.tmp 14), [], false⟩, ⟨some 102, none, .idxS 1 (.tmp 101) (.const (.int .i64 0)), [], false⟩, ⟨some 103, none, .load false 1 (.tmp 102), [], false⟩, ⟨some 104, none, .len (.tmp 103), [], false⟩, ⟨some 105, none, .bin .gtr (.tmp 104) (.const (.int .i64 1)), [], false⟩, ⟨some 100, none, .mov (.tmp 105), [], false⟩] [11, 12, 14, 100]
def k67_31 : SCode := .reg [⟨some 106, none, .mov (.tmp 12), [], false⟩, ⟨some 107, none, .bin .eql (.tmp 106) (.const (.int .i64 9)), [], false⟩, ⟨some 108, none, .mov (.tmp 107), [], false⟩, ⟨some 109, (some (108, true)), .mov (.tmp 11), [], false⟩, ⟨some 110, (some (108, true)), .bin .eql (.tmp 109) (.const (.int .i64 0)), [], false⟩, ⟨some 111, none, .pick (.tmp 108) (.tmp 110) (.const (.bool false)), [], false⟩, ⟨some 112, none, .mov (.tmp 111), [], false⟩, ⟨some 113, (some (112, true)), .call 13 [], [], false⟩, ⟨some 114, none, .pick (.tmp 112) (.tmp 113) (.const (.bool false)), [], false⟩, ⟨some 6, none, .mov (.tmp 114), [], false⟩] [6]
def k67_32 : SCode := .seq k67_31 .ret
def k67_33 : SCode := .reg [⟨some 116, none, .mov (.tmp 14), [], false⟩, ⟨some 117, none, .len (.tmp 116), [], false⟩, ⟨some 118, none, .bin .gtr (.tmp 117) (.const (.int .i64 1)), [], false⟩, ⟨some 115, none, .mov (.tmp 118), [], false⟩] [11, 12, 14, 115]
def k67_34 : SCode := .reg [⟨some 119, none, .mov (.tmp 12), [], false⟩, ⟨some 120, none, .bin .eql (.tmp 119) (.const (.int .i64 6)), [], false⟩, ⟨some 121, none, .mov (.tmp 120), [], false⟩, ⟨some 122, (some (121, true)), .mov (.tmp 11), [], false⟩, ⟨some 123, (some (121, true)), .bin .eql (.tmp 122) (.const (.int .i64 0)), [], false⟩, ⟨some 124, none, .pick (.tmp 121) (.tmp 123) (.const (.bool false)), [], false⟩, ⟨some 125, none, .mov (.tmp 124), [], false⟩, ⟨some 126, (some (125, true)), .call 13 [], [], false⟩, ⟨some 127, none, .pick (.tmp 125) (.tmp 126) (.const (.bool false)), [], false⟩, ⟨some 6, none, .mov (.tmp 127), [], false⟩] [6]
def k67_35 : SCode := .seq k67_34 .ret
def k67_36 : SCode := .cond (.tmp 115) k67_35 .skip
def k67_37 : SCode := .seq k67_33 k67_36
def k67_38 : SCode := .cond (.tmp 100) k67_32 k67_37
def k67_39 : SCode := .seq k67_30 k67_38
def k67_40 : SCode := .cond (.tmp 85) k67_29 k67_39
def k67_41 : SCode := .seq k67_27 k67_40
def k67_42 : SCode := .block 0 k67_41
def k67_43 : SCode := .reg [⟨some 128, none, .mov (.tmp 12), [], false⟩, ⟨some 129, none, .bin .eql (.tmp 128) (.const (.int .i64 0)), [], false⟩, ⟨some 130, none, .mov (.tmp 129), [], false⟩, ⟨some 131, (some (130, true)), .mov (.tmp 11), [], false⟩, ⟨some 132, (some (130, true)), .mov (.tmp 14), [], false⟩, ⟨some 133, (some (130, true)), .idxS 1 (.tmp 132) (.const (.int .i64 0)), [], false⟩, ⟨some 134, (some (130, true)), .load false 1 (.tmp 133), [], false⟩, ⟨some 135, (some (130, true)), .idxS 1 (.tmp 134) (.const (.int .i64 0)), [], false⟩, ⟨some 136, (some (130, true)), .load false 1 (.tmp 135), [], false⟩, ⟨some 137, (some (130, true)), .bin .eql (.tmp 131) (.tmp 136), [], false⟩, ⟨some 138, none, .pick (.tmp 130) (.tmp 137) (.const (.bool false)), [], false⟩, ⟨some 139, none, .mov (.tmp 138), [], false⟩, ⟨some 140, (some (139, true)), .call 13 [], [], false⟩, ⟨some 141, none, .pick (.tmp 139) (.tmp 140) (.const (.bool false)), [], false⟩, ⟨some 6, none, .mov (.tmp 141), [], false⟩] [6]
def k67_44 : SCode := .seq k67_43 .ret
def k67_45 : SCode := .seq k67_42 k67_44
def k67_46 : SCode := .seq k67_26 k67_45
def k67_47 : SCode := .seq k67_21 k67_46
def k67_48 : SCode := .seq k67_20 k67_47
def k67_49 : SCode := .seq k67_13 k67_48
def k67_50 : SCode := .seq k67_8 k67_49
def k67_51 : SCode := .seq k67_7 k67_50
def k67_52 : SCode := .seq k67_6 k67_51
def k67_53 : SCode := .seq k67_5 k67_52
def k67_54 : SCode := .seq k67_0 k67_53
@[simp] def rs_turretlaw08_WireWrongs : List SRes := [.tmp 6]
theorem law_turretlaw08_WireWrongs (cs : List CV) (r : CV) (hl : cs.length ≤ 142) (h : STri (cfF Try.prog [] 142) k67_54 (initT 0 cs) [] (retQ rs_turretlaw08_WireWrongs r)) : SC Try.prog 4 cs r :=
  sc_of [] follows Try.func4 rfl Try.ntmps4 (by decide) (by kernel_rfl) (by kernel_rfl) hl h
def k68_0 : SCode := .reg [⟨some 5, none, .box 25 (.tmp 2), [], false⟩, ⟨some 6, none, .mov (.const (.bool false)), [], false⟩] [0, 1, 5]
def k68_1 : SCode := .reg [⟨some 7, none, .mov (.const (.int .i64 0)), [], false⟩] [0, 1, 5, 7]
def k68_2 : SCode := .reg [⟨some 8, none, .mov (.tmp 7), [], false⟩, ⟨some 9, none, .mov (.tmp 0), [], false⟩, ⟨some 10, none, .len (.tmp 9), [], false⟩, ⟨some 11, none, .bin .lss (.tmp 8) (.tmp 10), [], false⟩, ⟨some 12, none, .mov (.tmp 11), [], false⟩, ⟨some 13, (some (12, true)), .mov (.tmp 7), [], false⟩, ⟨some 14, (some (12, true)), .bin .lss (.tmp 13) (.const (.int .i64 13)), [], false⟩, ⟨some 15, none, .pick (.tmp 12) (.tmp 14) (.const (.bool false)), [], false⟩] [0, 1, 5, 7, 15]
def k68_3 : SCode := .cond (.tmp 15) .skip (.exit 0)
def k68_4 : SCode := .seq k68_2 k68_3
def k68_5 : SCode := .reg [⟨some 18, none, .mov (.tmp 0), [], false⟩, ⟨some 19, none, .mov (.tmp 7), [], false⟩, ⟨some 20, none, .idxS 8 (.tmp 18) (.tmp 19), [], false⟩, ⟨some 21, none, .fld 7 (.tmp 20), [], false⟩, ⟨some 22, none, .load false 1 (.tmp 21), [], false⟩, ⟨some 23, none, .len (.tmp 22), [], false⟩, ⟨some 24, none, .bin .gtr (.tmp 23) (.const (.int .i64 370)), [], false⟩] [0, 1, 5, 7, 24]
def k68_6 : SCode := .reg [⟨some 6, none, .mov (.const (.bool true)), [], false⟩] [6]
def k68_7 : SCode := .seq k68_6 .ret
def k68_8 : SCode := .cond (.tmp 24) k68_7 .skip
def k68_9 : SCode := .seq k68_5 k68_8
def k68_10 : SCode := .block 1 k68_9
def k68_11 : SCode := .reg [⟨some 16, none, .mov (.tmp 7), [], false⟩, ⟨some 17, none, .bin .add (.tmp 16) (.const (.int .i64 1)), [], false⟩, ⟨some 7, none, .mov (.tmp 17), [], false⟩] [0, 1, 5, 7]
def k68_12 : SCode := .seq k68_10 k68_11
def k68_13 : SCode := .seq k68_4 k68_12
def k68_14 : SCode := .loop k68_13
def k68_15 : SCode := .block 0 k68_14
def k68_16 : SCode := .seq k68_1 k68_15
def k68_17 : SCode := .reg [⟨some 25, none, .mov (.tmp 0), [], false⟩, ⟨some 26, none, .len (.tmp 25), [], false⟩, ⟨some 27, none, .bin .gtr (.tmp 26) (.const (.int .i64 12)), [], false⟩, ⟨some 28, none, .mov (.tmp 27), [], false⟩, ⟨some 29, (some (28, false)), .mov (.tmp 1), [], false⟩, ⟨some 30, (some (28, false)), .len (.tmp 29), [], false⟩, ⟨some 31, (some (28, false)), .bin .gtr (.tmp 30) (.const (.int .i64 12)), [], false⟩, ⟨some 32, (some (28, false)), .mov (.tmp 31), [], false⟩, ⟨some 33, (some (32, true)), .mov (.tmp 1), [], false⟩, ⟨some 34, (some (32, true)), .len (.tmp 33), [], false⟩, ⟨some 35, (some (32, true)), .bin .leq (.tmp 34) (.const (.int .i64 60)), [], false⟩, ⟨some 36, (some (28, false)), .pick (.tmp 32) (.tmp 35) (.const (.bool false)), [], false⟩, ⟨some 37, none, .pick (.tmp 28) (.const (.bool true)) (.tmp 36), [], false⟩, ⟨some 38, none, .mov (.tmp 37), [], false⟩, ⟨some 39, (some (38, false)), .mov (.tmp 1), [], false⟩, ⟨some 40, (some (38, false)), .len (.tmp 39), [], false⟩, ⟨some 41, (some (38, false)), .bin .gtr (.tmp 40) (.const (.int .i64 65)), [], false⟩, ⟨some 42, none, .pick (.tmp 38) (.const (.bool true)) (.tmp 41), [], false⟩, ⟨some 43, none, .mov (.tmp 42), [], false⟩, ⟨some 44, (some (43, false)), .mov (.tmp 0), [], false⟩, ⟨some 45, (some (43, false)), .mov (.tmp 1), [], false⟩, ⟨some 46, (some (43, false)), .load true 2 (.tmp 5), [], false⟩, ⟨some 47, (some (43, false)), .call 20 [(.tmp 44), (.tmp 45), (.tmp 46)], [], false⟩, ⟨some 48, (some (43, false)), .bin .eql (.tmp 47) (.const (.int .i64 0)), [], false⟩, ⟨some 49, (some (43, false)), .mov (.tmp 48), [], false⟩, ⟨some 50, (some (49, true)), .fld 1 (.tmp 5), [], false⟩, ⟨some 51, (some (49, true)), .load false 1 (.tmp 50), [], false⟩, ⟨some 52, (some (49, true)), .fld 0 (.tmp 5), [], false⟩, ⟨some 53, (some (49, true)), .load false 1 (.tmp 52), [], false⟩, ⟨some 54, (some (49, true)), .bin .sub (.tmp 51) (.tmp 53), [], false⟩, ⟨some 55, (some (49, true)), .bin .gtr (.tmp 54) (.const (.int .i64 150)), [], false⟩, ⟨some 56, (some (43, false)), .pick (.tmp 49) (.tmp 55) (.const (.bool false)), [], false⟩, ⟨some 57, none, .pick (.tmp 43) (.const (.bool true)) (.tmp 56), [], false⟩, ⟨some 6, none, .mov (.tmp 57), [], false⟩] [6]
def k68_18 : SCode := .seq k68_17 .ret
def k68_19 : SCode := .seq k68_16 k68_18
def k68_20 : SCode := .seq k68_0 k68_19
@[simp] def rs_turretlaw08_large : List SRes := [.tmp 6]
theorem law_turretlaw08_large (cs : List CV) (r : CV) (hl : cs.length ≤ 58) (h : STri (cfF Try.prog [] 58) k68_20 (initT 0 cs) [] (retQ rs_turretlaw08_large r)) : SC Try.prog 12 cs r :=
  sc_of [] follows Try.func12 rfl Try.ntmps12 (by decide) (by kernel_rfl) (by kernel_rfl) hl h
def k69_0 : SCode := .reg [⟨some 0, none, .mov (.const (.bool false)), [], false⟩] []
def k69_1 : SCode := .reg [⟨some 21, none, .call 34 [(.const (.int .i64 0)), (.const (.int .i64 200))], [], false⟩, ⟨some 1, none, .alloc 25 [(.int .i64 0), (.int .i64 0)], [], false⟩, ⟨none, none, .store 2 (.tmp 1) (.tmp 21), [], false⟩] [1]
def k69_2 : SCode := .reg [⟨some 23, none, .call 42 [], [], false⟩, ⟨some 24, none, .call 43 [(.const (.int .i64 2))], [], false⟩, ⟨some 25, none, .idxS 3 (.tmp 24) (.const (.int .i64 2)), [], false⟩, ⟨some 26, none, .load true 3 (.tmp 25), [], false⟩, ⟨some 27, none, .load true 2 (.tmp 1), [], false⟩, ⟨some 28, none, .call 37 [(.tmp 23), (.tmp 26), (.tmp 27)], [], false⟩, ⟨some 22, none, .mov (.tmp 28), [], false⟩, ⟨some 29, none, .ext (.tmp 22) 0, [], false⟩, ⟨some 30, none, .ext (.tmp 22) 1, [], false⟩, ⟨some 2, none, .mov (.tmp 29), [], false⟩, ⟨some 3, none, .mov (.tmp 30), [], false⟩] [1, 2, 3]
def k69_3 : SCode := .reg [⟨some 32, none, .call 42 [], [], false⟩, ⟨some 33, none, .call 43 [(.const (.int .i64 2))], [], false⟩, ⟨some 34, none, .load true 2 (.tmp 1), [], false⟩, ⟨some 35, none, .call 16 [(.tmp 32), (.tmp 33), (.tmp 34)], [], false⟩, ⟨some 31, none, .mov (.tmp 35), [], false⟩, ⟨some 36, none, .ext (.tmp 31) 0, [], false⟩, ⟨some 37, none, .ext (.tmp 31) 1, [], false⟩, ⟨some 4, none, .mov (.tmp 36), [], false⟩, ⟨some 5, none, .mov (.tmp 37), [], false⟩] [1, 2, 3, 4, 5]
def k69_4 : SCode := .reg [⟨some 39, none, .call 42 [], [], false⟩, ⟨some 40, none, .call 43 [(.const (.int .i64 40))], [], false⟩, ⟨some 41, none, .load true 2 (.tmp 1), [], false⟩, ⟨some 42, none, .call 16 [(.tmp 39), (.tmp 40), (.tmp 41)], [], false⟩, ⟨some 38, none, .mov (.tmp 42), [], false⟩, ⟨some 43, none, .ext (.tmp 38) 0, [], false⟩, ⟨some 44, none, .ext (.tmp 38) 1, [], false⟩, ⟨some 6, none, .mov (.tmp 43), [], false⟩, ⟨some 7, none, .mov (.tmp 44), [], false⟩] [1, 2, 3, 4, 5, 7]
def k69_5 : SCode := .reg [⟨some 46, none, .call 42 [], [], false⟩, ⟨some 47, none, .call 43 [(.const (.int .i64 40))], [], false⟩, ⟨some 48, none, .load true 2 (.tmp 1), [], false⟩, ⟨some 49, none, .call 17 [(.tmp 46), (.tmp 47), (.tmp 48)], [], false⟩, ⟨some 45, none, .mov (.tmp 49), [], false⟩, ⟨some 50, none, .ext (.tmp 45) 0, [], false⟩, ⟨some 51, none, .ext (.tmp 45) 1, [], false⟩, ⟨some 8, none, .mov (.tmp 50), [], false⟩, ⟨some 9, none, .mov (.tmp 51), [], false⟩] [1, 2, 3, 4, 5, 7, 8, 9]
def k69_6 : SCode := .reg [⟨some 53, none, .call 42 [], [], false⟩, ⟨some 54, none, .call 43 [(.const (.int .i64 40))], [], false⟩, ⟨some 55, none, .load true 2 (.tmp 1), [], false⟩, ⟨some 56, none, .call 18 [(.tmp 53), (.tmp 54), (.tmp 55)], [], false⟩, ⟨some 52, none, .mov (.tmp 56), [], false⟩, ⟨some 57, none, .ext (.tmp 52) 0, [], false⟩, ⟨some 58, none, .ext (.tmp 52) 1, [], false⟩, ⟨some 59, none, .ext (.tmp 52) 2, [], false⟩, ⟨some 10, none, .mov (.tmp 57), [], false⟩, ⟨some 11, none, .mov (.tmp 58), [], false⟩, ⟨some 12, none, .mov (.tmp 59), [], false⟩] [1, 2, 3, 4, 5, 7, 8, 9, 10, 11, 12]
def k69_7 : SCode := .reg [⟨some 61, none, .call 42 [], [], false⟩, ⟨some 62, none, .call 43 [(.const (.int .i64 40))], [], false⟩, ⟨some 63, none, .load true 2 (.tmp 1), [], false⟩, ⟨some 64, none, .call 26 [(.tmp 61), (.tmp 62), (.tmp 63)], [], false⟩, ⟨some 60, none, .mov (.tmp 64), [], false⟩, ⟨some 65, none, .ext (.tmp 60) 0, [], false⟩, ⟨some 66, none, .ext (.tmp 60) 1, [], false⟩, ⟨some 13, none, .mov (.tmp 65), [], false⟩, ⟨some 14, none, .mov (.tmp 66), [], false⟩] [1, 2, 3, 4, 5, 7, 8, 9, 10, 11, 12, 13, 14]
def k69_8 : SCode := .reg [⟨some 68, none, .call 42 [], [], false⟩, ⟨some 69, none, .call 43 [(.const (.int .i64 40))], [], false⟩, ⟨some 70, none, .load true 2 (.tmp 1), [], false⟩, ⟨some 71, none, .call 27 [(.tmp 68), (.tmp 69), (.tmp 70)], [], false⟩, ⟨some 67, none, .mov (.tmp 71), [], false⟩, ⟨some 72, none, .ext (.tmp 67) 0, [], false⟩, ⟨some 73, none, .ext (.tmp 67) 1, [], false⟩, ⟨some 15, none, .mov (.tmp 72), [], false⟩, ⟨some 16, none, .mov (.tmp 73), [], false⟩] [1, 2, 3, 4, 5, 7, 8, 9, 10, 11, 12, 13, 14, 15, 16]
def k69_9 : SCode := .reg [⟨some 75, none, .call 42 [], [], false⟩, ⟨some 76, none, .call 43 [(.const (.int .i64 40))], [], false⟩, ⟨some 77, none, .load true 2 (.tmp 1), [], false⟩, ⟨some 78, none, .call 30 [(.tmp 75), (.tmp 76), (.tmp 77), (.const (.int .i64 2))], [], false⟩, ⟨some 74, none, .mov (.tmp 78), [], false⟩, ⟨some 79, none, .ext (.tmp 74) 0, [], false⟩, ⟨some 80, none, .ext (.tmp 74) 1, [], false⟩, ⟨some 17, none, .mov (.tmp 79), [], false⟩, ⟨some 18, none, .mov (.tmp 80), [], false⟩] [1, 2, 3, 4, 5, 7, 8, 9, 10, 11, 12, 13, 14, 15, 16, 17, 18]
def k69_10 : SCode := .reg [⟨some 82, none, .call 42 [], [], false⟩, ⟨some 83, none, .call 43 [(.const (.int .i64 40))], [], false⟩, ⟨some 84, none, .slcS 3 (.tmp 83) (some (.const (.int .i64 1))) none, [], false⟩, ⟨some 85, none, .load true 2 (.tmp 1), [], false⟩, ⟨some 86, none, .call 27 [(.tmp 82), (.tmp 84), (.tmp 85)], [], false⟩, ⟨some 81, none, .mov (.tmp 86), [], false⟩, ⟨some 87, none, .ext (.tmp 81) 0, [], false⟩, ⟨some 88, none, .ext (.tmp 81) 1, [], false⟩, ⟨some 19, none, .mov (.tmp 87), [], false⟩, ⟨some 20, none, .mov (.tmp 88), [], false⟩] [2, 3, 4, 5, 7, 8, 9, 10, 11, 12, 13, 14, 15, 16, 17, 18, 20]
def k69_11 : SCode := .reg [⟨some 89, none, .mov (.tmp 3), [], false⟩, ⟨some 90, none, .bin .neq (.tmp 89) (.const (.int .i64 0)), [], false⟩, ⟨some 91, none, .mov (.tmp 90), [], false⟩, ⟨some 92, (some (91, false)), .mov (.tmp 5), [], false⟩, ⟨some 93, (some (91, false)), .bin .neq (.tmp 92) (.const (.int .i64 0)), [], false⟩, ⟨some 94, none, .pick (.tmp 91) (.const (.bool true)) (.tmp 93), [], false⟩, ⟨some 95, none, .mov (.tmp 94), [], false⟩, ⟨some 96, (some (95, false)), .mov (.tmp 7), [], false⟩, ⟨some 97, (some (95, false)), .bin .neq (.tmp 96) (.const (.int .i64 7)), [], false⟩, ⟨some 98, none, .pick (.tmp 95) (.const (.bool true)) (.tmp 97), [], false⟩, ⟨some 99, none, .mov (.tmp 98), [], false⟩, ⟨some 100, (some (99, false)), .mov (.tmp 9), [], false⟩, ⟨some 101, (some (99, false)), .bin .neq (.tmp 100) (.const (.int .i64 0)), [], false⟩, ⟨some 102, none, .pick (.tmp 99) (.const (.bool true)) (.tmp 101), [], false⟩, ⟨some 103, none, .mov (.tmp 102), [], false⟩, ⟨some 104, (some (103, false)), .mov (.tmp 12), [], false⟩, ⟨some 105, (some (103, false)), .bin .neq (.tmp 104) (.const (.int .i64 0)), [], false⟩, ⟨some 106, none, .pick (.tmp 103) (.const (.bool true)) (.tmp 105), [], false⟩, ⟨some 107, none, .mov (.tmp 106), [], false⟩, ⟨some 108, (some (107, false)), .mov (.tmp 14), [], false⟩, ⟨some 109, (some (107, false)), .bin .neq (.tmp 108) (.const (.int .i64 0)), [], false⟩, ⟨some 110, none, .pick (.tmp 107) (.const (.bool true)) (.tmp 109), [], false⟩, ⟨some 111, none, .mov (.tmp 110), [], false⟩, ⟨some 112, (some (111, false)), .mov (.tmp 16), [], false⟩, ⟨some 113, (some (111, false)), .bin .neq (.tmp 112) (.const (.int .i64 0)), [], false⟩, ⟨some 114, none, .pick (.tmp 111) (.const (.bool true)) (.tmp 113), [], false⟩, ⟨some 115, none, .mov (.tmp 114), [], false⟩, ⟨some 116, (some (115, false)), .mov (.tmp 18), [], false⟩, ⟨some 117, (some (115, false)), .bin .neq (.tmp 116) (.const (.int .i64 0)), [], false⟩, ⟨some 118, none, .pick (.tmp 115) (.const (.bool true)) (.tmp 117), [], false⟩, ⟨some 119, none, .mov (.tmp 118), [], false⟩, ⟨some 120, (some (119, false)), .mov (.tmp 20), [], false⟩, ⟨some 121, (some (119, false)), .bin .neq (.tmp 120) (.const (.int .i64 6)), [], false⟩, ⟨some 122, none, .pick (.tmp 119) (.const (.bool true)) (.tmp 121), [], false⟩, ⟨some 123, none, .mov (.tmp 122), [], false⟩, ⟨some 124, (some (123, false)), .mov (.tmp 2), [], false⟩, ⟨some 125, (some (123, false)), .len (.tmp 124), [], false⟩, ⟨some 126, (some (123, false)), .bin .neq (.tmp 125) (.const (.int .i64 1)), [], false⟩, ⟨some 127, none, .pick (.tmp 123) (.const (.bool true)) (.tmp 126), [], false⟩, ⟨some 128, none, .mov (.tmp 127), [], false⟩, ⟨some 129, (some (128, false)), .mov (.tmp 4), [], false⟩, ⟨some 130, (some (128, false)), .len (.tmp 129), [], false⟩, ⟨some 131, (some (128, false)), .bin .neq (.tmp 130) (.const (.int .i64 1)), [], false⟩, ⟨some 132, none, .pick (.tmp 128) (.const (.bool true)) (.tmp 131), [], false⟩, ⟨some 133, none, .mov (.tmp 132), [], false⟩, ⟨some 134, (some (133, false)), .mov (.tmp 8), [], false⟩, ⟨some 135, (some (133, false)), .len (.tmp 134), [], false⟩, ⟨some 136, (some (133, false)), .bin .neq (.tmp 135) (.const (.int .i64 2)), [], false⟩, ⟨some 137, none, .pick (.tmp 133) (.const (.bool true)) (.tmp 136), [], false⟩, ⟨some 138, none, .mov (.tmp 137), [], false⟩, ⟨some 139, (some (138, false)), .mov (.tmp 11), [], false⟩, ⟨some 140, (some (138, false)), .len (.tmp 139), [], false⟩, ⟨some 141, (some (138, false)), .bin .neq (.tmp 140) (.const (.int .i64 1)), [], false⟩, ⟨some 142, none, .pick (.tmp 138) (.const (.bool true)) (.tmp 141), [], false⟩, ⟨some 143, none, .mov (.tmp 142), [], false⟩, ⟨some 144, (some (143, false)), .mov (.tmp 13), [], false⟩, ⟨some 145, (some (143, false)), .len (.tmp 144), [], false⟩, ⟨some 146, (some (143, false)), .bin .neq (.tmp 145) (.const (.int .i64 1)), [], false⟩, ⟨some 147, none, .pick (.tmp 143) (.const (.bool true)) (.tmp 146), [], false⟩, ⟨some 148, none, .mov (.tmp 147), [], false⟩, ⟨some 149, (some (148, false)), .mov (.tmp 13), [], false⟩, ⟨some 150, (some (148, false)), .idxS 1 (.tmp 149) (.const (.int .i64 0)), [], false⟩, ⟨some 151, (some (148, false)), .load false 1 (.tmp 150), [], false⟩, ⟨some 152, (some (148, false)), .len (.tmp 151), [], false⟩, ⟨some 153, (some (148, false)), .bin .neq (.tmp 152) (.const (.int .i64 1)), [], false⟩, ⟨some 154, none, .pick (.tmp 148) (.const (.bool true)) (.tmp 153), [], false⟩] [2, 4, 8, 10, 11, 13, 15, 17, 154]
def k69_12 : SCode := .reg [⟨some 0, none, .mov (.const (.bool false)), [], false⟩] [0]
def k69_13 : SCode := .seq k69_12 .ret
def k69_14 : SCode := .cond (.tmp 154) k69_13 .skip
def k69_15 : SCode := .seq k69_11 k69_14
def k69_16 : SCode := .reg [⟨some 155, none, .mov (.tmp 2), [], false⟩, ⟨some 156, none, .idxS 2 (.tmp 155) (.const (.int .i64 0)), [], false⟩, ⟨some 157, none, .load true 2 (.tmp 156), [], false⟩, ⟨some 158, none, .call 34 [(.const (.int .i64 99)), (.const (.int .i64 103))], [], false⟩, ⟨some 159, none, .eqC false [true, true] (.tmp 157) (.tmp 158), [], false⟩, ⟨some 160, none, .mov (.tmp 159), [], false⟩, ⟨some 161, (some (160, true)), .mov (.tmp 4), [], false⟩, ⟨some 162, (some (160, true)), .idxS 2 (.tmp 161) (.const (.int .i64 0)), [], false⟩, ⟨some 163, (some (160, true)), .load true 2 (.tmp 162), [], false⟩, ⟨some 164, (some (160, true)), .call 34 [(.const (.int .i64 100)), (.const (.int .i64 101))], [], false⟩, ⟨some 165, (some (160, true)), .eqC false [true, true] (.tmp 163) (.tmp 164), [], false⟩, ⟨some 166, none, .pick (.tmp 160) (.tmp 165) (.const (.bool false)), [], false⟩, ⟨some 167, none, .mov (.tmp 166), [], false⟩, ⟨some 168, (some (167, true)), .mov (.tmp 8), [], false⟩, ⟨some 169, (some (167, true)), .idxS 2 (.tmp 168) (.const (.int .i64 1)), [], false⟩, ⟨some 170, (some (167, true)), .load true 2 (.tmp 169), [], false⟩, ⟨some 171, (some (167, true)), .build [(.int .i64 0), (.int .i64 0)] [(0, 1, (.const (.int .i64 1))), (1, 1, (.const (.int .i64 2)))], [], false⟩, ⟨some 172, (some (167, true)), .eqC false [true, true] (.tmp 170) (.tmp 171), [], false⟩, ⟨some 173, none, .pick (.tmp 167) (.tmp 172) (.const (.bool false)), [], false⟩, ⟨some 174, none, .mov (.tmp 173), [], false⟩, ⟨some 175, (some (174, true)), .mov (.tmp 10), [], false⟩, ⟨some 176, (some (174, true)), .bin .eql (.tmp 175) (.const (.int .i64 2)), [], false⟩, ⟨some 177, none, .pick (.tmp 174) (.tmp 176) (.const (.bool false)), [], false⟩, ⟨some 178, none, .mov (.tmp 177), [], false⟩, ⟨some 179, (some (178, true)), .mov (.tmp 11), [], false⟩, ⟨some 180, (some (178, true)), .idxS 2 (.tmp 179) (.const (.int .i64 0)), [], false⟩, ⟨some 181, (some (178, true)), .load true 2 (.tmp 180), [], false⟩, ⟨some 182, (some (178, true)), .call 34 [(.const (.int .i64 100)), (.const (.int .i64 101))], [], false⟩, ⟨some 183, (some (178, true)), .eqC false [true, true] (.tmp 181) (.tmp 182), [], false⟩, ⟨some 184, none, .pick (.tmp 178) (.tmp 183) (.const (.bool false)), [], false⟩, ⟨some 185, none, .mov (.tmp 184), [], false⟩, ⟨some 186, (some (185, true)), .mov (.tmp 13), [], false⟩, ⟨some 187, (some (185, true)), .idxS 1 (.tmp 186) (.const (.int .i64 0)), [], false⟩, ⟨some 188, (some (185, true)), .load false 1 (.tmp 187), [], false⟩, ⟨some 189, (some (185, true)), .idxS 1 (.tmp 188) (.const (.int .i64 0)), [], false⟩, ⟨some 190, (some (185, true)), .load false 1 (.tmp 189), [], false⟩, ⟨some 191, (some (185, true)), .bin .eql (.tmp 190) (.const (.int .i64 2)), [], false⟩, ⟨some 192, none, .pick (.tmp 185) (.tmp 191) (.const (.bool false)), [], false⟩, ⟨some 193, none, .mov (.tmp 192), [], false⟩, ⟨some 194, (some (193, true)), .mov (.tmp 15), [], false⟩, ⟨some 195, (some (193, true)), .bin .eql (.tmp 194) (.const (.int .i64 2)), [], false⟩, ⟨some 196, none, .pick (.tmp 193) (.tmp 195) (.const (.bool false)), [], false⟩, ⟨some 197, none, .mov (.tmp 196), [], false⟩, ⟨some 198, (some (197, true)), .mov (.tmp 17), [], false⟩, ⟨some 199, (some (197, true)), .bin .eql (.tmp 198) (.const (.int .i64 35)), [], false⟩, ⟨some 200, none, .pick (.tmp 197) (.tmp 199) (.const (.bool false)), [], false⟩, ⟨some 0, none, .mov (.tmp 200), [], false⟩] [0]
def k69_17 : SCode := .seq k69_16 .ret
def k69_18 : SCode := .seq k69_15 k69_17
def k69_19 : SCode := .seq k69_10 k69_18
def k69_20 : SCode := .seq k69_9 k69_19
def k69_21 : SCode := .seq k69_8 k69_20
def k69_22 : SCode := .seq k69_7 k69_21
def k69_23 : SCode := .seq k69_6 k69_22
def k69_24 : SCode := .seq k69_5 k69_23
def k69_25 : SCode := .seq k69_4 k69_24
def k69_26 : SCode := .seq k69_3 k69_25
def k69_27 : SCode := .seq k69_2 k69_26
def k69_28 : SCode := .seq k69_1 k69_27
def k69_29 : SCode := .seq k69_0 k69_28
@[simp] def rs_turretlaw08_known : List SRes := [.tmp 0]
theorem law_turretlaw08_known (cs : List CV) (r : CV) (hl : cs.length ≤ 201) (h : STri (cfF Try.prog [] 201) k69_29 (initT 0 cs) [] (retQ rs_turretlaw08_known r)) : SC Try.prog 13 cs r :=
  sc_of [] follows Try.func13 rfl Try.ntmps13 (by decide) (by kernel_rfl) (by kernel_rfl) hl h
def k70_0 : SCode := .reg [⟨some 2, none, .mov (.const (.slice none 0 0)), [], false⟩] [0]
def k70_1 : SCode := .reg [⟨some 5, none, .buildSl 79 8 [(.int .i64 0), (.int .i64 0), (.int .i64 0), (.int .i64 0), (.int .i64 0), (.int .i64 0), (.int .i64 0), (.slice none 0 0)] 0 [], [], false⟩, ⟨some 6, none, .mov (.tmp 0), [], false⟩, ⟨some 7, none, .append 79 8 80 (.tmp 5) (.tmp 6), [], false⟩, ⟨some 3, none, .mov (.tmp 7), [], false⟩] [3]
def k70_2 : SCode := .reg [⟨some 4, none, .mov (.const (.int .i64 0)), [], false⟩] [3, 4]
def k70_3 : SCode := .reg [⟨some 8, none, .mov (.tmp 4), [], false⟩, ⟨some 9, none, .mov (.tmp 3), [], false⟩, ⟨some 10, none, .len (.tmp 9), [], false⟩, ⟨some 11, none, .bin .lss (.tmp 8) (.tmp 10), [], false⟩] [3, 4, 11]
def k70_4 : SCode := .cond (.tmp 11) .skip (.exit 0)
def k70_5 : SCode := .seq k70_3 k70_4
def k70_6 : SCode := .reg [⟨some 14, none, .mov (.tmp 3), [], false⟩, ⟨some 15, none, .mov (.tmp 4), [], false⟩, ⟨some 16, none, .buildSl 3 1 [(.int .i64 0)] 0 [], [], false⟩, ⟨some 17, none, .mov (.tmp 3), [], false⟩, ⟨some 18, none, .mov (.tmp 4), [], false⟩, ⟨some 19, none, .idxS 8 (.tmp 17) (.tmp 18), [], false⟩, ⟨some 20, none, .fld 7 (.tmp 19), [], false⟩, ⟨some 21, none, .load false 1 (.tmp 20), [], false⟩, ⟨some 22, none, .append 3 1 8 (.tmp 16) (.tmp 21), [], false⟩, ⟨some 23, none, .idxS 8 (.tmp 14) (.tmp 15), [], false⟩, ⟨some 24, none, .fld 7 (.tmp 23), [], false⟩, ⟨none, none, .store 1 (.tmp 24) (.tmp 22), [], false⟩] [3, 4]
def k70_7 : SCode := .block 1 k70_6
def k70_8 : SCode := .reg [⟨some 12, none, .mov (.tmp 4), [], false⟩, ⟨some 13, none, .bin .add (.tmp 12) (.const (.int .i64 1)), [], false⟩, ⟨some 4, none, .mov (.tmp 13), [], false⟩] [3, 4]
def k70_9 : SCode := .seq k70_7 k70_8
def k70_10 : SCode := .seq k70_5 k70_9
def k70_11 : SCode := .loop k70_10
def k70_12 : SCode := .block 0 k70_11
def k70_13 : SCode := .seq k70_2 k70_12
def k70_14 : SCode := .reg [⟨some 25, none, .mov (.tmp 3), [], false⟩, ⟨some 2, none, .mov (.tmp 25), [], false⟩] [2]
def k70_15 : SCode := .seq k70_14 .ret
def k70_16 : SCode := .seq k70_13 k70_15
def k70_17 : SCode := .seq k70_1 k70_16
def k70_18 : SCode := .seq k70_0 k70_17
@[simp] def rs_turretlaw08_sources : List SRes := [.tmp 2]
theorem law_turretlaw08_sources (cs : List CV) (r : CV) (hl : cs.length ≤ 26) (h : STri (cfF Try.prog [] 26) k70_18 (initT 0 cs) [] (retQ rs_turretlaw08_sources r)) : SC Try.prog 14 cs r :=
  sc_of [] follows Try.func14 rfl Try.ntmps14 (by decide) (by kernel_rfl) (by kernel_rfl) hl h
def k71_0 : SCode := .reg [⟨some 2, none, .mov (.const (.slice none 0 0)), [], false⟩] [0]
def k71_1 : SCode := .reg [⟨some 3, none, .buildSl 73 3 [(.int .i64 0), (.int .i64 0), (.int .i64 0)] 0 [], [], false⟩, ⟨some 4, none, .mov (.tmp 0), [], false⟩, ⟨some 5, none, .append 73 3 24 (.tmp 3) (.tmp 4), [], false⟩, ⟨some 2, none, .mov (.tmp 5), [], false⟩] [2]
def k71_2 : SCode := .seq k71_1 .ret
def k71_3 : SCode := .seq k71_0 k71_2
@[simp] def rs_turretlaw08_said : List SRes := [.tmp 2]
theorem law_turretlaw08_said (cs : List CV) (r : CV) (hl : cs.length ≤ 6) (h : STri (cfF Try.prog [] 6) k71_3 (initT 0 cs) [] (retQ rs_turretlaw08_said r)) : SC Try.prog 15 cs r :=
  sc_of [] follows Try.func15 rfl Try.ntmps15 (by decide) (by kernel_rfl) (by kernel_rfl) hl h
def k72_0 : SCode := .reg [⟨some 8, none, .mov (.const (.bool false)), [], false⟩] [0, 1, 2, 3]
def k72_1 : SCode := .reg [⟨some 12, none, .mov (.tmp 0), [], false⟩, ⟨some 13, none, .len (.tmp 12), [], false⟩, ⟨some 14, none, .mov (.tmp 1), [], false⟩, ⟨some 15, none, .len (.tmp 14), [], false⟩, ⟨some 16, none, .bin .neq (.tmp 13) (.tmp 15), [], false⟩, ⟨some 17, none, .mov (.tmp 16), [], false⟩, ⟨some 18, (some (17, false)), .mov (.tmp 2), [], false⟩, ⟨some 19, (some (17, false)), .len (.tmp 18), [], false⟩, ⟨some 20, (some (17, false)), .mov (.tmp 3), [], false⟩, ⟨some 21, (some (17, false)), .len (.tmp 20), [], false⟩, ⟨some 22, (some (17, false)), .bin .neq (.tmp 19) (.tmp 21), [], false⟩, ⟨some 23, none, .pick (.tmp 17) (.const (.bool true)) (.tmp 22), [], false⟩] [0, 1, 2, 3, 23]
def k72_2 : SCode := .reg [⟨some 8, none, .mov (.const (.bool false)), [], false⟩] [8]
def k72_3 : SCode := .seq k72_2 .ret
def k72_4 : SCode := .cond (.tmp 23) k72_3 .skip
def k72_5 : SCode := .seq k72_1 k72_4
def k72_6 : SCode := .reg [⟨some 9, none, .mov (.const (.int .i64 0)), [], false⟩] [0, 1, 2, 3, 9]
def k72_7 : SCode := .reg [⟨some 24, none, .mov (.tmp 9), [], false⟩, ⟨some 25, none, .mov (.tmp 0), [], false⟩, ⟨some 26, none, .len (.tmp 25), [], false⟩, ⟨some 27, none, .bin .lss (.tmp 24) (.tmp 26), [], false⟩] [0, 1, 2, 3, 9, 27]
def k72_8 : SCode := .cond (.tmp 27) .skip (.exit 0)
def k72_9 : SCode := .seq k72_7 k72_8
def k72_10 : SCode := .reg [⟨some 30, none, .mov (.tmp 0), [], false⟩, ⟨some 31, none, .mov (.tmp 9), [], false⟩, ⟨some 32, none, .idxS 8 (.tmp 30) (.tmp 31), [], false⟩, ⟨some 33, none, .fld 0 (.tmp 32), [], false⟩, ⟨some 34, none, .load false 1 (.tmp 33), [], false⟩, ⟨some 35, none, .mov (.tmp 1), [], false⟩, ⟨some 36, none, .mov (.tmp 9), [], false⟩, ⟨some 37, none, .idxS 8 (.tmp 35) (.tmp 36), [], false⟩, ⟨some 38, none, .fld 0 (.tmp 37), [], false⟩, ⟨some 39, none, .load false 1 (.tmp 38), [], false⟩, ⟨some 40, none, .bin .neq (.tmp 34) (.tmp 39), [], false⟩, ⟨some 41, none, .mov (.tmp 40), [], false⟩, ⟨some 42, (some (41, false)), .mov (.tmp 0), [], false⟩, ⟨some 43, (some (41, false)), .mov (.tmp 9), [], false⟩, ⟨some 44, (some (41, false)), .idxS 8 (.tmp 42) (.tmp 43), [], false⟩, ⟨some 45, (some (41, false)), .fld 1 (.tmp 44), [], false⟩, ⟨some 46, (some (41, false)), .load true 2 (.tmp 45), [], false⟩, ⟨some 47, (some (41, false)), .mov (.tmp 1), [], false⟩, ⟨some 48, (some (41, false)), .mov (.tmp 9), [], false⟩, ⟨some 49, (some (41, false)), .idxS 8 (.tmp 47) (.tmp 48), [], false⟩, ⟨some 50, (some (41, false)), .fld 1 (.tmp 49), [], false⟩, ⟨some 51, (some (41, false)), .load true 2 (.tmp 50), [], false⟩, ⟨some 52, (some (41, false)), .eqC true [true, true] (.tmp 46) (.tmp 51), [], false⟩, ⟨some 53, none, .pick (.tmp 41) (.const (.bool true)) (.tmp 52), [], false⟩, ⟨some 54, none, .mov (.tmp 53), [], false⟩, ⟨some 55, (some (54, false)), .mov (.tmp 0), [], false⟩, ⟨some 56, (some (54, false)), .mov (.tmp 9), [], false⟩, ⟨some 57, (some (54, false)), .idxS 8 (.tmp 55) (.tmp 56), [], false⟩, ⟨some 58, (some (54, false)), .fld 3 (.tmp 57), [], false⟩, ⟨some 59, (some (54, false)), .load false 1 (.tmp 58), [], false⟩, ⟨some 60, (some (54, false)), .mov (.tmp 1), [], false⟩, ⟨some 61, (some (54, false)), .mov (.tmp 9), [], false⟩, ⟨some 62, (some (54, false)), .idxS 8 (.tmp 60) (.tmp 61), [], false⟩, ⟨some 63, (some (54, false)), .fld 3 (.tmp 62), [], false⟩, ⟨some 64, (some (54, false)), .load false 1 (.tmp 63), [], false⟩, ⟨some 65, (some (54, false)), .bin .neq (.tmp 59) (.tmp 64), [], false⟩, ⟨some 66, none, .pick (.tmp 54) (.const (.bool true)) (.tmp 65), [], false⟩, ⟨some 67, none, .mov (.tmp 66), [], false⟩, ⟨some 68, (some (67, false)), .mov (.tmp 0), [], false⟩, ⟨some 69, (some (67, false)), .mov (.tmp 9), [], false⟩, ⟨some 70, (some (67, false)), .idxS 8 (.tmp 68) (.tmp 69), [], false⟩, ⟨some 71, (some (67, false)), .fld 4 (.tmp 70), [], false⟩, ⟨some 72, (some (67, false)), .load true 2 (.tmp 71), [], false⟩, ⟨some 73, (some (67, false)), .mov (.tmp 1), [], false⟩, ⟨some 74, (some (67, false)), .mov (.tmp 9), [], false⟩, ⟨some 75, (some (67, false)), .idxS 8 (.tmp 73) (.tmp 74), [], false⟩, ⟨some 76, (some (67, false)), .fld 4 (.tmp 75), [], false⟩, ⟨some 77, (some (67, false)), .load true 2 (.tmp 76), [], false⟩, ⟨some 78, (some (67, false)), .eqC true [true, true] (.tmp 72) (.tmp 77), [], false⟩, ⟨some 79, none, .pick (.tmp 67) (.const (.bool true)) (.tmp 78), [], false⟩, ⟨some 80, none, .mov (.tmp 79), [], false⟩, ⟨some 81, (some (80, false)), .mov (.tmp 0), [], false⟩, ⟨some 82, (some (80, false)), .mov (.tmp 9), [], false⟩, ⟨some 83, (some (80, false)), .idxS 8 (.tmp 81) (.tmp 82), [], false⟩, ⟨some 84, (some (80, false)), .fld 6 (.tmp 83), [], false⟩, ⟨some 85, (some (80, false)), .load false 1 (.tmp 84), [], false⟩, ⟨some 86, (some (80, false)), .mov (.tmp 1), [], false⟩, ⟨some 87, (some (80, false)), .mov (.tmp 9), [], false⟩, ⟨some 88, (some (80, false)), .idxS 8 (.tmp 86) (.tmp 87), [], false⟩, ⟨some 89, (some (80, false)), .fld 6 (.tmp 88), [], false⟩, ⟨some 90, (some (80, false)), .load false 1 (.tmp 89), [], false⟩, ⟨some 91, (some (80, false)), .bin .neq (.tmp 85) (.tmp 90), [], false⟩, ⟨some 92, none, .pick (.tmp 80) (.const (.bool true)) (.tmp 91), [], false⟩, ⟨some 93, none, .mov (.tmp 92), [], false⟩, ⟨some 94, (some (93, false)), .mov (.tmp 0), [], false⟩, ⟨some 95, (some (93, false)), .mov (.tmp 9), [], false⟩, ⟨some 96, (some (93, false)), .idxS 8 (.tmp 94) (.tmp 95), [], false⟩, ⟨some 97, (some (93, false)), .fld 7 (.tmp 96), [], false⟩, ⟨some 98, (some (93, false)), .load false 1 (.tmp 97), [], false⟩, ⟨some 99, (some (93, false)), .len (.tmp 98), [], false⟩, ⟨some 100, (some (93, false)), .mov (.tmp 1), [], false⟩, ⟨some 101, (some (93, false)), .mov (.tmp 9), [], false⟩, ⟨some 102, (some (93, false)), .idxS 8 (.tmp 100) (.tmp 101), [], false⟩, ⟨some 103, (some (93, false)), .fld 7 (.tmp 102), [], false⟩, ⟨some 104, (some (93, false)), .load false 1 (.tmp 103), [], false⟩, ⟨some 105, (some (93, false)), .len (.tmp 104), [], false⟩, ⟨some 106, (some (93, false)), .bin .neq (.tmp 99) (.tmp 105), [], false⟩, ⟨some 107, none, .pick (.tmp 93) (.const (.bool true)) (.tmp 106), [], false⟩] [0, 1, 2, 3, 9, 107]
def k72_11 : SCode := .reg [⟨some 8, none, .mov (.const (.bool false)), [], false⟩] [8]
def k72_12 : SCode := .seq k72_11 .ret
def k72_13 : SCode := .cond (.tmp 107) k72_12 .skip
def k72_14 : SCode := .seq k72_10 k72_13
def k72_15 : SCode := .reg [⟨some 10, none, .mov (.const (.int .i64 0)), [], false⟩] [0, 1, 2, 3, 9, 10]
def k72_16 : SCode := .reg [⟨some 108, none, .mov (.tmp 10), [], false⟩, ⟨some 109, none, .mov (.tmp 0), [], false⟩, ⟨some 110, none, .mov (.tmp 9), [], false⟩, ⟨some 111, none, .idxS 8 (.tmp 109) (.tmp 110), [], false⟩, ⟨some 112, none, .fld 7 (.tmp 111), [], false⟩, ⟨some 113, none, .load false 1 (.tmp 112), [], false⟩, ⟨some 114, none, .len (.tmp 113), [], false⟩, ⟨some 115, none, .bin .lss (.tmp 108) (.tmp 114), [], false⟩] [0, 1, 2, 3, 9, 10, 115]
def k72_17 : SCode := .cond (.tmp 115) .skip (.exit 2)
def k72_18 : SCode := .seq k72_16 k72_17
def k72_19 : SCode := .reg [⟨some 118, none, .mov (.tmp 0), [], false⟩, ⟨some 119, none, .mov (.tmp 9), [], false⟩, ⟨some 120, none, .idxS 8 (.tmp 118) (.tmp 119), [], false⟩, ⟨some 121, none, .fld 7 (.tmp 120), [], false⟩, ⟨some 122, none, .load false 1 (.tmp 121), [], false⟩, ⟨some 123, none, .mov (.tmp 10), [], false⟩, ⟨some 124, none, .idxS 1 (.tmp 122) (.tmp 123), [], false⟩, ⟨some 125, none, .load false 1 (.tmp 124), [], false⟩, ⟨some 126, none, .mov (.tmp 1), [], false⟩, ⟨some 127, none, .mov (.tmp 9), [], false⟩, ⟨some 128, none, .idxS 8 (.tmp 126) (.tmp 127), [], false⟩, ⟨some 129, none, .fld 7 (.tmp 128), [], false⟩, ⟨some 130, none, .load false 1 (.tmp 129), [], false⟩, ⟨some 131, none, .mov (.tmp 10), [], false⟩, ⟨some 132, none, .idxS 1 (.tmp 130) (.tmp 131), [], false⟩, ⟨some 133, none, .load false 1 (.tmp 132), [], false⟩, ⟨some 134, none, .bin .neq (.tmp 125) (.tmp 133), [], false⟩] [0, 1, 2, 3, 9, 10, 134]
def k72_20 : SCode := .reg [⟨some 8, none, .mov (.const (.bool false)), [], false⟩] [8]
def k72_21 : SCode := .seq k72_20 .ret
def k72_22 : SCode := .cond (.tmp 134) k72_21 .skip
def k72_23 : SCode := .seq k72_19 k72_22
def k72_24 : SCode := .block 3 k72_23
def k72_25 : SCode := .reg [⟨some 116, none, .mov (.tmp 10), [], false⟩, ⟨some 117, none, .bin .add (.tmp 116) (.const (.int .i64 1)), [], false⟩, ⟨some 10, none, .mov (.tmp 117), [], false⟩] [0, 1, 2, 3, 9, 10]
def k72_26 : SCode := .seq k72_24 k72_25
def k72_27 : SCode := .seq k72_18 k72_26
def k72_28 : SCode := .loop k72_27
def k72_29 : SCode := .block 2 k72_28
def k72_30 : SCode := .seq k72_15 k72_29
def k72_31 : SCode := .seq k72_14 k72_30
def k72_32 : SCode := .block 1 k72_31
def k72_33 : SCode := .reg [⟨some 28, none, .mov (.tmp 9), [], false⟩, ⟨some 29, none, .bin .add (.tmp 28) (.const (.int .i64 1)), [], false⟩, ⟨some 9, none, .mov (.tmp 29), [], false⟩] [0, 1, 2, 3, 9]
def k72_34 : SCode := .seq k72_32 k72_33
def k72_35 : SCode := .seq k72_9 k72_34
def k72_36 : SCode := .loop k72_35
def k72_37 : SCode := .block 0 k72_36
def k72_38 : SCode := .seq k72_6 k72_37
def k72_39 : SCode := .reg [⟨some 11, none, .mov (.const (.int .i64 0)), [], false⟩] [2, 3, 11]
def k72_40 : SCode := .reg [⟨some 135, none, .mov (.tmp 11), [], false⟩, ⟨some 136, none, .mov (.tmp 2), [], false⟩, ⟨some 137, none, .len (.tmp 136), [], false⟩, ⟨some 138, none, .bin .lss (.tmp 135) (.tmp 137), [], false⟩] [2, 3, 11, 138]
def k72_41 : SCode := .cond (.tmp 138) .skip (.exit 4)
def k72_42 : SCode := .seq k72_40 k72_41
def k72_43 : SCode := .reg [⟨some 141, none, .mov (.tmp 2), [], false⟩, ⟨some 142, none, .mov (.tmp 11), [], false⟩, ⟨some 143, none, .idxS 3 (.tmp 141) (.tmp 142), [], false⟩, ⟨some 144, none, .load true 3 (.tmp 143), [], false⟩, ⟨some 145, none, .mov (.tmp 3), [], false⟩, ⟨some 146, none, .mov (.tmp 11), [], false⟩, ⟨some 147, none, .idxS 3 (.tmp 145) (.tmp 146), [], false⟩, ⟨some 148, none, .load true 3 (.tmp 147), [], false⟩, ⟨some 149, none, .eqC true [true, true, true] (.tmp 144) (.tmp 148), [], false⟩] [2, 3, 11, 149]
def k72_44 : SCode := .reg [⟨some 8, none, .mov (.const (.bool false)), [], false⟩] [8]
def k72_45 : SCode := .seq k72_44 .ret
def k72_46 : SCode := .cond (.tmp 149) k72_45 .skip
def k72_47 : SCode := .seq k72_43 k72_46
def k72_48 : SCode := .block 5 k72_47
def k72_49 : SCode := .reg [⟨some 139, none, .mov (.tmp 11), [], false⟩, ⟨some 140, none, .bin .add (.tmp 139) (.const (.int .i64 1)), [], false⟩, ⟨some 11, none, .mov (.tmp 140), [], false⟩] [2, 3, 11]
def k72_50 : SCode := .seq k72_48 k72_49
def k72_51 : SCode := .seq k72_42 k72_50
def k72_52 : SCode := .loop k72_51
def k72_53 : SCode := .block 4 k72_52
def k72_54 : SCode := .seq k72_39 k72_53
def k72_55 : SCode := .reg [⟨some 8, none, .mov (.const (.bool true)), [], false⟩] [8]
def k72_56 : SCode := .seq k72_55 .ret
def k72_57 : SCode := .seq k72_54 k72_56
def k72_58 : SCode := .seq k72_38 k72_57
def k72_59 : SCode := .seq k72_5 k72_58
def k72_60 : SCode := .seq k72_0 k72_59
@[simp] def rs_turretlaw08_unchanged : List SRes := [.tmp 8]
theorem law_turretlaw08_unchanged (cs : List CV) (r : CV) (hl : cs.length ≤ 150) (h : STri (cfF Try.prog [] 150) k72_60 (initT 0 cs) [] (retQ rs_turretlaw08_unchanged r)) : SC Try.prog 19 cs r :=
  sc_of [] follows Try.func19 rfl Try.ntmps19 (by decide) (by kernel_rfl) (by kernel_rfl) hl h
def k73_0 : SCode := .reg [⟨some 4, none, .alloc 25 [(.int .i64 0), (.int .i64 0)], [], false⟩] [0, 1, 4]
def k73_1 : SCode := .reg [⟨some 5, none, .mov (.tmp 0), [], false⟩, ⟨some 6, none, .mov (.tmp 1), [], false⟩, ⟨some 7, none, .build [(.int .i64 0), (.int .i64 0)] [(0, 1, (.tmp 5)), (1, 1, (.tmp 6))], [], false⟩, ⟨none, none, .store 2 (.tmp 4) (.tmp 7), [], false⟩] [4]
def k73_2 : SCode := .seq k73_1 .ret
def k73_3 : SCode := .seq k73_0 k73_2
@[simp] def rs_turretlaw08_span : List SRes := [.cell 4 true 2]
theorem law_turretlaw08_span (cs : List CV) (r : CV) (hl : cs.length ≤ 8) (h : STri (cfF Try.prog [] 8) k73_3 (initT 0 cs) [] (retQ rs_turretlaw08_span r)) : SC Try.prog 34 cs r :=
  sc_of [] follows Try.func34 rfl Try.ntmps34 (by decide) (by kernel_rfl) (by kernel_rfl) hl h
def k74_0 : SCode := .reg [⟨some 0, none, .mov (.const (.slice none 0 0)), [], false⟩] []
def k74_1 : SCode := .reg [⟨some 1, none, .call 34 [(.const (.int .i64 0)), (.const (.int .i64 1))], [], false⟩, ⟨some 2, none, .build [(.int .i64 0), (.int .i64 0), (.int .i64 0), (.int .i64 0), (.int .i64 0), (.int .i64 0), (.int .i64 0), (.slice none 0 0)] [(0, 1, (.const (.int .i64 2))), (1, 2, (.tmp 1)), (3, 1, (.const (.int .i64 3600))), (6, 1, (.const (.int .i64 86400)))], [], false⟩, ⟨some 3, none, .call 34 [(.const (.int .i64 2)), (.const (.int .i64 5))], [], false⟩, ⟨some 4, none, .build [(.int .i64 0), (.int .i64 0), (.int .i64 0), (.int .i64 0), (.int .i64 0), (.int .i64 0), (.int .i64 0), (.slice none 0 0)] [(0, 1, (.const (.int .i64 4))), (1, 2, (.tmp 3))], [], false⟩, ⟨some 5, none, .call 34 [(.const (.int .i64 (-1))), (.const (.int .i64 1))], [], false⟩, ⟨some 6, none, .call 34 [(.const (.int .i64 0)), (.const (.int .i64 2000))], [], false⟩, ⟨some 7, none, .build [(.int .i64 0), (.int .i64 0), (.int .i64 0), (.int .i64 0), (.int .i64 0), (.int .i64 0), (.int .i64 0), (.slice none 0 0)] [(0, 1, (.const (.int .i64 1))), (1, 2, (.tmp 5)), (4, 2, (.tmp 6))], [], false⟩, ⟨some 8, none, .buildSl 79 8 [(.int .i64 0), (.int .i64 0), (.int .i64 0), (.int .i64 0), (.int .i64 0), (.int .i64 0), (.int .i64 0), (.slice none 0 0)] 3 [(0, (.tmp 2)), (1, (.tmp 4)), (2, (.tmp 7))], [], false⟩, ⟨some 0, none, .mov (.tmp 8), [], false⟩] [0]
def k74_2 : SCode := .seq k74_1 .ret
def k74_3 : SCode := .seq k74_0 k74_2
@[simp] def rs_turretlaw08_three : List SRes := [.tmp 0]
theorem law_turretlaw08_three (cs : List CV) (r : CV) (hl : cs.length ≤ 9) (h : STri (cfF Try.prog [] 9) k74_3 (initT 0 cs) [] (retQ rs_turretlaw08_three r)) : SC Try.prog 42 cs r :=
  sc_of [] follows Try.func42 rfl Try.ntmps42 (by decide) (by kernel_rfl) (by kernel_rfl) hl h
def k75_0 : SCode := .reg [⟨some 2, none, .mov (.const (.slice none 0 0)), [], false⟩] [0]
def k75_1 : SCode := .reg [⟨some 3, none, .build [(.int .i64 0), (.int .i64 0), (.int .i64 0)] [(0, 1, (.const (.int .i64 0))), (1, 1, (.const (.int .i64 3500)))], [], false⟩, ⟨some 4, none, .build [(.int .i64 0), (.int .i64 0), (.int .i64 0)] [(0, 1, (.const (.int .i64 1))), (1, 1, (.const (.int .i64 7000))), (2, 1, (.const (.int .i64 7098)))], [], false⟩, ⟨some 5, none, .mov (.tmp 0), [], false⟩, ⟨some 6, none, .build [(.int .i64 0), (.int .i64 0), (.int .i64 0)] [(0, 1, (.const (.int .i64 2))), (1, 1, (.const (.int .i64 86300))), (2, 1, (.tmp 5))], [], false⟩, ⟨some 7, none, .buildSl 73 3 [(.int .i64 0), (.int .i64 0), (.int .i64 0)] 3 [(0, (.tmp 3)), (1, (.tmp 4)), (2, (.tmp 6))], [], false⟩, ⟨some 2, none, .mov (.tmp 7), [], false⟩] [2]
def k75_2 : SCode := .seq k75_1 .ret
def k75_3 : SCode := .seq k75_0 k75_2
@[simp] def rs_turretlaw08_notes : List SRes := [.tmp 2]
theorem law_turretlaw08_notes (cs : List CV) (r : CV) (hl : cs.length ≤ 8) (h : STri (cfF Try.prog [] 8) k75_3 (initT 0 cs) [] (retQ rs_turretlaw08_notes r)) : SC Try.prog 43 cs r :=
  sc_of [] follows Try.func43 rfl Try.ntmps43 (by decide) (by kernel_rfl) (by kernel_rfl) hl h
end Go.Proofs.Ytakdmliblijgmaa
/- Wire's laws, I: the examples' sources and notes; what is too large. -/
namespace Go.Proofs.Ytakdmliblijgmaa
open Go.RowKit
theorem lSpan (lo hi : Int) : SC Try.prog 34 [I lo, I hi] (.agg [I lo, I hi]) := by
  refine law_turretlaw08_span _ _ (by simp) ?_
  (repeat' (first | ((first | with_reducible refine st_skip ?_ | with_reducible refine st_exit ?_); (try simp only [seqQ, blockQ, loopQ, forQ, whileQ, reduceIte, Nat.reduceEqDiff])) | (with_reducible refine st_ret ?_; ((try simp only [seqQ, blockQ, loopQ, forQ, whileQ]); first | (with_reducible refine retM_ret ?_) | refine retQ_ret ?_; simp)) | refine st_seq ?_ | refine st_block ?_ | ((with_reducible show (STri _ _ _ _ _) ∧ (STri _ _ _ _ _)); refine And.intro ?_ ?_) | ((first | refine st_reg ?_ | refine buildP_own ?_ | refine appP_own ?_) <;> (simp -dsimp; (repeat (simp -dsimp (disch := (first | omega | assumption | (refine Bool.eq_false_iff.1 ?_; assumption))) only [wrap_in, if_pos, if_neg]; (try simp -dsimp))))) | ((first | refine guardP_of (fun hc => ?_) (fun hc => ?_) | refine st_cond rfl (fun hc => ?_) (fun hc => ?_)) <;> (try simp only [lqA, lqB, lqC, lqD, lqE, lqF, lqG, lqH, lqI, lqJ, lqK, lqL, lqM, lqN, lqO] at hc) <;> (try (exfalso; first | omega | exact bool_tf hc (by assumption) | exact bool_ft hc (by assumption) | exact absurd (by assumption) hc)) <;> (first | with_reducible show STri _ _ _ _ _ _ | (simp -dsimp [hc]; (repeat (simp -dsimp (disch := (first | omega | assumption | (refine Bool.eq_false_iff.1 ?_; assumption))) only [wrap_in, if_pos, if_neg]; (try simp -dsimp [hc]))))))))
  exact .refl _
theorem SC.ans {P : Program} {f : FuncId} {cs : List CV} {r r' : CV} (h : SC P f cs r) (hr : ∀ (w : World) (N : Nat → Prop) (v : Value), RepC w N r v → RepC w N r' v) : SC P f cs r' := fun w NA vs hn hs hv =>
  (h w NA vs hn hs hv).mono fun _ _ ⟨v, h1, h2, h3⟩ => ⟨v, h1, hr _ _ _ h2, h3⟩
theorem rep_rows {w : World} {N : Nat → Prop} {k : Nat} {rows rows' : List (List CV)} {v : Value} (hl : rows'.length = rows.length)
    (hr : ∀ (j : Nat) row row', rows[j]? = some row → rows'[j]? = some row' → row'.length = row.length ∧ row'.all CV.one = true ∧ ∀ (i : Nat) x y, row[i]? = some x → row'[i]? = some y → ∀ v, RepC w N x v → RepC w N y v)
    (h : RepC w N (.sl k rows) v) : RepC w N (.sl k rows') v := by
  have back : ∀ (j : Nat) row', rows'[j]? = some row' → ∃ row, rows[j]? = some row := fun j row' hj => by
    have hlt := (List.getElem?_eq_some_iff.1 hj).1
    exact ⟨rows[j]'(by omega), List.getElem?_eq_getElem _⟩
  cases h with
  | nil k a c h1 =>
    have : rows' = [] := List.length_eq_zero_iff.1 hl
    subst this
    exact .nil k a c h1
  | sl k rows b off c u h1 h2 h3 h4 h5 h6 h7 =>
    rw [← hl]
    refine .sl k rows' b off c u (by omega) h2 h3 h4 (fun j row' hj => ?_) (fun j row' i y hj hy => ?_) (fun j row' i y hj hy => ?_)
    · obtain ⟨row, hj0⟩ := back j row' hj
      obtain ⟨e1, e2, _⟩ := hr j row row' hj0 hj
      exact ⟨e1.trans (h5 j row hj0).1, e2⟩
    · obtain ⟨row, hj0⟩ := back j row' hj
      obtain ⟨e1, _, _⟩ := hr j row row' hj0 hj
      have hi := (List.getElem?_eq_some_iff.1 hy).1
      exact h6 j row i _ hj0 (List.getElem?_eq_getElem (by omega))
    · obtain ⟨row, hj0⟩ := back j row' hj
      obtain ⟨e1, _, e3⟩ := hr j row row' hj0 hj
      have hi := (List.getElem?_eq_some_iff.1 hy).1
      have hx := List.getElem?_eq_getElem (l := row) (i := i) (by omega)
      exact e3 i _ y hx hy _ (h7 j row i _ hj0 hx)
theorem rep_nil {w : World} {N : Nat → Prop} {v : Value} (k : Nat) (h : RepC w N (.val (.slice none 0 0)) v) : RepC w N (.sl k []) v := (CLe.nil k).rep h
def threeW : List Wsrc := [⟨2, 0, 1, 3600, 0, 0, 86400, []⟩, ⟨4, 2, 5, 0, 0, 0, 0, []⟩, ⟨1, -1, 1, 0, 0, 2000, 0, []⟩]
def notesW (x : Int) : List Wnt := [⟨0, 3500, 0⟩, ⟨1, 7000, 7098⟩, ⟨2, 86300, x⟩]
def rowNil (s : Wsrc) : List CV := [I s.kind, I s.elo, I s.ehi, I s.at', I s.dlo, I s.dhi, I s.every, .val (.slice none 0 0)]
theorem rep_nils {w : World} {N : Nat → Prop} {l : List Wsrc} (hl : ∀ s ∈ l, s.table = []) {v : Value} (h : RepC w N (.sl 8 (l.map rowNil)) v) : RepC w N (slSr l) v := by
  unfold slSr
  refine rep_rows (by simp) (fun j row row' h1 h2 => ?_) h
  rw [List.getElem?_map, Option.map_eq_some_iff] at h1 h2
  obtain ⟨s, e1, rfl⟩ := h1
  obtain ⟨s', e2, rfl⟩ := h2
  rw [e1] at e2; cases e2
  have ht := hl s (List.mem_of_getElem? e1)
  refine ⟨rfl, by simp, fun i x y hx hy v hv => ?_⟩
  unfold rowNil at hx
  unfold rowSr at hy
  rw [ht] at hy
  rcases i with _ | _ | _ | _ | _ | _ | _ | _ | i
  · simp at hx hy; subst hx; subst hy; exact hv
  · simp at hx hy; subst hx; subst hy; exact hv
  · simp at hx hy; subst hx; subst hy; exact hv
  · simp at hx hy; subst hx; subst hy; exact hv
  · simp at hx hy; subst hx; subst hy; exact hv
  · simp at hx hy; subst hx; subst hy; exact hv
  · simp at hx hy; subst hx; subst hy; exact hv
  · simp at hx hy; subst hx; subst hy; exact rep_nil 1 hv
  · simp at hx
theorem lThree : SC Try.prog 42 [] (slSr threeW) := by
  refine SC.ans (r := .sl 8 (threeW.map rowNil)) ?_ (fun w N v h => rep_nils (by simp [threeW]) h)
  refine law_turretlaw08_three _ _ (by simp) ?_
  unfold threeW rowNil
  (repeat' (first | ((first | with_reducible refine st_skip ?_ | with_reducible refine st_exit ?_); (try simp only [seqQ, blockQ, loopQ, forQ, whileQ, reduceIte, Nat.reduceEqDiff])) | (with_reducible refine st_ret ?_; ((try simp only [seqQ, blockQ, loopQ, forQ, whileQ]); first | (with_reducible refine retM_ret ?_) | refine retQ_ret ?_; simp)) | refine st_seq ?_ | refine st_block ?_ | ((with_reducible show (STri _ _ _ _ _) ∧ (STri _ _ _ _ _)); refine And.intro ?_ ?_) | ((first | refine st_reg ?_ | refine buildP_own ?_ | refine appP_own ?_ | refine callP_b (lSpan 0 1) rfl ?_ | refine callP_b (lSpan 2 5) rfl ?_ | refine callP_b (lSpan (-1) 1) rfl ?_ | refine callP_b (lSpan 0 2000) rfl ?_) <;> (simp -dsimp; (repeat (simp -dsimp (disch := (first | omega | assumption | (refine Bool.eq_false_iff.1 ?_; assumption))) only [wrap_in, if_pos, if_neg]; (try simp -dsimp))))) | ((first | refine guardP_of (fun hc => ?_) (fun hc => ?_) | refine st_cond rfl (fun hc => ?_) (fun hc => ?_)) <;> (try simp only [lqA, lqB, lqC, lqD, lqE, lqF, lqG, lqH, lqI, lqJ, lqK, lqL, lqM, lqN, lqO] at hc) <;> (try (exfalso; first | omega | exact bool_tf hc (by assumption) | exact bool_ft hc (by assumption) | exact absurd (by assumption) hc)) <;> (first | with_reducible show STri _ _ _ _ _ _ | (simp -dsimp [hc]; (repeat (simp -dsimp (disch := (first | omega | assumption | (refine Bool.eq_false_iff.1 ?_; assumption))) only [wrap_in, if_pos, if_neg]; (try simp -dsimp [hc]))))))))
  exact .refl _
theorem lNotes (x : Int) : SC Try.prog 43 [I x] (slN (notesW x)) := by
  refine law_turretlaw08_notes _ _ (by simp) ?_
  unfold notesW
  (repeat' (first | ((first | with_reducible refine st_skip ?_ | with_reducible refine st_exit ?_); (try simp only [seqQ, blockQ, loopQ, forQ, whileQ, reduceIte, Nat.reduceEqDiff])) | (with_reducible refine st_ret ?_; ((try simp only [seqQ, blockQ, loopQ, forQ, whileQ]); first | (with_reducible refine retM_ret ?_) | refine retQ_ret ?_; simp)) | refine st_seq ?_ | refine st_block ?_ | ((with_reducible show (STri _ _ _ _ _) ∧ (STri _ _ _ _ _)); refine And.intro ?_ ?_) | ((first | refine st_reg ?_ | refine buildP_own ?_ | refine appP_own ?_) <;> (simp -dsimp; (repeat (simp -dsimp (disch := (first | omega | assumption | (refine Bool.eq_false_iff.1 ?_; assumption))) only [wrap_in, if_pos, if_neg]; (try simp -dsimp))))) | ((first | refine guardP_of (fun hc => ?_) (fun hc => ?_) | refine st_cond rfl (fun hc => ?_) (fun hc => ?_)) <;> (try simp only [lqA, lqB, lqC, lqD, lqE, lqF, lqG, lqH, lqI, lqJ, lqK, lqL, lqM, lqN, lqO] at hc) <;> (try (exfalso; first | omega | exact bool_tf hc (by assumption) | exact bool_ft hc (by assumption) | exact absurd (by assumption) hc)) <;> (first | with_reducible show STri _ _ _ _ _ _ | (simp -dsimp [hc]; (repeat (simp -dsimp (disch := (first | omega | assumption | (refine Bool.eq_false_iff.1 ?_; assumption))) only [wrap_in, if_pos, if_neg]; (try simp -dsimp [hc]))))))))
  exact .refl _
theorem lSaid (l : List Wnt) (hl : l.length ≤ 1000000) : SC Try.prog 15 [slN l] (slN l) := by
  refine law_turretlaw08_said _ _ (by simp) ?_
  have hA : (l.length : Int) ≤ 9223372036854775806 := by omega
  have hA2 : l.length ≤ 9223372036854775807 := by omega
  have hB : l.length * 24 ≤ 140737488355328 := by omega
  (repeat' (first | ((first | with_reducible refine st_skip ?_ | with_reducible refine st_exit ?_); (try simp only [seqQ, blockQ, loopQ, forQ, whileQ, reduceIte, Nat.reduceEqDiff])) | (with_reducible refine st_ret ?_; ((try simp only [seqQ, blockQ, loopQ, forQ, whileQ]); first | (with_reducible refine retM_ret ?_) | refine retQ_ret ?_; simp [hA, hA2, hB])) | refine st_seq ?_ | refine st_block ?_ | ((with_reducible show (STri _ _ _ _ _) ∧ (STri _ _ _ _ _)); refine And.intro ?_ ?_) | ((first | refine st_reg ?_ | refine buildP_own ?_ | refine appP_own ?_) <;> (simp -dsimp [hA, hA2, hB]; (repeat (simp -dsimp (disch := (first | omega | assumption | (refine Bool.eq_false_iff.1 ?_; assumption))) only [wrap_in, if_pos, if_neg]; (try simp -dsimp [hA, hA2, hB]))))) | ((first | refine guardP_of (fun hc => ?_) (fun hc => ?_) | refine st_cond rfl (fun hc => ?_) (fun hc => ?_)) <;> (try simp only [lqA, lqB, lqC, lqD, lqE, lqF, lqG, lqH, lqI, lqJ, lqK, lqL, lqM, lqN, lqO] at hc) <;> (try (exfalso; first | omega | exact bool_tf hc (by assumption) | exact bool_ft hc (by assumption) | exact absurd (by assumption) hc)) <;> (first | with_reducible show STri _ _ _ _ _ _ | (simp -dsimp [hA, hA2, hB, hc]; (repeat (simp -dsimp (disch := (first | omega | assumption | (refine Bool.eq_false_iff.1 ?_; assumption))) only [wrap_in, if_pos, if_neg]; (try simp -dsimp [hA, hA2, hB, hc]))))))))
  exact .refl _
def bigB (s : Wsrc) : Bool := decide (370 < s.table.length)
def largeB (w : List Wsrc) (l : List Wnt) (nlo nhi : Int) : Bool := (w.take 13).any bigB || decide (12 < w.length) || (decide (12 < l.length) && decide (l.length ≤ 60)) || decide (65 < l.length) || (decide (newErr w l nlo nhi = 0) && decide (150 < nhi - nlo))
theorem anyTake_succ {α : Type} {p : α → Bool} {l : List α} {k : Nat} (h : k < l.length) : (l.take (k + 1)).any p = ((l.take k).any p || p l[k]) := by
  rw [List.take_succ_eq_append_getElem h, List.any_append]
  simp
def NoBig (w : List Wsrc) (k : Nat) : Prop := (w.take k).any bigB = false
set_option maxRecDepth 100000 in
theorem lLarge (w : List Wsrc) (l : List Wnt) (nlo nhi : Int) (h0 : newErr w l nlo nhi = 0 → -7200 ≤ nlo ∧ nlo ≤ nhi ∧ nhi ≤ 7200) : SC Try.prog 12 [slSr w, slN l, .agg [I nlo, I nhi]] (B (largeB w l nlo nhi)) := by
  refine law_turretlaw08_large _ _ (by simp) ?_
  (repeat' (first | ((first | with_reducible refine st_skip ?_ | with_reducible refine st_exit ?_); (try simp only [seqQ, blockQ, loopQ, forQ, whileQ, reduceIte, Nat.reduceEqDiff])) | (with_reducible refine st_ret ?_; ((try simp only [seqQ, blockQ, loopQ, forQ, whileQ]); first | (with_reducible refine retM_ret ?_) | refine retQ_ret ?_; simp)) | refine st_seq ?_ | refine st_block ?_ | ((with_reducible show (STri _ _ _ _ _) ∧ (STri _ _ _ _ _)); refine And.intro ?_ ?_) | ((first | refine st_reg ?_ | refine buildP_own ?_ | refine appP_own ?_) <;> (simp -dsimp; (repeat (simp -dsimp (disch := (first | omega | assumption | (refine Bool.eq_false_iff.1 ?_; assumption))) only [wrap_in, if_pos, if_neg]; (try simp -dsimp))))) | ((first | refine guardP_of (fun hc => ?_) (fun hc => ?_) | refine st_cond rfl (fun hc => ?_) (fun hc => ?_)) <;> (try simp only [lqA, lqB, lqC, lqD, lqE, lqF, lqG, lqH, lqI, lqJ, lqK, lqL, lqM, lqN, lqO] at hc) <;> (try (exfalso; first | omega | exact bool_tf hc (by assumption) | exact bool_ft hc (by assumption) | exact absurd (by assumption) hc)) <;> (first | with_reducible show STri _ _ _ _ _ _ | (simp -dsimp [hc]; (repeat (simp -dsimp (disch := (first | omega | assumption | (refine Bool.eq_false_iff.1 ?_; assumption))) only [wrap_in, if_pos, if_neg]; (try simp -dsimp [hc]))))))))
  refine st_for [5] (min w.length 13) (fun k T H => NoBig w k ∧ T = [(0, .c (slSr w)), (1, .c (slN l)), (5, .ptr 5 0), (7, .c (I k))] ∧ H = [(5, .box 25 [.c (I nlo), .c (I nhi)])]) (by simp) ⟨by simp [NoBig], by simp, by simp⟩ ?_
  rintro k T H hk ⟨hno, rfl, rfl⟩
  unfold NoBig at hno
  by_cases hlt : k < min w.length 13
  · have hlw : k < w.length := by omega
    have hl13 : (k : Int) < 13 := by omega
    have hs := anyTake_succ (p := bigB) hlw
    rw [hno, Bool.false_or] at hs
    by_cases hb : bigB w[k] = true
    · have e : (w.take 13).any bigB = true := by
        rw [List.any_eq_true]
        exact ⟨w[k], List.mem_take_iff_getElem.2 ⟨k, by omega, rfl⟩, hb⟩
      have hr : largeB w l nlo nhi = true := by unfold largeB; rw [e]; simp
      rw [hr]
      unfold bigB at hb
      have hb2 : (370 : Int) < (w[k]).table.length := by simp at hb; omega
      (repeat' (first | ((first | with_reducible refine st_skip ?_ | with_reducible refine st_exit ?_); (try simp only [seqQ, blockQ, loopQ, forQ, whileQ, reduceIte, Nat.reduceEqDiff])) | (with_reducible refine st_ret ?_; ((try simp only [seqQ, blockQ, loopQ, forQ, whileQ]); first | (with_reducible refine retM_ret ?_) | refine retQ_ret ?_; simp [hlw, hl13, hb2])) | refine st_seq ?_ | refine st_block ?_ | ((with_reducible show (STri _ _ _ _ _) ∧ (STri _ _ _ _ _)); refine And.intro ?_ ?_) | ((first | refine st_reg ?_ | refine buildP_own ?_ | refine appP_own ?_) <;> (simp -dsimp [hlw, hl13, hb2]; (repeat (simp -dsimp (disch := (first | omega | assumption | (refine Bool.eq_false_iff.1 ?_; assumption))) only [wrap_in, if_pos, if_neg]; (try simp -dsimp [hlw, hl13, hb2]))))) | ((first | refine guardP_of (fun hc => ?_) (fun hc => ?_) | refine st_cond rfl (fun hc => ?_) (fun hc => ?_)) <;> (try simp only [lqA, lqB, lqC, lqD, lqE, lqF, lqG, lqH, lqI, lqJ, lqK, lqL, lqM, lqN, lqO] at hc) <;> (try (exfalso; first | omega | exact bool_tf hc (by assumption) | exact bool_ft hc (by assumption) | exact absurd (by assumption) hc)) <;> (first | with_reducible show STri _ _ _ _ _ _ | (simp -dsimp [hlw, hl13, hb2, hc]; (repeat (simp -dsimp (disch := (first | omega | assumption | (refine Bool.eq_false_iff.1 ?_; assumption))) only [wrap_in, if_pos, if_neg]; (try simp -dsimp [hlw, hl13, hb2, hc]))))))))
      exact .refl _
    · rw [Bool.not_eq_true] at hb
      have hb2 : ¬ (370 : Int) < (w[k]).table.length := by unfold bigB at hb; simp at hb; omega
      (repeat' (first | ((first | with_reducible refine st_skip ?_ | with_reducible refine st_exit ?_); (try simp only [seqQ, blockQ, loopQ, forQ, whileQ, reduceIte, Nat.reduceEqDiff])) | (with_reducible refine st_ret ?_; ((try simp only [seqQ, blockQ, loopQ, forQ, whileQ]); first | (with_reducible refine retM_ret ?_) | refine retQ_ret ?_; simp [hlw, hl13, hb2])) | refine st_seq ?_ | refine st_block ?_ | ((with_reducible show (STri _ _ _ _ _) ∧ (STri _ _ _ _ _)); refine And.intro ?_ ?_) | ((first | refine st_reg ?_ | refine buildP_own ?_ | refine appP_own ?_) <;> (simp -dsimp [hlw, hl13, hb2]; (repeat (simp -dsimp (disch := (first | omega | assumption | (refine Bool.eq_false_iff.1 ?_; assumption))) only [wrap_in, if_pos, if_neg]; (try simp -dsimp [hlw, hl13, hb2]))))) | ((first | refine guardP_of (fun hc => ?_) (fun hc => ?_) | refine st_cond rfl (fun hc => ?_) (fun hc => ?_)) <;> (try simp only [lqA, lqB, lqC, lqD, lqE, lqF, lqG, lqH, lqI, lqJ, lqK, lqL, lqM, lqN, lqO] at hc) <;> (try (exfalso; first | omega | exact bool_tf hc (by assumption) | exact bool_ft hc (by assumption) | exact absurd (by assumption) hc)) <;> (first | with_reducible show STri _ _ _ _ _ _ | (simp -dsimp [hlw, hl13, hb2, hc]; (repeat (simp -dsimp (disch := (first | omega | assumption | (refine Bool.eq_false_iff.1 ?_; assumption))) only [wrap_in, if_pos, if_neg]; (try simp -dsimp [hlw, hl13, hb2, hc]))))))))
      exact ⟨hlt, by simp, by unfold NoBig; rw [hs, hb], by simp, by simp⟩
  · have hkk : k = min w.length 13 := by omega
    have hbig : (w.take 13).any bigB = false := by
      rcases Nat.lt_or_ge w.length 13 with h | h
      · rw [List.take_of_length_le (by omega), ← List.take_length (l := w)]
        rw [hkk, Nat.min_eq_left (by omega)] at hno; exact hno
      · rw [hkk, Nat.min_eq_right h] at hno; exact hno
    have hr : largeB w l nlo nhi = (decide (12 < w.length) || (decide (12 < l.length) && decide (l.length ≤ 60)) || decide (65 < l.length) || (decide (newErr w l nlo nhi = 0) && decide (150 < nhi - nlo))) := by
      unfold largeB; rw [hbig, Bool.false_or]
    rw [hr]
    clear hr
    have hstop : ¬ ((k : Int) < w.length ∧ (k : Int) < 13) := by omega
    by_cases a1 : 12 < w.length
    · have a1' : (12 : Int) < w.length := by omega
      have hk13 : ¬ (k : Int) < 13 := by omega
      by_cases hkw : (k : Int) < w.length
      · (repeat' (first | ((first | with_reducible refine st_skip ?_ | with_reducible refine st_exit ?_); (try simp only [seqQ, blockQ, loopQ, forQ, whileQ, reduceIte, Nat.reduceEqDiff])) | (with_reducible refine st_ret ?_; ((try simp only [seqQ, blockQ, loopQ, forQ, whileQ]); first | (with_reducible refine retM_ret ?_) | refine retQ_ret ?_; simp [hkw, hk13, a1'])) | refine st_seq ?_ | refine st_block ?_ | ((with_reducible show (STri _ _ _ _ _) ∧ (STri _ _ _ _ _)); refine And.intro ?_ ?_) | ((first | refine st_reg ?_ | refine buildP_own ?_ | refine appP_own ?_) <;> (simp -dsimp [hkw, hk13, a1']; (repeat (simp -dsimp (disch := (first | omega | assumption | (refine Bool.eq_false_iff.1 ?_; assumption))) only [wrap_in, if_pos, if_neg]; (try simp -dsimp [hkw, hk13, a1']))))) | ((first | refine guardP_of (fun hc => ?_) (fun hc => ?_) | refine st_cond rfl (fun hc => ?_) (fun hc => ?_)) <;> (try simp only [lqA, lqB, lqC, lqD, lqE, lqF, lqG, lqH, lqI, lqJ, lqK, lqL, lqM, lqN, lqO] at hc) <;> (try (exfalso; first | omega | exact bool_tf hc (by assumption) | exact bool_ft hc (by assumption) | exact absurd (by assumption) hc)) <;> (first | with_reducible show STri _ _ _ _ _ _ | (simp -dsimp [hkw, hk13, a1', hc]; (repeat (simp -dsimp (disch := (first | omega | assumption | (refine Bool.eq_false_iff.1 ?_; assumption))) only [wrap_in, if_pos, if_neg]; (try simp -dsimp [hkw, hk13, a1', hc]))))))))
        refine CLe.bool ?_
        simp [a1]
      · (repeat' (first | ((first | with_reducible refine st_skip ?_ | with_reducible refine st_exit ?_); (try simp only [seqQ, blockQ, loopQ, forQ, whileQ, reduceIte, Nat.reduceEqDiff])) | (with_reducible refine st_ret ?_; ((try simp only [seqQ, blockQ, loopQ, forQ, whileQ]); first | (with_reducible refine retM_ret ?_) | refine retQ_ret ?_; simp [hkw, hk13, a1'])) | refine st_seq ?_ | refine st_block ?_ | ((with_reducible show (STri _ _ _ _ _) ∧ (STri _ _ _ _ _)); refine And.intro ?_ ?_) | ((first | refine st_reg ?_ | refine buildP_own ?_ | refine appP_own ?_) <;> (simp -dsimp [hkw, hk13, a1']; (repeat (simp -dsimp (disch := (first | omega | assumption | (refine Bool.eq_false_iff.1 ?_; assumption))) only [wrap_in, if_pos, if_neg]; (try simp -dsimp [hkw, hk13, a1']))))) | ((first | refine guardP_of (fun hc => ?_) (fun hc => ?_) | refine st_cond rfl (fun hc => ?_) (fun hc => ?_)) <;> (try simp only [lqA, lqB, lqC, lqD, lqE, lqF, lqG, lqH, lqI, lqJ, lqK, lqL, lqM, lqN, lqO] at hc) <;> (try (exfalso; first | omega | exact bool_tf hc (by assumption) | exact bool_ft hc (by assumption) | exact absurd (by assumption) hc)) <;> (first | with_reducible show STri _ _ _ _ _ _ | (simp -dsimp [hkw, hk13, a1', hc]; (repeat (simp -dsimp (disch := (first | omega | assumption | (refine Bool.eq_false_iff.1 ?_; assumption))) only [wrap_in, if_pos, if_neg]; (try simp -dsimp [hkw, hk13, a1', hc]))))))))
        refine CLe.bool ?_
        simp [a1]
    have hkw : ¬ (k : Int) < w.length := by omega
    have a1' : ¬ (12 : Int) < w.length := by omega
    have e1 : decide (12 < w.length) = false := by simpa using a1
    rw [e1, Bool.false_or]
    by_cases a2 : 12 < l.length ∧ l.length ≤ 60
    · have a2' : (12 : Int) < l.length := by omega
      have a3' : (l.length : Int) ≤ 60 := by omega
      (repeat' (first | ((first | with_reducible refine st_skip ?_ | with_reducible refine st_exit ?_); (try simp only [seqQ, blockQ, loopQ, forQ, whileQ, reduceIte, Nat.reduceEqDiff])) | (with_reducible refine st_ret ?_; ((try simp only [seqQ, blockQ, loopQ, forQ, whileQ]); first | (with_reducible refine retM_ret ?_) | refine retQ_ret ?_; simp [hkw, a1', a2', a3'])) | refine st_seq ?_ | refine st_block ?_ | ((with_reducible show (STri _ _ _ _ _) ∧ (STri _ _ _ _ _)); refine And.intro ?_ ?_) | ((first | refine st_reg ?_ | refine buildP_own ?_ | refine appP_own ?_) <;> (simp -dsimp [hkw, a1', a2', a3']; (repeat (simp -dsimp (disch := (first | omega | assumption | (refine Bool.eq_false_iff.1 ?_; assumption))) only [wrap_in, if_pos, if_neg]; (try simp -dsimp [hkw, a1', a2', a3']))))) | ((first | refine guardP_of (fun hc => ?_) (fun hc => ?_) | refine st_cond rfl (fun hc => ?_) (fun hc => ?_)) <;> (try simp only [lqA, lqB, lqC, lqD, lqE, lqF, lqG, lqH, lqI, lqJ, lqK, lqL, lqM, lqN, lqO] at hc) <;> (try (exfalso; first | omega | exact bool_tf hc (by assumption) | exact bool_ft hc (by assumption) | exact absurd (by assumption) hc)) <;> (first | with_reducible show STri _ _ _ _ _ _ | (simp -dsimp [hkw, a1', a2', a3', hc]; (repeat (simp -dsimp (disch := (first | omega | assumption | (refine Bool.eq_false_iff.1 ?_; assumption))) only [wrap_in, if_pos, if_neg]; (try simp -dsimp [hkw, a1', a2', a3', hc]))))))))
      refine CLe.bool ?_
      simp [a2.1, a2.2]
    have e2 : (decide (12 < l.length) && decide (l.length ≤ 60)) = false := by
      rw [Bool.and_eq_false_iff]; simp; omega
    rw [e2, Bool.false_or]
    by_cases a4 : 65 < l.length
    · have a2' : (12 : Int) < l.length := by omega
      have a3' : ¬ (l.length : Int) ≤ 60 := by omega
      have a4' : (65 : Int) < l.length := by omega
      (repeat' (first | ((first | with_reducible refine st_skip ?_ | with_reducible refine st_exit ?_); (try simp only [seqQ, blockQ, loopQ, forQ, whileQ, reduceIte, Nat.reduceEqDiff])) | (with_reducible refine st_ret ?_; ((try simp only [seqQ, blockQ, loopQ, forQ, whileQ]); first | (with_reducible refine retM_ret ?_) | refine retQ_ret ?_; simp [hkw, a1', a2', a3', a4'])) | refine st_seq ?_ | refine st_block ?_ | ((with_reducible show (STri _ _ _ _ _) ∧ (STri _ _ _ _ _)); refine And.intro ?_ ?_) | ((first | refine st_reg ?_ | refine buildP_own ?_ | refine appP_own ?_) <;> (simp -dsimp [hkw, a1', a2', a3', a4']; (repeat (simp -dsimp (disch := (first | omega | assumption | (refine Bool.eq_false_iff.1 ?_; assumption))) only [wrap_in, if_pos, if_neg]; (try simp -dsimp [hkw, a1', a2', a3', a4']))))) | ((first | refine guardP_of (fun hc => ?_) (fun hc => ?_) | refine st_cond rfl (fun hc => ?_) (fun hc => ?_)) <;> (try simp only [lqA, lqB, lqC, lqD, lqE, lqF, lqG, lqH, lqI, lqJ, lqK, lqL, lqM, lqN, lqO] at hc) <;> (try (exfalso; first | omega | exact bool_tf hc (by assumption) | exact bool_ft hc (by assumption) | exact absurd (by assumption) hc)) <;> (first | with_reducible show STri _ _ _ _ _ _ | (simp -dsimp [hkw, a1', a2', a3', a4', hc]; (repeat (simp -dsimp (disch := (first | omega | assumption | (refine Bool.eq_false_iff.1 ?_; assumption))) only [wrap_in, if_pos, if_neg]; (try simp -dsimp [hkw, a1', a2', a3', a4', hc]))))))))
      refine CLe.bool ?_
      simp [a4]
    have a4' : ¬ (65 : Int) < l.length := by omega
    have e4 : decide (65 < l.length) = false := by simpa using a4
    rw [e4, Bool.false_or]
    have hwl : WLen w := ⟨fun s hs => by
      rw [← List.take_of_length_le (l := w) (i := 13) (by omega)] at hs
      have := List.any_eq_false.1 hbig s hs
      unfold bigB at this; simp at this; omega⟩
    have rn := rNotes w hwl (by omega) l (by omega) nlo nhi
    by_cases a5 : newErr w l nlo nhi = 0
    · obtain ⟨b0, b1, b2⟩ := h0 a5
      rw [a5] at rn ⊢
      by_cases a2' : (12 : Int) < l.length
      · have a3' : ¬ (l.length : Int) ≤ 60 := by omega
        (repeat' (first | ((first | with_reducible refine st_skip ?_ | with_reducible refine st_exit ?_); (try simp only [seqQ, blockQ, loopQ, forQ, whileQ, reduceIte, Nat.reduceEqDiff])) | (with_reducible refine st_ret ?_; ((try simp only [seqQ, blockQ, loopQ, forQ, whileQ]); first | (with_reducible refine retM_ret ?_) | refine retQ_ret ?_; simp [hkw, a1', a2', a3', a4'])) | refine st_seq ?_ | refine st_block ?_ | ((with_reducible show (STri _ _ _ _ _) ∧ (STri _ _ _ _ _)); refine And.intro ?_ ?_) | ((first | refine st_reg ?_ | refine buildP_own ?_ | refine appP_own ?_ | refine callP_b (rn) rfl ?_) <;> (simp -dsimp [hkw, a1', a2', a3', a4']; (repeat (simp -dsimp (disch := (first | omega | assumption | (refine Bool.eq_false_iff.1 ?_; assumption))) only [wrap_in, if_pos, if_neg]; (try simp -dsimp [hkw, a1', a2', a3', a4']))))) | ((first | refine guardP_of (fun hc => ?_) (fun hc => ?_) | refine st_cond rfl (fun hc => ?_) (fun hc => ?_)) <;> (try simp only [lqA, lqB, lqC, lqD, lqE, lqF, lqG, lqH, lqI, lqJ, lqK, lqL, lqM, lqN, lqO] at hc) <;> (try (exfalso; first | omega | exact bool_tf hc (by assumption) | exact bool_ft hc (by assumption) | exact absurd (by assumption) hc)) <;> (first | with_reducible show STri _ _ _ _ _ _ | (simp -dsimp [hkw, a1', a2', a3', a4', hc]; (repeat (simp -dsimp (disch := (first | omega | assumption | (refine Bool.eq_false_iff.1 ?_; assumption))) only [wrap_in, if_pos, if_neg]; (try simp -dsimp [hkw, a1', a2', a3', a4', hc]))))))))
        refine CLe.bool ?_
        simp
      · (repeat' (first | ((first | with_reducible refine st_skip ?_ | with_reducible refine st_exit ?_); (try simp only [seqQ, blockQ, loopQ, forQ, whileQ, reduceIte, Nat.reduceEqDiff])) | (with_reducible refine st_ret ?_; ((try simp only [seqQ, blockQ, loopQ, forQ, whileQ]); first | (with_reducible refine retM_ret ?_) | refine retQ_ret ?_; simp [hkw, a1', a2', a4'])) | refine st_seq ?_ | refine st_block ?_ | ((with_reducible show (STri _ _ _ _ _) ∧ (STri _ _ _ _ _)); refine And.intro ?_ ?_) | ((first | refine st_reg ?_ | refine buildP_own ?_ | refine appP_own ?_ | refine callP_b (rn) rfl ?_) <;> (simp -dsimp [hkw, a1', a2', a4']; (repeat (simp -dsimp (disch := (first | omega | assumption | (refine Bool.eq_false_iff.1 ?_; assumption))) only [wrap_in, if_pos, if_neg]; (try simp -dsimp [hkw, a1', a2', a4']))))) | ((first | refine guardP_of (fun hc => ?_) (fun hc => ?_) | refine st_cond rfl (fun hc => ?_) (fun hc => ?_)) <;> (try simp only [lqA, lqB, lqC, lqD, lqE, lqF, lqG, lqH, lqI, lqJ, lqK, lqL, lqM, lqN, lqO] at hc) <;> (try (exfalso; first | omega | exact bool_tf hc (by assumption) | exact bool_ft hc (by assumption) | exact absurd (by assumption) hc)) <;> (first | with_reducible show STri _ _ _ _ _ _ | (simp -dsimp [hkw, a1', a2', a4', hc]; (repeat (simp -dsimp (disch := (first | omega | assumption | (refine Bool.eq_false_iff.1 ?_; assumption))) only [wrap_in, if_pos, if_neg]; (try simp -dsimp [hkw, a1', a2', a4', hc]))))))))
        refine CLe.bool ?_
        simp
    · have e5 : decide (newErr w l nlo nhi = 0) = false := by simpa using a5
      rw [e5, Bool.false_and]
      by_cases a2' : (12 : Int) < l.length
      · have a3' : ¬ (l.length : Int) ≤ 60 := by omega
        (repeat' (first | ((first | with_reducible refine st_skip ?_ | with_reducible refine st_exit ?_); (try simp only [seqQ, blockQ, loopQ, forQ, whileQ, reduceIte, Nat.reduceEqDiff])) | (with_reducible refine st_ret ?_; ((try simp only [seqQ, blockQ, loopQ, forQ, whileQ]); first | (with_reducible refine retM_ret ?_) | refine retQ_ret ?_; simp [hkw, a1', a2', a3', a4', a5])) | refine st_seq ?_ | refine st_block ?_ | ((with_reducible show (STri _ _ _ _ _) ∧ (STri _ _ _ _ _)); refine And.intro ?_ ?_) | ((first | refine st_reg ?_ | refine buildP_own ?_ | refine appP_own ?_ | refine callP_b (rn) rfl ?_) <;> (simp -dsimp [hkw, a1', a2', a3', a4', a5]; (repeat (simp -dsimp (disch := (first | omega | assumption | (refine Bool.eq_false_iff.1 ?_; assumption))) only [wrap_in, if_pos, if_neg]; (try simp -dsimp [hkw, a1', a2', a3', a4', a5]))))) | ((first | refine guardP_of (fun hc => ?_) (fun hc => ?_) | refine st_cond rfl (fun hc => ?_) (fun hc => ?_)) <;> (try simp only [lqA, lqB, lqC, lqD, lqE, lqF, lqG, lqH, lqI, lqJ, lqK, lqL, lqM, lqN, lqO] at hc) <;> (try (exfalso; first | omega | exact bool_tf hc (by assumption) | exact bool_ft hc (by assumption) | exact absurd (by assumption) hc)) <;> (first | with_reducible show STri _ _ _ _ _ _ | (simp -dsimp [hkw, a1', a2', a3', a4', a5, hc]; (repeat (simp -dsimp (disch := (first | omega | assumption | (refine Bool.eq_false_iff.1 ?_; assumption))) only [wrap_in, if_pos, if_neg]; (try simp -dsimp [hkw, a1', a2', a3', a4', a5, hc]))))))))
        refine CLe.bool ?_
        simp [a5]
      · (repeat' (first | ((first | with_reducible refine st_skip ?_ | with_reducible refine st_exit ?_); (try simp only [seqQ, blockQ, loopQ, forQ, whileQ, reduceIte, Nat.reduceEqDiff])) | (with_reducible refine st_ret ?_; ((try simp only [seqQ, blockQ, loopQ, forQ, whileQ]); first | (with_reducible refine retM_ret ?_) | refine retQ_ret ?_; simp [hkw, a1', a2', a4', a5])) | refine st_seq ?_ | refine st_block ?_ | ((with_reducible show (STri _ _ _ _ _) ∧ (STri _ _ _ _ _)); refine And.intro ?_ ?_) | ((first | refine st_reg ?_ | refine buildP_own ?_ | refine appP_own ?_ | refine callP_b (rn) rfl ?_) <;> (simp -dsimp [hkw, a1', a2', a4', a5]; (repeat (simp -dsimp (disch := (first | omega | assumption | (refine Bool.eq_false_iff.1 ?_; assumption))) only [wrap_in, if_pos, if_neg]; (try simp -dsimp [hkw, a1', a2', a4', a5]))))) | ((first | refine guardP_of (fun hc => ?_) (fun hc => ?_) | refine st_cond rfl (fun hc => ?_) (fun hc => ?_)) <;> (try simp only [lqA, lqB, lqC, lqD, lqE, lqF, lqG, lqH, lqI, lqJ, lqK, lqL, lqM, lqN, lqO] at hc) <;> (try (exfalso; first | omega | exact bool_tf hc (by assumption) | exact bool_ft hc (by assumption) | exact absurd (by assumption) hc)) <;> (first | with_reducible show STri _ _ _ _ _ _ | (simp -dsimp [hkw, a1', a2', a4', a5, hc]; (repeat (simp -dsimp (disch := (first | omega | assumption | (refine Bool.eq_false_iff.1 ?_; assumption))) only [wrap_in, if_pos, if_neg]; (try simp -dsimp [hkw, a1', a2', a4', a5, hc]))))))))
        refine CLe.bool ?_
        simp [a5]
end Go.Proofs.Ytakdmliblijgmaa
/- Wire's laws, II: copies of sources, and whether they are as before. -/
namespace Go.Proofs.Ytakdmliblijgmaa
open Go.RowKit
set_option maxRecDepth 100000 in
theorem lSources (w : List Wsrc) (hw : WLen w) (hl : w.length ≤ 1000000) : SC Try.prog 14 [slSr w] (slSr w) := by
  refine law_turretlaw08_sources _ _ (by simp) ?_
  have hA2 : w.length ≤ 9223372036854775807 := by omega
  have hB : w.length * 80 ≤ 140737488355328 := by omega
  (repeat' (first | ((first | with_reducible refine st_skip ?_ | with_reducible refine st_exit ?_); (try simp only [seqQ, blockQ, loopQ, forQ, whileQ, reduceIte, Nat.reduceEqDiff])) | (with_reducible refine st_ret ?_; ((try simp only [seqQ, blockQ, loopQ, forQ, whileQ]); first | (with_reducible refine retM_ret ?_) | refine retQ_ret ?_; simp [hA2, hB])) | refine st_seq ?_ | refine st_block ?_ | ((with_reducible show (STri _ _ _ _ _) ∧ (STri _ _ _ _ _)); refine And.intro ?_ ?_) | ((first | refine st_reg ?_ | refine buildP_own ?_ | refine appP_own ?_) <;> (simp -dsimp [hA2, hB]; (repeat (simp -dsimp (disch := (first | omega | assumption | (refine Bool.eq_false_iff.1 ?_; assumption))) only [wrap_in, if_pos, if_neg]; (try simp -dsimp [hA2, hB]))))) | ((first | refine guardP_of (fun hc => ?_) (fun hc => ?_) | refine st_cond rfl (fun hc => ?_) (fun hc => ?_)) <;> (try simp only [lqA, lqB, lqC, lqD, lqE, lqF, lqG, lqH, lqI, lqJ, lqK, lqL, lqM, lqN, lqO] at hc) <;> (try (exfalso; first | omega | exact bool_tf hc (by assumption) | exact bool_ft hc (by assumption) | exact absurd (by assumption) hc)) <;> (first | with_reducible show STri _ _ _ _ _ _ | (simp -dsimp [hA2, hB, hc]; (repeat (simp -dsimp (disch := (first | omega | assumption | (refine Bool.eq_false_iff.1 ?_; assumption))) only [wrap_in, if_pos, if_neg]; (try simp -dsimp [hA2, hB, hc]))))))))
  refine st_for [5] w.length (fun k T H => T = [(3, .own 5 w.length), (4, .c (I k))] ∧ H = [(5, .arr 79 8 (w.map rowSr))]) (by simp) ⟨by simp, by simp⟩ ?_
  rintro k T H hk ⟨rfl, rfl⟩
  by_cases hlt : k < w.length
  · have ht := hw.h _ (List.getElem_mem hlt)
    have hset : (w.map rowSr).set k [I (w[k]).kind, I (w[k]).elo, I (w[k]).ehi, I (w[k]).at', I (w[k]).dlo, I (w[k]).dhi, I (w[k]).every, .sl 1 ((w[k]).table.map rowI)] = w.map rowSr := by
      have e : [I (w[k]).kind, I (w[k]).elo, I (w[k]).ehi, I (w[k]).at', I (w[k]).dlo, I (w[k]).dhi, I (w[k]).every, .sl 1 ((w[k]).table.map rowI)] = (w.map rowSr)[k]'(by simpa using hlt) := by simp
      rw [e, List.set_getElem_self]
    have hC : (w[k]).table.length ≤ 9223372036854775807 := by omega
    have hD : (w[k]).table.length * 8 ≤ 140737488355328 := by omega
    (repeat' (first | ((first | with_reducible refine st_skip ?_ | with_reducible refine st_exit ?_); (try simp only [seqQ, blockQ, loopQ, forQ, whileQ, reduceIte, Nat.reduceEqDiff])) | (with_reducible refine st_ret ?_; ((try simp only [seqQ, blockQ, loopQ, forQ, whileQ]); first | (with_reducible refine retM_ret ?_) | refine retQ_ret ?_; simp [hlt, hset, hC, hD])) | refine st_seq ?_ | refine st_block ?_ | ((with_reducible show (STri _ _ _ _ _) ∧ (STri _ _ _ _ _)); refine And.intro ?_ ?_) | ((first | refine st_reg ?_ | refine buildP_own ?_ | refine appP_frz ?_) <;> (simp -dsimp [hlt, hset, hC, hD]; (repeat (simp -dsimp (disch := (first | omega | assumption | (refine Bool.eq_false_iff.1 ?_; assumption))) only [wrap_in, if_pos, if_neg]; (try simp -dsimp [hlt, hset, hC, hD]))))) | ((first | refine guardP_of (fun hc => ?_) (fun hc => ?_) | refine st_cond rfl (fun hc => ?_) (fun hc => ?_)) <;> (try simp only [lqA, lqB, lqC, lqD, lqE, lqF, lqG, lqH, lqI, lqJ, lqK, lqL, lqM, lqN, lqO] at hc) <;> (try (exfalso; first | omega | exact bool_tf hc (by assumption) | exact bool_ft hc (by assumption) | exact absurd (by assumption) hc)) <;> (first | with_reducible show STri _ _ _ _ _ _ | (simp -dsimp [hlt, hset, hC, hD, hc]; (repeat (simp -dsimp (disch := (first | omega | assumption | (refine Bool.eq_false_iff.1 ?_; assumption))) only [wrap_in, if_pos, if_neg]; (try simp -dsimp [hlt, hset, hC, hD, hc]))))))))
    exact ⟨hlt, by simp, by simp, by simp⟩
  · have hkk : k = w.length := by omega
    subst hkk
    (repeat' (first | ((first | with_reducible refine st_skip ?_ | with_reducible refine st_exit ?_); (try simp only [seqQ, blockQ, loopQ, forQ, whileQ, reduceIte, Nat.reduceEqDiff])) | (with_reducible refine st_ret ?_; ((try simp only [seqQ, blockQ, loopQ, forQ, whileQ]); first | (with_reducible refine retM_ret ?_) | refine retQ_ret ?_; simp [hlt])) | refine st_seq ?_ | refine st_block ?_ | ((with_reducible show (STri _ _ _ _ _) ∧ (STri _ _ _ _ _)); refine And.intro ?_ ?_) | ((first | refine st_reg ?_ | refine buildP_own ?_ | refine appP_own ?_) <;> (simp -dsimp [hlt]; (repeat (simp -dsimp (disch := (first | omega | assumption | (refine Bool.eq_false_iff.1 ?_; assumption))) only [wrap_in, if_pos, if_neg]; (try simp -dsimp [hlt]))))) | ((first | refine guardP_of (fun hc => ?_) (fun hc => ?_) | refine st_cond rfl (fun hc => ?_) (fun hc => ?_)) <;> (try simp only [lqA, lqB, lqC, lqD, lqE, lqF, lqG, lqH, lqI, lqJ, lqK, lqL, lqM, lqN, lqO] at hc) <;> (try (exfalso; first | omega | exact bool_tf hc (by assumption) | exact bool_ft hc (by assumption) | exact absurd (by assumption) hc)) <;> (first | with_reducible show STri _ _ _ _ _ _ | (simp -dsimp [hlt, hc]; (repeat (simp -dsimp (disch := (first | omega | assumption | (refine Bool.eq_false_iff.1 ?_; assumption))) only [wrap_in, if_pos, if_neg]; (try simp -dsimp [hlt, hc]))))))))
    exact .refl _
set_option maxRecDepth 100000 in
theorem lUnchanged (w : List Wsrc) (hw : WLen w) (hl : w.length ≤ 1000000) (l : List Wnt) (hll : l.length ≤ 1000000) : SC Try.prog 19 [slSr w, slSr w, slN l, slN l] (B true) := by
  refine law_turretlaw08_unchanged _ _ (by simp) ?_
  (repeat' (first | ((first | with_reducible refine st_skip ?_ | with_reducible refine st_exit ?_); (try simp only [seqQ, blockQ, loopQ, forQ, whileQ, reduceIte, Nat.reduceEqDiff])) | (with_reducible refine st_ret ?_; ((try simp only [seqQ, blockQ, loopQ, forQ, whileQ]); first | (with_reducible refine retM_ret ?_) | refine retQ_ret ?_; simp)) | refine st_seq ?_ | refine st_block ?_ | ((with_reducible show (STri _ _ _ _ _) ∧ (STri _ _ _ _ _)); refine And.intro ?_ ?_) | ((first | refine st_reg ?_ | refine buildP_own ?_ | refine appP_own ?_) <;> (simp -dsimp; (repeat (simp -dsimp (disch := (first | omega | assumption | (refine Bool.eq_false_iff.1 ?_; assumption))) only [wrap_in, if_pos, if_neg]; (try simp -dsimp))))) | ((first | refine guardP_of (fun hc => ?_) (fun hc => ?_) | refine st_cond rfl (fun hc => ?_) (fun hc => ?_)) <;> (try simp only [lqA, lqB, lqC, lqD, lqE, lqF, lqG, lqH, lqI, lqJ, lqK, lqL, lqM, lqN, lqO] at hc) <;> (try (exfalso; first | omega | exact bool_tf hc (by assumption) | exact bool_ft hc (by assumption) | exact absurd (by assumption) hc)) <;> (first | with_reducible show STri _ _ _ _ _ _ | (simp -dsimp [hc]; (repeat (simp -dsimp (disch := (first | omega | assumption | (refine Bool.eq_false_iff.1 ?_; assumption))) only [wrap_in, if_pos, if_neg]; (try simp -dsimp [hc]))))))))
  refine st_for [] w.length (fun k T H => T = [(0, .c (slSr w)), (1, .c (slSr w)), (2, .c (slN l)), (3, .c (slN l)), (9, .c (I k))] ∧ H = []) (by simp) ⟨by simp, by simp⟩ ?_
  rintro k T H hk ⟨rfl, rfl⟩
  by_cases hlt : k < w.length
  · obtain ⟨s, hs⟩ : ∃ s, w[k] = s := ⟨_, rfl⟩
    have hg : ∀ h : k < w.length, w[k]'h = s := fun _ => hs
    have ht := hw.h s (by rw [← hs]; exact List.getElem_mem hlt)
    (repeat' (first | ((first | with_reducible refine st_skip ?_ | with_reducible refine st_exit ?_); (try simp only [seqQ, blockQ, loopQ, forQ, whileQ, reduceIte, Nat.reduceEqDiff])) | (with_reducible refine st_ret ?_; ((try simp only [seqQ, blockQ, loopQ, forQ, whileQ]); first | (with_reducible refine retM_ret ?_) | refine retQ_ret ?_; simp [hlt, hg])) | refine st_seq ?_ | refine st_block ?_ | ((with_reducible show (STri _ _ _ _ _) ∧ (STri _ _ _ _ _)); refine And.intro ?_ ?_) | ((first | refine st_reg ?_ | refine buildP_own ?_ | refine appP_own ?_) <;> (simp -dsimp [hlt, hg]; (repeat (simp -dsimp (disch := (first | omega | assumption | (refine Bool.eq_false_iff.1 ?_; assumption))) only [wrap_in, if_pos, if_neg]; (try simp -dsimp [hlt, hg]))))) | ((first | refine guardP_of (fun hc => ?_) (fun hc => ?_) | refine st_cond rfl (fun hc => ?_) (fun hc => ?_)) <;> (try simp only [lqA, lqB, lqC, lqD, lqE, lqF, lqG, lqH, lqI, lqJ, lqK, lqL, lqM, lqN, lqO] at hc) <;> (try (exfalso; first | omega | exact bool_tf hc (by assumption) | exact bool_ft hc (by assumption) | exact absurd (by assumption) hc)) <;> (first | with_reducible show STri _ _ _ _ _ _ | (simp -dsimp [hlt, hg, hc]; (repeat (simp -dsimp (disch := (first | omega | assumption | (refine Bool.eq_false_iff.1 ?_; assumption))) only [wrap_in, if_pos, if_neg]; (try simp -dsimp [hlt, hg, hc]))))))))
    refine st_for [] s.table.length (fun n T H => T = [(0, .c (slSr w)), (1, .c (slSr w)), (2, .c (slN l)), (3, .c (slN l)), (9, .c (I k)), (10, .c (I n))] ∧ H = []) (by simp) ⟨by simp, by simp⟩ ?_
    rintro n T H hn ⟨rfl, rfl⟩
    by_cases hlt2 : n < s.table.length
    · (repeat' (first | ((first | with_reducible refine st_skip ?_ | with_reducible refine st_exit ?_); (try simp only [seqQ, blockQ, loopQ, forQ, whileQ, reduceIte, Nat.reduceEqDiff])) | (with_reducible refine st_ret ?_; ((try simp only [seqQ, blockQ, loopQ, forQ, whileQ]); first | (with_reducible refine retM_ret ?_) | refine retQ_ret ?_; simp [hlt, hg, hlt2])) | refine st_seq ?_ | refine st_block ?_ | ((with_reducible show (STri _ _ _ _ _) ∧ (STri _ _ _ _ _)); refine And.intro ?_ ?_) | ((first | refine st_reg ?_ | refine buildP_own ?_ | refine appP_own ?_) <;> (simp -dsimp [hlt, hg, hlt2]; (repeat (simp -dsimp (disch := (first | omega | assumption | (refine Bool.eq_false_iff.1 ?_; assumption))) only [wrap_in, if_pos, if_neg]; (try simp -dsimp [hlt, hg, hlt2]))))) | ((first | refine guardP_of (fun hc => ?_) (fun hc => ?_) | refine st_cond rfl (fun hc => ?_) (fun hc => ?_)) <;> (try simp only [lqA, lqB, lqC, lqD, lqE, lqF, lqG, lqH, lqI, lqJ, lqK, lqL, lqM, lqN, lqO] at hc) <;> (try (exfalso; first | omega | exact bool_tf hc (by assumption) | exact bool_ft hc (by assumption) | exact absurd (by assumption) hc)) <;> (first | with_reducible show STri _ _ _ _ _ _ | (simp -dsimp [hlt, hg, hlt2, hc]; (repeat (simp -dsimp (disch := (first | omega | assumption | (refine Bool.eq_false_iff.1 ?_; assumption))) only [wrap_in, if_pos, if_neg]; (try simp -dsimp [hlt, hg, hlt2, hc]))))))))
      exact ⟨hlt2, by simp, by simp, by simp⟩
    · have hnn : n = s.table.length := by omega
      subst hnn
      (repeat' (first | ((first | with_reducible refine st_skip ?_ | with_reducible refine st_exit ?_); (try simp only [seqQ, blockQ, loopQ, forQ, whileQ, reduceIte, Nat.reduceEqDiff])) | (with_reducible refine st_ret ?_; ((try simp only [seqQ, blockQ, loopQ, forQ, whileQ]); first | (with_reducible refine retM_ret ?_) | refine retQ_ret ?_; simp [hlt, hg, hlt2])) | refine st_seq ?_ | refine st_block ?_ | ((with_reducible show (STri _ _ _ _ _) ∧ (STri _ _ _ _ _)); refine And.intro ?_ ?_) | ((first | refine st_reg ?_ | refine buildP_own ?_ | refine appP_own ?_) <;> (simp -dsimp [hlt, hg, hlt2]; (repeat (simp -dsimp (disch := (first | omega | assumption | (refine Bool.eq_false_iff.1 ?_; assumption))) only [wrap_in, if_pos, if_neg]; (try simp -dsimp [hlt, hg, hlt2]))))) | ((first | refine guardP_of (fun hc => ?_) (fun hc => ?_) | refine st_cond rfl (fun hc => ?_) (fun hc => ?_)) <;> (try simp only [lqA, lqB, lqC, lqD, lqE, lqF, lqG, lqH, lqI, lqJ, lqK, lqL, lqM, lqN, lqO] at hc) <;> (try (exfalso; first | omega | exact bool_tf hc (by assumption) | exact bool_ft hc (by assumption) | exact absurd (by assumption) hc)) <;> (first | with_reducible show STri _ _ _ _ _ _ | (simp -dsimp [hlt, hg, hlt2, hc]; (repeat (simp -dsimp (disch := (first | omega | assumption | (refine Bool.eq_false_iff.1 ?_; assumption))) only [wrap_in, if_pos, if_neg]; (try simp -dsimp [hlt, hg, hlt2, hc]))))))))
      exact ⟨hlt, by simp, by simp, by simp⟩
  · have hkk : k = w.length := by omega
    subst hkk
    (repeat' (first | ((first | with_reducible refine st_skip ?_ | with_reducible refine st_exit ?_); (try simp only [seqQ, blockQ, loopQ, forQ, whileQ, reduceIte, Nat.reduceEqDiff])) | (with_reducible refine st_ret ?_; ((try simp only [seqQ, blockQ, loopQ, forQ, whileQ]); first | (with_reducible refine retM_ret ?_) | refine retQ_ret ?_; simp [hlt])) | refine st_seq ?_ | refine st_block ?_ | ((with_reducible show (STri _ _ _ _ _) ∧ (STri _ _ _ _ _)); refine And.intro ?_ ?_) | ((first | refine st_reg ?_ | refine buildP_own ?_ | refine appP_own ?_) <;> (simp -dsimp [hlt]; (repeat (simp -dsimp (disch := (first | omega | assumption | (refine Bool.eq_false_iff.1 ?_; assumption))) only [wrap_in, if_pos, if_neg]; (try simp -dsimp [hlt]))))) | ((first | refine guardP_of (fun hc => ?_) (fun hc => ?_) | refine st_cond rfl (fun hc => ?_) (fun hc => ?_)) <;> (try simp only [lqA, lqB, lqC, lqD, lqE, lqF, lqG, lqH, lqI, lqJ, lqK, lqL, lqM, lqN, lqO] at hc) <;> (try (exfalso; first | omega | exact bool_tf hc (by assumption) | exact bool_ft hc (by assumption) | exact absurd (by assumption) hc)) <;> (first | with_reducible show STri _ _ _ _ _ _ | (simp -dsimp [hlt, hc]; (repeat (simp -dsimp (disch := (first | omega | assumption | (refine Bool.eq_false_iff.1 ?_; assumption))) only [wrap_in, if_pos, if_neg]; (try simp -dsimp [hlt, hc]))))))))
    refine st_for [] l.length (fun k T H => T = [(2, .c (slN l)), (3, .c (slN l)), (11, .c (I k))] ∧ H = []) (by simp) ⟨by simp, by simp⟩ ?_
    rintro k T H hk ⟨rfl, rfl⟩
    by_cases hlt2 : k < l.length
    · (repeat' (first | ((first | with_reducible refine st_skip ?_ | with_reducible refine st_exit ?_); (try simp only [seqQ, blockQ, loopQ, forQ, whileQ, reduceIte, Nat.reduceEqDiff])) | (with_reducible refine st_ret ?_; ((try simp only [seqQ, blockQ, loopQ, forQ, whileQ]); first | (with_reducible refine retM_ret ?_) | refine retQ_ret ?_; simp [hlt2])) | refine st_seq ?_ | refine st_block ?_ | ((with_reducible show (STri _ _ _ _ _) ∧ (STri _ _ _ _ _)); refine And.intro ?_ ?_) | ((first | refine st_reg ?_ | refine buildP_own ?_ | refine appP_own ?_) <;> (simp -dsimp [hlt2]; (repeat (simp -dsimp (disch := (first | omega | assumption | (refine Bool.eq_false_iff.1 ?_; assumption))) only [wrap_in, if_pos, if_neg]; (try simp -dsimp [hlt2]))))) | ((first | refine guardP_of (fun hc => ?_) (fun hc => ?_) | refine st_cond rfl (fun hc => ?_) (fun hc => ?_)) <;> (try simp only [lqA, lqB, lqC, lqD, lqE, lqF, lqG, lqH, lqI, lqJ, lqK, lqL, lqM, lqN, lqO] at hc) <;> (try (exfalso; first | omega | exact bool_tf hc (by assumption) | exact bool_ft hc (by assumption) | exact absurd (by assumption) hc)) <;> (first | with_reducible show STri _ _ _ _ _ _ | (simp -dsimp [hlt2, hc]; (repeat (simp -dsimp (disch := (first | omega | assumption | (refine Bool.eq_false_iff.1 ?_; assumption))) only [wrap_in, if_pos, if_neg]; (try simp -dsimp [hlt2, hc]))))))))
      exact ⟨hlt2, by simp, by simp, by simp⟩
    · have hkk : k = l.length := by omega
      subst hkk
      (repeat' (first | ((first | with_reducible refine st_skip ?_ | with_reducible refine st_exit ?_); (try simp only [seqQ, blockQ, loopQ, forQ, whileQ, reduceIte, Nat.reduceEqDiff])) | (with_reducible refine st_ret ?_; ((try simp only [seqQ, blockQ, loopQ, forQ, whileQ]); first | (with_reducible refine retM_ret ?_) | refine retQ_ret ?_; simp [hlt2])) | refine st_seq ?_ | refine st_block ?_ | ((with_reducible show (STri _ _ _ _ _) ∧ (STri _ _ _ _ _)); refine And.intro ?_ ?_) | ((first | refine st_reg ?_ | refine buildP_own ?_ | refine appP_own ?_) <;> (simp -dsimp [hlt2]; (repeat (simp -dsimp (disch := (first | omega | assumption | (refine Bool.eq_false_iff.1 ?_; assumption))) only [wrap_in, if_pos, if_neg]; (try simp -dsimp [hlt2]))))) | ((first | refine guardP_of (fun hc => ?_) (fun hc => ?_) | refine st_cond rfl (fun hc => ?_) (fun hc => ?_)) <;> (try simp only [lqA, lqB, lqC, lqD, lqE, lqF, lqG, lqH, lqI, lqJ, lqK, lqL, lqM, lqN, lqO] at hc) <;> (try (exfalso; first | omega | exact bool_tf hc (by assumption) | exact bool_ft hc (by assumption) | exact absurd (by assumption) hc)) <;> (first | with_reducible show STri _ _ _ _ _ _ | (simp -dsimp [hlt2, hc]; (repeat (simp -dsimp (disch := (first | omega | assumption | (refine Bool.eq_false_iff.1 ?_; assumption))) only [wrap_in, if_pos, if_neg]; (try simp -dsimp [hlt2, hc]))))))))
      exact .refl _
end Go.Proofs.Ytakdmliblijgmaa
/- Wire's laws, III: what the document's examples come to. -/
namespace Go.Proofs.Ytakdmliblijgmaa
open Go.RowKit
def exB (l : List Wnt) : Wbk := ⟨threeW, threeW.map errOf, l, 0, 200⟩
theorem ex_two : newErr threeW (notesW 2) 0 200 = 0 := by decide +kernel
theorem ex_far : newErr threeW (notesW 40) 0 200 = 0 := by decide +kernel
theorem ex_one : newErr threeW [⟨2, 86300, 2⟩] 0 200 = 0 := by decide +kernel
theorem ex_tail : newErr threeW [⟨1, 7000, 7098⟩, ⟨2, 86300, 40⟩] 0 200 = 0 := by decide +kernel
theorem ex_bk {l : List Wnt} (h : newErr threeW l 0 200 = 0) : newBk threeW l 0 200 = exB l := (new_ok h).1
theorem ex_s1 : spansL (exB [⟨2, 86300, 2⟩]) (fun m => decide (m = 0)) = [(99, 103)] := by decide +kernel
theorem ex_s2 : spansL (exB (notesW 2)) (fun m => decide (m = 0)) = [(100, 101)] := by decide +kernel
theorem ex_s3 : spansL (exB (notesW 40)) (fun m => decide (m = 0)) = [] := by decide +kernel
theorem ex_p : pairsTo (exB (notesW 40)) 3 3 = [(0, 2), (1, 2)] := by decide +kernel
theorem ex_f : fewN (exB (notesW 40)) = 1 := by decide +kernel
theorem ex_m : spansL (exB (notesW 40)) (fun m => decide (popN m = 1)) = [(100, 101)] := by decide +kernel
theorem ex_l : (leastS (exB (notesW 40))).map numsL = [[2]] := by
  unfold leastS
  rw [ex_f]
  decide +kernel
theorem ex_ll : leastL (exB (notesW 40)) = [[2]] := by
  unfold leastL sortL
  rw [ex_l]
  simp
def exT : Wbk := exB [⟨1, 7000, 7098⟩, ⟨2, 86300, 40⟩]
theorem ex_ft : fewN exT = 1 := by decide +kernel
theorem ex_lt : ∃ x y, (leastS exT).map numsL = [[x], [y]] := by
  unfold leastS
  rw [ex_ft]
  exact ⟨2, 1, by decide +kernel⟩
theorem ex_ct : convE (leastL exT) = (0, 6) := by
  obtain ⟨x, y, h⟩ := ex_lt
  have hp : (leastL exT).Perm [[x], [y]] := by
    unfold leastL sortL
    rw [h]
    exact List.mergeSort_perm _ _
  have hl := hp.length_eq
  match hq : leastL exT with
  | [] => rw [hq] at hl; simp at hl
  | [_] => rw [hq] at hl; simp at hl
  | _ :: _ :: _ :: _ => rw [hq] at hl; simp at hl
  | [a, b] =>
    have ha : a ∈ [[x], [y]] := hp.mem_iff.1 (by rw [hq]; simp)
    rcases List.mem_cons.1 ha with rfl | ha
    · rfl
    · rw [List.mem_singleton.1 ha]; rfl
theorem ex_str : strN (exB (notesW 40)) 2 = 35 := by
  have hb : BkOK (exB (notesW 40)) := by rw [← ex_bk ex_far]; exact new_bk ex_far
  refine leastN_is (by omega) (fun i hi => ?_) (fun _ => by decide +kernel)
  have h34 : fitB (wideB (exB (notesW 40)) 2 (34 : Nat)) = false := by decide +kernel
  cases hf : fitB (wideB (exB (notesW 40)) 2 (i : Nat)) with
  | false => rfl
  | true =>
    have := fit_mono hb (j := 2) (by decide) (y := (i : Nat)) (y' := (34 : Nat)) (by omega) hf
    rw [h34] at this; cases this
end Go.Proofs.Ytakdmliblijgmaa
/- Wire's laws, IV: known. -/
namespace Go.Proofs.Ytakdmliblijgmaa
open Go.RowKit
theorem three_len : WLen threeW := ⟨fun s hs => by
  unfold threeW at hs
  rcases List.mem_cons.1 hs with rfl | hs
  · simp
  rcases List.mem_cons.1 hs with rfl | hs
  · simp
  rcases List.mem_cons.1 hs with rfl | hs
  · simp
  · cases hs⟩
theorem k_spans : SC Try.prog 37 [slSr threeW, .agg [I 2, I 86300, I 2], .agg [I 0, I 200]] (.tup [slE [(99, 103)], I 0]) := by
  have h := sSpans threeW three_len ⟨2, 86300, 2⟩ 0 200
  rw [ex_one, if_pos rfl, ex_bk ex_one, ex_s1] at h
  exact h
theorem k_fits : SC Try.prog 16 [slSr threeW, slN (notesW 2), .agg [I 0, I 200]] (.tup [slE [(100, 101)], I 0]) := by
  have h := sFits threeW three_len (notesW 2) (by decide) 0 200
  rw [if_pos ex_two, if_pos ex_two, ex_bk ex_two, ex_s2, if_neg (by simp)] at h
  exact h
theorem k_none : SC Try.prog 16 [slSr threeW, slN (notesW 40), .agg [I 0, I 200]] (.tup [slE [], I 7]) := by
  have h := sFits threeW three_len (notesW 40) (by decide) 0 200
  rw [if_pos ex_far, if_pos ex_far, ex_bk ex_far, ex_s3, if_pos rfl] at h
  exact h
theorem k_pairs : SC Try.prog 17 [slSr threeW, slN (notesW 40), .agg [I 0, I 200]] (.tup [slP [(0, 2), (1, 2)], I 0]) := by
  have h := sPairs threeW three_len (notesW 40) (by decide) 0 200
  rw [ex_far, if_pos rfl, ex_bk ex_far, show threeW.length = 3 from rfl, ex_p] at h
  exact h
theorem k_most : SC Try.prog 18 [slSr threeW, slN (notesW 40), .agg [I 0, I 200]] (.tup [I 2, slE [(100, 101)], I 0]) := by
  have h := sMost threeW three_len (notesW 40) (by decide) 0 200
  rw [ex_far, if_pos rfl, if_pos rfl, ex_bk ex_far, ex_f, ex_m] at h
  exact h
theorem k_wrong : SC Try.prog 26 [slSr threeW, slN (notesW 40), .agg [I 0, I 200]] (.tup [slL [[2]], I 0]) := by
  have h := sWrongs threeW three_len (notesW 40) (by decide) 0 200
  rw [ex_far, if_pos rfl, ex_bk ex_far, ex_ll] at h
  exact h
theorem k_convict : SC Try.prog 27 [slSr threeW, slN (notesW 40), .agg [I 0, I 200]] (.tup [I 2, I 0]) := by
  have h := sConvict threeW three_len (notesW 40) (by decide) 0 200
  rw [ex_far, if_pos rfl, if_pos rfl, ex_bk ex_far, ex_ll] at h
  exact h
theorem k_twice : SC Try.prog 27 [slSr threeW, slN [⟨1, 7000, 7098⟩, ⟨2, 86300, 40⟩], .agg [I 0, I 200]] (.tup [I 0, I 6]) := by
  have h := sConvict threeW three_len [⟨1, 7000, 7098⟩, ⟨2, 86300, 40⟩] (by decide) 0 200
  rw [ex_tail, if_pos rfl, if_pos rfl, ex_bk ex_tail, show exB [⟨1, 7000, 7098⟩, ⟨2, 86300, 40⟩] = exT from rfl, ex_ct] at h
  exact h
theorem k_str : SC Try.prog 30 [slSr threeW, slN (notesW 40), .agg [I 0, I 200], I 2] (.tup [I 35, I 0]) := by
  have h := sStretch threeW three_len (notesW 40) (by decide) 0 200 2
  rw [if_pos ex_far, if_pos ex_far, ex_bk ex_far, show (2 : Int).toNat = 2 from rfl, ex_str] at h
  have q1 : within1 0 ((threeW.length : Int) - 1) 2 = true := by decide
  have q2 : (35 : Nat) ≤ 10000 := by omega
  rw [if_pos q1, if_pos q1, if_pos q2, if_pos q2] at h
  exact h
set_option maxRecDepth 100000 in
set_option maxHeartbeats 2000000 in
theorem sKnown : SC Try.prog 13 [] (B true) := by
  refine law_turretlaw08_known _ _ (by simp) ?_
  have t1 := lThree
  have t2 := lNotes 2
  have t3 := lNotes 40
  have a1 := k_spans
  have a2 := k_fits
  have a3 := k_none
  have a4 := k_pairs
  have a5 := k_most
  have a6 := k_wrong
  have a7 := k_convict
  have a8 := k_twice
  have a9 := k_str
  unfold notesW at *
  generalize threeW = w3 at *
  (repeat' (first | ((first | with_reducible refine st_skip ?_ | with_reducible refine st_exit ?_); (try simp only [seqQ, blockQ, loopQ, forQ, whileQ, reduceIte, Nat.reduceEqDiff])) | (with_reducible refine st_ret ?_; ((try simp only [seqQ, blockQ, loopQ, forQ, whileQ]); first | (with_reducible refine retM_ret ?_) | refine retQ_ret ?_; simp [rowP])) | refine st_seq ?_ | refine st_block ?_ | ((with_reducible show (STri _ _ _ _ _) ∧ (STri _ _ _ _ _)); refine And.intro ?_ ?_) | ((first | refine st_reg ?_ | refine buildP_own ?_ | refine appP_own ?_ | refine callP_b (t1) rfl ?_ | refine callP_b (t2) rfl ?_ | refine callP_b (t3) rfl ?_ | refine callP_b (lSpan 0 200) rfl ?_ | refine callP_b (lSpan 99 103) rfl ?_ | refine callP_b (lSpan 100 101) rfl ?_ | refine callP_b (a1) rfl ?_ | refine callP_b (a2) rfl ?_ | refine callP_b (a3) rfl ?_ | refine callP_b (a4) rfl ?_ | refine callP_b (a5) rfl ?_ | refine callP_b (a6) rfl ?_ | refine callP_b (a7) rfl ?_ | refine callP_b (a8) rfl ?_ | refine callP_b (a9) rfl ?_) <;> (simp -dsimp [rowP]; (repeat (simp -dsimp (disch := (first | omega | assumption | (refine Bool.eq_false_iff.1 ?_; assumption))) only [wrap_in, if_pos, if_neg]; (try simp -dsimp [rowP]))))) | ((first | refine guardP_of (fun hc => ?_) (fun hc => ?_) | refine st_cond rfl (fun hc => ?_) (fun hc => ?_)) <;> (try simp only [lqA, lqB, lqC, lqD, lqE, lqF, lqG, lqH, lqI, lqJ, lqK, lqL, lqM, lqN, lqO] at hc) <;> (try (exfalso; first | omega | exact bool_tf hc (by assumption) | exact bool_ft hc (by assumption) | exact absurd (by assumption) hc)) <;> (first | with_reducible show STri _ _ _ _ _ _ | (simp -dsimp [rowP, hc]; (repeat (simp -dsimp (disch := (first | omega | assumption | (refine Bool.eq_false_iff.1 ?_; assumption))) only [wrap_in, if_pos, if_neg]; (try simp -dsimp [rowP, hc]))))))))
  all_goals exact .refl _
end Go.Proofs.Ytakdmliblijgmaa
/- Wire's laws, V: WireChecks. -/
namespace Go.Proofs.Ytakdmliblijgmaa
open Go.RowKit
theorem large_no {w : List Wsrc} {l : List Wnt} {nlo nhi : Int} (h : largeB w l nlo nhi = false) : WLen w ∧ w.length ≤ 12 ∧ l.length ≤ 65 := by
  unfold largeB at h
  simp only [Bool.or_eq_false_iff] at h
  obtain ⟨⟨⟨⟨h1, h2⟩, h3⟩, h4⟩, h5⟩ := h
  simp only [decide_eq_false_iff_not] at h2 h4
  refine ⟨⟨fun s hs => ?_⟩, by omega, by omega⟩
  rw [← List.take_of_length_le (l := w) (i := 13) (by omega)] at hs
  have := List.any_eq_false.1 h1 s hs
  unfold bigB at this; simp at this; omega
theorem new_span {w : List Wsrc} {l : List Wnt} {nlo nhi : Int} (h : newErr w l nlo nhi = 0) : -7200 ≤ nlo ∧ nlo ≤ nhi ∧ nhi ≤ 7200 := by
  obtain ⟨_, _, _, _, _, h5⟩ := new_ok h
  unfold spanW at h5; simp at h5; omega
theorem new_ref {w : List Wsrc} {l : List Wnt} {nlo nhi : Int} (h : newErr w l nlo nhi = 0) : RefOK (newBk w l nlo nhi) := by
  obtain ⟨e, h1, h2, h3, h4, h5⟩ := new_ok h
  have hb := new_bk h
  rw [e] at hb ⊢
  have hz : 1 ≤ w.length ∧ w.length ≤ 10 := by unfold sizeW within1 at h1; simp at h1; omega
  refine ⟨hb.len, hz.1, rfl, fun s hs => ?_, hb.nl, hb.no, hb.n0, hb.n1, hb.n2⟩
  have := hb.va s hs
  unfold validV baseV spanW at this
  simp at this
  exact ⟨this.1.1, this.2, by omega, by omega, by omega, by omega⟩
theorem new_nz {w : List Wsrc} {l : List Wnt} {nlo nhi : Int} (h : newErr w l nlo nhi = 0) : (newBk w l nlo nhi).srcs = w ∧ (newBk w l nlo nhi).errs = w.map errOf ∧ (newBk w l nlo nhi).notes = l ∧ (newBk w l nlo nhi).nlo = nlo ∧ (newBk w l nlo nhi).nhi = nhi := by
  rw [(new_ok h).1]; exact ⟨rfl, rfl, rfl, rfl, rfl⟩
end Go.Proofs.Ytakdmliblijgmaa
/- Wire's laws, VI: WireFits. -/
namespace Go.Proofs.Ytakdmliblijgmaa
open Go.RowKit
theorem few_le {b : Wbk} : fewN b ≤ b.srcs.length := (minU_le _ _).1
end Go.Proofs.Ytakdmliblijgmaa
