/- Part 4 of a proof: Wa, Wb, Wc, Wd, We, Wf, CodeDr, Ra, Rb, Bit, Wg, CodeB, Bits, Wh. -/
import Derived.Test.YtlodpljdhdhfmaaA3
set_option linter.unusedSimpArgs false
set_option linter.unusedVariables false
/- Wire, I: small functions. -/
namespace Go.Proofs.Ytlodpljdhdhfmaa
open Go.RowKit
theorem sWithin1W (n lo hi : Int) : SC Try.prog 41 [I n, .ref [I lo], .ref [I hi]] (B (outB lo hi n)) := by
  refine law_wire_within_1 _ _ (by simp) ?_
  unfold outB
  (repeat' (first | ((first | with_reducible refine st_skip ?_ | with_reducible refine st_exit ?_); (try simp only [seqQ, blockQ, loopQ, forQ, whileQ, reduceIte, Nat.reduceEqDiff])) | (with_reducible refine st_ret ?_; ((try simp only [seqQ, blockQ, loopQ, forQ, whileQ]); first | (with_reducible refine retM_ret ?_) | refine retQ_ret ?_; simp)) | refine st_seq ?_ | refine st_block ?_ | ((with_reducible show (STri _ _ _ _ _) ∧ (STri _ _ _ _ _)); refine And.intro ?_ ?_) | ((first | refine st_reg ?_ | refine buildP_own ?_ | refine appP_own ?_) <;> (simp -dsimp; (repeat (simp -dsimp (disch := (first | omega | assumption | (refine Bool.eq_false_iff.1 ?_; assumption))) only [wrap_in, if_pos, if_neg]; (try simp -dsimp))))) | ((first | refine guardP_of (fun hc => ?_) (fun hc => ?_) | refine st_cond rfl (fun hc => ?_) (fun hc => ?_)) <;> (try simp only [lqA, lqB, lqC, lqD, lqE, lqF, lqG, lqH, lqI, lqJ, lqK, lqL, lqM, lqN, lqO] at hc) <;> (try (exfalso; first | omega | exact bool_tf hc (by assumption) | exact bool_ft hc (by assumption) | exact absurd (by assumption) hc)) <;> (first | with_reducible show STri _ _ _ _ _ _ | (simp -dsimp [hc]; (repeat (simp -dsimp (disch := (first | omega | assumption | (refine Bool.eq_false_iff.1 ?_; assumption))) only [wrap_in, if_pos, if_neg]; (try simp -dsimp [hc]))))))))
  all_goals (refine CLe.bool ?_; rw [Bool.eq_iff_iff]; simp; try omega)
theorem sWithinW (lo hi : Int) (l : List Int) (hl : l.length ≤ 1000000) : SC Try.prog 27 [I lo, I hi, slI l] (B (allIn lo hi l)) := by
  refine law_wire_within _ _ (by simp) ?_
  (repeat' (first | ((first | with_reducible refine st_skip ?_ | with_reducible refine st_exit ?_); (try simp only [seqQ, blockQ, loopQ, forQ, whileQ, reduceIte, Nat.reduceEqDiff])) | (with_reducible refine st_ret ?_; ((try simp only [seqQ, blockQ, loopQ, forQ, whileQ]); first | (with_reducible refine retM_ret ?_) | refine retQ_ret ?_; simp)) | refine st_seq ?_ | refine st_block ?_ | ((with_reducible show (STri _ _ _ _ _) ∧ (STri _ _ _ _ _)); refine And.intro ?_ ?_) | ((first | refine st_reg ?_ | refine buildP_own ?_ | refine appP_own ?_ | refine callP_b (sContainsFunc l 41 [] [.ref [I lo], .ref [I hi]] (outB lo hi) hl ⟨by kernel_rfl⟩ (fun x _ => sWithin1W x lo hi)) rfl ?_) <;> (simp -dsimp; (repeat (simp -dsimp (disch := (first | omega | assumption | (refine Bool.eq_false_iff.1 ?_; assumption))) only [wrap_in, if_pos, if_neg]; (try simp -dsimp))))) | ((first | refine guardP_of (fun hc => ?_) (fun hc => ?_) | refine st_cond rfl (fun hc => ?_) (fun hc => ?_)) <;> (try simp only [lqA, lqB, lqC, lqD, lqE, lqF, lqG, lqH, lqI, lqJ, lqK, lqL, lqM, lqN, lqO] at hc) <;> (try (exfalso; first | omega | exact bool_tf hc (by assumption) | exact bool_ft hc (by assumption) | exact absurd (by assumption) hc)) <;> (first | with_reducible show STri _ _ _ _ _ _ | (simp -dsimp [hc]; (repeat (simp -dsimp (disch := (first | omega | assumption | (refine Bool.eq_false_iff.1 ?_; assumption))) only [wrap_in, if_pos, if_neg]; (try simp -dsimp [hc]))))))))
  all_goals (refine CLe.bool ?_; exact allIn_eq lo hi l)
def spanW (lo hi most : Int) : Bool := decide (-most ≤ lo) && decide (lo ≤ hi) && decide (hi ≤ most)
theorem sIsSpanW (lo hi most : Int) (h : 0 ≤ most) (h2 : most ≤ 1000000) : SC Try.prog 29 [.agg [I lo, I hi], I most] (B (spanW lo hi most)) := by
  refine law_wire_isSpan _ _ (by simp) ?_
  have e : (allIn (-most) most [lo, hi] && decide (lo ≤ hi)) = spanW lo hi most := by
    unfold allIn inB spanW
    rw [Bool.eq_iff_iff]; simp; omega
  (repeat' (first | ((first | with_reducible refine st_skip ?_ | with_reducible refine st_exit ?_); (try simp only [seqQ, blockQ, loopQ, forQ, whileQ, reduceIte, Nat.reduceEqDiff])) | (with_reducible refine st_ret ?_; ((try simp only [seqQ, blockQ, loopQ, forQ, whileQ]); first | (with_reducible refine retM_ret ?_) | refine retQ_ret ?_; simp)) | refine st_seq ?_ | refine st_block ?_ | ((with_reducible show (STri _ _ _ _ _) ∧ (STri _ _ _ _ _)); refine And.intro ?_ ?_) | ((first | refine st_reg ?_ | refine buildP_own ?_ | refine appP_own ?_ | refine callP_b (sWithinW (-most) most [lo, hi] (by simp)) rfl ?_) <;> (simp -dsimp; (repeat (simp -dsimp (disch := (first | omega | assumption | (refine Bool.eq_false_iff.1 ?_; assumption))) only [wrap_in, if_pos, if_neg]; (try simp -dsimp))))) | ((first | refine guardP_of (fun hc => ?_) (fun hc => ?_) | refine st_cond rfl (fun hc => ?_) (fun hc => ?_)) <;> (try simp only [lqA, lqB, lqC, lqD, lqE, lqF, lqG, lqH, lqI, lqJ, lqK, lqL, lqM, lqN, lqO] at hc) <;> (try (exfalso; first | omega | exact bool_tf hc (by assumption) | exact bool_ft hc (by assumption) | exact absurd (by assumption) hc)) <;> (first | with_reducible show STri _ _ _ _ _ _ | (simp -dsimp [hc]; (repeat (simp -dsimp (disch := (first | omega | assumption | (refine Bool.eq_false_iff.1 ?_; assumption))) only [wrap_in, if_pos, if_neg]; (try simp -dsimp [hc]))))))))
  all_goals (refine CLe.bool ?_; simp_all)
theorem sModuloW (n b : Int) (h3 : 0 < b) (h4 : b ≤ 1000000000000) : SC Try.prog 93 [I n, I b] (I (n % b)) := by
  refine law_wire_modulo _ _ (by simp) ?_
  have hne : ¬ b = 0 := by omega
  have hb : IntKind.i64.wrap (n.tmod b + b) = n.tmod b + b := by
    have := tmod_lt n b h3
    exact wrap_in _ (by omega) (by omega)
  have he := mod_eq n b h3
  (repeat' (first | ((first | with_reducible refine st_skip ?_ | with_reducible refine st_exit ?_); (try simp only [seqQ, blockQ, loopQ, forQ, whileQ, reduceIte, Nat.reduceEqDiff])) | (with_reducible refine st_ret ?_; ((try simp only [seqQ, blockQ, loopQ, forQ, whileQ]); first | (with_reducible refine retM_ret ?_) | refine retQ_ret ?_; simp [hne, hb, he])) | refine st_seq ?_ | refine st_block ?_ | ((with_reducible show (STri _ _ _ _ _) ∧ (STri _ _ _ _ _)); refine And.intro ?_ ?_) | ((first | refine st_reg ?_ | refine buildP_own ?_ | refine appP_own ?_) <;> (simp -dsimp [hne, hb, he]; (repeat (simp -dsimp (disch := (first | omega | assumption | (refine Bool.eq_false_iff.1 ?_; assumption))) only [wrap_in, if_pos, if_neg]; (try simp -dsimp [hne, hb, he]))))) | ((first | refine guardP_of (fun hc => ?_) (fun hc => ?_) | refine st_cond rfl (fun hc => ?_) (fun hc => ?_)) <;> (try simp only [lqA, lqB, lqC, lqD, lqE, lqF, lqG, lqH, lqI, lqJ, lqK, lqL, lqM, lqN, lqO] at hc) <;> (try (exfalso; first | omega | exact bool_tf hc (by assumption) | exact bool_ft hc (by assumption) | exact absurd (by assumption) hc)) <;> (first | with_reducible show STri _ _ _ _ _ _ | (simp -dsimp [hne, hb, he, hc]; (repeat (simp -dsimp (disch := (first | omega | assumption | (refine Bool.eq_false_iff.1 ?_; assumption))) only [wrap_in, if_pos, if_neg]; (try simp -dsimp [hne, hb, he, hc]))))))))
  exact .refl _
theorem sDownW (n b : Int) (h1 : -1000000000000000000 ≤ n) (h2 : n ≤ 1000000000000000000) (h3 : 0 < b) (h4 : b ≤ 1000000000000) : SC Try.prog 91 [I n, I b] (I (n / b)) := by
  refine law_wire_down _ _ (by simp) ?_
  have hne : ¬ b = 0 := by omega
  have h5 := Int.emod_nonneg n (show b ≠ 0 by omega)
  have h6 := Int.emod_lt_of_pos n h3
  have h7 : (n - n % b).tdiv b = n / b := by
    have e : n - n % b = b * (n / b) := by have := Int.emod_add_mul_ediv n b; omega
    rw [e, Int.mul_tdiv_cancel_left _ hne]
  have h8 : IntKind.i64.wrap (n / b) = n / b := by
    have e := Int.natAbs_tdiv_le_natAbs (n - n % b) b
    rw [h7] at e
    exact wrap_in _ (by omega) (by omega)
  (repeat' (first | ((first | with_reducible refine st_skip ?_ | with_reducible refine st_exit ?_); (try simp only [seqQ, blockQ, loopQ, forQ, whileQ, reduceIte, Nat.reduceEqDiff])) | (with_reducible refine st_ret ?_; ((try simp only [seqQ, blockQ, loopQ, forQ, whileQ]); first | (with_reducible refine retM_ret ?_) | refine retQ_ret ?_; simp [hne, h7, h8])) | refine st_seq ?_ | refine st_block ?_ | ((with_reducible show (STri _ _ _ _ _) ∧ (STri _ _ _ _ _)); refine And.intro ?_ ?_) | ((first | refine st_reg ?_ | refine buildP_own ?_ | refine appP_own ?_ | refine callP_b (sModuloW n b h3 h4) rfl ?_) <;> (simp -dsimp [hne, h7, h8]; (repeat (simp -dsimp (disch := (first | omega | assumption | (refine Bool.eq_false_iff.1 ?_; assumption))) only [wrap_in, if_pos, if_neg]; (try simp -dsimp [hne, h7, h8]))))) | ((first | refine guardP_of (fun hc => ?_) (fun hc => ?_) | refine st_cond rfl (fun hc => ?_) (fun hc => ?_)) <;> (try simp only [lqA, lqB, lqC, lqD, lqE, lqF, lqG, lqH, lqI, lqJ, lqK, lqL, lqM, lqN, lqO] at hc) <;> (try (exfalso; first | omega | exact bool_tf hc (by assumption) | exact bool_ft hc (by assumption) | exact absurd (by assumption) hc)) <;> (first | with_reducible show STri _ _ _ _ _ _ | (simp -dsimp [hne, h7, h8, hc]; (repeat (simp -dsimp (disch := (first | omega | assumption | (refine Bool.eq_false_iff.1 ?_; assumption))) only [wrap_in, if_pos, if_neg]; (try simp -dsimp [hne, h7, h8, hc]))))))))
  exact .refl _
def upI (n b : Int) : Int := -(-n / b)
theorem sUpW (n b : Int) (h1 : -1000000000000000000 ≤ n) (h2 : n ≤ 1000000000000000000) (h3 : 0 < b) (h4 : b ≤ 1000000000000) : SC Try.prog 92 [I n, I b] (I (upI n b)) := by
  refine law_wire_up _ _ (by simp) ?_
  unfold upI
  have e := Int.natAbs_ediv_le_natAbs (-n) b
  (repeat' (first | ((first | with_reducible refine st_skip ?_ | with_reducible refine st_exit ?_); (try simp only [seqQ, blockQ, loopQ, forQ, whileQ, reduceIte, Nat.reduceEqDiff])) | (with_reducible refine st_ret ?_; ((try simp only [seqQ, blockQ, loopQ, forQ, whileQ]); first | (with_reducible refine retM_ret ?_) | refine retQ_ret ?_; simp)) | refine st_seq ?_ | refine st_block ?_ | ((with_reducible show (STri _ _ _ _ _) ∧ (STri _ _ _ _ _)); refine And.intro ?_ ?_) | ((first | refine st_reg ?_ | refine buildP_own ?_ | refine appP_own ?_ | refine callP_b (sDownW (-n) b (by omega) (by omega) h3 h4) rfl ?_) <;> (simp -dsimp; (repeat (simp -dsimp (disch := (first | omega | assumption | (refine Bool.eq_false_iff.1 ?_; assumption))) only [wrap_in, if_pos, if_neg]; (try simp -dsimp))))) | ((first | refine guardP_of (fun hc => ?_) (fun hc => ?_) | refine st_cond rfl (fun hc => ?_) (fun hc => ?_)) <;> (try simp only [lqA, lqB, lqC, lqD, lqE, lqF, lqG, lqH, lqI, lqJ, lqK, lqL, lqM, lqN, lqO] at hc) <;> (try (exfalso; first | omega | exact bool_tf hc (by assumption) | exact bool_ft hc (by assumption) | exact absurd (by assumption) hc)) <;> (first | with_reducible show STri _ _ _ _ _ _ | (simp -dsimp [hc]; (repeat (simp -dsimp (disch := (first | omega | assumption | (refine Bool.eq_false_iff.1 ?_; assumption))) only [wrap_in, if_pos, if_neg]; (try simp -dsimp [hc]))))))))
  exact .refl _
end Go.Proofs.Ytlodpljdhdhfmaa
/- Wire, II: sources. -/
namespace Go.Proofs.Ytlodpljdhdhfmaa
open Go.RowKit
structure Wsrc where
  (kind elo ehi at' dlo dhi every : Int) (table : List Int)
structure Wnt where
  (src tick said : Int)
def rowSr (s : Wsrc) : List CV := [I s.kind, I s.elo, I s.ehi, I s.at', I s.dlo, I s.dhi, I s.every, slI s.table]
def cSr (s : Wsrc) : CV := .agg (rowSr s)
def slSr (w : List Wsrc) : CV := .sl 8 (w.map rowSr)
def rowN (n : Wnt) : List CV := [I n.src, I n.tick, I n.said]
def cN (n : Wnt) : CV := .agg (rowN n)
def slN (l : List Wnt) : CV := .sl 3 (l.map rowN)
attribute [simp] rowSr cSr slSr rowN cN slN
def within1 (lo hi n : Int) : Bool := decide (lo ≤ n) && decide (n ≤ hi)
theorem allIn_one (lo hi n : Int) : allIn lo hi [n] = within1 lo hi n := by simp [allIn, inB, within1]
def clockV (s : Wsrc) : Bool := within1 0 3155760000 s.at' && spanW s.dlo s.dhi 100000
def eventV (s : Wsrc) : Bool := within1 0 3155760000 s.at' && within1 1 3155760000 s.every
def sunV (s : Wsrc) : Bool := within1 1 366 s.table.length && allIn (-3600) 3600 s.table
theorem sClockV (s : Wsrc) : SC Try.prog 90 [cSr s] (B (clockV s)) := by
  refine law_wire_clock_isValid _ _ (by simp) ?_
  unfold clockV
  (repeat' (first | ((first | with_reducible refine st_skip ?_ | with_reducible refine st_exit ?_); (try simp only [seqQ, blockQ, loopQ, forQ, whileQ, reduceIte, Nat.reduceEqDiff])) | (with_reducible refine st_ret ?_; ((try simp only [seqQ, blockQ, loopQ, forQ, whileQ]); first | (with_reducible refine retM_ret ?_) | refine retQ_ret ?_; simp)) | refine st_seq ?_ | refine st_block ?_ | ((with_reducible show (STri _ _ _ _ _) ∧ (STri _ _ _ _ _)); refine And.intro ?_ ?_) | ((first | refine st_reg ?_ | refine buildP_own ?_ | refine appP_own ?_ | refine callP_b (sWithinW 0 3155760000 [s.at'] (by simp)) rfl ?_ | refine callP_b (sIsSpanW s.dlo s.dhi 100000 (by omega) (by omega)) rfl ?_) <;> (simp -dsimp; (repeat (simp -dsimp (disch := (first | omega | assumption | (refine Bool.eq_false_iff.1 ?_; assumption))) only [wrap_in, if_pos, if_neg]; (try simp -dsimp))))) | ((first | refine guardP_of (fun hc => ?_) (fun hc => ?_) | refine st_cond rfl (fun hc => ?_) (fun hc => ?_)) <;> (try simp only [lqA, lqB, lqC, lqD, lqE, lqF, lqG, lqH, lqI, lqJ, lqK, lqL, lqM, lqN, lqO] at hc) <;> (try (exfalso; first | omega | exact bool_tf hc (by assumption) | exact bool_ft hc (by assumption) | exact absurd (by assumption) hc)) <;> (first | with_reducible show STri _ _ _ _ _ _ | (simp -dsimp [hc]; (repeat (simp -dsimp (disch := (first | omega | assumption | (refine Bool.eq_false_iff.1 ?_; assumption))) only [wrap_in, if_pos, if_neg]; (try simp -dsimp [hc]))))))))
  all_goals (refine CLe.bool ?_; rw [allIn_one] at hc; simp [hc])
theorem sEventV (s : Wsrc) : SC Try.prog 96 [cSr s] (B (eventV s)) := by
  refine law_wire_event_isValid _ _ (by simp) ?_
  unfold eventV
  (repeat' (first | ((first | with_reducible refine st_skip ?_ | with_reducible refine st_exit ?_); (try simp only [seqQ, blockQ, loopQ, forQ, whileQ, reduceIte, Nat.reduceEqDiff])) | (with_reducible refine st_ret ?_; ((try simp only [seqQ, blockQ, loopQ, forQ, whileQ]); first | (with_reducible refine retM_ret ?_) | refine retQ_ret ?_; simp)) | refine st_seq ?_ | refine st_block ?_ | ((with_reducible show (STri _ _ _ _ _) ∧ (STri _ _ _ _ _)); refine And.intro ?_ ?_) | ((first | refine st_reg ?_ | refine buildP_own ?_ | refine appP_own ?_ | refine callP_b (sWithinW 0 3155760000 [s.at'] (by simp)) rfl ?_ | refine callP_b (sWithinW 1 3155760000 [s.every] (by simp)) rfl ?_) <;> (simp -dsimp; (repeat (simp -dsimp (disch := (first | omega | assumption | (refine Bool.eq_false_iff.1 ?_; assumption))) only [wrap_in, if_pos, if_neg]; (try simp -dsimp))))) | ((first | refine guardP_of (fun hc => ?_) (fun hc => ?_) | refine st_cond rfl (fun hc => ?_) (fun hc => ?_)) <;> (try simp only [lqA, lqB, lqC, lqD, lqE, lqF, lqG, lqH, lqI, lqJ, lqK, lqL, lqM, lqN, lqO] at hc) <;> (try (exfalso; first | omega | exact bool_tf hc (by assumption) | exact bool_ft hc (by assumption) | exact absurd (by assumption) hc)) <;> (first | with_reducible show STri _ _ _ _ _ _ | (simp -dsimp [hc]; (repeat (simp -dsimp (disch := (first | omega | assumption | (refine Bool.eq_false_iff.1 ?_; assumption))) only [wrap_in, if_pos, if_neg]; (try simp -dsimp [hc]))))))))
  all_goals (refine CLe.bool ?_; rw [allIn_one] at hc; simp [hc, allIn_one])
theorem sSunV (s : Wsrc) (h : s.table.length ≤ 1000000) : SC Try.prog 100 [cSr s] (B (sunV s)) := by
  refine law_wire_sun_isValid _ _ (by simp) ?_
  unfold sunV
  (repeat' (first | ((first | with_reducible refine st_skip ?_ | with_reducible refine st_exit ?_); (try simp only [seqQ, blockQ, loopQ, forQ, whileQ, reduceIte, Nat.reduceEqDiff])) | (with_reducible refine st_ret ?_; ((try simp only [seqQ, blockQ, loopQ, forQ, whileQ]); first | (with_reducible refine retM_ret ?_) | refine retQ_ret ?_; simp)) | refine st_seq ?_ | refine st_block ?_ | ((with_reducible show (STri _ _ _ _ _) ∧ (STri _ _ _ _ _)); refine And.intro ?_ ?_) | ((first | refine st_reg ?_ | refine buildP_own ?_ | refine appP_own ?_ | refine callP_b (sWithinW 1 366 [(s.table.length : Int)] (by simp)) rfl ?_ | refine callP_b (sWithinW (-3600) 3600 s.table h) rfl ?_) <;> (simp -dsimp; (repeat (simp -dsimp (disch := (first | omega | assumption | (refine Bool.eq_false_iff.1 ?_; assumption))) only [wrap_in, if_pos, if_neg]; (try simp -dsimp))))) | ((first | refine guardP_of (fun hc => ?_) (fun hc => ?_) | refine st_cond rfl (fun hc => ?_) (fun hc => ?_)) <;> (try simp only [lqA, lqB, lqC, lqD, lqE, lqF, lqG, lqH, lqI, lqJ, lqK, lqL, lqM, lqN, lqO] at hc) <;> (try (exfalso; first | omega | exact bool_tf hc (by assumption) | exact bool_ft hc (by assumption) | exact absurd (by assumption) hc)) <;> (first | with_reducible show STri _ _ _ _ _ _ | (simp -dsimp [hc]; (repeat (simp -dsimp (disch := (first | omega | assumption | (refine Bool.eq_false_iff.1 ?_; assumption))) only [wrap_in, if_pos, if_neg]; (try simp -dsimp [hc]))))))))
  all_goals (refine CLe.bool ?_; rw [allIn_one] at hc; simp [hc])
theorem sSignalV (s : Wsrc) : SC Try.prog 105 [cSr s] (B true) := by
  refine law_wire_signal_isValid _ _ (by simp) ?_
  (repeat' (first | ((first | with_reducible refine st_skip ?_ | with_reducible refine st_exit ?_); (try simp only [seqQ, blockQ, loopQ, forQ, whileQ, reduceIte, Nat.reduceEqDiff])) | (with_reducible refine st_ret ?_; ((try simp only [seqQ, blockQ, loopQ, forQ, whileQ]); first | (with_reducible refine retM_ret ?_) | refine retQ_ret ?_; simp)) | refine st_seq ?_ | refine st_block ?_ | ((with_reducible show (STri _ _ _ _ _) ∧ (STri _ _ _ _ _)); refine And.intro ?_ ?_) | ((first | refine st_reg ?_ | refine buildP_own ?_ | refine appP_own ?_) <;> (simp -dsimp; (repeat (simp -dsimp (disch := (first | omega | assumption | (refine Bool.eq_false_iff.1 ?_; assumption))) only [wrap_in, if_pos, if_neg]; (try simp -dsimp))))) | ((first | refine guardP_of (fun hc => ?_) (fun hc => ?_) | refine st_cond rfl (fun hc => ?_) (fun hc => ?_)) <;> (try simp only [lqA, lqB, lqC, lqD, lqE, lqF, lqG, lqH, lqI, lqJ, lqK, lqL, lqM, lqN, lqO] at hc) <;> (try (exfalso; first | omega | exact bool_tf hc (by assumption) | exact bool_ft hc (by assumption) | exact absurd (by assumption) hc)) <;> (first | with_reducible show STri _ _ _ _ _ _ | (simp -dsimp [hc]; (repeat (simp -dsimp (disch := (first | omega | assumption | (refine Bool.eq_false_iff.1 ?_; assumption))) only [wrap_in, if_pos, if_neg]; (try simp -dsimp [hc]))))))))
  exact .refl _
theorem sClockS (s : Wsrc) (n : Int) : SC Try.prog 89 [cSr s, I n] (B (within1 0 43199 n)) := by
  refine law_wire_clock_isSaid _ _ (by simp) ?_
  (repeat' (first | ((first | with_reducible refine st_skip ?_ | with_reducible refine st_exit ?_); (try simp only [seqQ, blockQ, loopQ, forQ, whileQ, reduceIte, Nat.reduceEqDiff])) | (with_reducible refine st_ret ?_; ((try simp only [seqQ, blockQ, loopQ, forQ, whileQ]); first | (with_reducible refine retM_ret ?_) | refine retQ_ret ?_; simp)) | refine st_seq ?_ | refine st_block ?_ | ((with_reducible show (STri _ _ _ _ _) ∧ (STri _ _ _ _ _)); refine And.intro ?_ ?_) | ((first | refine st_reg ?_ | refine buildP_own ?_ | refine appP_own ?_ | refine callP_b (sWithinW 0 43199 [n] (by simp)) rfl ?_) <;> (simp -dsimp; (repeat (simp -dsimp (disch := (first | omega | assumption | (refine Bool.eq_false_iff.1 ?_; assumption))) only [wrap_in, if_pos, if_neg]; (try simp -dsimp))))) | ((first | refine guardP_of (fun hc => ?_) (fun hc => ?_) | refine st_cond rfl (fun hc => ?_) (fun hc => ?_)) <;> (try simp only [lqA, lqB, lqC, lqD, lqE, lqF, lqG, lqH, lqI, lqJ, lqK, lqL, lqM, lqN, lqO] at hc) <;> (try (exfalso; first | omega | exact bool_tf hc (by assumption) | exact bool_ft hc (by assumption) | exact absurd (by assumption) hc)) <;> (first | with_reducible show STri _ _ _ _ _ _ | (simp -dsimp [hc]; (repeat (simp -dsimp (disch := (first | omega | assumption | (refine Bool.eq_false_iff.1 ?_; assumption))) only [wrap_in, if_pos, if_neg]; (try simp -dsimp [hc]))))))))
  all_goals (refine CLe.bool ?_; exact allIn_one _ _ _)
theorem sNothingS (n : Int) : SC Try.prog 97 [.agg [], I n] (B (decide (n = 0))) := by
  refine law_wire_nothing_isSaid _ _ (by simp) ?_
  (repeat' (first | ((first | with_reducible refine st_skip ?_ | with_reducible refine st_exit ?_); (try simp only [seqQ, blockQ, loopQ, forQ, whileQ, reduceIte, Nat.reduceEqDiff])) | (with_reducible refine st_ret ?_; ((try simp only [seqQ, blockQ, loopQ, forQ, whileQ]); first | (with_reducible refine retM_ret ?_) | refine retQ_ret ?_; simp)) | refine st_seq ?_ | refine st_block ?_ | ((with_reducible show (STri _ _ _ _ _) ∧ (STri _ _ _ _ _)); refine And.intro ?_ ?_) | ((first | refine st_reg ?_ | refine buildP_own ?_ | refine appP_own ?_) <;> (simp -dsimp; (repeat (simp -dsimp (disch := (first | omega | assumption | (refine Bool.eq_false_iff.1 ?_; assumption))) only [wrap_in, if_pos, if_neg]; (try simp -dsimp))))) | ((first | refine guardP_of (fun hc => ?_) (fun hc => ?_) | refine st_cond rfl (fun hc => ?_) (fun hc => ?_)) <;> (try simp only [lqA, lqB, lqC, lqD, lqE, lqF, lqG, lqH, lqI, lqJ, lqK, lqL, lqM, lqN, lqO] at hc) <;> (try (exfalso; first | omega | exact bool_tf hc (by assumption) | exact bool_ft hc (by assumption) | exact absurd (by assumption) hc)) <;> (first | with_reducible show STri _ _ _ _ _ _ | (simp -dsimp [hc]; (repeat (simp -dsimp (disch := (first | omega | assumption | (refine Bool.eq_false_iff.1 ?_; assumption))) only [wrap_in, if_pos, if_neg]; (try simp -dsimp [hc]))))))))
  all_goals (refine CLe.bool ?_; rw [Bool.eq_iff_iff]; simp)
theorem sEventS (s : Wsrc) (n : Int) : SC Try.prog 95 [cSr s, I n] (B (decide (n = 0))) := by
  refine law_wire_event_isSaid _ _ (by simp) ?_
  (repeat' (first | ((first | with_reducible refine st_skip ?_ | with_reducible refine st_exit ?_); (try simp only [seqQ, blockQ, loopQ, forQ, whileQ, reduceIte, Nat.reduceEqDiff])) | (with_reducible refine st_ret ?_; ((try simp only [seqQ, blockQ, loopQ, forQ, whileQ]); first | (with_reducible refine retM_ret ?_) | refine retQ_ret ?_; simp)) | refine st_seq ?_ | refine st_block ?_ | ((with_reducible show (STri _ _ _ _ _) ∧ (STri _ _ _ _ _)); refine And.intro ?_ ?_) | ((first | refine st_reg ?_ | refine buildP_own ?_ | refine appP_own ?_ | refine callP_b (sNothingS n) rfl ?_) <;> (simp -dsimp; (repeat (simp -dsimp (disch := (first | omega | assumption | (refine Bool.eq_false_iff.1 ?_; assumption))) only [wrap_in, if_pos, if_neg]; (try simp -dsimp))))) | ((first | refine guardP_of (fun hc => ?_) (fun hc => ?_) | refine st_cond rfl (fun hc => ?_) (fun hc => ?_)) <;> (try simp only [lqA, lqB, lqC, lqD, lqE, lqF, lqG, lqH, lqI, lqJ, lqK, lqL, lqM, lqN, lqO] at hc) <;> (try (exfalso; first | omega | exact bool_tf hc (by assumption) | exact bool_ft hc (by assumption) | exact absurd (by assumption) hc)) <;> (first | with_reducible show STri _ _ _ _ _ _ | (simp -dsimp [hc]; (repeat (simp -dsimp (disch := (first | omega | assumption | (refine Bool.eq_false_iff.1 ?_; assumption))) only [wrap_in, if_pos, if_neg]; (try simp -dsimp [hc]))))))))
  all_goals exact .refl _
theorem sSunS (s : Wsrc) (n : Int) : SC Try.prog 99 [cSr s, I n] (B (decide (n = 0))) := by
  refine law_wire_sun_isSaid _ _ (by simp) ?_
  (repeat' (first | ((first | with_reducible refine st_skip ?_ | with_reducible refine st_exit ?_); (try simp only [seqQ, blockQ, loopQ, forQ, whileQ, reduceIte, Nat.reduceEqDiff])) | (with_reducible refine st_ret ?_; ((try simp only [seqQ, blockQ, loopQ, forQ, whileQ]); first | (with_reducible refine retM_ret ?_) | refine retQ_ret ?_; simp)) | refine st_seq ?_ | refine st_block ?_ | ((with_reducible show (STri _ _ _ _ _) ∧ (STri _ _ _ _ _)); refine And.intro ?_ ?_) | ((first | refine st_reg ?_ | refine buildP_own ?_ | refine appP_own ?_ | refine callP_b (sNothingS n) rfl ?_) <;> (simp -dsimp; (repeat (simp -dsimp (disch := (first | omega | assumption | (refine Bool.eq_false_iff.1 ?_; assumption))) only [wrap_in, if_pos, if_neg]; (try simp -dsimp))))) | ((first | refine guardP_of (fun hc => ?_) (fun hc => ?_) | refine st_cond rfl (fun hc => ?_) (fun hc => ?_)) <;> (try simp only [lqA, lqB, lqC, lqD, lqE, lqF, lqG, lqH, lqI, lqJ, lqK, lqL, lqM, lqN, lqO] at hc) <;> (try (exfalso; first | omega | exact bool_tf hc (by assumption) | exact bool_ft hc (by assumption) | exact absurd (by assumption) hc)) <;> (first | with_reducible show STri _ _ _ _ _ _ | (simp -dsimp [hc]; (repeat (simp -dsimp (disch := (first | omega | assumption | (refine Bool.eq_false_iff.1 ?_; assumption))) only [wrap_in, if_pos, if_neg]; (try simp -dsimp [hc]))))))))
  all_goals exact .refl _
theorem sSignalS (s : Wsrc) (n : Int) : SC Try.prog 104 [cSr s, I n] (B (within1 0 3155760000 n)) := by
  refine law_wire_signal_isSaid _ _ (by simp) ?_
  (repeat' (first | ((first | with_reducible refine st_skip ?_ | with_reducible refine st_exit ?_); (try simp only [seqQ, blockQ, loopQ, forQ, whileQ, reduceIte, Nat.reduceEqDiff])) | (with_reducible refine st_ret ?_; ((try simp only [seqQ, blockQ, loopQ, forQ, whileQ]); first | (with_reducible refine retM_ret ?_) | refine retQ_ret ?_; simp)) | refine st_seq ?_ | refine st_block ?_ | ((with_reducible show (STri _ _ _ _ _) ∧ (STri _ _ _ _ _)); refine And.intro ?_ ?_) | ((first | refine st_reg ?_ | refine buildP_own ?_ | refine appP_own ?_ | refine callP_b (sWithinW 0 3155760000 [n] (by simp)) rfl ?_) <;> (simp -dsimp; (repeat (simp -dsimp (disch := (first | omega | assumption | (refine Bool.eq_false_iff.1 ?_; assumption))) only [wrap_in, if_pos, if_neg]; (try simp -dsimp))))) | ((first | refine guardP_of (fun hc => ?_) (fun hc => ?_) | refine st_cond rfl (fun hc => ?_) (fun hc => ?_)) <;> (try simp only [lqA, lqB, lqC, lqD, lqE, lqF, lqG, lqH, lqI, lqJ, lqK, lqL, lqM, lqN, lqO] at hc) <;> (try (exfalso; first | omega | exact bool_tf hc (by assumption) | exact bool_ft hc (by assumption) | exact absurd (by assumption) hc)) <;> (first | with_reducible show STri _ _ _ _ _ _ | (simp -dsimp [hc]; (repeat (simp -dsimp (disch := (first | omega | assumption | (refine Bool.eq_false_iff.1 ?_; assumption))) only [wrap_in, if_pos, if_neg]; (try simp -dsimp [hc]))))))))
  all_goals (refine CLe.bool ?_; exact allIn_one _ _ _)
structure TSm (t said elo ehi : Int) : Prop where
  t0 : -10000000000 ≤ t
  t1 : t ≤ 10000000000
  s0 : -10000000000 ≤ said
  s1 : said ≤ 10000000000
  l0 : -100000 ≤ elo
  l1 : elo ≤ 100000
  h0 : -100000 ≤ ehi
  h1 : ehi ≤ 100000
def clLo (s : Wsrc) (t elo : Int) : Int := elo + s.dlo * (t - s.at') / 86400000
def clHi (s : Wsrc) (t ehi : Int) : Int := ehi + upI (s.dhi * (t - s.at')) 86400000
def clockR (s : Wsrc) (t said elo ehi : Int) : Bool := decide (0 ≤ t - s.at') && decide ((said - t - clLo s t elo) % 43200 ≤ clHi s t ehi - clLo s t elo)
theorem mul_bd {a b : Int} (A B : Nat) (ha : a.natAbs ≤ A) (hb : b.natAbs ≤ B) : -((A * B : Nat) : Int) ≤ a * b ∧ a * b ≤ ((A * B : Nat) : Int) := by
  have h : (a * b).natAbs ≤ A * B := by rw [Int.natAbs_mul]; exact Nat.mul_le_mul ha hb
  omega
theorem div_bd (n b : Int) : -(n.natAbs : Int) ≤ n / b ∧ n / b ≤ n.natAbs := by
  have := Int.natAbs_ediv_le_natAbs n b
  omega
theorem clockV_is {s : Wsrc} (h : clockV s = true) : 0 ≤ s.at' ∧ s.at' ≤ 3155760000 ∧ -100000 ≤ s.dlo ∧ s.dlo ≤ s.dhi ∧ s.dhi ≤ 100000 := by
  unfold clockV within1 spanW at h
  simp at h
  omega
theorem cl_bd {s : Wsrc} (h : clockV s = true) {t said elo ehi : Int} (ht : TSm t said elo ehi) : -2000000000000000 ≤ s.dlo * (t - s.at') ∧ s.dlo * (t - s.at') ≤ 2000000000000000 ∧ -2000000000000000 ≤ s.dhi * (t - s.at') ∧ s.dhi * (t - s.at') ≤ 2000000000000000 := by
  obtain ⟨h1, h2, h3, h4, h5⟩ := clockV_is h
  have t0 := ht.t0
  have t1 := ht.t1
  have b1 := mul_bd (a := s.dlo) (b := t - s.at') 100000 20000000000 (by omega) (by omega)
  have b2 := mul_bd (a := s.dhi) (b := t - s.at') 100000 20000000000 (by omega) (by omega)
  omega
theorem sClockR (s : Wsrc) (hs : clockV s = true) (t said elo ehi : Int) (ht : TSm t said elo ehi) : SC Try.prog 88 [cSr s, I t, I said, .agg [I elo, I ehi]] (B (clockR s t said elo ehi)) := by
  refine law_wire_clock_isRight _ _ (by simp) ?_
  obtain ⟨h1, h2, h3, h4, h5⟩ := clockV_is hs
  obtain ⟨b1, b2, b3, b4⟩ := cl_bd hs ht
  obtain ⟨t0, t1, s0, s1, l0, l1, e0, e1⟩ := ht
  have c1 := div_bd (s.dlo * (t - s.at')) 86400000
  have c2 := div_bd (-(s.dhi * (t - s.at'))) 86400000
  unfold clockR clLo clHi
  generalize hx : s.dlo * (t - s.at') = x at *
  generalize hy : s.dhi * (t - s.at') = y at *
  have hu : upI y 86400000 = -(-y / 86400000) := rfl
  generalize hX : x / 86400000 = X at *
  generalize hY : upI y 86400000 = Y at *
  have sd := sDownW x 86400000 (by omega) (by omega) (by omega) (by omega)
  have su := sUpW y 86400000 (by omega) (by omega) (by omega) (by omega)
  rw [hX] at sd
  rw [hY] at su
  (repeat' (first | ((first | with_reducible refine st_skip ?_ | with_reducible refine st_exit ?_); (try simp only [seqQ, blockQ, loopQ, forQ, whileQ, reduceIte, Nat.reduceEqDiff])) | (with_reducible refine st_ret ?_; ((try simp only [seqQ, blockQ, loopQ, forQ, whileQ]); first | (with_reducible refine retM_ret ?_) | refine retQ_ret ?_; simp [hx, hy])) | refine st_seq ?_ | refine st_block ?_ | ((with_reducible show (STri _ _ _ _ _) ∧ (STri _ _ _ _ _)); refine And.intro ?_ ?_) | ((first | refine st_reg ?_ | refine buildP_own ?_ | refine appP_own ?_ | refine callP_b (sd) rfl ?_ | refine callP_b (su) rfl ?_ | refine callP_b (sModuloW (said - t - (elo + X)) 43200 (by omega) (by omega)) rfl ?_) <;> (simp -dsimp [hx, hy]; (repeat (simp -dsimp (disch := (first | omega | assumption | (refine Bool.eq_false_iff.1 ?_; assumption))) only [wrap_in, if_pos, if_neg]; (try simp -dsimp [hx, hy]))))) | ((first | refine guardP_of (fun hc => ?_) (fun hc => ?_) | refine st_cond rfl (fun hc => ?_) (fun hc => ?_)) <;> (try simp only [lqA, lqB, lqC, lqD, lqE, lqF, lqG, lqH, lqI, lqJ, lqK, lqL, lqM, lqN, lqO] at hc) <;> (try (exfalso; first | omega | exact bool_tf hc (by assumption) | exact bool_ft hc (by assumption) | exact absurd (by assumption) hc)) <;> (first | with_reducible show STri _ _ _ _ _ _ | (simp -dsimp [hx, hy, hc]; (repeat (simp -dsimp (disch := (first | omega | assumption | (refine Bool.eq_false_iff.1 ?_; assumption))) only [wrap_in, if_pos, if_neg]; (try simp -dsimp [hx, hy, hc]))))))))
  all_goals (refine CLe.bool ?_; simp_all; try (intros; omega))
def eventR (s : Wsrc) (t elo ehi : Int) : Bool := decide (max 0 (upI (t - s.at' - ehi) s.every) ≤ (t - s.at' - elo) / s.every)
theorem eventV_is {s : Wsrc} (h : eventV s = true) : 0 ≤ s.at' ∧ s.at' ≤ 3155760000 ∧ 1 ≤ s.every ∧ s.every ≤ 3155760000 := by
  unfold eventV within1 at h
  simp at h
  omega
theorem sEventR (s : Wsrc) (hs : eventV s = true) (t said elo ehi : Int) (ht : TSm t said elo ehi) : SC Try.prog 94 [cSr s, I t, I said, .agg [I elo, I ehi]] (B (eventR s t elo ehi)) := by
  refine law_wire_event_isRight _ _ (by simp) ?_
  obtain ⟨h1, h2, h3, h4⟩ := eventV_is hs
  obtain ⟨t0, t1, s0, s1, l0, l1, e0, e1⟩ := ht
  unfold eventR
  have sd := sDownW (t - s.at' - elo) s.every (by omega) (by omega) (by omega) (by omega)
  have su := sUpW (t - s.at' - ehi) s.every (by omega) (by omega) (by omega) (by omega)
  generalize hX : (t - s.at' - elo) / s.every = X at *
  generalize hY : upI (t - s.at' - ehi) s.every = Y at *
  (repeat' (first | ((first | with_reducible refine st_skip ?_ | with_reducible refine st_exit ?_); (try simp only [seqQ, blockQ, loopQ, forQ, whileQ, reduceIte, Nat.reduceEqDiff])) | (with_reducible refine st_ret ?_; ((try simp only [seqQ, blockQ, loopQ, forQ, whileQ]); first | (with_reducible refine retM_ret ?_) | refine retQ_ret ?_; simp)) | refine st_seq ?_ | refine st_block ?_ | ((with_reducible show (STri _ _ _ _ _) ∧ (STri _ _ _ _ _)); refine And.intro ?_ ?_) | ((first | refine st_reg ?_ | refine buildP_own ?_ | refine appP_own ?_ | refine callP_b (sd) rfl ?_ | refine callP_b (su) rfl ?_) <;> (simp -dsimp; (repeat (simp -dsimp (disch := (first | omega | assumption | (refine Bool.eq_false_iff.1 ?_; assumption))) only [wrap_in, if_pos, if_neg]; (try simp -dsimp))))) | ((first | refine guardP_of (fun hc => ?_) (fun hc => ?_) | refine st_cond rfl (fun hc => ?_) (fun hc => ?_)) <;> (try simp only [lqA, lqB, lqC, lqD, lqE, lqF, lqG, lqH, lqI, lqJ, lqK, lqL, lqM, lqN, lqO] at hc) <;> (try (exfalso; first | omega | exact bool_tf hc (by assumption) | exact bool_ft hc (by assumption) | exact absurd (by assumption) hc)) <;> (first | with_reducible show STri _ _ _ _ _ _ | (simp -dsimp [hc]; (repeat (simp -dsimp (disch := (first | omega | assumption | (refine Bool.eq_false_iff.1 ?_; assumption))) only [wrap_in, if_pos, if_neg]; (try simp -dsimp [hc]))))))))
  all_goals (refine CLe.bool ?_; rw [Bool.eq_iff_iff]; simp; try omega)
def signalR (t said elo ehi : Int) : Bool := within1 elo ehi (t - said)
theorem sSignalR (s : Wsrc) (t said elo ehi : Int) (ht : TSm t said elo ehi) : SC Try.prog 103 [cSr s, I t, I said, .agg [I elo, I ehi]] (B (signalR t said elo ehi)) := by
  refine law_wire_signal_isRight _ _ (by simp) ?_
  obtain ⟨t0, t1, s0, s1, l0, l1, e0, e1⟩ := ht
  (repeat' (first | ((first | with_reducible refine st_skip ?_ | with_reducible refine st_exit ?_); (try simp only [seqQ, blockQ, loopQ, forQ, whileQ, reduceIte, Nat.reduceEqDiff])) | (with_reducible refine st_ret ?_; ((try simp only [seqQ, blockQ, loopQ, forQ, whileQ]); first | (with_reducible refine retM_ret ?_) | refine retQ_ret ?_; simp)) | refine st_seq ?_ | refine st_block ?_ | ((with_reducible show (STri _ _ _ _ _) ∧ (STri _ _ _ _ _)); refine And.intro ?_ ?_) | ((first | refine st_reg ?_ | refine buildP_own ?_ | refine appP_own ?_ | refine callP_b (sWithinW elo ehi [t - said] (by simp)) rfl ?_) <;> (simp -dsimp; (repeat (simp -dsimp (disch := (first | omega | assumption | (refine Bool.eq_false_iff.1 ?_; assumption))) only [wrap_in, if_pos, if_neg]; (try simp -dsimp))))) | ((first | refine guardP_of (fun hc => ?_) (fun hc => ?_) | refine st_cond rfl (fun hc => ?_) (fun hc => ?_)) <;> (try simp only [lqA, lqB, lqC, lqD, lqE, lqF, lqG, lqH, lqI, lqJ, lqK, lqL, lqM, lqN, lqO] at hc) <;> (try (exfalso; first | omega | exact bool_tf hc (by assumption) | exact bool_ft hc (by assumption) | exact absurd (by assumption) hc)) <;> (first | with_reducible show STri _ _ _ _ _ _ | (simp -dsimp [hc]; (repeat (simp -dsimp (disch := (first | omega | assumption | (refine Bool.eq_false_iff.1 ?_; assumption))) only [wrap_in, if_pos, if_neg]; (try simp -dsimp [hc]))))))))
  all_goals (refine CLe.bool ?_; exact allIn_one _ _ _)
end Go.Proofs.Ytlodpljdhdhfmaa
/- Wire, III: suns. -/
namespace Go.Proofs.Ytlodpljdhdhfmaa
open Go.RowKit
def dayLo (t : Int) : Int := max 0 (t / 86400 - 1)
def noonI (s : Wsrc) (d : Int) : Int := d * 86400 + s.table.getD (d % s.table.length).toNat 0
def dayN (t : Int) : Nat := (t / 86400 + 2 - dayLo t).toNat
def dayL (s : Wsrc) (t : Int) : List (Int × Int) := (List.range (dayN t)).map fun (k : Nat) => (dayLo t + k, noonI s (dayLo t + k))
def rowD (x : Int × Int) : List CV := [I x.1, I x.2]
def sunR (s : Wsrc) (t elo ehi : Int) : Bool := (dayL s t).any fun x => within1 elo ehi (t - x.2)
theorem sunV_is {s : Wsrc} (h : sunV s = true) : 1 ≤ s.table.length ∧ s.table.length ≤ 366 ∧ ∀ x ∈ s.table, -3600 ≤ x ∧ x ≤ 3600 := by
  unfold sunV within1 allIn inB at h
  simp at h
  exact ⟨by omega, by omega, h.2⟩
theorem sDays (s : Wsrc) (t : Int) : SC Try.prog 101 [cSr s, I t] (.fn 102 [] [.ref [I t], .ref (rowSr s)]) := by
  refine law_wire_sun_days _ _ (by simp) ?_
  (repeat' (first | ((first | with_reducible refine st_skip ?_ | with_reducible refine st_exit ?_); (try simp only [seqQ, blockQ, loopQ, forQ, whileQ, reduceIte, Nat.reduceEqDiff])) | (with_reducible refine st_ret ?_; ((try simp only [seqQ, blockQ, loopQ, forQ, whileQ]); first | (with_reducible refine retM_ret ?_) | refine retQ_ret ?_; simp)) | refine st_seq ?_ | refine st_block ?_ | ((with_reducible show (STri _ _ _ _ _) ∧ (STri _ _ _ _ _)); refine And.intro ?_ ?_) | ((first | refine st_reg ?_ | refine buildP_own ?_ | refine appP_own ?_) <;> (simp -dsimp; (repeat (simp -dsimp (disch := (first | omega | assumption | (refine Bool.eq_false_iff.1 ?_; assumption))) only [wrap_in, if_pos, if_neg]; (try simp -dsimp))))) | ((first | refine guardP_of (fun hc => ?_) (fun hc => ?_) | refine st_cond rfl (fun hc => ?_) (fun hc => ?_)) <;> (try simp only [lqA, lqB, lqC, lqD, lqE, lqF, lqG, lqH, lqI, lqJ, lqK, lqL, lqM, lqN, lqO] at hc) <;> (try (exfalso; first | omega | exact bool_tf hc (by assumption) | exact bool_ft hc (by assumption) | exact absurd (by assumption) hc)) <;> (first | with_reducible show STri _ _ _ _ _ _ | (simp -dsimp [hc]; (repeat (simp -dsimp (disch := (first | omega | assumption | (refine Bool.eq_false_iff.1 ?_; assumption))) only [wrap_in, if_pos, if_neg]; (try simp -dsimp [hc]))))))))
  exact .refl _
theorem iDays (s : Wsrc) (hs : sunV s = true) (t : Int) (h0 : 0 ≤ t) (h1 : t ≤ 10000000000) : IterL Try.prog 102 1000 [] [.ref [I t], .ref (rowSr s)] ((dayL s t).map rowD) := by
  obtain ⟨l1, l2, l3⟩ := sunV_is hs
  refine ilaw_wire_sun_days_1 1000 _ _ _ (by omega) (by simp) (fun Iv A G id hG hY => ?_)
  have hlen : ((dayL s t).map rowD).length = dayN t := by simp [dayL]
  have ht : t.tdiv 86400 = t / 86400 := Int.tdiv_eq_ediv_of_nonneg h0
  have hD : dayLo t = max 0 (t / 86400 - 1) := rfl
  have hq0 : 0 ≤ t / 86400 := Int.ediv_nonneg h0 (by omega)
  have hq1 : t / 86400 ≤ 10000000000 := by omega
  have hN : (dayN t : Int) = t / 86400 + 2 - dayLo t := by unfold dayN; omega
  generalize hq : t / 86400 = q at *
  have hmx : (if 1 < q then q - 1 else 0) = dayLo t := by rw [hD]; split <;> omega
  have hd0 : 0 ≤ dayLo t := by omega
  have hd1 : dayLo t ≤ q := by omega
  (repeat' (first | ((first | with_reducible refine st_skip ?_ | with_reducible refine st_exit ?_); (try simp only [seqQ, blockQ, loopQ, forQ, whileQ, reduceIte, Nat.reduceEqDiff])) | (with_reducible refine st_ret ?_; ((try simp only [seqQ, blockQ, loopQ, forQ, whileQ]); first | (with_reducible refine retM_ret ?_) | refine retQ_ret ?_; simp [ht, hmx])) | refine st_seq ?_ | refine st_block ?_ | ((with_reducible show (STri _ _ _ _ _) ∧ (STri _ _ _ _ _)); refine And.intro ?_ ?_) | ((first | refine st_reg ?_ | refine buildP_own ?_ | refine appP_own ?_) <;> (simp -dsimp [ht, hmx]; (repeat (simp -dsimp (disch := (first | omega | assumption | (refine Bool.eq_false_iff.1 ?_; assumption))) only [wrap_in, if_pos, if_neg]; (try simp -dsimp [ht, hmx]))))) | ((first | refine guardP_of (fun hc => ?_) (fun hc => ?_) | refine st_cond rfl (fun hc => ?_) (fun hc => ?_)) <;> (try simp only [lqA, lqB, lqC, lqD, lqE, lqF, lqG, lqH, lqI, lqJ, lqK, lqL, lqM, lqN, lqO] at hc) <;> (try (exfalso; first | omega | exact bool_tf hc (by assumption) | exact bool_ft hc (by assumption) | exact absurd (by assumption) hc)) <;> (first | with_reducible show STri _ _ _ _ _ _ | (simp -dsimp [ht, hmx, hc]; (repeat (simp -dsimp (disch := (first | omega | assumption | (refine Bool.eq_false_iff.1 ?_; assumption))) only [wrap_in, if_pos, if_neg]; (try simp -dsimp [ht, hmx, hc]))))))))
  refine st_for [1000001000] (dayN t) (fun k T H => T = [(0, .yl id), (1, .c (.ref [I t])), (2, .c (.ref (rowSr s))), (4, .c (I (dayLo t + k)))] ∧ H = [(1000001000, .gh k false)]) (by simp) ⟨by simp, by simp⟩ ?_
  rintro k T H hk ⟨rfl, rfl⟩
  by_cases hlt : k < dayN t
  · have hle : dayLo t + k ≤ q + 1 := by omega
    have hrow : ((dayL s t).map rowD)[k]? = some [I (dayLo t + k), I (noonI s (dayLo t + k))] := by simp [dayL, hlt, rowD]
    have hm : (dayLo t + k).tmod s.table.length = (dayLo t + k) % s.table.length := Int.tmod_eq_emod_of_nonneg (by omega)
    have hm0 := Int.emod_nonneg (dayLo t + k) (show (s.table.length : Int) ≠ 0 by omega)
    have hm1 := Int.emod_lt_of_pos (dayLo t + k) (show (0 : Int) < s.table.length by omega)
    have hne : ¬ (s.table.length : Int) = 0 := by omega
    have hne2 : ¬ s.table = [] := fun e => by rw [e] at l1; simp at l1
    generalize hj : (dayLo t + k) % s.table.length = j at *
    have hjl : j.toNat < s.table.length := by omega
    have hx := l3 _ (List.getElem_mem hjl)
    have hno : noonI s (dayLo t + k) = (dayLo t + k) * 86400 + s.table[j.toNat]'hjl := by
      unfold noonI
      rw [hj]
      simp [hjl]
    rw [hno] at hrow
    (repeat' (first | ((first | with_reducible refine st_skip ?_ | with_reducible refine st_exit ?_); (try simp only [seqQ, blockQ, loopQ, forQ, whileQ, reduceIte, Nat.reduceEqDiff])) | (with_reducible refine st_ret ?_; ((try simp only [seqQ, blockQ, loopQ, forQ, whileQ]); first | (with_reducible refine retM_ret ?_) | refine retQ_ret ?_; simp [hle, ht, hq, hm, hm0, hne, hne2, hjl])) | refine st_seq ?_ | refine st_block ?_ | ((with_reducible show (STri _ _ _ _ _) ∧ (STri _ _ _ _ _)); refine And.intro ?_ ?_) | ((first | refine st_reg ?_ | ((with_reducible show callVP _ _ _ _ _ _ _); refine callV_yl (hY k _ hrow) [] (by first | rfl | simp) (fun j hj => by cases hj) rfl ?_ ?_) | refine buildP_own ?_ | refine appP_own ?_) <;> (simp -dsimp [hle, ht, hq, hm, hm0, hne, hne2, hjl]; (repeat (simp -dsimp (disch := (first | omega | assumption | (refine Bool.eq_false_iff.1 ?_; assumption))) only [wrap_in, if_pos, if_neg]; (try simp -dsimp [hle, ht, hq, hm, hm0, hne, hne2, hjl]))))) | ((first | refine guardP_of (fun hc => ?_) (fun hc => ?_) | refine st_cond rfl (fun hc => ?_) (fun hc => ?_)) <;> (try simp only [lqA, lqB, lqC, lqD, lqE, lqF, lqG, lqH, lqI, lqJ, lqK, lqL, lqM, lqN, lqO] at hc) <;> (try (exfalso; first | omega | exact bool_tf hc (by assumption) | exact bool_ft hc (by assumption) | exact absurd (by assumption) hc)) <;> (first | with_reducible show STri _ _ _ _ _ _ | (simp -dsimp [hle, ht, hq, hm, hm0, hne, hne2, hjl, hc]; (repeat (simp -dsimp (disch := (first | omega | assumption | (refine Bool.eq_false_iff.1 ?_; assumption))) only [wrap_in, if_pos, if_neg]; (try simp -dsimp [hle, ht, hq, hm, hm0, hne, hne2, hjl, hc]))))))))
    · exact ⟨hlt, by simp, by simp; omega, by simp⟩
    · exact st_ret ⟨.inr rfl, k + 1, true, rfl, fun h => by cases h⟩
  · have hle : ¬ dayLo t + k ≤ q + 1 := by omega
    (repeat' (first | ((first | with_reducible refine st_skip ?_ | with_reducible refine st_exit ?_); (try simp only [seqQ, blockQ, loopQ, forQ, whileQ, reduceIte, Nat.reduceEqDiff])) | (with_reducible refine st_ret ?_; ((try simp only [seqQ, blockQ, loopQ, forQ, whileQ]); first | (with_reducible refine retM_ret ?_) | refine retQ_ret ?_; simp [hle, ht, hq])) | refine st_seq ?_ | refine st_block ?_ | ((with_reducible show (STri _ _ _ _ _) ∧ (STri _ _ _ _ _)); refine And.intro ?_ ?_) | ((first | refine st_reg ?_ | refine buildP_own ?_ | refine appP_own ?_) <;> (simp -dsimp [hle, ht, hq]; (repeat (simp -dsimp (disch := (first | omega | assumption | (refine Bool.eq_false_iff.1 ?_; assumption))) only [wrap_in, if_pos, if_neg]; (try simp -dsimp [hle, ht, hq]))))) | ((first | refine guardP_of (fun hc => ?_) (fun hc => ?_) | refine st_cond rfl (fun hc => ?_) (fun hc => ?_)) <;> (try simp only [lqA, lqB, lqC, lqD, lqE, lqF, lqG, lqH, lqI, lqJ, lqK, lqL, lqM, lqN, lqO] at hc) <;> (try (exfalso; first | omega | exact bool_tf hc (by assumption) | exact bool_ft hc (by assumption) | exact absurd (by assumption) hc)) <;> (first | with_reducible show STri _ _ _ _ _ _ | (simp -dsimp [hle, ht, hq, hc]; (repeat (simp -dsimp (disch := (first | omega | assumption | (refine Bool.eq_false_iff.1 ?_; assumption))) only [wrap_in, if_pos, if_neg]; (try simp -dsimp [hle, ht, hq, hc]))))))))
    exact ⟨.inl rfl, k, false, rfl, fun _ => by rw [hlen]; omega⟩
def NoSun (s : Wsrc) (t elo ehi : Int) (k : Nat) : Prop := ∀ x ∈ (dayL s t).take k, within1 elo ehi (t - x.2) = false
theorem noon_bd {s : Wsrc} (hs : sunV s = true) (d : Int) (h0 : -100000 ≤ d) (h1 : d ≤ 1000000) : -10000000000 ≤ noonI s d ∧ noonI s d ≤ 100000000000 := by
  obtain ⟨l1, l2, l3⟩ := sunV_is hs
  have : -3600 ≤ s.table.getD (d % s.table.length).toNat 0 ∧ s.table.getD (d % s.table.length).toNat 0 ≤ 3600 := by
    rw [List.getD_eq_getElem?_getD]
    cases h : s.table[(d % s.table.length).toNat]? with
    | none => simp
    | some x => simpa using l3 x (List.mem_of_getElem? h)
  unfold noonI; omega
theorem sSunR (s : Wsrc) (hs : sunV s = true) (t said elo ehi : Int) (h0 : 0 ≤ t) (ht : TSm t said elo ehi) : SC Try.prog 98 [cSr s, I t, I said, .agg [I elo, I ehi]] (B (sunR s t elo ehi)) := by
  refine law_wire_sun_isRight _ _ (by simp) ?_
  obtain ⟨t0, t1, s0, s1, l0, l1, e0, e1⟩ := ht
  have hq0 : 0 ≤ t / 86400 := Int.ediv_nonneg h0 (by omega)
  have hq1 : t / 86400 ≤ 1000000 := by omega
  have hD : dayLo t = max 0 (t / 86400 - 1) := rfl
  (repeat' (first | ((first | with_reducible refine st_skip ?_ | with_reducible refine st_exit ?_); (try simp only [seqQ, blockQ, loopQ, forQ, whileQ, reduceIte, Nat.reduceEqDiff])) | (with_reducible refine st_ret ?_; ((try simp only [seqQ, blockQ, loopQ, forQ, whileQ]); first | (with_reducible refine retM_ret ?_) | refine retQ_ret ?_; simp)) | refine st_seq ?_ | refine st_block ?_ | ((with_reducible show (STri _ _ _ _ _) ∧ (STri _ _ _ _ _)); refine And.intro ?_ ?_) | ((first | refine st_reg ?_ | refine buildP_own ?_ | refine appP_own ?_ | refine callP_b (sDays s t) rfl ?_) <;> (simp -dsimp; (repeat (simp -dsimp (disch := (first | omega | assumption | (refine Bool.eq_false_iff.1 ?_; assumption))) only [wrap_in, if_pos, if_neg]; (try simp -dsimp))))) | ((first | refine guardP_of (fun hc => ?_) (fun hc => ?_) | refine st_cond rfl (fun hc => ?_) (fun hc => ?_)) <;> (try simp only [lqA, lqB, lqC, lqD, lqE, lqF, lqG, lqH, lqI, lqJ, lqK, lqL, lqM, lqN, lqO] at hc) <;> (try (exfalso; first | omega | exact bool_tf hc (by assumption) | exact bool_ft hc (by assumption) | exact absurd (by assumption) hc)) <;> (first | with_reducible show STri _ _ _ _ _ _ | (simp -dsimp [hc]; (repeat (simp -dsimp (disch := (first | omega | assumption | (refine Bool.eq_false_iff.1 ?_; assumption))) only [wrap_in, if_pos, if_neg]; (try simp -dsimp [hc]))))))))
  refine st_range (iDays s hs t h0 t1) [5, 7, 8] [] (fun k R => NoSun s t elo ehi k ∧ R = [(5, .box 3 [.c (I t)]), (7, .box 29 [.c (I elo), .c (I ehi)]), (8, .box 4 [.c (B false)])])
    rfl rfl rfl (by kernel_rfl) (by show (0 : Nat) + 1000 ≤ 1000; decide) (fun j hj => by cases hj) (fun row hrow => by obtain ⟨y, _, rfl⟩ := List.mem_map.1 hrow; rfl) (by simp) (by simp) ⟨fun x hx => by simp at hx, by simp⟩ ?_ ?_
  · rintro k row R ⟨hno, rfl⟩ hrow Iv1 G1 hGG hin
    obtain ⟨d, hdk, rfl⟩ : ∃ d, (dayL s t)[k]? = some d ∧ row = rowD d := by
      rw [List.getElem?_map, Option.map_eq_some_iff] at hrow
      obtain ⟨d, h1, h2⟩ := hrow
      exact ⟨d, h1, h2.symm⟩
    have hk : k < (dayL s t).length := (List.getElem?_eq_some_iff.1 hdk).1
    have hkd : (dayL s t)[k] = d := (List.getElem?_eq_some_iff.1 hdk).2
    have hbd : -10000000000 ≤ d.2 ∧ d.2 ≤ 100000000000 := by
      unfold dayL at hdk
      rw [List.getElem?_map, Option.map_eq_some_iff] at hdk
      obtain ⟨i, hi1, rfl⟩ := hdk
      have hi := List.mem_range.1 (List.mem_of_getElem? hi1)
      unfold dayN at hi
      exact noon_bd hs _ (by omega) (by omega)
    obtain ⟨b1, b2⟩ := hbd
    unfold rowD
    (repeat' (first | ((first | with_reducible refine st_skip ?_ | with_reducible refine st_exit ?_); (try simp only [seqQ, blockQ, loopQ, forQ, whileQ, reduceIte, Nat.reduceEqDiff])) | (with_reducible refine st_ret ?_; ((try simp only [seqQ, blockQ, loopQ, forQ, whileQ]); first | (with_reducible refine retM_ret ?_) | refine retQ_ret ?_; simp)) | refine st_seq ?_ | refine st_block ?_ | ((with_reducible show (STri _ _ _ _ _) ∧ (STri _ _ _ _ _)); refine And.intro ?_ ?_) | ((first | refine st_reg ?_ | refine buildP_own ?_ | refine appP_own ?_) <;> (simp -dsimp; (repeat (simp -dsimp (disch := (first | omega | assumption | (refine Bool.eq_false_iff.1 ?_; assumption))) only [wrap_in, if_pos, if_neg]; (try simp -dsimp))))) | ((first | refine guardP_of (fun hc => ?_) (fun hc => ?_) | refine st_cond rfl (fun hc => ?_) (fun hc => ?_)) <;> (try simp only [lqA, lqB, lqC, lqD, lqE, lqF, lqG, lqH, lqI, lqJ, lqK, lqL, lqM, lqN, lqO] at hc) <;> (try (exfalso; first | omega | exact bool_tf hc (by assumption) | exact bool_ft hc (by assumption) | exact absurd (by assumption) hc)) <;> (first | with_reducible show STri _ _ _ _ _ _ | (simp -dsimp [hc]; (repeat (simp -dsimp (disch := (first | omega | assumption | (refine Bool.eq_false_iff.1 ?_; assumption))) only [wrap_in, if_pos, if_neg]; (try simp -dsimp [hc]))))))))
    refine ⟨rfl, fun Iv2 hin2 => ?_⟩
    (repeat' (first | ((first | with_reducible refine st_skip ?_ | with_reducible refine st_exit ?_); (try simp only [seqQ, blockQ, loopQ, forQ, whileQ, reduceIte, Nat.reduceEqDiff])) | (with_reducible refine st_ret ?_; ((try simp only [seqQ, blockQ, loopQ, forQ, whileQ]); first | (with_reducible refine retM_ret ?_) | refine retQ_ret ?_; simp)) | refine st_seq ?_ | refine st_block ?_ | ((with_reducible show (STri _ _ _ _ _) ∧ (STri _ _ _ _ _)); refine And.intro ?_ ?_) | ((first | refine st_reg ?_ | refine buildP_own ?_ | refine appP_own ?_ | refine callP_b (sWithinW elo ehi [t - d.2] (by simp)) rfl ?_) <;> (simp -dsimp; (repeat (simp -dsimp (disch := (first | omega | assumption | (refine Bool.eq_false_iff.1 ?_; assumption))) only [wrap_in, if_pos, if_neg]; (try simp -dsimp))))) | ((first | refine guardP_of (fun hc => ?_) (fun hc => ?_) | refine st_cond rfl (fun hc => ?_) (fun hc => ?_)) <;> (try simp only [lqA, lqB, lqC, lqD, lqE, lqF, lqG, lqH, lqI, lqJ, lqK, lqL, lqM, lqN, lqO] at hc) <;> (try (exfalso; first | omega | exact bool_tf hc (by assumption) | exact bool_ft hc (by assumption) | exact absurd (by assumption) hc)) <;> (first | with_reducible show STri _ _ _ _ _ _ | (simp -dsimp [hc]; (repeat (simp -dsimp (disch := (first | omega | assumption | (refine Bool.eq_false_iff.1 ?_; assumption))) only [wrap_in, if_pos, if_neg]; (try simp -dsimp [hc]))))))))
    · rw [allIn_one] at hc
      refine st_ret ⟨by simp, by simp, ?_⟩
      show retQ _ _ _ _ _
      refine retQ_ret ?_
      simp
      have : sunR s t elo ehi = true := by
        unfold sunR
        rw [List.any_eq_true]
        exact ⟨d, hkd ▸ List.getElem_mem hk, hc⟩
      rw [this]
      exact .refl _
    · rw [allIn_one] at hc
      refine ⟨by simp, by simp, fun x hx => ?_, by simp⟩
      rw [List.take_succ_eq_append_getElem hk, List.mem_append] at hx
      rcases hx with hx | hx
      · exact hno x hx
      · simp only [List.mem_singleton] at hx
        rw [hx, hkd]; exact hc
  · rintro R ⟨hno, rfl⟩
    simp only [blockQ, seqQ]
    have : sunR s t elo ehi = false := by
      unfold sunR
      rw [List.any_eq_false]
      intro x hx
      have := hno x (by rw [List.length_map, List.take_length]; exact hx)
      rw [this]; decide
    rw [this]
    (repeat' (first | ((first | with_reducible refine st_skip ?_ | with_reducible refine st_exit ?_); (try simp only [seqQ, blockQ, loopQ, forQ, whileQ, reduceIte, Nat.reduceEqDiff])) | (with_reducible refine st_ret ?_; ((try simp only [seqQ, blockQ, loopQ, forQ, whileQ]); first | (with_reducible refine retM_ret ?_) | refine retQ_ret ?_; simp)) | refine st_seq ?_ | refine st_block ?_ | ((with_reducible show (STri _ _ _ _ _) ∧ (STri _ _ _ _ _)); refine And.intro ?_ ?_) | ((first | refine st_reg ?_ | refine buildP_own ?_ | refine appP_own ?_) <;> (simp -dsimp; (repeat (simp -dsimp (disch := (first | omega | assumption | (refine Bool.eq_false_iff.1 ?_; assumption))) only [wrap_in, if_pos, if_neg]; (try simp -dsimp))))) | ((first | refine guardP_of (fun hc => ?_) (fun hc => ?_) | refine st_cond rfl (fun hc => ?_) (fun hc => ?_)) <;> (try simp only [lqA, lqB, lqC, lqD, lqE, lqF, lqG, lqH, lqI, lqJ, lqK, lqL, lqM, lqN, lqO] at hc) <;> (try (exfalso; first | omega | exact bool_tf hc (by assumption) | exact bool_ft hc (by assumption) | exact absurd (by assumption) hc)) <;> (first | with_reducible show STri _ _ _ _ _ _ | (simp -dsimp [hc]; (repeat (simp -dsimp (disch := (first | omega | assumption | (refine Bool.eq_false_iff.1 ?_; assumption))) only [wrap_in, if_pos, if_neg]; (try simp -dsimp [hc]))))))))
    exact .refl _
end Go.Proofs.Ytlodpljdhdhfmaa
/- Wire, IV: a source of any kind. -/
namespace Go.Proofs.Ytlodpljdhdhfmaa
open Go.RowKit
def tyK (k : Int) : TypeId := if k = 1 then 104 else if k = 2 then 105 else if k = 3 then 106 else 107
def cI (s : Wsrc) : CV := .ifc (tyK s.kind) (cSr s)
def kindOK (k : Int) : Bool := decide (k = 1) || decide (k = 2) || decide (k = 3) || decide (k = 4)
theorem kind_cases {k : Int} (h : kindOK k = true) : k = 1 ∨ k = 2 ∨ k = 3 ∨ k = 4 := by
  unfold kindOK at h; simp at h; omega
def useV (s : Wsrc) : Bool := if s.kind = 1 then clockV s else if s.kind = 2 then eventV s else if s.kind = 3 then sunV s else true
def saidB (s : Wsrc) (n : Int) : Bool := if s.kind = 1 then within1 0 43199 n else if s.kind = 2 ∨ s.kind = 3 then decide (n = 0) else within1 0 3155760000 n
def rightB (s : Wsrc) (t said elo ehi : Int) : Bool := if s.kind = 1 then clockR s t said elo ehi else if s.kind = 2 then eventR s t elo ehi else if s.kind = 3 then sunR s t elo ehi else signalR t said elo ehi
theorem mValid (s : Wsrc) (hk : kindOK s.kind = true) (hl : s.table.length ≤ 1000000) : MethS Try.prog "turret/wire.isValid" (tyK s.kind) (cSr s) [] (B (useV s)) := by
  unfold useV tyK
  rcases kind_cases hk with h | h | h | h <;> rw [h]
  · exact ⟨_, by kernel_rfl, by kernel_rfl, sClockV s⟩
  · exact ⟨_, by kernel_rfl, by kernel_rfl, sEventV s⟩
  · exact ⟨_, by kernel_rfl, by kernel_rfl, sSunV s hl⟩
  · exact ⟨_, by kernel_rfl, by kernel_rfl, sSignalV s⟩
theorem mSaid (s : Wsrc) (hk : kindOK s.kind = true) (n : Int) : MethS Try.prog "turret/wire.isSaid" (tyK s.kind) (cSr s) [I n] (B (saidB s n)) := by
  unfold saidB tyK
  rcases kind_cases hk with h | h | h | h <;> rw [h]
  · exact ⟨_, by kernel_rfl, by kernel_rfl, sClockS s n⟩
  · exact ⟨_, by kernel_rfl, by kernel_rfl, sEventS s n⟩
  · exact ⟨_, by kernel_rfl, by kernel_rfl, sSunS s n⟩
  · exact ⟨_, by kernel_rfl, by kernel_rfl, sSignalS s n⟩
theorem mRight (s : Wsrc) (hk : kindOK s.kind = true) (hu : useV s = true) (t said elo ehi : Int) (h0 : 0 ≤ t) (ht : TSm t said elo ehi) :
    MethS Try.prog "turret/wire.isRight" (tyK s.kind) (cSr s) [I t, I said, .agg [I elo, I ehi]] (B (rightB s t said elo ehi)) := by
  unfold rightB tyK
  unfold useV at hu
  rcases kind_cases hk with h | h | h | h <;> rw [h] at hu ⊢
  · exact ⟨_, by kernel_rfl, by kernel_rfl, sClockR s hu t said elo ehi ht⟩
  · exact ⟨_, by kernel_rfl, by kernel_rfl, sEventR s hu t said elo ehi ht⟩
  · exact ⟨_, by kernel_rfl, by kernel_rfl, sSunR s hu t said elo ehi h0 ht⟩
  · exact ⟨_, by kernel_rfl, by kernel_rfl, sSignalR s t said elo ehi ht⟩
def kindsM : List (List Int × CV) := [([1], .fn 50 [] []), ([2], .fn 51 [] []), ([3], .fn 52 [] []), ([4], .fn 53 [] [])]
theorem sKinds : SC Try.prog 42 [] (.map false .i64 kindsM) := by
  refine law_wire_kinds _ _ (by simp) ?_
  unfold kindsM
  (repeat' (first | ((first | with_reducible refine st_skip ?_ | with_reducible refine st_exit ?_); (try simp only [seqQ, blockQ, loopQ, forQ, whileQ, reduceIte, Nat.reduceEqDiff])) | (with_reducible refine st_ret ?_; ((try simp only [seqQ, blockQ, loopQ, forQ, whileQ]); first | (with_reducible refine retM_ret ?_) | refine retQ_ret ?_; simp)) | refine st_seq ?_ | refine st_block ?_ | ((with_reducible show (STri _ _ _ _ _) ∧ (STri _ _ _ _ _)); refine And.intro ?_ ?_) | ((first | refine st_reg ?_ | refine buildP_own ?_ | refine appP_own ?_) <;> (simp -dsimp; (repeat (simp -dsimp (disch := (first | omega | assumption | (refine Bool.eq_false_iff.1 ?_; assumption))) only [wrap_in, if_pos, if_neg]; (try simp -dsimp))))) | ((first | refine guardP_of (fun hc => ?_) (fun hc => ?_) | refine st_cond rfl (fun hc => ?_) (fun hc => ?_)) <;> (try simp only [lqA, lqB, lqC, lqD, lqE, lqF, lqG, lqH, lqI, lqJ, lqK, lqL, lqM, lqN, lqO] at hc) <;> (try (exfalso; first | omega | exact bool_tf hc (by assumption) | exact bool_ft hc (by assumption) | exact absurd (by assumption) hc)) <;> (first | with_reducible show STri _ _ _ _ _ _ | (simp -dsimp [hc]; (repeat (simp -dsimp (disch := (first | omega | assumption | (refine Bool.eq_false_iff.1 ?_; assumption))) only [wrap_in, if_pos, if_neg]; (try simp -dsimp [hc]))))))))
  exact .refl _
theorem sKind1 (s : Wsrc) : SC Try.prog 50 [cSr s] (.ifc (tyK 1) (cSr s)) := by
  refine law_wire_kinds_1 _ _ (by simp) ?_
  (repeat' (first | ((first | with_reducible refine st_skip ?_ | with_reducible refine st_exit ?_); (try simp only [seqQ, blockQ, loopQ, forQ, whileQ, reduceIte, Nat.reduceEqDiff])) | (with_reducible refine st_ret ?_; ((try simp only [seqQ, blockQ, loopQ, forQ, whileQ]); first | (with_reducible refine retM_ret ?_) | refine retQ_ret ?_; simp)) | refine st_seq ?_ | refine st_block ?_ | ((with_reducible show (STri _ _ _ _ _) ∧ (STri _ _ _ _ _)); refine And.intro ?_ ?_) | ((first | refine st_reg ?_ | refine buildP_own ?_ | refine appP_own ?_) <;> (simp -dsimp; (repeat (simp -dsimp (disch := (first | omega | assumption | (refine Bool.eq_false_iff.1 ?_; assumption))) only [wrap_in, if_pos, if_neg]; (try simp -dsimp))))) | ((first | refine guardP_of (fun hc => ?_) (fun hc => ?_) | refine st_cond rfl (fun hc => ?_) (fun hc => ?_)) <;> (try simp only [lqA, lqB, lqC, lqD, lqE, lqF, lqG, lqH, lqI, lqJ, lqK, lqL, lqM, lqN, lqO] at hc) <;> (try (exfalso; first | omega | exact bool_tf hc (by assumption) | exact bool_ft hc (by assumption) | exact absurd (by assumption) hc)) <;> (first | with_reducible show STri _ _ _ _ _ _ | (simp -dsimp [hc]; (repeat (simp -dsimp (disch := (first | omega | assumption | (refine Bool.eq_false_iff.1 ?_; assumption))) only [wrap_in, if_pos, if_neg]; (try simp -dsimp [hc]))))))))
  exact .refl _
theorem sKind2 (s : Wsrc) : SC Try.prog 51 [cSr s] (.ifc (tyK 2) (cSr s)) := by
  refine law_wire_kinds_2 _ _ (by simp) ?_
  (repeat' (first | ((first | with_reducible refine st_skip ?_ | with_reducible refine st_exit ?_); (try simp only [seqQ, blockQ, loopQ, forQ, whileQ, reduceIte, Nat.reduceEqDiff])) | (with_reducible refine st_ret ?_; ((try simp only [seqQ, blockQ, loopQ, forQ, whileQ]); first | (with_reducible refine retM_ret ?_) | refine retQ_ret ?_; simp)) | refine st_seq ?_ | refine st_block ?_ | ((with_reducible show (STri _ _ _ _ _) ∧ (STri _ _ _ _ _)); refine And.intro ?_ ?_) | ((first | refine st_reg ?_ | refine buildP_own ?_ | refine appP_own ?_) <;> (simp -dsimp; (repeat (simp -dsimp (disch := (first | omega | assumption | (refine Bool.eq_false_iff.1 ?_; assumption))) only [wrap_in, if_pos, if_neg]; (try simp -dsimp))))) | ((first | refine guardP_of (fun hc => ?_) (fun hc => ?_) | refine st_cond rfl (fun hc => ?_) (fun hc => ?_)) <;> (try simp only [lqA, lqB, lqC, lqD, lqE, lqF, lqG, lqH, lqI, lqJ, lqK, lqL, lqM, lqN, lqO] at hc) <;> (try (exfalso; first | omega | exact bool_tf hc (by assumption) | exact bool_ft hc (by assumption) | exact absurd (by assumption) hc)) <;> (first | with_reducible show STri _ _ _ _ _ _ | (simp -dsimp [hc]; (repeat (simp -dsimp (disch := (first | omega | assumption | (refine Bool.eq_false_iff.1 ?_; assumption))) only [wrap_in, if_pos, if_neg]; (try simp -dsimp [hc]))))))))
  exact .refl _
theorem sKind3 (s : Wsrc) : SC Try.prog 52 [cSr s] (.ifc (tyK 3) (cSr s)) := by
  refine law_wire_kinds_3 _ _ (by simp) ?_
  (repeat' (first | ((first | with_reducible refine st_skip ?_ | with_reducible refine st_exit ?_); (try simp only [seqQ, blockQ, loopQ, forQ, whileQ, reduceIte, Nat.reduceEqDiff])) | (with_reducible refine st_ret ?_; ((try simp only [seqQ, blockQ, loopQ, forQ, whileQ]); first | (with_reducible refine retM_ret ?_) | refine retQ_ret ?_; simp)) | refine st_seq ?_ | refine st_block ?_ | ((with_reducible show (STri _ _ _ _ _) ∧ (STri _ _ _ _ _)); refine And.intro ?_ ?_) | ((first | refine st_reg ?_ | refine buildP_own ?_ | refine appP_own ?_) <;> (simp -dsimp; (repeat (simp -dsimp (disch := (first | omega | assumption | (refine Bool.eq_false_iff.1 ?_; assumption))) only [wrap_in, if_pos, if_neg]; (try simp -dsimp))))) | ((first | refine guardP_of (fun hc => ?_) (fun hc => ?_) | refine st_cond rfl (fun hc => ?_) (fun hc => ?_)) <;> (try simp only [lqA, lqB, lqC, lqD, lqE, lqF, lqG, lqH, lqI, lqJ, lqK, lqL, lqM, lqN, lqO] at hc) <;> (try (exfalso; first | omega | exact bool_tf hc (by assumption) | exact bool_ft hc (by assumption) | exact absurd (by assumption) hc)) <;> (first | with_reducible show STri _ _ _ _ _ _ | (simp -dsimp [hc]; (repeat (simp -dsimp (disch := (first | omega | assumption | (refine Bool.eq_false_iff.1 ?_; assumption))) only [wrap_in, if_pos, if_neg]; (try simp -dsimp [hc]))))))))
  exact .refl _
theorem sKind4 (s : Wsrc) : SC Try.prog 53 [cSr s] (.ifc (tyK 4) (cSr s)) := by
  refine law_wire_kinds_4 _ _ (by simp) ?_
  (repeat' (first | ((first | with_reducible refine st_skip ?_ | with_reducible refine st_exit ?_); (try simp only [seqQ, blockQ, loopQ, forQ, whileQ, reduceIte, Nat.reduceEqDiff])) | (with_reducible refine st_ret ?_; ((try simp only [seqQ, blockQ, loopQ, forQ, whileQ]); first | (with_reducible refine retM_ret ?_) | refine retQ_ret ?_; simp)) | refine st_seq ?_ | refine st_block ?_ | ((with_reducible show (STri _ _ _ _ _) ∧ (STri _ _ _ _ _)); refine And.intro ?_ ?_) | ((first | refine st_reg ?_ | refine buildP_own ?_ | refine appP_own ?_) <;> (simp -dsimp; (repeat (simp -dsimp (disch := (first | omega | assumption | (refine Bool.eq_false_iff.1 ?_; assumption))) only [wrap_in, if_pos, if_neg]; (try simp -dsimp))))) | ((first | refine guardP_of (fun hc => ?_) (fun hc => ?_) | refine st_cond rfl (fun hc => ?_) (fun hc => ?_)) <;> (try simp only [lqA, lqB, lqC, lqD, lqE, lqF, lqG, lqH, lqI, lqJ, lqK, lqL, lqM, lqN, lqO] at hc) <;> (try (exfalso; first | omega | exact bool_tf hc (by assumption) | exact bool_ft hc (by assumption) | exact absurd (by assumption) hc)) <;> (first | with_reducible show STri _ _ _ _ _ _ | (simp -dsimp [hc]; (repeat (simp -dsimp (disch := (first | omega | assumption | (refine Bool.eq_false_iff.1 ?_; assumption))) only [wrap_in, if_pos, if_neg]; (try simp -dsimp [hc]))))))))
  exact .refl _
end Go.Proofs.Ytlodpljdhdhfmaa
/- Wire, V: sources are made. -/
namespace Go.Proofs.Ytlodpljdhdhfmaa
open Go.RowKit
def baseV (s : Wsrc) : Bool := kindOK s.kind && spanW s.elo s.ehi 3600
def validV (s : Wsrc) : Bool := baseV s && useV s
def srcX (s : Wsrc) : CV := if baseV s = true then cI s else .val .nilIface
theorem findK1 : kindsM.find? (fun p => p.1 == [1]) = some ([1], .fn 50 [] []) := rfl
theorem findK2 : kindsM.find? (fun p => p.1 == [2]) = some ([2], .fn 51 [] []) := rfl
theorem findK3 : kindsM.find? (fun p => p.1 == [3]) = some ([3], .fn 52 [] []) := rfl
theorem findK4 : kindsM.find? (fun p => p.1 == [4]) = some ([4], .fn 53 [] []) := rfl
theorem findK0 {k : Int} (h : ¬ kindOK k = true) : kindsM.find? (fun p => p.1 == [k]) = none := by
  unfold kindOK at h
  simp at h
  unfold kindsM
  have a1 : ¬ 1 = k := fun e => by omega
  have a2 : ¬ 2 = k := fun e => by omega
  have a3 : ¬ 3 = k := fun e => by omega
  have a4 : ¬ 4 = k := fun e => by omega
  simp [a1, a2, a3, a4]
theorem sNewSource (s : Wsrc) (hl : s.table.length ≤ 1000000) : SC Try.prog 28 [cSr s] (.tup [srcX s, B (validV s)]) := by
  refine law_wire_newSource _ _ (by simp) ?_
  have hs := sIsSpanW s.elo s.ehi 3600 (by omega) (by omega)
  by_cases hk : kindOK s.kind = true
  · have hm := mValid s hk hl
    have hv : validV s = (spanW s.elo s.ehi 3600 && useV s) := by unfold validV baseV; rw [hk]; rfl
    have hx : srcX s = if spanW s.elo s.ehi 3600 = true then .ifc (tyK s.kind) (cSr s) else .val .nilIface := by unfold srcX baseV cI; rw [hk]; simp
    rw [hv, hx]
    generalize spanW s.elo s.ehi 3600 = sp at *
    generalize useV s = uv at *
    obtain ⟨kind, elo, ehi, at', dlo, dhi, every, table⟩ := s
    simp only at hk hl
    rcases kind_cases hk with h | h | h | h <;> subst h
    · (repeat' (first | ((first | with_reducible refine st_skip ?_ | with_reducible refine st_exit ?_); (try simp only [seqQ, blockQ, loopQ, forQ, whileQ, reduceIte, Nat.reduceEqDiff])) | (with_reducible refine st_ret ?_; ((try simp only [seqQ, blockQ, loopQ, forQ, whileQ]); first | (with_reducible refine retM_ret ?_) | refine retQ_ret ?_; simp [findK1])) | refine st_seq ?_ | refine st_block ?_ | ((with_reducible show (STri _ _ _ _ _) ∧ (STri _ _ _ _ _)); refine And.intro ?_ ?_) | ((first | refine st_reg ?_ | ((with_reducible show callVP _ _ _ _ _ _ _); refine callV_b (by first | exact Ent.h (by assumption) | kernel_rfl) (sKind1 ⟨1, elo, ehi, at', dlo, dhi, every, table⟩) rfl ?_) | refine buildP_own ?_ | refine appP_own ?_ | ((with_reducible show callIP _ _ _ _ _ _ _); refine callI_m (hm) rfl ?_) | refine callP_b (sKinds) rfl ?_ | refine callP_b (hs) rfl ?_) <;> (simp -dsimp [findK1]; (repeat (simp -dsimp (disch := (first | omega | assumption | (refine Bool.eq_false_iff.1 ?_; assumption))) only [wrap_in, if_pos, if_neg]; (try simp -dsimp [findK1]))))) | ((first | refine guardP_of (fun hc => ?_) (fun hc => ?_) | refine st_cond rfl (fun hc => ?_) (fun hc => ?_)) <;> (try simp only [lqA, lqB, lqC, lqD, lqE, lqF, lqG, lqH, lqI, lqJ, lqK, lqL, lqM, lqN, lqO] at hc) <;> (try (exfalso; first | omega | exact bool_tf hc (by assumption) | exact bool_ft hc (by assumption) | exact absurd (by assumption) hc)) <;> (first | with_reducible show STri _ _ _ _ _ _ | (simp -dsimp [findK1, hc]; (repeat (simp -dsimp (disch := (first | omega | assumption | (refine Bool.eq_false_iff.1 ?_; assumption))) only [wrap_in, if_pos, if_neg]; (try simp -dsimp [findK1, hc]))))))))
      all_goals (subst hc; first | exact .refl _ | (simp; exact .refl _))
    · (repeat' (first | ((first | with_reducible refine st_skip ?_ | with_reducible refine st_exit ?_); (try simp only [seqQ, blockQ, loopQ, forQ, whileQ, reduceIte, Nat.reduceEqDiff])) | (with_reducible refine st_ret ?_; ((try simp only [seqQ, blockQ, loopQ, forQ, whileQ]); first | (with_reducible refine retM_ret ?_) | refine retQ_ret ?_; simp [findK2])) | refine st_seq ?_ | refine st_block ?_ | ((with_reducible show (STri _ _ _ _ _) ∧ (STri _ _ _ _ _)); refine And.intro ?_ ?_) | ((first | refine st_reg ?_ | ((with_reducible show callVP _ _ _ _ _ _ _); refine callV_b (by first | exact Ent.h (by assumption) | kernel_rfl) (sKind2 ⟨2, elo, ehi, at', dlo, dhi, every, table⟩) rfl ?_) | refine buildP_own ?_ | refine appP_own ?_ | ((with_reducible show callIP _ _ _ _ _ _ _); refine callI_m (hm) rfl ?_) | refine callP_b (sKinds) rfl ?_ | refine callP_b (hs) rfl ?_) <;> (simp -dsimp [findK2]; (repeat (simp -dsimp (disch := (first | omega | assumption | (refine Bool.eq_false_iff.1 ?_; assumption))) only [wrap_in, if_pos, if_neg]; (try simp -dsimp [findK2]))))) | ((first | refine guardP_of (fun hc => ?_) (fun hc => ?_) | refine st_cond rfl (fun hc => ?_) (fun hc => ?_)) <;> (try simp only [lqA, lqB, lqC, lqD, lqE, lqF, lqG, lqH, lqI, lqJ, lqK, lqL, lqM, lqN, lqO] at hc) <;> (try (exfalso; first | omega | exact bool_tf hc (by assumption) | exact bool_ft hc (by assumption) | exact absurd (by assumption) hc)) <;> (first | with_reducible show STri _ _ _ _ _ _ | (simp -dsimp [findK2, hc]; (repeat (simp -dsimp (disch := (first | omega | assumption | (refine Bool.eq_false_iff.1 ?_; assumption))) only [wrap_in, if_pos, if_neg]; (try simp -dsimp [findK2, hc]))))))))
      all_goals (subst hc; first | exact .refl _ | (simp; exact .refl _))
    · (repeat' (first | ((first | with_reducible refine st_skip ?_ | with_reducible refine st_exit ?_); (try simp only [seqQ, blockQ, loopQ, forQ, whileQ, reduceIte, Nat.reduceEqDiff])) | (with_reducible refine st_ret ?_; ((try simp only [seqQ, blockQ, loopQ, forQ, whileQ]); first | (with_reducible refine retM_ret ?_) | refine retQ_ret ?_; simp [findK3])) | refine st_seq ?_ | refine st_block ?_ | ((with_reducible show (STri _ _ _ _ _) ∧ (STri _ _ _ _ _)); refine And.intro ?_ ?_) | ((first | refine st_reg ?_ | ((with_reducible show callVP _ _ _ _ _ _ _); refine callV_b (by first | exact Ent.h (by assumption) | kernel_rfl) (sKind3 ⟨3, elo, ehi, at', dlo, dhi, every, table⟩) rfl ?_) | refine buildP_own ?_ | refine appP_own ?_ | ((with_reducible show callIP _ _ _ _ _ _ _); refine callI_m (hm) rfl ?_) | refine callP_b (sKinds) rfl ?_ | refine callP_b (hs) rfl ?_) <;> (simp -dsimp [findK3]; (repeat (simp -dsimp (disch := (first | omega | assumption | (refine Bool.eq_false_iff.1 ?_; assumption))) only [wrap_in, if_pos, if_neg]; (try simp -dsimp [findK3]))))) | ((first | refine guardP_of (fun hc => ?_) (fun hc => ?_) | refine st_cond rfl (fun hc => ?_) (fun hc => ?_)) <;> (try simp only [lqA, lqB, lqC, lqD, lqE, lqF, lqG, lqH, lqI, lqJ, lqK, lqL, lqM, lqN, lqO] at hc) <;> (try (exfalso; first | omega | exact bool_tf hc (by assumption) | exact bool_ft hc (by assumption) | exact absurd (by assumption) hc)) <;> (first | with_reducible show STri _ _ _ _ _ _ | (simp -dsimp [findK3, hc]; (repeat (simp -dsimp (disch := (first | omega | assumption | (refine Bool.eq_false_iff.1 ?_; assumption))) only [wrap_in, if_pos, if_neg]; (try simp -dsimp [findK3, hc]))))))))
      all_goals (subst hc; first | exact .refl _ | (simp; exact .refl _))
    · (repeat' (first | ((first | with_reducible refine st_skip ?_ | with_reducible refine st_exit ?_); (try simp only [seqQ, blockQ, loopQ, forQ, whileQ, reduceIte, Nat.reduceEqDiff])) | (with_reducible refine st_ret ?_; ((try simp only [seqQ, blockQ, loopQ, forQ, whileQ]); first | (with_reducible refine retM_ret ?_) | refine retQ_ret ?_; simp [findK4])) | refine st_seq ?_ | refine st_block ?_ | ((with_reducible show (STri _ _ _ _ _) ∧ (STri _ _ _ _ _)); refine And.intro ?_ ?_) | ((first | refine st_reg ?_ | ((with_reducible show callVP _ _ _ _ _ _ _); refine callV_b (by first | exact Ent.h (by assumption) | kernel_rfl) (sKind4 ⟨4, elo, ehi, at', dlo, dhi, every, table⟩) rfl ?_) | refine buildP_own ?_ | refine appP_own ?_ | ((with_reducible show callIP _ _ _ _ _ _ _); refine callI_m (hm) rfl ?_) | refine callP_b (sKinds) rfl ?_ | refine callP_b (hs) rfl ?_) <;> (simp -dsimp [findK4]; (repeat (simp -dsimp (disch := (first | omega | assumption | (refine Bool.eq_false_iff.1 ?_; assumption))) only [wrap_in, if_pos, if_neg]; (try simp -dsimp [findK4]))))) | ((first | refine guardP_of (fun hc => ?_) (fun hc => ?_) | refine st_cond rfl (fun hc => ?_) (fun hc => ?_)) <;> (try simp only [lqA, lqB, lqC, lqD, lqE, lqF, lqG, lqH, lqI, lqJ, lqK, lqL, lqM, lqN, lqO] at hc) <;> (try (exfalso; first | omega | exact bool_tf hc (by assumption) | exact bool_ft hc (by assumption) | exact absurd (by assumption) hc)) <;> (first | with_reducible show STri _ _ _ _ _ _ | (simp -dsimp [findK4, hc]; (repeat (simp -dsimp (disch := (first | omega | assumption | (refine Bool.eq_false_iff.1 ?_; assumption))) only [wrap_in, if_pos, if_neg]; (try simp -dsimp [findK4, hc]))))))))
      all_goals (subst hc; first | exact .refl _ | (simp; exact .refl _))
  · have hb : baseV s = false := by unfold baseV; simp [hk]
    have hv : validV s = false := by unfold validV; rw [hb]; rfl
    have hx : srcX s = .val .nilIface := by unfold srcX; rw [hb]; rfl
    have hg2 := findK0 hk
    rw [hv, hx]
    (repeat' (first | ((first | with_reducible refine st_skip ?_ | with_reducible refine st_exit ?_); (try simp only [seqQ, blockQ, loopQ, forQ, whileQ, reduceIte, Nat.reduceEqDiff])) | (with_reducible refine st_ret ?_; ((try simp only [seqQ, blockQ, loopQ, forQ, whileQ]); first | (with_reducible refine retM_ret ?_) | refine retQ_ret ?_; simp [hg2])) | refine st_seq ?_ | refine st_block ?_ | ((with_reducible show (STri _ _ _ _ _) ∧ (STri _ _ _ _ _)); refine And.intro ?_ ?_) | ((first | refine st_reg ?_ | refine buildP_own ?_ | refine appP_own ?_ | refine callP_b (sKinds) rfl ?_) <;> (simp -dsimp [hg2]; (repeat (simp -dsimp (disch := (first | omega | assumption | (refine Bool.eq_false_iff.1 ?_; assumption))) only [wrap_in, if_pos, if_neg]; (try simp -dsimp [hg2]))))) | ((first | refine guardP_of (fun hc => ?_) (fun hc => ?_) | refine st_cond rfl (fun hc => ?_) (fun hc => ?_)) <;> (try simp only [lqA, lqB, lqC, lqD, lqE, lqF, lqG, lqH, lqI, lqJ, lqK, lqL, lqM, lqN, lqO] at hc) <;> (try (exfalso; first | omega | exact bool_tf hc (by assumption) | exact bool_ft hc (by assumption) | exact absurd (by assumption) hc)) <;> (first | with_reducible show STri _ _ _ _ _ _ | (simp -dsimp [hg2, hc]; (repeat (simp -dsimp (disch := (first | omega | assumption | (refine Bool.eq_false_iff.1 ?_; assumption))) only [wrap_in, if_pos, if_neg]; (try simp -dsimp [hg2, hc]))))))))
    exact .refl _
end Go.Proofs.Ytlodpljdhdhfmaa
/- Wire, VI: books. -/
namespace Go.Proofs.Ytlodpljdhdhfmaa
open Go.RowKit
structure Wbk where
  (srcs : List Wsrc) (errs : List (Int × Int)) (notes : List Wnt) (nlo nhi : Int)
def rowS (s : Wsrc) : List CV := [cI s]
def rowE (e : Int × Int) : List CV := [I e.1, I e.2]
def rowBk (b : Wbk) : List CV := [.sl 1 (b.srcs.map rowS), .sl 2 (b.errs.map rowE), slN b.notes, I b.nlo, I b.nhi]
def cBk (b : Wbk) : CV := .agg (rowBk b)
attribute [simp] rowS rowE rowBk cBk cI
def errOf (s : Wsrc) : Int × Int := (s.elo, s.ehi)
def bare (w : List Wsrc) : Wbk := ⟨w, w.map errOf, [], 0, 0⟩
def sizeW (w : List Wsrc) : Bool := within1 1 10 w.length
def noteErr (w : List Wsrc) (n : Wnt) : Int :=
  if within1 0 (w.length - 1) n.src = true then (if within1 0 3155760000 n.tick = true ∧ (w.map fun s => saidB s n.said).getD n.src.toNat false = true then 0 else 2) else 7
def notesErr (w : List Wsrc) (l : List Wnt) : Int := match l.find? (fun n => decide (noteErr w n ≠ 0)) with
  | some n => noteErr w n
  | none => 0
def newErr (w : List Wsrc) (l : List Wnt) (nlo nhi : Int) : Int :=
  if ¬ sizeW w = true then 2 else if ¬ w.all validV = true then 2 else if 60 < l.length then 5 else if ¬ notesErr w l = 0 then notesErr w l else if spanW nlo nhi 7200 = true then 0 else 3
def newBk (w : List Wsrc) (l : List Wnt) (nlo nhi : Int) : Wbk :=
  if ¬ sizeW w = true then bare [] else if ¬ w.all validV = true then bare (w.takeWhile validV) else if newErr w l nlo nhi = 0 then ⟨w, w.map errOf, l, nlo, nhi⟩ else bare w
def AllV (w : List Wsrc) (k : Nat) : Prop := ∀ s ∈ w.take k, validV s = true
theorem allV_succ {w : List Wsrc} {k : Nat} (hlt : k < w.length) (h : AllV w k) (hv : validV w[k] = true) : AllV w (k + 1) := fun s hs => by
  rw [List.take_succ_eq_append_getElem hlt, List.mem_append] at hs
  rcases hs with hs | hs
  · exact h s hs
  · simp at hs; rw [hs]; exact hv
theorem allV_all {w : List Wsrc} (h : AllV w w.length) : w.all validV = true := List.all_eq_true.2 fun s hs => h s (by rw [List.take_length]; exact hs)
theorem allV_stop : ∀ {w : List Wsrc} {k : Nat} (hlt : k < w.length), AllV w k → validV w[k] = false → w.takeWhile validV = w.take k ∧ ¬ w.all validV = true
  | s :: w, 0, _, _, hv => by
    have : validV s = false := hv
    simp [this]
  | s :: w, k + 1, hlt, h, hv => by
    have h1 : validV s = true := h s (by simp)
    obtain ⟨e1, e2⟩ := allV_stop (w := w) (k := k) (by simpa using hlt) (fun x hx => h x (by simp [hx])) (by simpa using hv)
    exact ⟨by simp [h1, e1], by simp only [List.all_cons, h1, Bool.true_and]; exact e2⟩
theorem valid_X {s : Wsrc} (h : validV s = true) : srcX s = cI s := by
  unfold validV at h
  unfold srcX
  rw [if_pos (by simp at h; exact h.1)]
def NotesTo (w : List Wsrc) (l : List Wnt) (k : Nat) : Prop := ∀ n ∈ l.take k, noteErr w n = 0
theorem notes_succ {w : List Wsrc} {l : List Wnt} {k : Nat} (hlt : k < l.length) (h : NotesTo w l k) (hv : noteErr w l[k] = 0) : NotesTo w l (k + 1) := fun s hs => by
  rw [List.take_succ_eq_append_getElem hlt, List.mem_append] at hs
  rcases hs with hs | hs
  · exact h s hs
  · simp at hs; rw [hs]; exact hv
theorem notes_all {w : List Wsrc} {l : List Wnt} (h : NotesTo w l l.length) : notesErr w l = 0 := by
  unfold notesErr
  rw [List.find?_eq_none.2 (fun n hn => by simpa using h n (by rw [List.take_length]; exact hn))]
theorem notes_stop : ∀ {w : List Wsrc} {l : List Wnt} {k : Nat} (hlt : k < l.length), NotesTo w l k → ¬ noteErr w l[k] = 0 → notesErr w l = noteErr w l[k]
  | w, n :: l, 0, _, _, hv => by
    unfold notesErr
    have : ¬ noteErr w n = 0 := hv
    simp [this]
  | w, n :: l, k + 1, hlt, h, hv => by
    have h1 : noteErr w n = 0 := h n (by simp)
    have ih := notes_stop (w := w) (l := l) (k := k) (by simpa using hlt) (fun x hx => h x (by simp [hx])) (by simpa using hv)
    unfold notesErr at ih ⊢
    simp [h1] at ih ⊢
    exact ih
theorem take_map_succ {α β : Type} (f : α → β) {w : List α} {k : Nat} (hlt : k < w.length) : (w.map f).take (k + 1) = (w.map f).take k ++ [f w[k]] := by
  rw [List.take_succ_eq_append_getElem (by simpa using hlt), List.getElem_map]
structure WLen (w : List Wsrc) : Prop where
  h : ∀ s ∈ w, s.table.length ≤ 1000000
theorem sNewBook (w : List Wsrc) (hw : WLen w) (l : List Wnt) (hl : l.length ≤ 1000000) (nlo nhi : Int) :
    SC Try.prog 18 [slSr w, slN l, .agg [I nlo, I nhi]] (.tup [cBk (newBk w l nlo nhi), I (newErr w l nlo nhi)]) := by
  refine law_wire_newBook _ _ (by simp) ?_
  have s1 := sWithinW 1 10 [(w.length : Int)] (by simp)
  rw [allIn_one] at s1
  change SC _ _ _ (B (sizeW w)) at s1
  by_cases hz : sizeW w = true
  case neg =>
    have e1 : newBk w l nlo nhi = bare [] := by unfold newBk; rw [if_pos hz]
    have e2 : newErr w l nlo nhi = 2 := by unfold newErr; rw [if_pos hz]
    rw [e1, e2]
    unfold bare
    (repeat' (first | (refine st_nilB 6 0 200 75 1 rfl (by simp) rfl (by simp [newOK]) ?_) | (refine st_nilB 6 1 201 29 2 rfl (by simp) rfl (by simp [newOK]) ?_) | (refine st_nilB 6 2 202 67 3 rfl (by simp) rfl (by simp [newOK]) ?_) | ((first | with_reducible refine st_skip ?_ | with_reducible refine st_exit ?_); (try simp only [seqQ, blockQ, loopQ, forQ, whileQ, reduceIte, Nat.reduceEqDiff])) | (with_reducible refine st_ret ?_; ((try simp only [seqQ, blockQ, loopQ, forQ, whileQ]); first | (with_reducible refine retM_ret ?_) | refine retQ_ret ?_; simp [hz])) | refine st_seq ?_ | refine st_block ?_ | ((with_reducible show (STri _ _ _ _ _) ∧ (STri _ _ _ _ _)); refine And.intro ?_ ?_) | ((first | refine st_reg ?_ | refine buildP_own ?_ | refine appP_own ?_ | refine callP_b (s1) rfl ?_) <;> (simp -dsimp [hz]; (repeat (simp -dsimp (disch := (first | omega | assumption | (refine Bool.eq_false_iff.1 ?_; assumption))) only [wrap_in, if_pos, if_neg]; (try simp -dsimp [hz]))))) | ((first | refine guardP_of (fun hc => ?_) (fun hc => ?_) | refine st_cond rfl (fun hc => ?_) (fun hc => ?_)) <;> (try simp only [lqA, lqB, lqC, lqD, lqE, lqF, lqG, lqH, lqI, lqJ, lqK, lqL, lqM, lqN, lqO] at hc) <;> (try (exfalso; first | omega | exact bool_tf hc (by assumption) | exact bool_ft hc (by assumption) | exact absurd (by assumption) hc)) <;> (first | with_reducible show STri _ _ _ _ _ _ | (simp -dsimp [hz, hc]; (repeat (simp -dsimp (disch := (first | omega | assumption | (refine Bool.eq_false_iff.1 ?_; assumption))) only [wrap_in, if_pos, if_neg]; (try simp -dsimp [hz, hc]))))))))
    all_goals exact .refl _
  have hlen : 1 ≤ w.length ∧ w.length ≤ 10 := by
    unfold sizeW within1 at hz; simp at hz; omega
  (repeat' (first | (refine st_nilB 6 0 200 75 1 rfl (by simp) rfl (by simp [newOK]) ?_) | (refine st_nilB 6 1 201 29 2 rfl (by simp) rfl (by simp [newOK]) ?_) | (refine st_nilB 6 2 202 67 3 rfl (by simp) rfl (by simp [newOK]) ?_) | ((first | with_reducible refine st_skip ?_ | with_reducible refine st_exit ?_); (try simp only [seqQ, blockQ, loopQ, forQ, whileQ, reduceIte, Nat.reduceEqDiff])) | (with_reducible refine st_ret ?_; ((try simp only [seqQ, blockQ, loopQ, forQ, whileQ]); first | (with_reducible refine retM_ret ?_) | refine retQ_ret ?_; simp [hz])) | refine st_seq ?_ | refine st_block ?_ | ((with_reducible show (STri _ _ _ _ _) ∧ (STri _ _ _ _ _)); refine And.intro ?_ ?_) | ((first | refine st_reg ?_ | refine buildP_own ?_ | refine appP_own ?_ | refine callP_b (s1) rfl ?_) <;> (simp -dsimp [hz]; (repeat (simp -dsimp (disch := (first | omega | assumption | (refine Bool.eq_false_iff.1 ?_; assumption))) only [wrap_in, if_pos, if_neg]; (try simp -dsimp [hz]))))) | ((first | refine guardP_of (fun hc => ?_) (fun hc => ?_) | refine st_cond rfl (fun hc => ?_) (fun hc => ?_)) <;> (try simp only [lqA, lqB, lqC, lqD, lqE, lqF, lqG, lqH, lqI, lqJ, lqK, lqL, lqM, lqN, lqO] at hc) <;> (try (exfalso; first | omega | exact bool_tf hc (by assumption) | exact bool_ft hc (by assumption) | exact absurd (by assumption) hc)) <;> (first | with_reducible show STri _ _ _ _ _ _ | (simp -dsimp [hz, hc]; (repeat (simp -dsimp (disch := (first | omega | assumption | (refine Bool.eq_false_iff.1 ?_; assumption))) only [wrap_in, if_pos, if_neg]; (try simp -dsimp [hz, hc]))))))))
  refine st_for [5, 6, 200, 201, 202] w.length (fun k T H => AllV w k ∧ T = [(0, .c (slSr w)), (1, .c (slN l)), (5, .ptr 5 0), (6, .ptr 6 0), (20, .c (slSr w)), (21, .c (I w.length)), (22, .c (I k))] ∧
    H = [(5, .box 29 [.c (I nlo), .c (I nhi)]), (6, .box 60 [.own 200 k, .own 201 k, .own 202 0, .c (I 0), .c (I 0)]), (200, .arr 75 1 ((w.take k).map rowS)), (201, .arr 29 2 (((w.take k).map errOf).map rowE)), (202, .arr 67 3 [])]) (by simp) ⟨fun s hs => by simp at hs, by simp, by simp⟩ ?_
  rintro k T H hk ⟨hall, rfl, rfl⟩
  by_cases hlt : k < w.length
  · have sn := sNewSource w[k] (hw.h _ (List.getElem_mem hlt))
    have hkl : (w.take k).length = k := by rw [List.length_take]; omega
    have hm : min k w.length = k := by omega
    have hA : k ≤ 9223372036854775806 := by omega
    have hB : (k + 1) * 16 ≤ 140737488355328 := by omega
    by_cases hv : validV w[k] = true
    · rw [valid_X hv, hv] at sn
      (repeat' (first | ((first | with_reducible refine st_skip ?_ | with_reducible refine st_exit ?_); (try simp only [seqQ, blockQ, loopQ, forQ, whileQ, reduceIte, Nat.reduceEqDiff])) | (with_reducible refine st_ret ?_; ((try simp only [seqQ, blockQ, loopQ, forQ, whileQ]); first | (with_reducible refine retM_ret ?_) | refine retQ_ret ?_; simp [hlt, hm, hA, hB])) | refine st_seq ?_ | refine st_block ?_ | ((with_reducible show (STri _ _ _ _ _) ∧ (STri _ _ _ _ _)); refine And.intro ?_ ?_) | ((first | refine st_reg ?_ | refine buildP_own ?_ | refine appP_own ?_ | refine callP_b (sn) rfl ?_) <;> (simp -dsimp [hlt, hm, hA, hB]; (repeat (simp -dsimp (disch := (first | omega | assumption | (refine Bool.eq_false_iff.1 ?_; assumption))) only [wrap_in, if_pos, if_neg]; (try simp -dsimp [hlt, hm, hA, hB]))))) | ((first | refine guardP_of (fun hc => ?_) (fun hc => ?_) | refine st_cond rfl (fun hc => ?_) (fun hc => ?_)) <;> (try simp only [lqA, lqB, lqC, lqD, lqE, lqF, lqG, lqH, lqI, lqJ, lqK, lqL, lqM, lqN, lqO] at hc) <;> (try (exfalso; first | omega | exact bool_tf hc (by assumption) | exact bool_ft hc (by assumption) | exact absurd (by assumption) hc)) <;> (first | with_reducible show STri _ _ _ _ _ _ | (simp -dsimp [hlt, hm, hA, hB, hc]; (repeat (simp -dsimp (disch := (first | omega | assumption | (refine Bool.eq_false_iff.1 ?_; assumption))) only [wrap_in, if_pos, if_neg]; (try simp -dsimp [hlt, hm, hA, hB, hc]))))))))
      exact ⟨hlt, by simp, allV_succ hlt hall hv, by simp, by simp [take_map_succ _ hlt, hm, errOf]⟩
    · rw [Bool.not_eq_true] at hv
      rw [hv] at sn
      obtain ⟨e3, e4⟩ := allV_stop hlt hall hv
      have e1 : newBk w l nlo nhi = bare (w.take k) := by unfold newBk; rw [if_neg (by rw [hz]; decide), if_pos e4, e3]
      have e2 : newErr w l nlo nhi = 2 := by unfold newErr; rw [if_neg (by rw [hz]; decide), if_pos e4]
      rw [e1, e2]
      unfold bare
      (repeat' (first | ((first | with_reducible refine st_skip ?_ | with_reducible refine st_exit ?_); (try simp only [seqQ, blockQ, loopQ, forQ, whileQ, reduceIte, Nat.reduceEqDiff])) | (with_reducible refine st_ret ?_; ((try simp only [seqQ, blockQ, loopQ, forQ, whileQ]); first | (with_reducible refine retM_ret ?_) | refine retQ_ret ?_; simp [hlt, hm])) | refine st_seq ?_ | refine st_block ?_ | ((with_reducible show (STri _ _ _ _ _) ∧ (STri _ _ _ _ _)); refine And.intro ?_ ?_) | ((first | refine st_reg ?_ | refine buildP_own ?_ | refine appP_own ?_ | refine callP_b (sn) rfl ?_) <;> (simp -dsimp [hlt, hm]; (repeat (simp -dsimp (disch := (first | omega | assumption | (refine Bool.eq_false_iff.1 ?_; assumption))) only [wrap_in, if_pos, if_neg]; (try simp -dsimp [hlt, hm]))))) | ((first | refine guardP_of (fun hc => ?_) (fun hc => ?_) | refine st_cond rfl (fun hc => ?_) (fun hc => ?_)) <;> (try simp only [lqA, lqB, lqC, lqD, lqE, lqF, lqG, lqH, lqI, lqJ, lqK, lqL, lqM, lqN, lqO] at hc) <;> (try (exfalso; first | omega | exact bool_tf hc (by assumption) | exact bool_ft hc (by assumption) | exact absurd (by assumption) hc)) <;> (first | with_reducible show STri _ _ _ _ _ _ | (simp -dsimp [hlt, hm, hc]; (repeat (simp -dsimp (disch := (first | omega | assumption | (refine Bool.eq_false_iff.1 ?_; assumption))) only [wrap_in, if_pos, if_neg]; (try simp -dsimp [hlt, hm, hc]))))))))
      exact .refl _
  have hkw : k = w.length := by omega
  subst hkw
  have hav := allV_all hall
  have hz1 : ¬ ¬ sizeW w = true := by rw [hz]; decide
  have hz2 : ¬ ¬ w.all validV = true := by rw [hav]; decide
  have hbk : newBk w l nlo nhi = if newErr w l nlo nhi = 0 then ⟨w, w.map errOf, l, nlo, nhi⟩ else bare w := by unfold newBk; rw [if_neg hz1, if_neg hz2]
  have her : newErr w l nlo nhi = if 60 < l.length then 5 else if ¬ notesErr w l = 0 then notesErr w l else if spanW nlo nhi 7200 = true then 0 else 3 := by unfold newErr; rw [if_neg hz1, if_neg hz2]
  rw [List.take_length]
  by_cases h60 : 60 < l.length
  · rw [if_pos h60] at her
    rw [hbk, her, if_neg (by decide)]
    unfold bare
    (repeat' (first | ((first | with_reducible refine st_skip ?_ | with_reducible refine st_exit ?_); (try simp only [seqQ, blockQ, loopQ, forQ, whileQ, reduceIte, Nat.reduceEqDiff])) | (with_reducible refine st_ret ?_; ((try simp only [seqQ, blockQ, loopQ, forQ, whileQ]); first | (with_reducible refine retM_ret ?_) | refine retQ_ret ?_; simp [hlt, h60])) | refine st_seq ?_ | refine st_block ?_ | ((with_reducible show (STri _ _ _ _ _) ∧ (STri _ _ _ _ _)); refine And.intro ?_ ?_) | ((first | refine st_reg ?_ | refine buildP_own ?_ | refine appP_own ?_) <;> (simp -dsimp [hlt, h60]; (repeat (simp -dsimp (disch := (first | omega | assumption | (refine Bool.eq_false_iff.1 ?_; assumption))) only [wrap_in, if_pos, if_neg]; (try simp -dsimp [hlt, h60]))))) | ((first | refine guardP_of (fun hc => ?_) (fun hc => ?_) | refine st_cond rfl (fun hc => ?_) (fun hc => ?_)) <;> (try simp only [lqA, lqB, lqC, lqD, lqE, lqF, lqG, lqH, lqI, lqJ, lqK, lqL, lqM, lqN, lqO] at hc) <;> (try (exfalso; first | omega | exact bool_tf hc (by assumption) | exact bool_ft hc (by assumption) | exact absurd (by assumption) hc)) <;> (first | with_reducible show STri _ _ _ _ _ _ | (simp -dsimp [hlt, h60, hc]; (repeat (simp -dsimp (disch := (first | omega | assumption | (refine Bool.eq_false_iff.1 ?_; assumption))) only [wrap_in, if_pos, if_neg]; (try simp -dsimp [hlt, h60, hc]))))))))
    exact .refl _
  rw [if_neg h60] at her
  (repeat' (first | ((first | with_reducible refine st_skip ?_ | with_reducible refine st_exit ?_); (try simp only [seqQ, blockQ, loopQ, forQ, whileQ, reduceIte, Nat.reduceEqDiff])) | (with_reducible refine st_ret ?_; ((try simp only [seqQ, blockQ, loopQ, forQ, whileQ]); first | (with_reducible refine retM_ret ?_) | refine retQ_ret ?_; simp [hlt, h60])) | refine st_seq ?_ | refine st_block ?_ | ((with_reducible show (STri _ _ _ _ _) ∧ (STri _ _ _ _ _)); refine And.intro ?_ ?_) | ((first | refine st_reg ?_ | refine buildP_own ?_ | refine appP_own ?_) <;> (simp -dsimp [hlt, h60]; (repeat (simp -dsimp (disch := (first | omega | assumption | (refine Bool.eq_false_iff.1 ?_; assumption))) only [wrap_in, if_pos, if_neg]; (try simp -dsimp [hlt, h60]))))) | ((first | refine guardP_of (fun hc => ?_) (fun hc => ?_) | refine st_cond rfl (fun hc => ?_) (fun hc => ?_)) <;> (try simp only [lqA, lqB, lqC, lqD, lqE, lqF, lqG, lqH, lqI, lqJ, lqK, lqL, lqM, lqN, lqO] at hc) <;> (try (exfalso; first | omega | exact bool_tf hc (by assumption) | exact bool_ft hc (by assumption) | exact absurd (by assumption) hc)) <;> (first | with_reducible show STri _ _ _ _ _ _ | (simp -dsimp [hlt, h60, hc]; (repeat (simp -dsimp (disch := (first | omega | assumption | (refine Bool.eq_false_iff.1 ?_; assumption))) only [wrap_in, if_pos, if_neg]; (try simp -dsimp [hlt, h60, hc]))))))))
  refine st_for [5, 6, 200, 201, 202] l.length (fun j T H => NotesTo w l j ∧ T = [(0, .c (slSr w)), (1, .c (slN l)), (5, .ptr 5 0), (6, .ptr 6 0), (52, .c (slN l)), (53, .c (I l.length)), (54, .c (I j))] ∧
    H = [(5, .box 29 [.c (I nlo), .c (I nhi)]), (6, .box 60 [.own 200 w.length, .own 201 w.length, .own 202 0, .c (I 0), .c (I 0)]), (200, .arr 75 1 (w.map rowS)), (201, .arr 29 2 ((w.map errOf).map rowE)), (202, .arr 67 3 [])]) (by simp) ⟨fun s hs => by simp at hs, by simp, by simp⟩ ?_
  rintro j T H hj ⟨hno, rfl, rfl⟩
  by_cases hlt2 : j < l.length
  · have s1 := sWithinW 0 (w.length - 1) [l[j].src] (by simp)
    have s2 := sWithinW 0 3155760000 [l[j].tick] (by simp)
    rw [allIn_one] at s1 s2
    by_cases b1 : within1 0 (w.length - 1) l[j].src = true
    · rw [b1] at s1
      have hr : 0 ≤ l[j].src ∧ l[j].src.toNat < w.length := by
        unfold within1 at b1; simp at b1; omega
      obtain ⟨r1, r2⟩ := hr
      have hsv := List.all_eq_true.1 hav _ (List.getElem_mem r2)
      have hbase : kindOK (w[l[j].src.toNat]).kind = true := by
        unfold validV baseV at hsv; simp at hsv; exact hsv.1.1
      have hm := mSaid _ hbase l[j].said
      have hget : (w.map fun s => saidB s l[j].said).getD l[j].src.toNat false = saidB (w[l[j].src.toNat]) l[j].said := by simp [r2]
      have hne : noteErr w l[j] = if within1 0 3155760000 l[j].tick = true ∧ saidB (w[l[j].src.toNat]) l[j].said = true then 0 else 2 := by unfold noteErr; rw [if_pos b1, hget]
      by_cases b2 : within1 0 3155760000 l[j].tick = true
      · rw [b2] at s2 hne
        by_cases b3 : saidB (w[l[j].src.toNat]) l[j].said = true
        · rw [b3] at hm hne
          rw [if_pos ⟨rfl, rfl⟩] at hne
          (repeat' (first | ((first | with_reducible refine st_skip ?_ | with_reducible refine st_exit ?_); (try simp only [seqQ, blockQ, loopQ, forQ, whileQ, reduceIte, Nat.reduceEqDiff])) | (with_reducible refine st_ret ?_; ((try simp only [seqQ, blockQ, loopQ, forQ, whileQ]); first | (with_reducible refine retM_ret ?_) | refine retQ_ret ?_; simp [hlt2, r1, r2])) | refine st_seq ?_ | refine st_block ?_ | ((with_reducible show (STri _ _ _ _ _) ∧ (STri _ _ _ _ _)); refine And.intro ?_ ?_) | ((first | refine st_reg ?_ | refine buildP_own ?_ | refine appP_own ?_ | ((with_reducible show callIP _ _ _ _ _ _ _); refine callI_m (hm) rfl ?_) | refine callP_b (s1) rfl ?_ | refine callP_b (s2) rfl ?_) <;> (simp -dsimp [hlt2, r1, r2]; (repeat (simp -dsimp (disch := (first | omega | assumption | (refine Bool.eq_false_iff.1 ?_; assumption))) only [wrap_in, if_pos, if_neg]; (try simp -dsimp [hlt2, r1, r2]))))) | ((first | refine guardP_of (fun hc => ?_) (fun hc => ?_) | refine st_cond rfl (fun hc => ?_) (fun hc => ?_)) <;> (try simp only [lqA, lqB, lqC, lqD, lqE, lqF, lqG, lqH, lqI, lqJ, lqK, lqL, lqM, lqN, lqO] at hc) <;> (try (exfalso; first | omega | exact bool_tf hc (by assumption) | exact bool_ft hc (by assumption) | exact absurd (by assumption) hc)) <;> (first | with_reducible show STri _ _ _ _ _ _ | (simp -dsimp [hlt2, r1, r2, hc]; (repeat (simp -dsimp (disch := (first | omega | assumption | (refine Bool.eq_false_iff.1 ?_; assumption))) only [wrap_in, if_pos, if_neg]; (try simp -dsimp [hlt2, r1, r2, hc]))))))))
          exact ⟨hlt2, by simp, notes_succ hlt2 hno hne, by simp, by simp⟩
        · rw [Bool.not_eq_true] at b3
          rw [b3] at hm hne
          rw [if_neg (by simp)] at hne
          have h2 := notes_stop hlt2 hno (by omega)
          rw [hne] at h2
          rw [h2] at her
          rw [hbk, her]
          unfold bare
          (repeat' (first | ((first | with_reducible refine st_skip ?_ | with_reducible refine st_exit ?_); (try simp only [seqQ, blockQ, loopQ, forQ, whileQ, reduceIte, Nat.reduceEqDiff])) | (with_reducible refine st_ret ?_; ((try simp only [seqQ, blockQ, loopQ, forQ, whileQ]); first | (with_reducible refine retM_ret ?_) | refine retQ_ret ?_; simp [hlt2, r1, r2])) | refine st_seq ?_ | refine st_block ?_ | ((with_reducible show (STri _ _ _ _ _) ∧ (STri _ _ _ _ _)); refine And.intro ?_ ?_) | ((first | refine st_reg ?_ | refine buildP_own ?_ | refine appP_own ?_ | ((with_reducible show callIP _ _ _ _ _ _ _); refine callI_m (hm) rfl ?_) | refine callP_b (s1) rfl ?_ | refine callP_b (s2) rfl ?_) <;> (simp -dsimp [hlt2, r1, r2]; (repeat (simp -dsimp (disch := (first | omega | assumption | (refine Bool.eq_false_iff.1 ?_; assumption))) only [wrap_in, if_pos, if_neg]; (try simp -dsimp [hlt2, r1, r2]))))) | ((first | refine guardP_of (fun hc => ?_) (fun hc => ?_) | refine st_cond rfl (fun hc => ?_) (fun hc => ?_)) <;> (try simp only [lqA, lqB, lqC, lqD, lqE, lqF, lqG, lqH, lqI, lqJ, lqK, lqL, lqM, lqN, lqO] at hc) <;> (try (exfalso; first | omega | exact bool_tf hc (by assumption) | exact bool_ft hc (by assumption) | exact absurd (by assumption) hc)) <;> (first | with_reducible show STri _ _ _ _ _ _ | (simp -dsimp [hlt2, r1, r2, hc]; (repeat (simp -dsimp (disch := (first | omega | assumption | (refine Bool.eq_false_iff.1 ?_; assumption))) only [wrap_in, if_pos, if_neg]; (try simp -dsimp [hlt2, r1, r2, hc]))))))))
          exact .refl _
      · rw [Bool.not_eq_true] at b2
        rw [b2] at s2 hne
        rw [if_neg (by simp)] at hne
        have h2 := notes_stop hlt2 hno (by omega)
        rw [hne] at h2
        rw [h2] at her
        rw [hbk, her]
        unfold bare
        (repeat' (first | ((first | with_reducible refine st_skip ?_ | with_reducible refine st_exit ?_); (try simp only [seqQ, blockQ, loopQ, forQ, whileQ, reduceIte, Nat.reduceEqDiff])) | (with_reducible refine st_ret ?_; ((try simp only [seqQ, blockQ, loopQ, forQ, whileQ]); first | (with_reducible refine retM_ret ?_) | refine retQ_ret ?_; simp [hlt2])) | refine st_seq ?_ | refine st_block ?_ | ((with_reducible show (STri _ _ _ _ _) ∧ (STri _ _ _ _ _)); refine And.intro ?_ ?_) | ((first | refine st_reg ?_ | refine buildP_own ?_ | refine appP_own ?_ | refine callP_b (s1) rfl ?_ | refine callP_b (s2) rfl ?_) <;> (simp -dsimp [hlt2]; (repeat (simp -dsimp (disch := (first | omega | assumption | (refine Bool.eq_false_iff.1 ?_; assumption))) only [wrap_in, if_pos, if_neg]; (try simp -dsimp [hlt2]))))) | ((first | refine guardP_of (fun hc => ?_) (fun hc => ?_) | refine st_cond rfl (fun hc => ?_) (fun hc => ?_)) <;> (try simp only [lqA, lqB, lqC, lqD, lqE, lqF, lqG, lqH, lqI, lqJ, lqK, lqL, lqM, lqN, lqO] at hc) <;> (try (exfalso; first | omega | exact bool_tf hc (by assumption) | exact bool_ft hc (by assumption) | exact absurd (by assumption) hc)) <;> (first | with_reducible show STri _ _ _ _ _ _ | (simp -dsimp [hlt2, hc]; (repeat (simp -dsimp (disch := (first | omega | assumption | (refine Bool.eq_false_iff.1 ?_; assumption))) only [wrap_in, if_pos, if_neg]; (try simp -dsimp [hlt2, hc]))))))))
        exact .refl _
    · have hne : noteErr w l[j] = 7 := by unfold noteErr; rw [if_neg b1]
      rw [Bool.not_eq_true] at b1
      rw [b1] at s1
      have h2 := notes_stop hlt2 hno (by omega)
      rw [hne] at h2
      rw [h2] at her
      rw [hbk, her]
      unfold bare
      (repeat' (first | ((first | with_reducible refine st_skip ?_ | with_reducible refine st_exit ?_); (try simp only [seqQ, blockQ, loopQ, forQ, whileQ, reduceIte, Nat.reduceEqDiff])) | (with_reducible refine st_ret ?_; ((try simp only [seqQ, blockQ, loopQ, forQ, whileQ]); first | (with_reducible refine retM_ret ?_) | refine retQ_ret ?_; simp [hlt2])) | refine st_seq ?_ | refine st_block ?_ | ((with_reducible show (STri _ _ _ _ _) ∧ (STri _ _ _ _ _)); refine And.intro ?_ ?_) | ((first | refine st_reg ?_ | refine buildP_own ?_ | refine appP_own ?_ | refine callP_b (s1) rfl ?_) <;> (simp -dsimp [hlt2]; (repeat (simp -dsimp (disch := (first | omega | assumption | (refine Bool.eq_false_iff.1 ?_; assumption))) only [wrap_in, if_pos, if_neg]; (try simp -dsimp [hlt2]))))) | ((first | refine guardP_of (fun hc => ?_) (fun hc => ?_) | refine st_cond rfl (fun hc => ?_) (fun hc => ?_)) <;> (try simp only [lqA, lqB, lqC, lqD, lqE, lqF, lqG, lqH, lqI, lqJ, lqK, lqL, lqM, lqN, lqO] at hc) <;> (try (exfalso; first | omega | exact bool_tf hc (by assumption) | exact bool_ft hc (by assumption) | exact absurd (by assumption) hc)) <;> (first | with_reducible show STri _ _ _ _ _ _ | (simp -dsimp [hlt2, hc]; (repeat (simp -dsimp (disch := (first | omega | assumption | (refine Bool.eq_false_iff.1 ?_; assumption))) only [wrap_in, if_pos, if_neg]; (try simp -dsimp [hlt2, hc]))))))))
      exact .refl _
  · have hjl : j = l.length := by omega
    subst hjl
    have h2 := notes_all hno
    have s3 := sIsSpanW nlo nhi 7200 (by omega) (by omega)
    rw [h2] at her
    rw [if_neg (by decide)] at her
    rw [hbk, her]
    by_cases b4 : spanW nlo nhi 7200 = true
    · rw [b4] at s3
      (repeat' (first | ((first | with_reducible refine st_skip ?_ | with_reducible refine st_exit ?_); (try simp only [seqQ, blockQ, loopQ, forQ, whileQ, reduceIte, Nat.reduceEqDiff])) | (with_reducible refine st_ret ?_; ((try simp only [seqQ, blockQ, loopQ, forQ, whileQ]); first | (with_reducible refine retM_ret ?_) | refine retQ_ret ?_; simp [hlt2, b4])) | refine st_seq ?_ | refine st_block ?_ | ((with_reducible show (STri _ _ _ _ _) ∧ (STri _ _ _ _ _)); refine And.intro ?_ ?_) | ((first | refine st_reg ?_ | refine buildP_own ?_ | refine appP_own ?_ | refine callP_b (s3) rfl ?_) <;> (simp -dsimp [hlt2, b4]; (repeat (simp -dsimp (disch := (first | omega | assumption | (refine Bool.eq_false_iff.1 ?_; assumption))) only [wrap_in, if_pos, if_neg]; (try simp -dsimp [hlt2, b4]))))) | ((first | refine guardP_of (fun hc => ?_) (fun hc => ?_) | refine st_cond rfl (fun hc => ?_) (fun hc => ?_)) <;> (try simp only [lqA, lqB, lqC, lqD, lqE, lqF, lqG, lqH, lqI, lqJ, lqK, lqL, lqM, lqN, lqO] at hc) <;> (try (exfalso; first | omega | exact bool_tf hc (by assumption) | exact bool_ft hc (by assumption) | exact absurd (by assumption) hc)) <;> (first | with_reducible show STri _ _ _ _ _ _ | (simp -dsimp [hlt2, b4, hc]; (repeat (simp -dsimp (disch := (first | omega | assumption | (refine Bool.eq_false_iff.1 ?_; assumption))) only [wrap_in, if_pos, if_neg]; (try simp -dsimp [hlt2, b4, hc]))))))))
      exact .refl _
    · rw [Bool.not_eq_true] at b4
      rw [b4] at s3
      unfold bare
      (repeat' (first | ((first | with_reducible refine st_skip ?_ | with_reducible refine st_exit ?_); (try simp only [seqQ, blockQ, loopQ, forQ, whileQ, reduceIte, Nat.reduceEqDiff])) | (with_reducible refine st_ret ?_; ((try simp only [seqQ, blockQ, loopQ, forQ, whileQ]); first | (with_reducible refine retM_ret ?_) | refine retQ_ret ?_; simp [hlt2, b4])) | refine st_seq ?_ | refine st_block ?_ | ((with_reducible show (STri _ _ _ _ _) ∧ (STri _ _ _ _ _)); refine And.intro ?_ ?_) | ((first | refine st_reg ?_ | refine buildP_own ?_ | refine appP_own ?_ | refine callP_b (s3) rfl ?_) <;> (simp -dsimp [hlt2, b4]; (repeat (simp -dsimp (disch := (first | omega | assumption | (refine Bool.eq_false_iff.1 ?_; assumption))) only [wrap_in, if_pos, if_neg]; (try simp -dsimp [hlt2, b4]))))) | ((first | refine guardP_of (fun hc => ?_) (fun hc => ?_) | refine st_cond rfl (fun hc => ?_) (fun hc => ?_)) <;> (try simp only [lqA, lqB, lqC, lqD, lqE, lqF, lqG, lqH, lqI, lqJ, lqK, lqL, lqM, lqN, lqO] at hc) <;> (try (exfalso; first | omega | exact bool_tf hc (by assumption) | exact bool_ft hc (by assumption) | exact absurd (by assumption) hc)) <;> (first | with_reducible show STri _ _ _ _ _ _ | (simp -dsimp [hlt2, b4, hc]; (repeat (simp -dsimp (disch := (first | omega | assumption | (refine Bool.eq_false_iff.1 ?_; assumption))) only [wrap_in, if_pos, if_neg]; (try simp -dsimp [hlt2, b4, hc]))))))))
      exact .refl _
end Go.Proofs.Ytlodpljdhdhfmaa
/- The shadow code of functions, as the kit's translation has them. -/
namespace Go.Proofs.Ytlodpljdhdhfmaa
open Go.RowKit
def k40_0 : SCode := .reg [⟨some 3, none, .box 32 (.tmp 0), [], false⟩, ⟨some 6, none, .alloc 29 [(.int .i64 0), (.int .i64 0)], [], false⟩, ⟨some 7, none, .mov (.const (.int .i64 0)), [], false⟩] [1, 2, 3, 6]
def k40_1 : SCode := .reg [⟨some 10, none, .load true 2 (.tmp 3), [], false⟩, ⟨some 11, none, .call 13 [(.tmp 10)], [], false⟩, ⟨some 12, none, .bin .neq (.tmp 11) (.const (.int .i64 0)), [], false⟩, ⟨some 9, none, .mov (.tmp 12), [], false⟩] [1, 2, 3, 6, 9]
def k40_2 : SCode := .reg [⟨some 13, none, .load true 2 (.tmp 6), [], false⟩, ⟨none, none, .store 2 (.tmp 6) (.tmp 13), [], false⟩, ⟨some 7, none, .mov (.const (.int .i64 2)), [], false⟩] [6, 7]
def k40_3 : SCode := .seq k40_2 .ret
def k40_4 : SCode := .reg [⟨some 15, none, .fld 0 (.tmp 3), [], false⟩, ⟨some 16, none, .load false 1 (.tmp 15), [], false⟩, ⟨some 17, none, .mov (.tmp 1), [], false⟩, ⟨some 18, none, .buildSl 3 1 [(.int .i64 0)] 1 [(0, (.tmp 17))], [], false⟩, ⟨some 19, none, .call 14 [(.const (.int .i64 0)), (.tmp 16), (.tmp 18)], [], false⟩, ⟨some 20, none, .un .not (.tmp 19), [], false⟩, ⟨some 14, none, .mov (.tmp 20), [], false⟩] [1, 2, 3, 6, 14]
def k40_5 : SCode := .reg [⟨some 21, none, .mov (.tmp 2), [], false⟩, ⟨some 22, none, .buildSl 3 1 [(.int .i64 0)] 1 [(0, (.tmp 21))], [], false⟩, ⟨some 23, none, .call 14 [(.const (.int .i64 0)), (.const (.int .i64 2000)), (.tmp 22)], [], false⟩, ⟨some 24, none, .un .not (.tmp 23), [], false⟩, ⟨some 14, none, .mov (.tmp 24), [], false⟩] [1, 2, 3, 6, 14]
def k40_6 : SCode := .cond (.tmp 14) .skip k40_5
def k40_7 : SCode := .seq k40_4 k40_6
def k40_8 : SCode := .reg [⟨some 25, none, .load true 2 (.tmp 6), [], false⟩, ⟨none, none, .store 2 (.tmp 6) (.tmp 25), [], false⟩, ⟨some 7, none, .mov (.const (.int .i64 3)), [], false⟩] [6, 7]
def k40_9 : SCode := .seq k40_8 .ret
def k40_10 : SCode := .cond (.tmp 14) k40_9 .skip
def k40_11 : SCode := .seq k40_7 k40_10
def k40_12 : SCode := .cond (.tmp 9) k40_3 k40_11
def k40_13 : SCode := .seq k40_1 k40_12
def k40_14 : SCode := .block 0 k40_13
def k40_15 : SCode := .reg [⟨some 26, none, .load true 2 (.tmp 3), [], false⟩, ⟨some 27, none, .build [(.int .i64 0), (.slice none 0 0), (.slice none 0 0)] [(0, 2, (.tmp 26))], [], false⟩, ⟨some 8, none, .alloc 51 [(.int .i64 0), (.slice none 0 0), (.slice none 0 0)], [], false⟩, ⟨none, none, .store 3 (.tmp 8) (.tmp 27), [], false⟩] [1, 2, 6, 8]
def k40_16 : SCode := .reg [⟨some 28, none, .load true 3 (.tmp 8), [], false⟩, ⟨some 29, none, .mov (.tmp 1), [], false⟩, ⟨some 30, none, .mov (.tmp 2), [], false⟩, ⟨some 31, none, .call 15 [(.tmp 28), (.tmp 29), (.tmp 30), (.func 16)], [], false⟩, ⟨some 32, none, .load true 3 (.tmp 8), [], false⟩, ⟨some 33, none, .mov (.tmp 1), [], false⟩, ⟨some 34, none, .mov (.tmp 2), [], false⟩, ⟨some 35, none, .call 15 [(.tmp 32), (.tmp 33), (.tmp 34), (.func 17)], [], false⟩, ⟨some 36, none, .build [(.int .i64 0), (.int .i64 0)] [(0, 1, (.tmp 31)), (1, 1, (.tmp 35))], [], false⟩, ⟨none, none, .store 2 (.tmp 6) (.tmp 36), [], false⟩, ⟨some 7, none, .mov (.const (.int .i64 0)), [], false⟩] [6, 7]
def k40_17 : SCode := .seq k40_16 .ret
def k40_18 : SCode := .seq k40_15 k40_17
def k40_19 : SCode := .seq k40_14 k40_18
def k40_20 : SCode := .seq k40_0 k40_19
@[simp] def rs_drop_Goes : List SRes := [.cell 6 true 2, .tmp 7]
theorem law_drop_Goes (cs : List CV) (r : CV) (hl : cs.length ≤ 37) (h : STri (cfF Try.prog [] 37) k40_20 (initT 0 cs) [] (retQ rs_drop_Goes r)) : SC Try.prog 6 cs r :=
  sc_of [] follows Try.func6 rfl Try.ntmps6 (by decide) (by kernel_rfl) (by kernel_rfl) hl h
def k41_0 : SCode := .reg [⟨some 1, none, .box 32 (.tmp 0), [], false⟩, ⟨some 2, none, .mov (.const (.int .i64 0)), [], false⟩] [1]
def k41_1 : SCode := .reg [⟨some 3, none, .fld 0 (.tmp 1), [], false⟩, ⟨some 4, none, .load false 1 (.tmp 3), [], false⟩, ⟨some 5, none, .buildSl 3 1 [(.int .i64 0)] 1 [(0, (.tmp 4))], [], false⟩, ⟨some 6, none, .call 14 [(.const (.int .i64 1)), (.const (.int .i64 3000)), (.tmp 5)], [], false⟩, ⟨some 7, none, .un .not (.tmp 6), [], false⟩, ⟨some 8, none, .mov (.tmp 7), [], false⟩, ⟨some 9, (some (8, false)), .fld 1 (.tmp 1), [], false⟩, ⟨some 10, (some (8, false)), .load false 1 (.tmp 9), [], false⟩, ⟨some 11, (some (8, false)), .call 23 [(.tmp 10)], [], false⟩, ⟨some 12, (some (8, false)), .un .not (.tmp 11), [], false⟩, ⟨some 13, none, .pick (.tmp 8) (.const (.bool true)) (.tmp 12), [], false⟩] [13]
def k41_2 : SCode := .reg [⟨some 2, none, .mov (.const (.int .i64 2)), [], false⟩] [2]
def k41_3 : SCode := .seq k41_2 .ret
def k41_4 : SCode := .cond (.tmp 13) k41_3 .skip
def k41_5 : SCode := .seq k41_1 k41_4
def k41_6 : SCode := .reg [⟨some 2, none, .mov (.const (.int .i64 0)), [], false⟩] [2]
def k41_7 : SCode := .seq k41_6 .ret
def k41_8 : SCode := .seq k41_5 k41_7
def k41_9 : SCode := .seq k41_0 k41_8
@[simp] def rs_drop_Check : List SRes := [.tmp 2]
theorem law_drop_Check (cs : List CV) (r : CV) (hl : cs.length ≤ 14) (h : STri (cfF Try.prog [] 14) k41_9 (initT 0 cs) [] (retQ rs_drop_Check r)) : SC Try.prog 13 cs r :=
  sc_of [] follows Try.func13 rfl Try.ntmps13 (by decide) (by kernel_rfl) (by kernel_rfl) hl h
def k42_0 : SCode := .reg [⟨some 3, none, .boxZ 3 (.tmp 0), [], false⟩, ⟨some 4, none, .boxZ 3 (.tmp 1), [], false⟩, ⟨some 6, none, .mov (.const (.bool false)), [], false⟩] [2, 3, 4]
def k42_1 : SCode := .reg [⟨some 7, none, .mov (.tmp 2), [], false⟩, ⟨some 8, none, .mkFn 25 [] [(.tmp 3), (.tmp 4)], [], false⟩, ⟨some 9, none, .call 24 [(.tmp 7), (.tmp 8)], [], false⟩, ⟨some 10, none, .un .not (.tmp 9), [], false⟩, ⟨some 6, none, .mov (.tmp 10), [], false⟩] [6]
def k42_2 : SCode := .seq k42_1 .ret
def k42_3 : SCode := .seq k42_0 k42_2
@[simp] def rs_drop_within : List SRes := [.tmp 6]
theorem law_drop_within (cs : List CV) (r : CV) (hl : cs.length ≤ 11) (h : STri (cfF Try.prog [] 11) k42_3 (initT 0 cs) [] (retQ rs_drop_within r)) : SC Try.prog 14 cs r :=
  sc_of [] follows Try.func14 rfl Try.ntmps14 (by decide) (by kernel_rfl) (by kernel_rfl) hl h
def k43_0 : SCode := .reg [⟨some 1, none, .box 29 (.tmp 0), [], false⟩, ⟨some 2, none, .mov (.const (.int .i64 0)), [], false⟩] [1]
def k43_1 : SCode := .reg [⟨some 3, none, .fld 1 (.tmp 1), [], false⟩, ⟨some 4, none, .load false 1 (.tmp 3), [], false⟩, ⟨some 2, none, .mov (.tmp 4), [], false⟩] [2]
def k43_2 : SCode := .seq k43_1 .ret
def k43_3 : SCode := .seq k43_0 k43_2
@[simp] def rs_drop_high : List SRes := [.tmp 2]
theorem law_drop_high (cs : List CV) (r : CV) (hl : cs.length ≤ 5) (h : STri (cfF Try.prog [] 5) k43_3 (initT 0 cs) [] (retQ rs_drop_high r)) : SC Try.prog 16 cs r :=
  sc_of [] follows Try.func16 rfl Try.ntmps16 (by decide) (by kernel_rfl) (by kernel_rfl) hl h
def k44_0 : SCode := .reg [⟨some 1, none, .box 29 (.tmp 0), [], false⟩, ⟨some 2, none, .mov (.const (.int .i64 0)), [], false⟩] [1]
def k44_1 : SCode := .reg [⟨some 3, none, .fld 0 (.tmp 1), [], false⟩, ⟨some 4, none, .load false 1 (.tmp 3), [], false⟩, ⟨some 2, none, .mov (.tmp 4), [], false⟩] [2]
def k44_2 : SCode := .seq k44_1 .ret
def k44_3 : SCode := .seq k44_0 k44_2
@[simp] def rs_drop_low : List SRes := [.tmp 2]
theorem law_drop_low (cs : List CV) (r : CV) (hl : cs.length ≤ 5) (h : STri (cfF Try.prog [] 5) k44_3 (initT 0 cs) [] (retQ rs_drop_low r)) : SC Try.prog 17 cs r :=
  sc_of [] follows Try.func17 rfl Try.ntmps17 (by decide) (by kernel_rfl) (by kernel_rfl) hl h
def k45_0 : SCode := .reg [⟨some 2, none, .mov (.const (.bool false)), [], false⟩] [0]
def k45_1 : SCode := .reg [⟨some 3, none, .mov (.tmp 0), [], false⟩, ⟨some 4, none, .len (.tmp 3), [], false⟩, ⟨some 5, none, .bin .eql (.tmp 4) (.const (.int .i64 24)), [], false⟩, ⟨some 6, none, .mov (.tmp 5), [], false⟩, ⟨some 7, (some (6, true)), .mov (.tmp 0), [], false⟩, ⟨some 8, (some (6, true)), .call 37 [(.tmp 7), (.func 38)], [], false⟩, ⟨some 9, (some (6, true)), .un .not (.tmp 8), [], false⟩, ⟨some 10, none, .pick (.tmp 6) (.tmp 9) (.const (.bool false)), [], false⟩, ⟨some 2, none, .mov (.tmp 10), [], false⟩] [2]
def k45_2 : SCode := .seq k45_1 .ret
def k45_3 : SCode := .seq k45_0 k45_2
@[simp] def rs_drop_areHours : List SRes := [.tmp 2]
theorem law_drop_areHours (cs : List CV) (r : CV) (hl : cs.length ≤ 11) (h : STri (cfF Try.prog [] 11) k45_3 (initT 0 cs) [] (retQ rs_drop_areHours r)) : SC Try.prog 23 cs r :=
  sc_of [] follows Try.func23 rfl Try.ntmps23 (by decide) (by kernel_rfl) (by kernel_rfl) hl h
def k46_0 : SCode := .reg [⟨some 2, none, .box 29 (.tmp 0), [], false⟩, ⟨some 4, none, .mov (.const (.bool false)), [], false⟩] [1, 2]
def k46_1 : SCode := .reg [⟨some 5, none, .mov (.tmp 1), [], false⟩, ⟨some 6, none, .fld 0 (.tmp 2), [], false⟩, ⟨some 7, none, .load false 1 (.tmp 6), [], false⟩, ⟨some 8, none, .fld 1 (.tmp 2), [], false⟩, ⟨some 9, none, .load false 1 (.tmp 8), [], false⟩, ⟨some 10, none, .buildSl 3 1 [(.int .i64 0)] 2 [(0, (.tmp 7)), (1, (.tmp 9))], [], false⟩, ⟨some 11, none, .call 14 [(.const (.int .i64 0)), (.tmp 5), (.tmp 10)], [], false⟩, ⟨some 12, none, .mov (.tmp 11), [], false⟩, ⟨some 13, (some (12, true)), .fld 0 (.tmp 2), [], false⟩, ⟨some 14, (some (12, true)), .load false 1 (.tmp 13), [], false⟩, ⟨some 15, (some (12, true)), .fld 1 (.tmp 2), [], false⟩, ⟨some 16, (some (12, true)), .load false 1 (.tmp 15), [], false⟩, ⟨some 17, (some (12, true)), .bin .leq (.tmp 14) (.tmp 16), [], false⟩, ⟨some 18, none, .pick (.tmp 12) (.tmp 17) (.const (.bool false)), [], false⟩, ⟨some 4, none, .mov (.tmp 18), [], false⟩] [4]
def k46_2 : SCode := .seq k46_1 .ret
def k46_3 : SCode := .seq k46_0 k46_2
@[simp] def rs_drop_isSpan : List SRes := [.tmp 4]
theorem law_drop_isSpan (cs : List CV) (r : CV) (hl : cs.length ≤ 19) (h : STri (cfF Try.prog [] 19) k46_3 (initT 0 cs) [] (retQ rs_drop_isSpan r)) : SC Try.prog 39 cs r :=
  sc_of [] follows Try.func39 rfl Try.ntmps39 (by decide) (by kernel_rfl) (by kernel_rfl) hl h
def k47_0 : SCode := .reg [⟨some 4, none, .mov (.const (.bool false)), [], false⟩] [0, 1, 2]
def k47_1 : SCode := .reg [⟨some 5, none, .mov (.tmp 0), [], false⟩, ⟨some 6, none, .load false 1 (.tmp 1), [], false⟩, ⟨some 7, none, .bin .lss (.tmp 5) (.tmp 6), [], false⟩, ⟨some 8, none, .mov (.tmp 7), [], false⟩, ⟨some 9, (some (8, false)), .mov (.tmp 0), [], false⟩, ⟨some 10, (some (8, false)), .load false 1 (.tmp 2), [], false⟩, ⟨some 11, (some (8, false)), .bin .gtr (.tmp 9) (.tmp 10), [], false⟩, ⟨some 12, none, .pick (.tmp 8) (.const (.bool true)) (.tmp 11), [], false⟩, ⟨some 4, none, .mov (.tmp 12), [], false⟩] [4]
def k47_2 : SCode := .seq k47_1 .ret
def k47_3 : SCode := .seq k47_0 k47_2
@[simp] def rs_drop_within_1 : List SRes := [.tmp 4]
theorem law_drop_within_1 (cs : List CV) (r : CV) (hl : cs.length ≤ 13) (h : STri (cfF Try.prog [] 13) k47_3 (initT 0 cs) [] (retQ rs_drop_within_1 r)) : SC Try.prog 25 cs r :=
  sc_of [] follows Try.func25 rfl Try.ntmps25 (by decide) (by kernel_rfl) (by kernel_rfl) hl h
def k48_0 : SCode := .reg [⟨some 1, none, .box 29 (.tmp 0), [], false⟩, ⟨some 2, none, .mov (.const (.bool false)), [], false⟩] [1]
def k48_1 : SCode := .reg [⟨some 3, none, .load true 2 (.tmp 1), [], false⟩, ⟨some 4, none, .call 39 [(.tmp 3), (.const (.int .i64 3000))], [], false⟩, ⟨some 5, none, .un .not (.tmp 4), [], false⟩, ⟨some 2, none, .mov (.tmp 5), [], false⟩] [2]
def k48_2 : SCode := .seq k48_1 .ret
def k48_3 : SCode := .seq k48_0 k48_2
@[simp] def rs_drop_areHours_1 : List SRes := [.tmp 2]
theorem law_drop_areHours_1 (cs : List CV) (r : CV) (hl : cs.length ≤ 6) (h : STri (cfF Try.prog [] 6) k48_3 (initT 0 cs) [] (retQ rs_drop_areHours_1 r)) : SC Try.prog 38 cs r :=
  sc_of [] follows Try.func38 rfl Try.ntmps38 (by decide) (by kernel_rfl) (by kernel_rfl) hl h
def k49_0 : SCode := .reg [⟨some 4, none, .box 51 (.tmp 0), [], false⟩, ⟨some 8, none, .mov (.const (.int .i64 0)), [], false⟩] [1, 2, 3, 4]
def k49_1 : SCode := .reg [⟨some 10, none, .mov (.tmp 2), [], false⟩, ⟨some 9, none, .mov (.tmp 10), [], false⟩] [1, 3, 4, 9]
def k49_2 : SCode := .reg [⟨some 11, none, .mov (.tmp 9), [], false⟩, ⟨some 12, none, .bin .lss (.tmp 11) (.const (.int .i64 2000)), [], false⟩, ⟨some 13, none, .mov (.tmp 12), [], false⟩, ⟨some 14, (some (13, true)), .mov (.tmp 1), [], false⟩, ⟨some 15, (some (13, true)), .mov (.tmp 3), [], false⟩, ⟨some 16, (some (13, true)), .load true 3 (.tmp 4), [], false⟩, ⟨some 17, (some (13, true)), .mov (.tmp 9), [], false⟩, ⟨some 18, (some (13, true)), .call 26 [(.tmp 16), (.tmp 17)], [], false⟩, ⟨some 19, (some (13, true)), .callV (.tmp 15) [(.tmp 18)], [], false⟩, ⟨some 20, (some (13, true)), .bin .geq (.tmp 14) (.tmp 19), [], false⟩, ⟨some 21, none, .pick (.tmp 13) (.tmp 20) (.const (.bool false)), [], false⟩] [1, 3, 4, 9, 21]
def k49_3 : SCode := .cond (.tmp 21) .skip (.exit 0)
def k49_4 : SCode := .seq k49_2 k49_3
def k49_5 : SCode := .reg [⟨some 22, none, .mov (.tmp 1), [], false⟩, ⟨some 23, none, .mov (.tmp 3), [], false⟩, ⟨some 24, none, .load true 3 (.tmp 4), [], false⟩, ⟨some 25, none, .mov (.tmp 9), [], false⟩, ⟨some 26, none, .call 26 [(.tmp 24), (.tmp 25)], [], false⟩, ⟨some 27, none, .callV (.tmp 23) [(.tmp 26)], [], false⟩, ⟨some 28, none, .bin .sub (.tmp 22) (.tmp 27), [], false⟩, ⟨some 1, none, .mov (.tmp 28), [], false⟩] [1, 3, 4, 9]
def k49_6 : SCode := .reg [⟨some 29, none, .mov (.tmp 9), [], false⟩, ⟨some 30, none, .bin .add (.tmp 29) (.const (.int .i64 1)), [], false⟩, ⟨some 9, none, .mov (.tmp 30), [], false⟩] [1, 3, 4, 9]
def k49_7 : SCode := .seq k49_5 k49_6
def k49_8 : SCode := .block 1 k49_7
def k49_9 : SCode := .seq k49_4 k49_8
def k49_10 : SCode := .loop k49_9
def k49_11 : SCode := .block 0 k49_10
def k49_12 : SCode := .reg [⟨some 31, none, .mov (.tmp 9), [], false⟩, ⟨some 8, none, .mov (.tmp 31), [], false⟩] [8]
def k49_13 : SCode := .seq k49_12 .ret
def k49_14 : SCode := .seq k49_11 k49_13
def k49_15 : SCode := .seq k49_1 k49_14
def k49_16 : SCode := .seq k49_0 k49_15
@[simp] def rs_drop_clock_goes : List SRes := [.tmp 8]
theorem law_drop_clock_goes (cs : List CV) (r : CV) (hl : cs.length ≤ 32) (h : STri (cfF Try.prog [] 32) k49_16 (initT 0 cs) [] (retQ rs_drop_clock_goes r)) : SC Try.prog 15 cs r :=
  sc_of [] follows Try.func15 rfl Try.ntmps15 (by decide) (by kernel_rfl) (by kernel_rfl) hl h
def k50_0 : SCode := .reg [⟨some 2, none, .box 51 (.tmp 0), [], false⟩, ⟨some 4, none, .alloc 29 [(.int .i64 0), (.int .i64 0)], [], false⟩] [1, 2, 4]
def k50_1 : SCode := .reg [⟨some 5, none, .fld 0 (.tmp 2), [], false⟩, ⟨some 6, none, .fld 1 (.tmp 5), [], false⟩, ⟨some 7, none, .load false 1 (.tmp 6), [], false⟩, ⟨some 8, none, .mov (.tmp 1), [], false⟩, ⟨some 9, none, .bin .rem (.tmp 8) (.const (.int .i64 24)), [], false⟩, ⟨some 10, none, .idxS 2 (.tmp 7) (.tmp 9), [], false⟩, ⟨some 11, none, .load true 2 (.tmp 10), [], false⟩, ⟨none, none, .store 2 (.tmp 4) (.tmp 11), [], false⟩] [4]
def k50_2 : SCode := .seq k50_1 .ret
def k50_3 : SCode := .seq k50_0 k50_2
@[simp] def rs_drop_clock_use : List SRes := [.cell 4 true 2]
theorem law_drop_clock_use (cs : List CV) (r : CV) (hl : cs.length ≤ 12) (h : STri (cfF Try.prog [] 12) k50_3 (initT 0 cs) [] (retQ rs_drop_clock_use r)) : SC Try.prog 26 cs r :=
  sc_of [] follows Try.func26 rfl Try.ntmps26 (by decide) (by kernel_rfl) (by kernel_rfl) hl h
def k51_0 : SCode := .reg [⟨some 4, none, .mov (.const (.bool false)), [], false⟩] [0, 1]
def k51_1 : SCode := .reg [⟨some 5, none, .mov (.tmp 0), [], false⟩, ⟨some 6, none, .mov (.tmp 1), [], false⟩, ⟨some 7, none, .call 49 [(.tmp 5), (.tmp 6)], [], false⟩, ⟨some 8, none, .bin .geq (.tmp 7) (.const (.int .i64 0)), [], false⟩, ⟨some 4, none, .mov (.tmp 8), [], false⟩] [4]
def k51_2 : SCode := .seq k51_1 .ret
def k51_3 : SCode := .seq k51_0 k51_2
@[simp] def rs_slices_ContainsFunc_api_Span_api_Span : List SRes := [.tmp 4]
theorem law_slices_ContainsFunc_api_Span_api_Span (cs : List CV) (r : CV) (hl : cs.length ≤ 9) (h : STri (cfF Try.prog [] 9) k51_3 (initT 0 cs) [] (retQ rs_slices_ContainsFunc_api_Span_api_Span r)) : SC Try.prog 37 cs r :=
  sc_of [] follows Try.func37 rfl Try.ntmps37 (by decide) (by kernel_rfl) (by kernel_rfl) hl h
def k52_0 : SCode := .reg [⟨some 4, none, .mov (.const (.int .i64 0)), [], false⟩] [0, 1]
def k52_1 : SCode := .reg [⟨some 6, none, .mov (.tmp 0), [], false⟩, ⟨some 7, none, .len (.tmp 6), [], false⟩, ⟨some 8, none, .mov (.const (.int .i64 0)), [], false⟩] [0, 1, 7, 8]
def k52_2 : SCode := .reg [⟨some 9, none, .bin .lss (.tmp 8) (.tmp 7), [], false⟩] [0, 1, 7, 8, 9]
def k52_3 : SCode := .cond (.tmp 9) .skip (.exit 0)
def k52_4 : SCode := .reg [⟨some 10, none, .mov (.tmp 8), [], false⟩, ⟨some 5, none, .mov (.tmp 10), [], false⟩] [0, 1, 5, 7, 8]
def k52_5 : SCode := .reg [⟨some 11, none, .mov (.tmp 1), [], false⟩, ⟨some 12, none, .mov (.tmp 0), [], false⟩, ⟨some 13, none, .mov (.tmp 5), [], false⟩, ⟨some 14, none, .idxS 2 (.tmp 12) (.tmp 13), [], false⟩, ⟨some 15, none, .load true 2 (.tmp 14), [], false⟩, ⟨some 16, none, .callV (.tmp 11) [(.tmp 15)], [], false⟩] [0, 1, 5, 7, 8, 16]
def k52_6 : SCode := .reg [⟨some 17, none, .mov (.tmp 5), [], false⟩, ⟨some 4, none, .mov (.tmp 17), [], false⟩] [4]
def k52_7 : SCode := .seq k52_6 .ret
def k52_8 : SCode := .cond (.tmp 16) k52_7 .skip
def k52_9 : SCode := .seq k52_5 k52_8
def k52_10 : SCode := .seq k52_4 k52_9
def k52_11 : SCode := .block 1 k52_10
def k52_12 : SCode := .reg [⟨some 18, none, .bin .add (.tmp 8) (.const (.int .i64 1)), [], false⟩, ⟨some 8, none, .mov (.tmp 18), [], false⟩] [0, 1, 7, 8]
def k52_13 : SCode := .seq k52_11 k52_12
def k52_14 : SCode := .seq k52_3 k52_13
def k52_15 : SCode := .seq k52_2 k52_14
def k52_16 : SCode := .loop k52_15
def k52_17 : SCode := .block 0 k52_16
def k52_18 : SCode := .seq k52_1 k52_17
def k52_19 : SCode := .reg [⟨some 4, none, .mov (.const (.int .i64 (-1))), [], false⟩] [4]
def k52_20 : SCode := .seq k52_19 .ret
def k52_21 : SCode := .seq k52_18 k52_20
def k52_22 : SCode := .seq k52_0 k52_21
@[simp] def rs_slices_IndexFunc_api_Span_api_Span : List SRes := [.tmp 4]
theorem law_slices_IndexFunc_api_Span_api_Span (cs : List CV) (r : CV) (hl : cs.length ≤ 19) (h : STri (cfF Try.prog [] 19) k52_22 (initT 0 cs) [] (retQ rs_slices_IndexFunc_api_Span_api_Span r)) : SC Try.prog 49 cs r :=
  sc_of [] follows Try.func49 rfl Try.ntmps49 (by decide) (by kernel_rfl) (by kernel_rfl) hl h
end Go.Proofs.Ytlodpljdhdhfmaa
/- Drop, I: small functions, and whether a clock is valid. -/
namespace Go.Proofs.Ytlodpljdhdhfmaa
open Go.RowKit
def ixG {α : Type} (p : α → Bool) (l : List α) : Int := match l.findIdx? p with
  | some i => i
  | none => -1
def NoneG {α : Type} (p : α → Bool) (l : List α) (k : Nat) : Prop := ∀ x ∈ l.take k, p x = false
theorem ixG_at {α : Type} {p : α → Bool} {l : List α} {k : Nat} (hlt : k < l.length) (h : NoneG p l k) (hc : p l[k] = true) : ixG p l = k := by
  have : l.findIdx? p = some k := by
    rw [List.findIdx?_eq_some_iff_getElem]
    refine ⟨hlt, hc, fun j hj => ?_⟩
    have := h l[j] (List.mem_take_iff_getElem.2 ⟨j, by omega, rfl⟩)
    simp [this]
  unfold ixG; rw [this]
theorem ixG_none {α : Type} {p : α → Bool} {l : List α} (h : NoneG p l l.length) : ixG p l = -1 := by
  have : l.findIdx? p = none := by
    rw [List.findIdx?_eq_none_iff]
    intro x hx
    exact h x (by rw [List.take_length]; exact hx)
  unfold ixG; rw [this]
theorem noneG_succ {α : Type} {p : α → Bool} {l : List α} {k : Nat} (hlt : k < l.length) (h : NoneG p l k) (hc : p l[k] = false) : NoneG p l (k + 1) := fun x hx => by
  rw [List.take_succ_eq_append_getElem hlt, List.mem_append] at hx
  rcases hx with hx | hx
  · exact h x hx
  · simp at hx; rw [hx]; exact hc
theorem ixG_pos {α : Type} {p : α → Bool} {l : List α} : decide (ixG p l ≥ 0) = l.any p := by
  unfold ixG
  rw [Bool.eq_iff_iff]
  cases h : l.findIdx? p with
  | none =>
    rw [List.findIdx?_eq_none_iff] at h
    simp; exact h
  | some i =>
    have h1 := (List.findIdx?_eq_some_iff_getElem.1 h)
    obtain ⟨hi, hp, _⟩ := h1
    simp
    exact ⟨l[i], List.getElem_mem hi, hp⟩
theorem sIndexFuncE (l : List (Int × Int)) (f : FuncId) (fs cs : List CV) (p : Int × Int → Bool) (hl : l.length ≤ 1000000) (he : Ent Try.prog f) (hp : ∀ x ∈ l, SC Try.prog f (fs ++ [.agg [I x.1, I x.2]] ++ cs) (B (p x))) : SC Try.prog 49 [.sl 2 (l.map rowE), .fn f fs cs] (I (ixG p l)) := by
  refine law_slices_IndexFunc_api_Span_api_Span _ _ (by simp) ?_
  (repeat' (first | ((first | with_reducible refine st_skip ?_ | with_reducible refine st_exit ?_); (try simp only [seqQ, blockQ, loopQ, forQ, whileQ, reduceIte, Nat.reduceEqDiff])) | (with_reducible refine st_ret ?_; ((try simp only [seqQ, blockQ, loopQ, forQ, whileQ]); first | (with_reducible refine retM_ret ?_) | refine retQ_ret ?_; simp)) | refine st_seq ?_ | refine st_block ?_ | ((with_reducible show (STri _ _ _ _ _) ∧ (STri _ _ _ _ _)); refine And.intro ?_ ?_) | ((first | refine st_reg ?_ | refine buildP_own ?_ | refine appP_own ?_) <;> (simp -dsimp; (repeat (simp -dsimp (disch := (first | omega | assumption | (refine Bool.eq_false_iff.1 ?_; assumption))) only [wrap_in, if_pos, if_neg]; (try simp -dsimp))))) | ((first | refine guardP_of (fun hc => ?_) (fun hc => ?_) | refine st_cond rfl (fun hc => ?_) (fun hc => ?_)) <;> (try simp only [lqA, lqB, lqC, lqD, lqE, lqF, lqG, lqH, lqI, lqJ, lqK, lqL, lqM, lqN, lqO] at hc) <;> (try (exfalso; first | omega | exact bool_tf hc (by assumption) | exact bool_ft hc (by assumption) | exact absurd (by assumption) hc)) <;> (first | with_reducible show STri _ _ _ _ _ _ | (simp -dsimp [hc]; (repeat (simp -dsimp (disch := (first | omega | assumption | (refine Bool.eq_false_iff.1 ?_; assumption))) only [wrap_in, if_pos, if_neg]; (try simp -dsimp [hc]))))))))
  refine st_for [] l.length (fun k T H => NoneG p l k ∧ T = [(0, .c (.sl 2 (l.map rowE))), (1, .c (.fn f fs cs)), (7, .c (I l.length)), (8, .c (I k))] ∧ H = []) (by simp) ⟨by simp [NoneG], by simp, rfl⟩ ?_
  rintro k T H hk ⟨ht, rfl, rfl⟩
  by_cases hlt : k < l.length
  · (repeat' (first | ((first | with_reducible refine st_skip ?_ | with_reducible refine st_exit ?_); (try simp only [seqQ, blockQ, loopQ, forQ, whileQ, reduceIte, Nat.reduceEqDiff])) | (with_reducible refine st_ret ?_; ((try simp only [seqQ, blockQ, loopQ, forQ, whileQ]); first | (with_reducible refine retM_ret ?_) | refine retQ_ret ?_; simp [hlt])) | refine st_seq ?_ | refine st_block ?_ | ((with_reducible show (STri _ _ _ _ _) ∧ (STri _ _ _ _ _)); refine And.intro ?_ ?_) | ((first | refine st_reg ?_ | ((with_reducible show callVP _ _ _ _ _ _ _); refine callV_b (by first | exact Ent.h (by assumption) | kernel_rfl) (hp l[k] (List.getElem_mem hlt)) rfl ?_) | refine buildP_own ?_ | refine appP_own ?_) <;> (simp -dsimp [hlt]; (repeat (simp -dsimp (disch := (first | omega | assumption | (refine Bool.eq_false_iff.1 ?_; assumption))) only [wrap_in, if_pos, if_neg]; (try simp -dsimp [hlt]))))) | ((first | refine guardP_of (fun hc => ?_) (fun hc => ?_) | refine st_cond rfl (fun hc => ?_) (fun hc => ?_)) <;> (try simp only [lqA, lqB, lqC, lqD, lqE, lqF, lqG, lqH, lqI, lqJ, lqK, lqL, lqM, lqN, lqO] at hc) <;> (try (exfalso; first | omega | exact bool_tf hc (by assumption) | exact bool_ft hc (by assumption) | exact absurd (by assumption) hc)) <;> (first | with_reducible show STri _ _ _ _ _ _ | (simp -dsimp [hlt, hc]; (repeat (simp -dsimp (disch := (first | omega | assumption | (refine Bool.eq_false_iff.1 ?_; assumption))) only [wrap_in, if_pos, if_neg]; (try simp -dsimp [hlt, hc]))))))))
    · refine CLe.int ?_; rw [ixG_at hlt ht hc]
    · exact ⟨hlt, by simp, noneG_succ hlt ht hc, by simp, rfl⟩
  · (repeat' (first | ((first | with_reducible refine st_skip ?_ | with_reducible refine st_exit ?_); (try simp only [seqQ, blockQ, loopQ, forQ, whileQ, reduceIte, Nat.reduceEqDiff])) | (with_reducible refine st_ret ?_; ((try simp only [seqQ, blockQ, loopQ, forQ, whileQ]); first | (with_reducible refine retM_ret ?_) | refine retQ_ret ?_; simp [hlt])) | refine st_seq ?_ | refine st_block ?_ | ((with_reducible show (STri _ _ _ _ _) ∧ (STri _ _ _ _ _)); refine And.intro ?_ ?_) | ((first | refine st_reg ?_ | refine buildP_own ?_ | refine appP_own ?_) <;> (simp -dsimp [hlt]; (repeat (simp -dsimp (disch := (first | omega | assumption | (refine Bool.eq_false_iff.1 ?_; assumption))) only [wrap_in, if_pos, if_neg]; (try simp -dsimp [hlt]))))) | ((first | refine guardP_of (fun hc => ?_) (fun hc => ?_) | refine st_cond rfl (fun hc => ?_) (fun hc => ?_)) <;> (try simp only [lqA, lqB, lqC, lqD, lqE, lqF, lqG, lqH, lqI, lqJ, lqK, lqL, lqM, lqN, lqO] at hc) <;> (try (exfalso; first | omega | exact bool_tf hc (by assumption) | exact bool_ft hc (by assumption) | exact absurd (by assumption) hc)) <;> (first | with_reducible show STri _ _ _ _ _ _ | (simp -dsimp [hlt, hc]; (repeat (simp -dsimp (disch := (first | omega | assumption | (refine Bool.eq_false_iff.1 ?_; assumption))) only [wrap_in, if_pos, if_neg]; (try simp -dsimp [hlt, hc]))))))))
    have : k = l.length := by omega
    subst this
    refine CLe.int ?_; rw [ixG_none ht]
theorem sContainsFuncE (l : List (Int × Int)) (f : FuncId) (fs cs : List CV) (p : Int × Int → Bool) (hl : l.length ≤ 1000000) (he : Ent Try.prog f) (hp : ∀ x ∈ l, SC Try.prog f (fs ++ [.agg [I x.1, I x.2]] ++ cs) (B (p x))) : SC Try.prog 37 [.sl 2 (l.map rowE), .fn f fs cs] (B (l.any p)) := by
  refine law_slices_ContainsFunc_api_Span_api_Span _ _ (by simp) ?_
  (repeat' (first | ((first | with_reducible refine st_skip ?_ | with_reducible refine st_exit ?_); (try simp only [seqQ, blockQ, loopQ, forQ, whileQ, reduceIte, Nat.reduceEqDiff])) | (with_reducible refine st_ret ?_; ((try simp only [seqQ, blockQ, loopQ, forQ, whileQ]); first | (with_reducible refine retM_ret ?_) | refine retQ_ret ?_; simp)) | refine st_seq ?_ | refine st_block ?_ | ((with_reducible show (STri _ _ _ _ _) ∧ (STri _ _ _ _ _)); refine And.intro ?_ ?_) | ((first | refine st_reg ?_ | refine buildP_own ?_ | refine appP_own ?_ | refine callP_b (sIndexFuncE l f fs cs p hl he hp) rfl ?_) <;> (simp -dsimp; (repeat (simp -dsimp (disch := (first | omega | assumption | (refine Bool.eq_false_iff.1 ?_; assumption))) only [wrap_in, if_pos, if_neg]; (try simp -dsimp))))) | ((first | refine guardP_of (fun hc => ?_) (fun hc => ?_) | refine st_cond rfl (fun hc => ?_) (fun hc => ?_)) <;> (try simp only [lqA, lqB, lqC, lqD, lqE, lqF, lqG, lqH, lqI, lqJ, lqK, lqL, lqM, lqN, lqO] at hc) <;> (try (exfalso; first | omega | exact bool_tf hc (by assumption) | exact bool_ft hc (by assumption) | exact absurd (by assumption) hc)) <;> (first | with_reducible show STri _ _ _ _ _ _ | (simp -dsimp [hc]; (repeat (simp -dsimp (disch := (first | omega | assumption | (refine Bool.eq_false_iff.1 ?_; assumption))) only [wrap_in, if_pos, if_neg]; (try simp -dsimp [hc]))))))))
  all_goals (refine CLe.bool ?_; exact ixG_pos)
theorem sWithin1D (n lo hi : Int) : SC Try.prog 25 [I n, .ref [I lo], .ref [I hi]] (B (outB lo hi n)) := by
  refine law_drop_within_1 _ _ (by simp) ?_
  unfold outB
  (repeat' (first | ((first | with_reducible refine st_skip ?_ | with_reducible refine st_exit ?_); (try simp only [seqQ, blockQ, loopQ, forQ, whileQ, reduceIte, Nat.reduceEqDiff])) | (with_reducible refine st_ret ?_; ((try simp only [seqQ, blockQ, loopQ, forQ, whileQ]); first | (with_reducible refine retM_ret ?_) | refine retQ_ret ?_; simp)) | refine st_seq ?_ | refine st_block ?_ | ((with_reducible show (STri _ _ _ _ _) ∧ (STri _ _ _ _ _)); refine And.intro ?_ ?_) | ((first | refine st_reg ?_ | refine buildP_own ?_ | refine appP_own ?_) <;> (simp -dsimp; (repeat (simp -dsimp (disch := (first | omega | assumption | (refine Bool.eq_false_iff.1 ?_; assumption))) only [wrap_in, if_pos, if_neg]; (try simp -dsimp))))) | ((first | refine guardP_of (fun hc => ?_) (fun hc => ?_) | refine st_cond rfl (fun hc => ?_) (fun hc => ?_)) <;> (try simp only [lqA, lqB, lqC, lqD, lqE, lqF, lqG, lqH, lqI, lqJ, lqK, lqL, lqM, lqN, lqO] at hc) <;> (try (exfalso; first | omega | exact bool_tf hc (by assumption) | exact bool_ft hc (by assumption) | exact absurd (by assumption) hc)) <;> (first | with_reducible show STri _ _ _ _ _ _ | (simp -dsimp [hc]; (repeat (simp -dsimp (disch := (first | omega | assumption | (refine Bool.eq_false_iff.1 ?_; assumption))) only [wrap_in, if_pos, if_neg]; (try simp -dsimp [hc]))))))))
  all_goals (refine CLe.bool ?_; rw [Bool.eq_iff_iff]; simp; try omega)
theorem sWithinD (lo hi : Int) (l : List Int) (hl : l.length ≤ 1000000) : SC Try.prog 14 [I lo, I hi, slI l] (B (allIn lo hi l)) := by
  refine law_drop_within _ _ (by simp) ?_
  (repeat' (first | ((first | with_reducible refine st_skip ?_ | with_reducible refine st_exit ?_); (try simp only [seqQ, blockQ, loopQ, forQ, whileQ, reduceIte, Nat.reduceEqDiff])) | (with_reducible refine st_ret ?_; ((try simp only [seqQ, blockQ, loopQ, forQ, whileQ]); first | (with_reducible refine retM_ret ?_) | refine retQ_ret ?_; simp)) | refine st_seq ?_ | refine st_block ?_ | ((with_reducible show (STri _ _ _ _ _) ∧ (STri _ _ _ _ _)); refine And.intro ?_ ?_) | ((first | refine st_reg ?_ | refine buildP_own ?_ | refine appP_own ?_ | refine callP_b (sContainsFunc l 25 [] [.ref [I lo], .ref [I hi]] (outB lo hi) hl ⟨by kernel_rfl⟩ (fun x _ => sWithin1D x lo hi)) rfl ?_) <;> (simp -dsimp; (repeat (simp -dsimp (disch := (first | omega | assumption | (refine Bool.eq_false_iff.1 ?_; assumption))) only [wrap_in, if_pos, if_neg]; (try simp -dsimp))))) | ((first | refine guardP_of (fun hc => ?_) (fun hc => ?_) | refine st_cond rfl (fun hc => ?_) (fun hc => ?_)) <;> (try simp only [lqA, lqB, lqC, lqD, lqE, lqF, lqG, lqH, lqI, lqJ, lqK, lqL, lqM, lqN, lqO] at hc) <;> (try (exfalso; first | omega | exact bool_tf hc (by assumption) | exact bool_ft hc (by assumption) | exact absurd (by assumption) hc)) <;> (first | with_reducible show STri _ _ _ _ _ _ | (simp -dsimp [hc]; (repeat (simp -dsimp (disch := (first | omega | assumption | (refine Bool.eq_false_iff.1 ?_; assumption))) only [wrap_in, if_pos, if_neg]; (try simp -dsimp [hc]))))))))
  all_goals (refine CLe.bool ?_; exact allIn_eq lo hi l)
def spanD (most : Int) (s : Int × Int) : Bool := decide (0 ≤ s.1) && decide (s.1 ≤ s.2) && decide (s.2 ≤ most)
theorem sIsSpanD (s : Int × Int) (most : Int) : SC Try.prog 39 [.agg [I s.1, I s.2], I most] (B (spanD most s)) := by
  refine law_drop_isSpan _ _ (by simp) ?_
  have e : (allIn 0 most [s.1, s.2] && decide (s.1 ≤ s.2)) = spanD most s := by
    unfold allIn inB spanD
    rw [Bool.eq_iff_iff]; simp; omega
  (repeat' (first | ((first | with_reducible refine st_skip ?_ | with_reducible refine st_exit ?_); (try simp only [seqQ, blockQ, loopQ, forQ, whileQ, reduceIte, Nat.reduceEqDiff])) | (with_reducible refine st_ret ?_; ((try simp only [seqQ, blockQ, loopQ, forQ, whileQ]); first | (with_reducible refine retM_ret ?_) | refine retQ_ret ?_; simp)) | refine st_seq ?_ | refine st_block ?_ | ((with_reducible show (STri _ _ _ _ _) ∧ (STri _ _ _ _ _)); refine And.intro ?_ ?_) | ((first | refine st_reg ?_ | refine buildP_own ?_ | refine appP_own ?_ | refine callP_b (sWithinD 0 most [s.1, s.2] (by simp)) rfl ?_) <;> (simp -dsimp; (repeat (simp -dsimp (disch := (first | omega | assumption | (refine Bool.eq_false_iff.1 ?_; assumption))) only [wrap_in, if_pos, if_neg]; (try simp -dsimp))))) | ((first | refine guardP_of (fun hc => ?_) (fun hc => ?_) | refine st_cond rfl (fun hc => ?_) (fun hc => ?_)) <;> (try simp only [lqA, lqB, lqC, lqD, lqE, lqF, lqG, lqH, lqI, lqJ, lqK, lqL, lqM, lqN, lqO] at hc) <;> (try (exfalso; first | omega | exact bool_tf hc (by assumption) | exact bool_ft hc (by assumption) | exact absurd (by assumption) hc)) <;> (first | with_reducible show STri _ _ _ _ _ _ | (simp -dsimp [hc]; (repeat (simp -dsimp (disch := (first | omega | assumption | (refine Bool.eq_false_iff.1 ?_; assumption))) only [wrap_in, if_pos, if_neg]; (try simp -dsimp [hc]))))))))
  all_goals (refine CLe.bool ?_; simp_all)
theorem sAreHours1 (s : Int × Int) : SC Try.prog 38 [.agg [I s.1, I s.2]] (B (!spanD 3000 s)) := by
  refine law_drop_areHours_1 _ _ (by simp) ?_
  (repeat' (first | ((first | with_reducible refine st_skip ?_ | with_reducible refine st_exit ?_); (try simp only [seqQ, blockQ, loopQ, forQ, whileQ, reduceIte, Nat.reduceEqDiff])) | (with_reducible refine st_ret ?_; ((try simp only [seqQ, blockQ, loopQ, forQ, whileQ]); first | (with_reducible refine retM_ret ?_) | refine retQ_ret ?_; simp)) | refine st_seq ?_ | refine st_block ?_ | ((with_reducible show (STri _ _ _ _ _) ∧ (STri _ _ _ _ _)); refine And.intro ?_ ?_) | ((first | refine st_reg ?_ | refine buildP_own ?_ | refine appP_own ?_ | refine callP_b (sIsSpanD s 3000) rfl ?_) <;> (simp -dsimp; (repeat (simp -dsimp (disch := (first | omega | assumption | (refine Bool.eq_false_iff.1 ?_; assumption))) only [wrap_in, if_pos, if_neg]; (try simp -dsimp))))) | ((first | refine guardP_of (fun hc => ?_) (fun hc => ?_) | refine st_cond rfl (fun hc => ?_) (fun hc => ?_)) <;> (try simp only [lqA, lqB, lqC, lqD, lqE, lqF, lqG, lqH, lqI, lqJ, lqK, lqL, lqM, lqN, lqO] at hc) <;> (try (exfalso; first | omega | exact bool_tf hc (by assumption) | exact bool_ft hc (by assumption) | exact absurd (by assumption) hc)) <;> (first | with_reducible show STri _ _ _ _ _ _ | (simp -dsimp [hc]; (repeat (simp -dsimp (disch := (first | omega | assumption | (refine Bool.eq_false_iff.1 ?_; assumption))) only [wrap_in, if_pos, if_neg]; (try simp -dsimp [hc]))))))))
  all_goals exact .refl _
def hoursOK (l : List (Int × Int)) : Bool := decide (l.length = 24) && l.all (spanD 3000)
theorem sAreHours (l : List (Int × Int)) (hl : l.length ≤ 1000000) : SC Try.prog 23 [.sl 2 (l.map rowE)] (B (hoursOK l)) := by
  refine law_drop_areHours _ _ (by simp) ?_
  unfold hoursOK
  have e : (!l.any fun s => !spanD 3000 s) = l.all (spanD 3000) := by
    rw [List.not_any_eq_all_not]; simp
  by_cases h : l.length = 24
  · (repeat' (first | ((first | with_reducible refine st_skip ?_ | with_reducible refine st_exit ?_); (try simp only [seqQ, blockQ, loopQ, forQ, whileQ, reduceIte, Nat.reduceEqDiff])) | (with_reducible refine st_ret ?_; ((try simp only [seqQ, blockQ, loopQ, forQ, whileQ]); first | (with_reducible refine retM_ret ?_) | refine retQ_ret ?_; simp [h])) | refine st_seq ?_ | refine st_block ?_ | ((with_reducible show (STri _ _ _ _ _) ∧ (STri _ _ _ _ _)); refine And.intro ?_ ?_) | ((first | refine st_reg ?_ | refine buildP_own ?_ | refine appP_own ?_ | refine callP_b (sContainsFuncE l 38 [] [] (fun s => !spanD 3000 s) hl ⟨by kernel_rfl⟩ (fun x _ => sAreHours1 x)) rfl ?_) <;> (simp -dsimp [h]; (repeat (simp -dsimp (disch := (first | omega | assumption | (refine Bool.eq_false_iff.1 ?_; assumption))) only [wrap_in, if_pos, if_neg]; (try simp -dsimp [h]))))) | ((first | refine guardP_of (fun hc => ?_) (fun hc => ?_) | refine st_cond rfl (fun hc => ?_) (fun hc => ?_)) <;> (try simp only [lqA, lqB, lqC, lqD, lqE, lqF, lqG, lqH, lqI, lqJ, lqK, lqL, lqM, lqN, lqO] at hc) <;> (try (exfalso; first | omega | exact bool_tf hc (by assumption) | exact bool_ft hc (by assumption) | exact absurd (by assumption) hc)) <;> (first | with_reducible show STri _ _ _ _ _ _ | (simp -dsimp [h, hc]; (repeat (simp -dsimp (disch := (first | omega | assumption | (refine Bool.eq_false_iff.1 ?_; assumption))) only [wrap_in, if_pos, if_neg]; (try simp -dsimp [h, hc]))))))))
    all_goals (refine CLe.bool ?_; simp [h, ← e])
  · have h2 : ¬ (l.length : Int) = 24 := by omega
    (repeat' (first | ((first | with_reducible refine st_skip ?_ | with_reducible refine st_exit ?_); (try simp only [seqQ, blockQ, loopQ, forQ, whileQ, reduceIte, Nat.reduceEqDiff])) | (with_reducible refine st_ret ?_; ((try simp only [seqQ, blockQ, loopQ, forQ, whileQ]); first | (with_reducible refine retM_ret ?_) | refine retQ_ret ?_; simp [h, h2])) | refine st_seq ?_ | refine st_block ?_ | ((with_reducible show (STri _ _ _ _ _) ∧ (STri _ _ _ _ _)); refine And.intro ?_ ?_) | ((first | refine st_reg ?_ | refine buildP_own ?_ | refine appP_own ?_ | refine callP_b (sContainsFuncE l 38 [] [] (fun s => !spanD 3000 s) hl ⟨by kernel_rfl⟩ (fun x _ => sAreHours1 x)) rfl ?_) <;> (simp -dsimp [h, h2]; (repeat (simp -dsimp (disch := (first | omega | assumption | (refine Bool.eq_false_iff.1 ?_; assumption))) only [wrap_in, if_pos, if_neg]; (try simp -dsimp [h, h2]))))) | ((first | refine guardP_of (fun hc => ?_) (fun hc => ?_) | refine st_cond rfl (fun hc => ?_) (fun hc => ?_)) <;> (try simp only [lqA, lqB, lqC, lqD, lqE, lqF, lqG, lqH, lqI, lqJ, lqK, lqL, lqM, lqN, lqO] at hc) <;> (try (exfalso; first | omega | exact bool_tf hc (by assumption) | exact bool_ft hc (by assumption) | exact absurd (by assumption) hc)) <;> (first | with_reducible show STri _ _ _ _ _ _ | (simp -dsimp [h, h2, hc]; (repeat (simp -dsimp (disch := (first | omega | assumption | (refine Bool.eq_false_iff.1 ?_; assumption))) only [wrap_in, if_pos, if_neg]; (try simp -dsimp [h, h2, hc]))))))))
    all_goals (refine CLe.bool ?_; simp [h])
structure Dc where
  (line : Int) (hours : List (Int × Int))
def cDc (c : Dc) : CV := .agg [I c.line, .sl 2 (c.hours.map rowE)]
attribute [simp] cDc
def dcOK (c : Dc) : Bool := decide (1 ≤ c.line) && decide (c.line ≤ 3000) && hoursOK c.hours
theorem sDCheck (c : Dc) (hl : c.hours.length ≤ 1000000) : SC Try.prog 13 [cDc c] (I (if dcOK c = true then 0 else 2)) := by
  refine law_drop_Check _ _ (by simp) ?_
  have e : dcOK c = (allIn 1 3000 [c.line] && hoursOK c.hours) := by unfold dcOK allIn inB; simp
  have sh := sAreHours c.hours hl
  rw [e]
  generalize hoursOK c.hours = b at *
  (repeat' (first | ((first | with_reducible refine st_skip ?_ | with_reducible refine st_exit ?_); (try simp only [seqQ, blockQ, loopQ, forQ, whileQ, reduceIte, Nat.reduceEqDiff])) | (with_reducible refine st_ret ?_; ((try simp only [seqQ, blockQ, loopQ, forQ, whileQ]); first | (with_reducible refine retM_ret ?_) | refine retQ_ret ?_; simp)) | refine st_seq ?_ | refine st_block ?_ | ((with_reducible show (STri _ _ _ _ _) ∧ (STri _ _ _ _ _)); refine And.intro ?_ ?_) | ((first | refine st_reg ?_ | refine buildP_own ?_ | refine appP_own ?_ | refine callP_b (sWithinD 1 3000 [c.line] (by simp)) rfl ?_ | refine callP_b (sh) rfl ?_) <;> (simp -dsimp; (repeat (simp -dsimp (disch := (first | omega | assumption | (refine Bool.eq_false_iff.1 ?_; assumption))) only [wrap_in, if_pos, if_neg]; (try simp -dsimp))))) | ((first | refine guardP_of (fun hc => ?_) (fun hc => ?_) | refine st_cond rfl (fun hc => ?_) (fun hc => ?_)) <;> (try simp only [lqA, lqB, lqC, lqD, lqE, lqF, lqG, lqH, lqI, lqJ, lqK, lqL, lqM, lqN, lqO] at hc) <;> (try (exfalso; first | omega | exact bool_tf hc (by assumption) | exact bool_ft hc (by assumption) | exact absurd (by assumption) hc)) <;> (first | with_reducible show STri _ _ _ _ _ _ | (simp -dsimp [hc]; (repeat (simp -dsimp (disch := (first | omega | assumption | (refine Bool.eq_false_iff.1 ?_; assumption))) only [wrap_in, if_pos, if_neg]; (try simp -dsimp [hc]))))))))
  all_goals (refine CLe.int ?_; simp_all)
end Go.Proofs.Ytlodpljdhdhfmaa
/- Drop, II: how long a clock goes that is not wound. -/
namespace Go.Proofs.Ytlodpljdhdhfmaa
open Go.RowKit
def useD (l : List (Int × Int)) (h : Nat) : Int × Int := l.getD (h % 24) (0, 0)
def leftN (l : List (Int × Int)) (e : Int × Int → Int) (start : Int) (h : Nat) : Nat → Int
  | 0 => start
  | k + 1 => leftN l e start h k - e (useD l (h + k))
def GoTo (l : List (Int × Int)) (e : Int × Int → Int) (start : Int) (h : Nat) (k : Nat) : Prop := ∀ j, j < k → e (useD l (h + j)) ≤ leftN l e start h j
def stopN (l : List (Int × Int)) (e : Int × Int → Int) (start : Int) (h : Nat) : Nat → Nat
  | 0 => 0
  | n + 1 => if e (useD l h) ≤ start then stopN l e (start - e (useD l h)) (h + 1) n + 1 else 0
def goN (l : List (Int × Int)) (e : Int × Int → Int) (start : Int) (h : Nat) : Nat := h + stopN l e start h (2000 - h)
theorem left_shift (l : List (Int × Int)) (e : Int × Int → Int) : ∀ (k : Nat) (start : Int) (h : Nat), leftN l e (start - e (useD l h)) (h + 1) k = leftN l e start h (k + 1)
  | 0, _, _ => rfl
  | k + 1, start, h => by
    show leftN l e (start - e (useD l h)) (h + 1) k - e (useD l (h + 1 + k)) = leftN l e start h (k + 1) - e (useD l (h + (k + 1)))
    rw [left_shift l e k start h, show h + 1 + k = h + (k + 1) by omega]
theorem stop_is (l : List (Int × Int)) (e : Int × Int → Int) : ∀ (k n : Nat) (start : Int) (h : Nat), GoTo l e start h k → k ≤ n → (k = n ∨ ¬ e (useD l (h + k)) ≤ leftN l e start h k) → stopN l e start h n = k
  | 0, n, start, h, _, _, hs => by
    cases n with
    | zero => rfl
    | succ n =>
      rcases hs with hs | hs
      · cases hs
      · unfold stopN
        exact if_neg hs
  | k + 1, n, start, h, hg, hk, hs => by
    cases n with
    | zero => omega
    | succ n =>
      have h0 : e (useD l h) ≤ start := hg 0 (by omega)
      unfold stopN
      have q1 : GoTo l e (start - e (useD l h)) (h + 1) k := fun j hj => by
        rw [left_shift, show h + 1 + j = h + (j + 1) by omega]
        exact hg (j + 1) (by omega)
      have q2 : k = n ∨ ¬ e (useD l (h + 1 + k)) ≤ leftN l e (start - e (useD l h)) (h + 1) k := by
        rcases hs with hs | hs
        · exact .inl (by omega)
        · refine .inr ?_
          rw [left_shift, show h + 1 + k = h + (k + 1) by omega]
          exact hs
      rw [if_pos h0, stop_is l e k n (start - e (useD l h)) (h + 1) q1 (by omega) q2]
theorem goTo_succ {l : List (Int × Int)} {e : Int × Int → Int} {start : Int} {h k : Nat} (hg : GoTo l e start h k) (h1 : e (useD l (h + k)) ≤ leftN l e start h k) : GoTo l e start h (k + 1) := fun j hj => by
  by_cases hjk : j = k
  · subst hjk; exact h1
  · exact hg j (by omega)
theorem left_bd {l : List (Int × Int)} {e : Int × Int → Int} {start : Int} {h : Nat} (he : ∀ j, 0 ≤ e (useD l j)) (hs : 0 ≤ start) : ∀ k, GoTo l e start h k → 0 ≤ leftN l e start h k ∧ leftN l e start h k ≤ start
  | 0, _ => ⟨hs, Int.le_refl _⟩
  | k + 1, hg => by
    have := left_bd he hs k (fun j hj => hg j (by omega))
    have h1 := hg k (by omega)
    have h2 := he (h + k)
    show 0 ≤ leftN l e start h k - _ ∧ leftN l e start h k - _ ≤ start
    omega
def cClk (c : Dc) : CV := .agg [I c.line, .sl 2 (c.hours.map rowE), .val (.slice none 0 0)]
attribute [simp] cClk
theorem sUse (c : Dc) (hl : c.hours.length = 24) (h : Nat) : SC Try.prog 26 [cClk c, I h] (.agg [I (useD c.hours h).1, I (useD c.hours h).2]) := by
  refine law_drop_clock_use _ _ (by simp) ?_
  have h1 : h % 24 < c.hours.length := by omega
  have h2 : useD c.hours h = c.hours[h % 24] := by unfold useD; simp [h1]
  have h3 : (h : Int).tmod 24 = (h : Int) % 24 := Int.tmod_eq_emod_of_nonneg (by omega)
  have h4 : ((h : Int) % 24).toNat = h % 24 := by omega
  have h5 : 0 ≤ (h : Int) % 24 := by omega
  rw [h2]
  (repeat' (first | ((first | with_reducible refine st_skip ?_ | with_reducible refine st_exit ?_); (try simp only [seqQ, blockQ, loopQ, forQ, whileQ, reduceIte, Nat.reduceEqDiff])) | (with_reducible refine st_ret ?_; ((try simp only [seqQ, blockQ, loopQ, forQ, whileQ]); first | (with_reducible refine retM_ret ?_) | refine retQ_ret ?_; simp [h1, h3, h4, h5])) | refine st_seq ?_ | refine st_block ?_ | ((with_reducible show (STri _ _ _ _ _) ∧ (STri _ _ _ _ _)); refine And.intro ?_ ?_) | ((first | refine st_reg ?_ | refine buildP_own ?_ | refine appP_own ?_) <;> (simp -dsimp [h1, h3, h4, h5]; (repeat (simp -dsimp (disch := (first | omega | assumption | (refine Bool.eq_false_iff.1 ?_; assumption))) only [wrap_in, if_pos, if_neg]; (try simp -dsimp [h1, h3, h4, h5]))))) | ((first | refine guardP_of (fun hc => ?_) (fun hc => ?_) | refine st_cond rfl (fun hc => ?_) (fun hc => ?_)) <;> (try simp only [lqA, lqB, lqC, lqD, lqE, lqF, lqG, lqH, lqI, lqJ, lqK, lqL, lqM, lqN, lqO] at hc) <;> (try (exfalso; first | omega | exact bool_tf hc (by assumption) | exact bool_ft hc (by assumption) | exact absurd (by assumption) hc)) <;> (first | with_reducible show STri _ _ _ _ _ _ | (simp -dsimp [h1, h3, h4, h5, hc]; (repeat (simp -dsimp (disch := (first | omega | assumption | (refine Bool.eq_false_iff.1 ?_; assumption))) only [wrap_in, if_pos, if_neg]; (try simp -dsimp [h1, h3, h4, h5, hc]))))))))
  all_goals exact .refl _
theorem use_ok {c : Dc} (hc : hoursOK c.hours = true) (h : Nat) : 0 ≤ (useD c.hours h).1 ∧ (useD c.hours h).1 ≤ (useD c.hours h).2 ∧ (useD c.hours h).2 ≤ 3000 := by
  unfold hoursOK at hc
  rw [Bool.and_eq_true, decide_eq_true_eq] at hc
  have h1 : h % 24 < c.hours.length := by omega
  have h2 : useD c.hours h = c.hours[h % 24] := by unfold useD; simp [h1]
  have := List.all_eq_true.1 hc.2 _ (List.getElem_mem h1)
  rw [h2]
  unfold spanD at this
  simp at this
  omega
theorem sGoes (c : Dc) (hc : hoursOK c.hours = true) (start : Int) (from' : Nat) (h0 : 0 ≤ start) (h1 : start ≤ 3000) (hf : from' ≤ 2000) (f : FuncId) (e : Int × Int → Int) (hE : Ent Try.prog f)
    (he : ∀ s, SC Try.prog f [.agg [I s.1, I s.2]] (I (e s))) (hb : ∀ j, 0 ≤ e (useD c.hours j) ∧ e (useD c.hours j) ≤ 3000) :
    SC Try.prog 15 [cClk c, I start, I from', .fn f [] []] (I (goN c.hours e start from')) := by
  refine law_drop_clock_goes _ _ (by simp) ?_
  have hl : c.hours.length = 24 := by
    unfold hoursOK at hc
    rw [Bool.and_eq_true, decide_eq_true_eq] at hc
    exact hc.1
  have hge : goN c.hours e start from' = from' + stopN c.hours e start from' (2000 - from') := rfl
  (repeat' (first | ((first | with_reducible refine st_skip ?_ | with_reducible refine st_exit ?_); (try simp only [seqQ, blockQ, loopQ, forQ, whileQ, reduceIte, Nat.reduceEqDiff])) | (with_reducible refine st_ret ?_; ((try simp only [seqQ, blockQ, loopQ, forQ, whileQ]); first | (with_reducible refine retM_ret ?_) | refine retQ_ret ?_; simp)) | refine st_seq ?_ | refine st_block ?_ | ((with_reducible show (STri _ _ _ _ _) ∧ (STri _ _ _ _ _)); refine And.intro ?_ ?_) | ((first | refine st_reg ?_ | refine buildP_own ?_ | refine appP_own ?_) <;> (simp -dsimp; (repeat (simp -dsimp (disch := (first | omega | assumption | (refine Bool.eq_false_iff.1 ?_; assumption))) only [wrap_in, if_pos, if_neg]; (try simp -dsimp))))) | ((first | refine guardP_of (fun hc => ?_) (fun hc => ?_) | refine st_cond rfl (fun hc => ?_) (fun hc => ?_)) <;> (try simp only [lqA, lqB, lqC, lqD, lqE, lqF, lqG, lqH, lqI, lqJ, lqK, lqL, lqM, lqN, lqO] at hc) <;> (try (exfalso; first | omega | exact bool_tf hc (by assumption) | exact bool_ft hc (by assumption) | exact absurd (by assumption) hc)) <;> (first | with_reducible show STri _ _ _ _ _ _ | (simp -dsimp [hc]; (repeat (simp -dsimp (disch := (first | omega | assumption | (refine Bool.eq_false_iff.1 ?_; assumption))) only [wrap_in, if_pos, if_neg]; (try simp -dsimp [hc]))))))))
  refine st_for [4] (2000 - from') (fun k T H => GoTo c.hours e start from' k ∧ T = [(1, .c (I (leftN c.hours e start from' k))), (3, .c (.fn f [] [])), (4, .ptr 4 0), (9, .c (I (from' + k)))] ∧ H = [(4, .box 51 [.c (I c.line), .c (.sl 2 (c.hours.map rowE)), .c (.val (.slice none 0 0))])]) (by simp) ⟨fun j hj => by omega, by simp [leftN], by simp⟩ ?_
  rintro k T H hk ⟨hg, rfl, rfl⟩
  have hbd := left_bd (fun j => (hb j).1) h0 k hg
  have hu := sUse c hl (from' + k)
  have he1 := he (useD c.hours (from' + k))
  have hb1 := hb (from' + k)
  have hsu : leftN c.hours e start from' (k + 1) = leftN c.hours e start from' k - e (useD c.hours (from' + k)) := rfl
  have hst := stop_is c.hours e k (2000 - from') start from' hg hk
  have hgs := fun q => goTo_succ (k := k) hg q
  rw [Int.natCast_add] at hu
  generalize leftN c.hours e start from' k = lk at *
  generalize useD c.hours (from' + k) = us at *
  generalize e us = eu at *
  generalize stopN c.hours e start from' (2000 - from') = st at *
  by_cases hlt : k < 2000 - from'
  · have hlt2 : (from' : Int) + k < 2000 := by omega
    by_cases hle : eu ≤ lk
    · (repeat' (first | ((first | with_reducible refine st_skip ?_ | with_reducible refine st_exit ?_); (try simp only [seqQ, blockQ, loopQ, forQ, whileQ, reduceIte, Nat.reduceEqDiff])) | (with_reducible refine st_ret ?_; ((try simp only [seqQ, blockQ, loopQ, forQ, whileQ]); first | (with_reducible refine retM_ret ?_) | refine retQ_ret ?_; simp [hlt2, hle])) | refine st_seq ?_ | refine st_block ?_ | ((with_reducible show (STri _ _ _ _ _) ∧ (STri _ _ _ _ _)); refine And.intro ?_ ?_) | ((first | refine st_reg ?_ | ((with_reducible show callVP _ _ _ _ _ _ _); refine callV_b (by first | exact Ent.h (by assumption) | kernel_rfl) (he1) rfl ?_) | refine buildP_own ?_ | refine appP_own ?_ | refine callP_b (hu) rfl ?_) <;> (simp -dsimp [hlt2, hle]; (repeat (simp -dsimp (disch := (first | omega | assumption | (refine Bool.eq_false_iff.1 ?_; assumption))) only [wrap_in, if_pos, if_neg]; (try simp -dsimp [hlt2, hle]))))) | ((first | refine guardP_of (fun hc => ?_) (fun hc => ?_) | refine st_cond rfl (fun hc => ?_) (fun hc => ?_)) <;> (try simp only [lqA, lqB, lqC, lqD, lqE, lqF, lqG, lqH, lqI, lqJ, lqK, lqL, lqM, lqN, lqO] at hc) <;> (try (exfalso; first | omega | exact bool_tf hc (by assumption) | exact bool_ft hc (by assumption) | exact absurd (by assumption) hc)) <;> (first | with_reducible show STri _ _ _ _ _ _ | (simp -dsimp [hlt2, hle, hc]; (repeat (simp -dsimp (disch := (first | omega | assumption | (refine Bool.eq_false_iff.1 ?_; assumption))) only [wrap_in, if_pos, if_neg]; (try simp -dsimp [hlt2, hle, hc]))))))))
      exact ⟨hlt, by simp, hgs hle, by simp [hsu]; omega, by simp⟩
    · have hst := hst (.inr hle)
      (repeat' (first | ((first | with_reducible refine st_skip ?_ | with_reducible refine st_exit ?_); (try simp only [seqQ, blockQ, loopQ, forQ, whileQ, reduceIte, Nat.reduceEqDiff])) | (with_reducible refine st_ret ?_; ((try simp only [seqQ, blockQ, loopQ, forQ, whileQ]); first | (with_reducible refine retM_ret ?_) | refine retQ_ret ?_; simp [hlt2, hle])) | refine st_seq ?_ | refine st_block ?_ | ((with_reducible show (STri _ _ _ _ _) ∧ (STri _ _ _ _ _)); refine And.intro ?_ ?_) | ((first | refine st_reg ?_ | ((with_reducible show callVP _ _ _ _ _ _ _); refine callV_b (by first | exact Ent.h (by assumption) | kernel_rfl) (he1) rfl ?_) | refine buildP_own ?_ | refine appP_own ?_ | refine callP_b (hu) rfl ?_) <;> (simp -dsimp [hlt2, hle]; (repeat (simp -dsimp (disch := (first | omega | assumption | (refine Bool.eq_false_iff.1 ?_; assumption))) only [wrap_in, if_pos, if_neg]; (try simp -dsimp [hlt2, hle]))))) | ((first | refine guardP_of (fun hc => ?_) (fun hc => ?_) | refine st_cond rfl (fun hc => ?_) (fun hc => ?_)) <;> (try simp only [lqA, lqB, lqC, lqD, lqE, lqF, lqG, lqH, lqI, lqJ, lqK, lqL, lqM, lqN, lqO] at hc) <;> (try (exfalso; first | omega | exact bool_tf hc (by assumption) | exact bool_ft hc (by assumption) | exact absurd (by assumption) hc)) <;> (first | with_reducible show STri _ _ _ _ _ _ | (simp -dsimp [hlt2, hle, hc]; (repeat (simp -dsimp (disch := (first | omega | assumption | (refine Bool.eq_false_iff.1 ?_; assumption))) only [wrap_in, if_pos, if_neg]; (try simp -dsimp [hlt2, hle, hc]))))))))
      refine CLe.int ?_
      rw [hge, hst]; simp
  · have hlt2 : ¬ (from' : Int) + k < 2000 := by omega
    have hst := hst (.inl (by omega))
    (repeat' (first | ((first | with_reducible refine st_skip ?_ | with_reducible refine st_exit ?_); (try simp only [seqQ, blockQ, loopQ, forQ, whileQ, reduceIte, Nat.reduceEqDiff])) | (with_reducible refine st_ret ?_; ((try simp only [seqQ, blockQ, loopQ, forQ, whileQ]); first | (with_reducible refine retM_ret ?_) | refine retQ_ret ?_; simp [hlt2])) | refine st_seq ?_ | refine st_block ?_ | ((with_reducible show (STri _ _ _ _ _) ∧ (STri _ _ _ _ _)); refine And.intro ?_ ?_) | ((first | refine st_reg ?_ | ((with_reducible show callVP _ _ _ _ _ _ _); refine callV_b (by first | exact Ent.h (by assumption) | kernel_rfl) (he1) rfl ?_) | refine buildP_own ?_ | refine appP_own ?_ | refine callP_b (hu) rfl ?_) <;> (simp -dsimp [hlt2]; (repeat (simp -dsimp (disch := (first | omega | assumption | (refine Bool.eq_false_iff.1 ?_; assumption))) only [wrap_in, if_pos, if_neg]; (try simp -dsimp [hlt2]))))) | ((first | refine guardP_of (fun hc => ?_) (fun hc => ?_) | refine st_cond rfl (fun hc => ?_) (fun hc => ?_)) <;> (try simp only [lqA, lqB, lqC, lqD, lqE, lqF, lqG, lqH, lqI, lqJ, lqK, lqL, lqM, lqN, lqO] at hc) <;> (try (exfalso; first | omega | exact bool_tf hc (by assumption) | exact bool_ft hc (by assumption) | exact absurd (by assumption) hc)) <;> (first | with_reducible show STri _ _ _ _ _ _ | (simp -dsimp [hlt2, hc]; (repeat (simp -dsimp (disch := (first | omega | assumption | (refine Bool.eq_false_iff.1 ?_; assumption))) only [wrap_in, if_pos, if_neg]; (try simp -dsimp [hlt2, hc]))))))))
    refine CLe.int ?_
    rw [hge, hst]; simp
theorem sLow (s : Int × Int) : SC Try.prog 17 [.agg [I s.1, I s.2]] (I s.1) := by
  refine law_drop_low _ _ (by simp) ?_
  (repeat' (first | ((first | with_reducible refine st_skip ?_ | with_reducible refine st_exit ?_); (try simp only [seqQ, blockQ, loopQ, forQ, whileQ, reduceIte, Nat.reduceEqDiff])) | (with_reducible refine st_ret ?_; ((try simp only [seqQ, blockQ, loopQ, forQ, whileQ]); first | (with_reducible refine retM_ret ?_) | refine retQ_ret ?_; simp)) | refine st_seq ?_ | refine st_block ?_ | ((with_reducible show (STri _ _ _ _ _) ∧ (STri _ _ _ _ _)); refine And.intro ?_ ?_) | ((first | refine st_reg ?_ | refine buildP_own ?_ | refine appP_own ?_) <;> (simp -dsimp; (repeat (simp -dsimp (disch := (first | omega | assumption | (refine Bool.eq_false_iff.1 ?_; assumption))) only [wrap_in, if_pos, if_neg]; (try simp -dsimp))))) | ((first | refine guardP_of (fun hc => ?_) (fun hc => ?_) | refine st_cond rfl (fun hc => ?_) (fun hc => ?_)) <;> (try simp only [lqA, lqB, lqC, lqD, lqE, lqF, lqG, lqH, lqI, lqJ, lqK, lqL, lqM, lqN, lqO] at hc) <;> (try (exfalso; first | omega | exact bool_tf hc (by assumption) | exact bool_ft hc (by assumption) | exact absurd (by assumption) hc)) <;> (first | with_reducible show STri _ _ _ _ _ _ | (simp -dsimp [hc]; (repeat (simp -dsimp (disch := (first | omega | assumption | (refine Bool.eq_false_iff.1 ?_; assumption))) only [wrap_in, if_pos, if_neg]; (try simp -dsimp [hc]))))))))
  all_goals exact .refl _
theorem sHigh (s : Int × Int) : SC Try.prog 16 [.agg [I s.1, I s.2]] (I s.2) := by
  refine law_drop_high _ _ (by simp) ?_
  (repeat' (first | ((first | with_reducible refine st_skip ?_ | with_reducible refine st_exit ?_); (try simp only [seqQ, blockQ, loopQ, forQ, whileQ, reduceIte, Nat.reduceEqDiff])) | (with_reducible refine st_ret ?_; ((try simp only [seqQ, blockQ, loopQ, forQ, whileQ]); first | (with_reducible refine retM_ret ?_) | refine retQ_ret ?_; simp)) | refine st_seq ?_ | refine st_block ?_ | ((with_reducible show (STri _ _ _ _ _) ∧ (STri _ _ _ _ _)); refine And.intro ?_ ?_) | ((first | refine st_reg ?_ | refine buildP_own ?_ | refine appP_own ?_) <;> (simp -dsimp; (repeat (simp -dsimp (disch := (first | omega | assumption | (refine Bool.eq_false_iff.1 ?_; assumption))) only [wrap_in, if_pos, if_neg]; (try simp -dsimp))))) | ((first | refine guardP_of (fun hc => ?_) (fun hc => ?_) | refine st_cond rfl (fun hc => ?_) (fun hc => ?_)) <;> (try simp only [lqA, lqB, lqC, lqD, lqE, lqF, lqG, lqH, lqI, lqJ, lqK, lqL, lqM, lqN, lqO] at hc) <;> (try (exfalso; first | omega | exact bool_tf hc (by assumption) | exact bool_ft hc (by assumption) | exact absurd (by assumption) hc)) <;> (first | with_reducible show STri _ _ _ _ _ _ | (simp -dsimp [hc]; (repeat (simp -dsimp (disch := (first | omega | assumption | (refine Bool.eq_false_iff.1 ?_; assumption))) only [wrap_in, if_pos, if_neg]; (try simp -dsimp [hc]))))))))
  all_goals exact .refl _
theorem sDGoes (c : Dc) (hc : dcOK c = true) (start : Int) (from' : Nat) (h0 : 0 ≤ start) (h1 : start ≤ c.line) (hf : from' ≤ 2000) :
    SC Try.prog 6 [cDc c, I start, I from'] (.tup [.agg [I (goN c.hours (fun s => s.2) start from'), I (goN c.hours (fun s => s.1) start from')], I 0]) := by
  refine law_drop_Goes _ _ (by simp) ?_
  have hc' := hc
  unfold dcOK at hc'
  simp only [Bool.and_eq_true, decide_eq_true_eq] at hc'
  obtain ⟨⟨c1, c2⟩, hh⟩ := hc'
  have hl : c.hours.length = 24 := by
    unfold hoursOK at hh
    rw [Bool.and_eq_true, decide_eq_true_eq] at hh
    exact hh.1
  have sk := sDCheck c (by omega)
  rw [if_pos hc] at sk
  have s1 := sWithinD 0 c.line [start] (by simp)
  have s2 := sWithinD 0 2000 [(from' : Int)] (by simp)
  have e1 : allIn 0 c.line [start] = true := by unfold allIn inB; simp; omega
  have e2 : allIn 0 2000 [(from' : Int)] = true := by unfold allIn inB; simp; omega
  rw [e1] at s1
  rw [e2] at s2
  have g1 := sGoes c hh start from' h0 (by omega) hf 16 (fun s => s.2) ⟨by kernel_rfl⟩ sHigh (fun j => by have := use_ok hh j; omega)
  have g2 := sGoes c hh start from' h0 (by omega) hf 17 (fun s => s.1) ⟨by kernel_rfl⟩ sLow (fun j => by have := use_ok hh j; omega)
  generalize goN c.hours (fun s => s.2) start from' = a at *
  generalize goN c.hours (fun s => s.1) start from' = b at *
  (repeat' (first | ((first | with_reducible refine st_skip ?_ | with_reducible refine st_exit ?_); (try simp only [seqQ, blockQ, loopQ, forQ, whileQ, reduceIte, Nat.reduceEqDiff])) | (with_reducible refine st_ret ?_; ((try simp only [seqQ, blockQ, loopQ, forQ, whileQ]); first | (with_reducible refine retM_ret ?_) | refine retQ_ret ?_; simp)) | refine st_seq ?_ | refine st_block ?_ | ((with_reducible show (STri _ _ _ _ _) ∧ (STri _ _ _ _ _)); refine And.intro ?_ ?_) | ((first | refine st_reg ?_ | refine buildP_own ?_ | refine appP_own ?_ | refine callP_b (sk) rfl ?_ | refine callP_b (s1) rfl ?_ | refine callP_b (s2) rfl ?_ | refine callP_b (g1) rfl ?_ | refine callP_b (g2) rfl ?_) <;> (simp -dsimp; (repeat (simp -dsimp (disch := (first | omega | assumption | (refine Bool.eq_false_iff.1 ?_; assumption))) only [wrap_in, if_pos, if_neg]; (try simp -dsimp))))) | ((first | refine guardP_of (fun hc => ?_) (fun hc => ?_) | refine st_cond rfl (fun hc => ?_) (fun hc => ?_)) <;> (try simp only [lqA, lqB, lqC, lqD, lqE, lqF, lqG, lqH, lqI, lqJ, lqK, lqL, lqM, lqN, lqO] at hc) <;> (try (exfalso; first | omega | exact bool_tf hc (by assumption) | exact bool_ft hc (by assumption) | exact absurd (by assumption) hc)) <;> (first | with_reducible show STri _ _ _ _ _ _ | (simp -dsimp [hc]; (repeat (simp -dsimp (disch := (first | omega | assumption | (refine Bool.eq_false_iff.1 ?_; assumption))) only [wrap_in, if_pos, if_neg]; (try simp -dsimp [hc]))))))))
  all_goals exact .refl _
end Go.Proofs.Ytlodpljdhdhfmaa
/- Sets of small numbers as bits of an unsigned integer. -/
namespace Go.Proofs.Ytlodpljdhdhfmaa
open Go.RowKit
theorem shr_nat (a i : Nat) (hi : i ≤ 64) : shiftI false .u64 (a : Int) (i : Int) = some (.int .u64 ((a >>> i : Nat) : Int)) := by
  unfold shiftI
  rw [if_neg (by omega)]
  simp only [Bool.false_eq_true, if_false, Int.toNat_natCast]
  rw [Nat.min_eq_left (by exact hi), Nat.shiftRight_eq_div_pow]
  have e : (2 : Int) ^ i = ((2 ^ i : Nat) : Int) := by simp
  rw [e, Int.fdiv_eq_ediv_of_nonneg _ (Int.natCast_nonneg _)]
  rfl
theorem wrapU {n : Int} (h0 : 0 ≤ n) (h1 : n < 18446744073709551616) : IntKind.u64.wrap n = n := by
  simp [IntKind.wrap, IntKind.bits, IntKind.signed]
  omega
theorem shl_one (i : Nat) (hi : i < 64) : shiftI true .u64 1 (i : Int) = some (.int .u64 ((2 ^ i : Nat) : Int)) := by
  unfold shiftI
  rw [if_neg (by omega)]
  simp only [if_true, Int.toNat_natCast, Int.one_mul]
  rw [Nat.min_eq_left (by show i ≤ 64; omega)]
  have e : (2 : Int) ^ i = ((2 ^ i : Nat) : Int) := by simp
  have hp : 2 ^ i < 2 ^ 64 := Nat.pow_lt_pow_right (by omega) hi
  rw [e, wrapU (Int.natCast_nonneg _) (by omega)]
theorem and_one (a i : Nat) : IntKind.u64.wrap ((((a : Int) >>> i % 2 ^ IntKind.u64.bits).toNat &&& 1 % 2 ^ IntKind.u64.bits : Nat) : Int) = ((a >>> i % 2 : Nat) : Int) := by
  have e1 : ((a : Int) >>> i % 2 ^ IntKind.u64.bits).toNat = a >>> i % 2 ^ 64 := by
    show ((a : Int) >>> i % 2 ^ 64).toNat = a >>> i % 2 ^ 64
    have e2 : (a : Int) >>> i = ((a >>> i : Nat) : Int) := rfl
    rw [e2]
    generalize a >>> i = z at *
    omega
  rw [e1]
  have e3 : 1 % 2 ^ IntKind.u64.bits = 1 := rfl
  rw [e3, Nat.and_one_is_mod, wrapU (by omega) (by omega)]
  generalize a >>> i = z at *
  omega
theorem or_two {a i : Nat} (ha : a < 2 ^ 64) (hi : i < 64) : IntKind.u64.wrap ((a % 2 ^ IntKind.u64.bits ||| ((2 : Int) ^ i % 2 ^ IntKind.u64.bits).toNat : Nat) : Int) = ((a ||| 2 ^ i : Nat) : Int) := by
  have hp : 2 ^ i < 2 ^ 64 := Nat.pow_lt_pow_right (by omega) hi
  have e1 : ((2 : Int) ^ i % 2 ^ IntKind.u64.bits).toNat = 2 ^ i := by
    show ((2 : Int) ^ i % 2 ^ 64).toNat = 2 ^ i
    have e2 : (2 : Int) ^ i = ((2 ^ i : Nat) : Int) := by simp
    rw [e2]
    generalize 2 ^ i = z at *
    omega
  have e2 : a % 2 ^ IntKind.u64.bits = a := Nat.mod_eq_of_lt ha
  have h3 : a ||| 2 ^ i < 2 ^ 64 := Nat.or_lt_two_pow ha hp
  rw [e1, e2, wrapU (Int.natCast_nonneg _) (by omega)]
theorem bit_odd (a i : Nat) : (a >>> i % 2 = 1) = (a.testBit i = true) := by
  rw [Nat.testBit, Nat.shiftRight_eq_div_pow, bne_iff_ne, Nat.one_and_eq_mod_two]
  simp
theorem bitI (a i : Nat) : ((a : Int) >>> i % 2 = 0) = (a.testBit i = false) := by
  have e : (a : Int) >>> i = ((a >>> i : Nat) : Int) := rfl
  have := bit_odd a i
  rw [e]
  cases h : a.testBit i with
  | true => rw [h] at this; simp at this ⊢; omega
  | false => rw [h] at this; simp at this ⊢; omega
theorem or_self {a i : Nat} (h : a.testBit i = true) : a ||| 2 ^ i = a := by
  apply Nat.eq_of_testBit_eq
  intro j
  rw [Nat.testBit_or, Nat.testBit_two_pow]
  by_cases e : i = j
  · subst e; simp [h]
  · simp [e]
end Go.Proofs.Ytlodpljdhdhfmaa
/- Wire, VII: notes that are right; sets of sources that are wrong. -/
namespace Go.Proofs.Ytlodpljdhdhfmaa
open Go.RowKit
structure BkOK (b : Wbk) : Prop where
  len : b.srcs.length ≤ 10
  el : b.errs.length = b.srcs.length
  va : ∀ s ∈ b.srcs, validV s = true
  er : ∀ e ∈ b.errs, -20000 ≤ e.1 ∧ e.1 ≤ 20000 ∧ -20000 ≤ e.2 ∧ e.2 ≤ 20000
  nl : b.notes.length ≤ 60
  no : ∀ n ∈ b.notes, 0 ≤ n.src ∧ n.src < b.srcs.length ∧ 0 ≤ n.tick ∧ n.tick ≤ 3155760000 ∧ 0 ≤ n.said ∧ n.said ≤ 3155760000
  n0 : -7200 ≤ b.nlo
  n1 : b.nlo ≤ b.nhi
  n2 : b.nhi ≤ 7200
def noSrc : Wsrc := ⟨0, 0, 0, 0, 0, 0, 0, []⟩
def rightN (b : Wbk) (n : Wnt) (y : Int) : Bool :=
  within1 0 3155760000 (n.tick + y) && rightB (b.srcs.getD n.src.toNat noSrc) (n.tick + y) n.said (b.errs.getD n.src.toNat (0, 0)).1 (b.errs.getD n.src.toNat (0, 0)).2
theorem sIsRight (b : Wbk) (hb : BkOK b) (n : Wnt) (hn : n ∈ b.notes) (y : Int) (y0 : -7200 ≤ y) (y1 : y ≤ 7200) : SC Try.prog 54 [cBk b, cN n, I y] (B (rightN b n y)) := by
  refine law_wire_book_isRight _ _ (by simp) ?_
  obtain ⟨n1, n2, n3, n4, n5, n6⟩ := hb.no n hn
  have hs : n.src.toNat < b.srcs.length := by omega
  have he : n.src.toNat < b.errs.length := by rw [hb.el]; omega
  have hE := hb.er _ (List.getElem_mem he)
  have hv := hb.va _ (List.getElem_mem hs)
  have e1 : b.srcs.getD n.src.toNat noSrc = b.srcs[n.src.toNat] := by simp [hs]
  have e2 : b.errs.getD n.src.toNat (0, 0) = b.errs[n.src.toNat] := by simp [he]
  unfold rightN
  rw [e1, e2]
  have s1 := sWithinW 0 3155760000 [n.tick + y] (by simp)
  rw [allIn_one] at s1
  unfold validV at hv
  rw [Bool.and_eq_true] at hv
  have hk : kindOK (b.srcs[n.src.toNat]).kind = true := by
    have := hv.1
    unfold baseV at this
    simp at this; exact this.1
  by_cases hw : within1 0 3155760000 (n.tick + y) = true
  · rw [hw] at s1 ⊢
    have hw' : 0 ≤ n.tick + y ∧ n.tick + y ≤ 3155760000 := by unfold within1 at hw; simp at hw; exact hw
    have hm := mRight _ hk hv.2 (n.tick + y) n.said (b.errs[n.src.toNat]).1 (b.errs[n.src.toNat]).2 hw'.1 ⟨by omega, by omega, by omega, by omega, by omega, by omega, by omega, by omega⟩
    (repeat' (first | ((first | with_reducible refine st_skip ?_ | with_reducible refine st_exit ?_); (try simp only [seqQ, blockQ, loopQ, forQ, whileQ, reduceIte, Nat.reduceEqDiff])) | (with_reducible refine st_ret ?_; ((try simp only [seqQ, blockQ, loopQ, forQ, whileQ]); first | (with_reducible refine retM_ret ?_) | refine retQ_ret ?_; simp [hs, he, n1])) | refine st_seq ?_ | refine st_block ?_ | ((with_reducible show (STri _ _ _ _ _) ∧ (STri _ _ _ _ _)); refine And.intro ?_ ?_) | ((first | refine st_reg ?_ | refine buildP_own ?_ | refine appP_own ?_ | ((with_reducible show callIP _ _ _ _ _ _ _); refine callI_m (hm) rfl ?_) | refine callP_b (s1) rfl ?_) <;> (simp -dsimp [hs, he, n1]; (repeat (simp -dsimp (disch := (first | omega | assumption | (refine Bool.eq_false_iff.1 ?_; assumption))) only [wrap_in, if_pos, if_neg]; (try simp -dsimp [hs, he, n1]))))) | ((first | refine guardP_of (fun hc => ?_) (fun hc => ?_) | refine st_cond rfl (fun hc => ?_) (fun hc => ?_)) <;> (try simp only [lqA, lqB, lqC, lqD, lqE, lqF, lqG, lqH, lqI, lqJ, lqK, lqL, lqM, lqN, lqO] at hc) <;> (try (exfalso; first | omega | exact bool_tf hc (by assumption) | exact bool_ft hc (by assumption) | exact absurd (by assumption) hc)) <;> (first | with_reducible show STri _ _ _ _ _ _ | (simp -dsimp [hs, he, n1, hc]; (repeat (simp -dsimp (disch := (first | omega | assumption | (refine Bool.eq_false_iff.1 ?_; assumption))) only [wrap_in, if_pos, if_neg]; (try simp -dsimp [hs, he, n1, hc]))))))))
    exact .refl _
  · rw [Bool.not_eq_true] at hw
    rw [hw] at s1 ⊢
    (repeat' (first | ((first | with_reducible refine st_skip ?_ | with_reducible refine st_exit ?_); (try simp only [seqQ, blockQ, loopQ, forQ, whileQ, reduceIte, Nat.reduceEqDiff])) | (with_reducible refine st_ret ?_; ((try simp only [seqQ, blockQ, loopQ, forQ, whileQ]); first | (with_reducible refine retM_ret ?_) | refine retQ_ret ?_; simp [hs, he, n1])) | refine st_seq ?_ | refine st_block ?_ | ((with_reducible show (STri _ _ _ _ _) ∧ (STri _ _ _ _ _)); refine And.intro ?_ ?_) | ((first | refine st_reg ?_ | refine buildP_own ?_ | refine appP_own ?_ | refine callP_b (s1) rfl ?_) <;> (simp -dsimp [hs, he, n1]; (repeat (simp -dsimp (disch := (first | omega | assumption | (refine Bool.eq_false_iff.1 ?_; assumption))) only [wrap_in, if_pos, if_neg]; (try simp -dsimp [hs, he, n1]))))) | ((first | refine guardP_of (fun hc => ?_) (fun hc => ?_) | refine st_cond rfl (fun hc => ?_) (fun hc => ?_)) <;> (try simp only [lqA, lqB, lqC, lqD, lqE, lqF, lqG, lqH, lqI, lqJ, lqK, lqL, lqM, lqN, lqO] at hc) <;> (try (exfalso; first | omega | exact bool_tf hc (by assumption) | exact bool_ft hc (by assumption) | exact absurd (by assumption) hc)) <;> (first | with_reducible show STri _ _ _ _ _ _ | (simp -dsimp [hs, he, n1, hc]; (repeat (simp -dsimp (disch := (first | omega | assumption | (refine Bool.eq_false_iff.1 ?_; assumption))) only [wrap_in, if_pos, if_neg]; (try simp -dsimp [hs, he, n1, hc]))))))))
    exact .refl _
def wrongTo (b : Wbk) (y : Int) (k : Nat) : Nat := (b.notes.take k).foldl (fun a n => if rightN b n y = true then a else a ||| 2 ^ n.src.toNat) 0
def wrongN (b : Wbk) (y : Int) : Nat := wrongTo b y b.notes.length
theorem wrongTo_succ {b : Wbk} {y : Int} {k : Nat} (hlt : k < b.notes.length) : wrongTo b y (k + 1) = if rightN b b.notes[k] y = true then wrongTo b y k else wrongTo b y k ||| 2 ^ (b.notes[k]).src.toNat := by
  unfold wrongTo
  rw [List.take_succ_eq_append_getElem hlt, List.foldl_append]
  rfl
def wrongB (b : Wbk) (y : Int) (k i : Nat) : Bool := (b.notes.take k).any fun n => decide (n.src.toNat = i) && !rightN b n y
theorem wrongTo_bit (b : Wbk) (y : Int) (k i : Nat) (hk : k ≤ b.notes.length) : (wrongTo b y k).testBit i = wrongB b y k i := by
  induction k with
  | zero => simp [wrongTo, wrongB]
  | succ k ih =>
    have hlt : k < b.notes.length := by omega
    have e : wrongB b y (k + 1) i = (wrongB b y k i || (decide ((b.notes[k]).src.toNat = i) && !rightN b b.notes[k] y)) := by
      unfold wrongB
      rw [List.take_succ_eq_append_getElem hlt, List.any_append]
      simp
    rw [wrongTo_succ hlt, e, ← ih (by omega)]
    by_cases hr : rightN b b.notes[k] y = true
    · rw [if_pos hr]; simp [hr]
    · rw [if_neg hr, Nat.testBit_or, Nat.testBit_two_pow]
      simp [hr]
theorem wrongTo_lt {b : Wbk} (hb : BkOK b) (y : Int) (k : Nat) (hk : k ≤ b.notes.length) : wrongTo b y k < 2 ^ b.srcs.length := by
  apply Nat.lt_pow_two_of_testBit
  intro i hi
  rw [wrongTo_bit b y k i hk]
  unfold wrongB
  rw [List.any_eq_false]
  intro n hn
  have := hb.no n (List.mem_of_mem_take hn)
  have : ¬ n.src.toNat = i := by omega
  simp [this]
theorem sWrong (b : Wbk) (hb : BkOK b) (y : Int) (y0 : -7200 ≤ y) (y1 : y ≤ 7200) : SC Try.prog 43 [cBk b, I y] (.val (.int .u64 (wrongN b y))) := by
  refine law_wire_book_wrong _ _ (by simp) ?_
  have hl := hb.nl
  (repeat' (first | ((first | with_reducible refine st_skip ?_ | with_reducible refine st_exit ?_); (try simp only [seqQ, blockQ, loopQ, forQ, whileQ, reduceIte, Nat.reduceEqDiff])) | (with_reducible refine st_ret ?_; ((try simp only [seqQ, blockQ, loopQ, forQ, whileQ]); first | (with_reducible refine retM_ret ?_) | refine retQ_ret ?_; simp)) | refine st_seq ?_ | refine st_block ?_ | ((with_reducible show (STri _ _ _ _ _) ∧ (STri _ _ _ _ _)); refine And.intro ?_ ?_) | ((first | refine st_reg ?_ | refine buildP_own ?_ | refine appP_own ?_) <;> (simp -dsimp; (repeat (simp -dsimp (disch := (first | omega | assumption | (refine Bool.eq_false_iff.1 ?_; assumption))) only [wrap_in, if_pos, if_neg]; (try simp -dsimp))))) | ((first | refine guardP_of (fun hc => ?_) (fun hc => ?_) | refine st_cond rfl (fun hc => ?_) (fun hc => ?_)) <;> (try simp only [lqA, lqB, lqC, lqD, lqE, lqF, lqG, lqH, lqI, lqJ, lqK, lqL, lqM, lqN, lqO] at hc) <;> (try (exfalso; first | omega | exact bool_tf hc (by assumption) | exact bool_ft hc (by assumption) | exact absurd (by assumption) hc)) <;> (first | with_reducible show STri _ _ _ _ _ _ | (simp -dsimp [hc]; (repeat (simp -dsimp (disch := (first | omega | assumption | (refine Bool.eq_false_iff.1 ?_; assumption))) only [wrap_in, if_pos, if_neg]; (try simp -dsimp [hc]))))))))
  refine st_for [2] b.notes.length (fun k T H => T = [(1, .c (I y)), (2, .ptr 2 0), (4, .c (.val (.int .u64 (wrongTo b y k)))), (8, .c (slN b.notes)), (9, .c (I b.notes.length)), (10, .c (I k))] ∧ H = [(2, .box 60 ((rowBk b).map .c))]) (by simp) ⟨by simp [wrongTo], by simp⟩ ?_
  rintro k T H hk ⟨rfl, rfl⟩
  by_cases hlt : k < b.notes.length
  · have sr := sIsRight b hb b.notes[k] (List.getElem_mem hlt) y y0 y1
    obtain ⟨n1, n2, n3, n4, n5, n6⟩ := hb.no b.notes[k] (List.getElem_mem hlt)
    have hws := wrongTo_succ (y := y) hlt
    obtain ⟨i, hi⟩ : ∃ i : Nat, (b.notes[k]).src = i := ⟨(b.notes[k]).src.toNat, by omega⟩
    have hi2 : i ≤ 64 := by have := hb.len; omega
    have f1 := shr_nat (wrongTo b y k) i hi2
    simp only [cN, rowN, hi] at sr
    have ha : wrongTo b y k < 2 ^ 64 := Nat.lt_of_lt_of_le (wrongTo_lt hb y k hk) (Nat.pow_le_pow_right (by omega) (by have := hb.len; omega))
    have f3 := and_one (wrongTo b y k) i
    have f2 := shl_one i (by have := hb.len; omega)
    (repeat' (first | ((first | with_reducible refine st_skip ?_ | with_reducible refine st_exit ?_); (try simp only [seqQ, blockQ, loopQ, forQ, whileQ, reduceIte, Nat.reduceEqDiff])) | (with_reducible refine st_ret ?_; ((try simp only [seqQ, blockQ, loopQ, forQ, whileQ]); first | (with_reducible refine retM_ret ?_) | refine retQ_ret ?_; simp [hlt, hi, f1, f2, f3])) | refine st_seq ?_ | refine st_block ?_ | ((with_reducible show (STri _ _ _ _ _) ∧ (STri _ _ _ _ _)); refine And.intro ?_ ?_) | ((first | refine st_reg ?_ | refine buildP_own ?_ | refine appP_own ?_ | refine callP_b (sr) rfl ?_) <;> (simp -dsimp [hlt, hi, f1, f2, f3]; (repeat (simp -dsimp (disch := (first | omega | assumption | (refine Bool.eq_false_iff.1 ?_; assumption))) only [wrap_in, if_pos, if_neg]; (try simp -dsimp [hlt, hi, f1, f2, f3]))))) | ((first | refine guardP_of (fun hc => ?_) (fun hc => ?_) | refine st_cond rfl (fun hc => ?_) (fun hc => ?_)) <;> (try simp only [lqA, lqB, lqC, lqD, lqE, lqF, lqG, lqH, lqI, lqJ, lqK, lqL, lqM, lqN, lqO] at hc) <;> (try (exfalso; first | omega | exact bool_tf hc (by assumption) | exact bool_ft hc (by assumption) | exact absurd (by assumption) hc)) <;> (first | with_reducible show STri _ _ _ _ _ _ | (simp -dsimp [hlt, hi, f1, f2, f3, hc]; (repeat (simp -dsimp (disch := (first | omega | assumption | (refine Bool.eq_false_iff.1 ?_; assumption))) only [wrap_in, if_pos, if_neg]; (try simp -dsimp [hlt, hi, f1, f2, f3, hc]))))))))
    · rw [hi, Int.toNat_natCast, if_neg (by rw [hc]; decide)] at hws
      have hi3 : i < 64 := by have := hb.len; omega
      refine ⟨hlt, by simp, ?_, by simp⟩
      rw [or_two ha hi3, hws]
      simp
    · rw [if_pos hc] at hws
      exact ⟨hlt, by simp, by rw [hws]; simp, by simp⟩
    · rename_i h0 _ _ _ _
      rw [bitI, Bool.not_eq_false] at h0
      rw [hi, Int.toNat_natCast, or_self h0] at hws
      refine ⟨hlt, by simp, ?_, by simp⟩
      rw [hws]
      simp
  · (repeat' (first | ((first | with_reducible refine st_skip ?_ | with_reducible refine st_exit ?_); (try simp only [seqQ, blockQ, loopQ, forQ, whileQ, reduceIte, Nat.reduceEqDiff])) | (with_reducible refine st_ret ?_; ((try simp only [seqQ, blockQ, loopQ, forQ, whileQ]); first | (with_reducible refine retM_ret ?_) | refine retQ_ret ?_; simp [hlt])) | refine st_seq ?_ | refine st_block ?_ | ((with_reducible show (STri _ _ _ _ _) ∧ (STri _ _ _ _ _)); refine And.intro ?_ ?_) | ((first | refine st_reg ?_ | refine buildP_own ?_ | refine appP_own ?_) <;> (simp -dsimp [hlt]; (repeat (simp -dsimp (disch := (first | omega | assumption | (refine Bool.eq_false_iff.1 ?_; assumption))) only [wrap_in, if_pos, if_neg]; (try simp -dsimp [hlt]))))) | ((first | refine guardP_of (fun hc => ?_) (fun hc => ?_) | refine st_cond rfl (fun hc => ?_) (fun hc => ?_)) <;> (try simp only [lqA, lqB, lqC, lqD, lqE, lqF, lqG, lqH, lqI, lqJ, lqK, lqL, lqM, lqN, lqO] at hc) <;> (try (exfalso; first | omega | exact bool_tf hc (by assumption) | exact bool_ft hc (by assumption) | exact absurd (by assumption) hc)) <;> (first | with_reducible show STri _ _ _ _ _ _ | (simp -dsimp [hlt, hc]; (repeat (simp -dsimp (disch := (first | omega | assumption | (refine Bool.eq_false_iff.1 ?_; assumption))) only [wrap_in, if_pos, if_neg]; (try simp -dsimp [hlt, hc]))))))))
    have : k = b.notes.length := by omega
    subst this
    exact .refl _
end Go.Proofs.Ytlodpljdhdhfmaa
/- The shadow code of functions, as the kit's translation has them. -/
namespace Go.Proofs.Ytlodpljdhdhfmaa
open Go.RowKit
def len8s : ByteArray := ⟨#[0, 1, 2, 2, 3, 3, 3, 3, 4, 4, 4, 4, 4, 4, 4, 4, 5, 5, 5, 5, 5, 5, 5, 5, 5, 5, 5, 5, 5, 5, 5, 5, 6, 6, 6, 6, 6, 6, 6, 6, 6, 6, 6, 6, 6, 6, 6, 6, 6, 6, 6, 6, 6, 6, 6, 6, 6, 6, 6, 6, 6, 6, 6, 6, 7, 7, 7, 7, 7, 7, 7, 7, 7, 7, 7, 7, 7, 7, 7, 7, 7, 7, 7, 7, 7, 7, 7, 7, 7, 7, 7, 7, 7, 7, 7, 7, 7, 7, 7, 7, 7, 7, 7, 7, 7, 7, 7, 7, 7, 7, 7, 7, 7, 7, 7, 7, 7, 7, 7, 7, 7, 7, 7, 7, 7, 7, 7, 7, 8, 8, 8, 8, 8, 8, 8, 8, 8, 8, 8, 8, 8, 8, 8, 8, 8, 8, 8, 8, 8, 8, 8, 8, 8, 8, 8, 8, 8, 8, 8, 8, 8, 8, 8, 8, 8, 8, 8, 8, 8, 8, 8, 8, 8, 8, 8, 8, 8, 8, 8, 8, 8, 8, 8, 8, 8, 8, 8, 8, 8, 8, 8, 8, 8, 8, 8, 8, 8, 8, 8, 8, 8, 8, 8, 8, 8, 8, 8, 8, 8, 8, 8, 8, 8, 8, 8, 8, 8, 8, 8, 8, 8, 8, 8, 8, 8, 8, 8, 8, 8, 8, 8, 8, 8, 8, 8, 8, 8, 8, 8, 8, 8, 8, 8, 8, 8, 8, 8, 8, 8, 8, 8, 8, 8, 8, 8, 8]⟩
def k53_0 : SCode := .reg [⟨some 2, none, .mov (.const (.int .i64 0)), [], false⟩] [0]
def k53_1 : SCode := .reg [⟨some 3, none, .mov (.tmp 0), [], false⟩, ⟨some 4, none, .conv .u32 (.tmp 3), [], false⟩, ⟨some 5, none, .call 44 [(.tmp 4)], [], false⟩, ⟨some 2, none, .mov (.tmp 5), [], false⟩] [2]
def k53_2 : SCode := .seq k53_1 .ret
def k53_3 : SCode := .cond (.const (.bool false)) k53_2 .skip
def k53_4 : SCode := .reg [⟨some 6, none, .mov (.tmp 0), [], false⟩, ⟨some 7, none, .call 45 [(.tmp 6)], [], false⟩, ⟨some 2, none, .mov (.tmp 7), [], false⟩] [2]
def k53_5 : SCode := .seq k53_4 .ret
def k53_6 : SCode := .seq k53_3 k53_5
def k53_7 : SCode := .seq k53_0 k53_6
@[simp] def rs_math_bits_OnesCount : List SRes := [.tmp 2]
theorem law_math_bits_OnesCount (cs : List CV) (r : CV) (hl : cs.length ≤ 8) (h : STri (cfF Try.prog [] 8) k53_7 (initT 0 cs) [] (retQ rs_math_bits_OnesCount r)) : SC Try.prog 33 cs r :=
  sc_of [] follows Try.func33 rfl Try.ntmps33 (by decide) (by kernel_rfl) (by kernel_rfl) hl h
def k54_0 : SCode := .reg [⟨some 2, none, .mov (.const (.int .i64 0)), [], false⟩] [0]
def k54_1 : SCode := .reg [⟨some 3, none, .mov (.tmp 0), [], false⟩, ⟨some 4, none, .shift false (.tmp 3) (.const (.int .u64 1)), [], false⟩, ⟨some 5, none, .bin .and (.tmp 4) (.const (.int .u64 6148914691236517205)), [], false⟩, ⟨some 6, none, .mov (.tmp 0), [], false⟩, ⟨some 7, none, .bin .and (.tmp 6) (.const (.int .u64 6148914691236517205)), [], false⟩, ⟨some 8, none, .bin .add (.tmp 5) (.tmp 7), [], false⟩, ⟨some 0, none, .mov (.tmp 8), [], false⟩] [0]
def k54_2 : SCode := .reg [⟨some 9, none, .mov (.tmp 0), [], false⟩, ⟨some 10, none, .shift false (.tmp 9) (.const (.int .u64 2)), [], false⟩, ⟨some 11, none, .bin .and (.tmp 10) (.const (.int .u64 3689348814741910323)), [], false⟩, ⟨some 12, none, .mov (.tmp 0), [], false⟩, ⟨some 13, none, .bin .and (.tmp 12) (.const (.int .u64 3689348814741910323)), [], false⟩, ⟨some 14, none, .bin .add (.tmp 11) (.tmp 13), [], false⟩, ⟨some 0, none, .mov (.tmp 14), [], false⟩] [0]
def k54_3 : SCode := .reg [⟨some 15, none, .mov (.tmp 0), [], false⟩, ⟨some 16, none, .shift false (.tmp 15) (.const (.int .u64 4)), [], false⟩, ⟨some 17, none, .mov (.tmp 0), [], false⟩, ⟨some 18, none, .bin .add (.tmp 16) (.tmp 17), [], false⟩, ⟨some 19, none, .bin .and (.tmp 18) (.const (.int .u64 1085102592571150095)), [], false⟩, ⟨some 0, none, .mov (.tmp 19), [], false⟩] [0]
def k54_4 : SCode := .reg [⟨some 20, none, .mov (.tmp 0), [], false⟩, ⟨some 21, none, .mov (.tmp 0), [], false⟩, ⟨some 22, none, .shift false (.tmp 21) (.const (.int .u64 8)), [], false⟩, ⟨some 23, none, .bin .add (.tmp 20) (.tmp 22), [], false⟩, ⟨some 0, none, .mov (.tmp 23), [], false⟩] [0]
def k54_5 : SCode := .reg [⟨some 24, none, .mov (.tmp 0), [], false⟩, ⟨some 25, none, .mov (.tmp 0), [], false⟩, ⟨some 26, none, .shift false (.tmp 25) (.const (.int .u64 16)), [], false⟩, ⟨some 27, none, .bin .add (.tmp 24) (.tmp 26), [], false⟩, ⟨some 0, none, .mov (.tmp 27), [], false⟩] [0]
def k54_6 : SCode := .reg [⟨some 28, none, .mov (.tmp 0), [], false⟩, ⟨some 29, none, .mov (.tmp 0), [], false⟩, ⟨some 30, none, .shift false (.tmp 29) (.const (.int .u64 32)), [], false⟩, ⟨some 31, none, .bin .add (.tmp 28) (.tmp 30), [], false⟩, ⟨some 0, none, .mov (.tmp 31), [], false⟩] [0]
def k54_7 : SCode := .reg [⟨some 32, none, .mov (.tmp 0), [], false⟩, ⟨some 33, none, .conv .i64 (.tmp 32), [], false⟩, ⟨some 34, none, .bin .and (.tmp 33) (.const (.int .i64 127)), [], false⟩, ⟨some 2, none, .mov (.tmp 34), [], false⟩] [2]
def k54_8 : SCode := .seq k54_7 .ret
def k54_9 : SCode := .seq k54_6 k54_8
def k54_10 : SCode := .seq k54_5 k54_9
def k54_11 : SCode := .seq k54_4 k54_10
def k54_12 : SCode := .seq k54_3 k54_11
def k54_13 : SCode := .seq k54_2 k54_12
def k54_14 : SCode := .seq k54_1 k54_13
def k54_15 : SCode := .seq k54_0 k54_14
@[simp] def rs_math_bits_OnesCount64 : List SRes := [.tmp 2]
theorem law_math_bits_OnesCount64 (cs : List CV) (r : CV) (hl : cs.length ≤ 35) (h : STri (cfF Try.prog [] 35) k54_15 (initT 0 cs) [] (retQ rs_math_bits_OnesCount64 r)) : SC Try.prog 45 cs r :=
  sc_of [] follows Try.func45 rfl Try.ntmps45 (by decide) (by kernel_rfl) (by kernel_rfl) hl h
def k55_0 : SCode := .reg [⟨some 2, none, .mov (.const (.int .i64 0)), [], false⟩] [0]
def k55_1 : SCode := .reg [⟨some 3, none, .mov (.tmp 0), [], false⟩, ⟨some 4, none, .conv .u32 (.tmp 3), [], false⟩, ⟨some 5, none, .call 55 [(.tmp 4)], [], false⟩, ⟨some 2, none, .mov (.tmp 5), [], false⟩] [2]
def k55_2 : SCode := .seq k55_1 .ret
def k55_3 : SCode := .cond (.const (.bool false)) k55_2 .skip
def k55_4 : SCode := .reg [⟨some 6, none, .mov (.tmp 0), [], false⟩, ⟨some 7, none, .call 56 [(.tmp 6)], [], false⟩, ⟨some 2, none, .mov (.tmp 7), [], false⟩] [2]
def k55_5 : SCode := .seq k55_4 .ret
def k55_6 : SCode := .seq k55_3 k55_5
def k55_7 : SCode := .seq k55_0 k55_6
@[simp] def rs_math_bits_Len : List SRes := [.tmp 2]
theorem law_math_bits_Len (cs : List CV) (r : CV) (hl : cs.length ≤ 8) (h : STri (cfF Try.prog [] 8) k55_7 (initT 0 cs) [] (retQ rs_math_bits_Len r)) : SC Try.prog 46 cs r :=
  sc_of [] follows Try.func46 rfl Try.ntmps46 (by decide) (by kernel_rfl) (by kernel_rfl) hl h
def k56_0 : SCode := .reg [⟨some 2, none, .mov (.const (.int .i64 0)), [], false⟩] [0, 2]
def k56_1 : SCode := .reg [⟨some 3, none, .mov (.tmp 0), [], false⟩, ⟨some 4, none, .bin .geq (.tmp 3) (.const (.int .u64 4294967296)), [], false⟩] [0, 2, 4]
def k56_2 : SCode := .reg [⟨some 5, none, .mov (.tmp 0), [], false⟩, ⟨some 6, none, .shift false (.tmp 5) (.const (.int .u64 32)), [], false⟩, ⟨some 0, none, .mov (.tmp 6), [], false⟩] [0]
def k56_3 : SCode := .reg [⟨some 2, none, .mov (.const (.int .i64 32)), [], false⟩] [0, 2]
def k56_4 : SCode := .seq k56_2 k56_3
def k56_5 : SCode := .cond (.tmp 4) k56_4 .skip
def k56_6 : SCode := .seq k56_1 k56_5
def k56_7 : SCode := .reg [⟨some 7, none, .mov (.tmp 0), [], false⟩, ⟨some 8, none, .bin .geq (.tmp 7) (.const (.int .u64 65536)), [], false⟩] [0, 2, 8]
def k56_8 : SCode := .reg [⟨some 9, none, .mov (.tmp 0), [], false⟩, ⟨some 10, none, .shift false (.tmp 9) (.const (.int .u64 16)), [], false⟩, ⟨some 0, none, .mov (.tmp 10), [], false⟩] [0, 2]
def k56_9 : SCode := .reg [⟨some 11, none, .mov (.tmp 2), [], false⟩, ⟨some 12, none, .bin .add (.tmp 11) (.const (.int .i64 16)), [], false⟩, ⟨some 2, none, .mov (.tmp 12), [], false⟩] [0, 2]
def k56_10 : SCode := .seq k56_8 k56_9
def k56_11 : SCode := .cond (.tmp 8) k56_10 .skip
def k56_12 : SCode := .seq k56_7 k56_11
def k56_13 : SCode := .reg [⟨some 13, none, .mov (.tmp 0), [], false⟩, ⟨some 14, none, .bin .geq (.tmp 13) (.const (.int .u64 256)), [], false⟩] [0, 2, 14]
def k56_14 : SCode := .reg [⟨some 15, none, .mov (.tmp 0), [], false⟩, ⟨some 16, none, .shift false (.tmp 15) (.const (.int .u64 8)), [], false⟩, ⟨some 0, none, .mov (.tmp 16), [], false⟩] [0, 2]
def k56_15 : SCode := .reg [⟨some 17, none, .mov (.tmp 2), [], false⟩, ⟨some 18, none, .bin .add (.tmp 17) (.const (.int .i64 8)), [], false⟩, ⟨some 2, none, .mov (.tmp 18), [], false⟩] [0, 2]
def k56_16 : SCode := .seq k56_14 k56_15
def k56_17 : SCode := .cond (.tmp 14) k56_16 .skip
def k56_18 : SCode := .seq k56_13 k56_17
def k56_19 : SCode := .reg [⟨some 19, none, .mov (.tmp 2), [], false⟩, ⟨some 20, none, .mov (.tmp 0), [], false⟩, ⟨some 21, none, .conv .u8 (.tmp 20), [], false⟩, ⟨some 22, none, .strAt (.const (.string len8s)) (.tmp 21), [], false⟩, ⟨some 23, none, .conv .i64 (.tmp 22), [], false⟩, ⟨some 24, none, .bin .add (.tmp 19) (.tmp 23), [], false⟩, ⟨some 2, none, .mov (.tmp 24), [], false⟩] [2]
def k56_20 : SCode := .seq k56_19 .ret
def k56_21 : SCode := .seq k56_18 k56_20
def k56_22 : SCode := .seq k56_12 k56_21
def k56_23 : SCode := .seq k56_6 k56_22
def k56_24 : SCode := .seq k56_0 k56_23
@[simp] def rs_math_bits_Len64 : List SRes := [.tmp 2]
theorem law_math_bits_Len64 (cs : List CV) (r : CV) (hl : cs.length ≤ 25) (h : STri (cfF Try.prog [] 25) k56_24 (initT 0 cs) [] (retQ rs_math_bits_Len64 r)) : SC Try.prog 56 cs r :=
  sc_of [] follows Try.func56 rfl Try.ntmps56 (by decide) (by kernel_rfl) (by kernel_rfl) hl h
end Go.Proofs.Ytlodpljdhdhfmaa
/- Counts of bits. -/
namespace Go.Proofs.Ytlodpljdhdhfmaa
open Go.RowKit
def U (n : Nat) : CV := .val (.int .u64 n)
attribute [simp] U
def popN (x : Nat) : Nat := ((List.range 10).filter fun i => x.testBit i).length
def lenN (x : Nat) : Nat := if x = 0 then 0 else x.log2 + 1
theorem sOnes64 (x : Nat) (hx : x < 1024) : SC Try.prog 45 [U x] (I (popN x)) := by
  refine law_math_bits_OnesCount64 _ _ (by simp) ?_
  (repeat' (first | ((first | with_reducible refine st_skip ?_ | with_reducible refine st_exit ?_); (try simp only [seqQ, blockQ, loopQ, forQ, whileQ, reduceIte, Nat.reduceEqDiff])) | (with_reducible refine st_ret ?_; ((try simp only [seqQ, blockQ, loopQ, forQ, whileQ]); first | (with_reducible refine retM_ret ?_) | refine retQ_ret ?_; simp [shiftI])) | refine st_seq ?_ | refine st_block ?_ | ((with_reducible show (STri _ _ _ _ _) ∧ (STri _ _ _ _ _)); refine And.intro ?_ ?_) | ((first | refine st_reg ?_ | refine buildP_own ?_ | refine appP_own ?_) <;> (simp -dsimp [shiftI]; (repeat (simp -dsimp (disch := (first | omega | assumption | (refine Bool.eq_false_iff.1 ?_; assumption))) only [wrap_in, if_pos, if_neg]; (try simp -dsimp [shiftI]))))) | ((first | refine guardP_of (fun hc => ?_) (fun hc => ?_) | refine st_cond rfl (fun hc => ?_) (fun hc => ?_)) <;> (try simp only [lqA, lqB, lqC, lqD, lqE, lqF, lqG, lqH, lqI, lqJ, lqK, lqL, lqM, lqN, lqO] at hc) <;> (try (exfalso; first | omega | exact bool_tf hc (by assumption) | exact bool_ft hc (by assumption) | exact absurd (by assumption) hc)) <;> (first | with_reducible show STri _ _ _ _ _ _ | (simp -dsimp [shiftI, hc]; (repeat (simp -dsimp (disch := (first | omega | assumption | (refine Bool.eq_false_iff.1 ?_; assumption))) only [wrap_in, if_pos, if_neg]; (try simp -dsimp [shiftI, hc]))))))))
  refine CLe.int ?_
  revert x
  decide +kernel
theorem sOnes (x : Nat) (hx : x < 1024) : SC Try.prog 33 [U x] (I (popN x)) := by
  refine law_math_bits_OnesCount _ _ (by simp) ?_
  (repeat' (first | ((first | with_reducible refine st_skip ?_ | with_reducible refine st_exit ?_); (try simp only [seqQ, blockQ, loopQ, forQ, whileQ, reduceIte, Nat.reduceEqDiff])) | (with_reducible refine st_ret ?_; ((try simp only [seqQ, blockQ, loopQ, forQ, whileQ]); first | (with_reducible refine retM_ret ?_) | refine retQ_ret ?_; simp)) | refine st_seq ?_ | refine st_block ?_ | ((with_reducible show (STri _ _ _ _ _) ∧ (STri _ _ _ _ _)); refine And.intro ?_ ?_) | ((first | refine st_reg ?_ | refine buildP_own ?_ | refine appP_own ?_ | refine callP_b (sOnes64 x hx) rfl ?_) <;> (simp -dsimp; (repeat (simp -dsimp (disch := (first | omega | assumption | (refine Bool.eq_false_iff.1 ?_; assumption))) only [wrap_in, if_pos, if_neg]; (try simp -dsimp))))) | ((first | refine guardP_of (fun hc => ?_) (fun hc => ?_) | refine st_cond rfl (fun hc => ?_) (fun hc => ?_)) <;> (try simp only [lqA, lqB, lqC, lqD, lqE, lqF, lqG, lqH, lqI, lqJ, lqK, lqL, lqM, lqN, lqO] at hc) <;> (try (exfalso; first | omega | exact bool_tf hc (by assumption) | exact bool_ft hc (by assumption) | exact absurd (by assumption) hc)) <;> (first | with_reducible show STri _ _ _ _ _ _ | (simp -dsimp [hc]; (repeat (simp -dsimp (disch := (first | omega | assumption | (refine Bool.eq_false_iff.1 ?_; assumption))) only [wrap_in, if_pos, if_neg]; (try simp -dsimp [hc]))))))))
  all_goals exact .refl _
theorem len8 : ∀ x : Nat, x < 256 → len8s[x]? = some (UInt8.ofNat (lenN x)) := by decide +kernel
theorem len_small : ∀ x : Nat, x < 256 → (lenN x : Int) = (UInt8.ofNat (lenN x)).toNat ∧ lenN x ≤ 8 := by decide +kernel
theorem len_shift : ∀ x : Nat, x < 1024 → 256 ≤ x → lenN x = 8 + lenN (x / 256) := by decide +kernel
theorem sLen64 (x : Nat) (hx : x < 1024) : SC Try.prog 56 [U x] (I (lenN x)) := by
  refine law_math_bits_Len64 _ _ (by simp) ?_
  by_cases h : 256 ≤ x
  · have hs := len_shift x hx h
    have hf : shiftI false .u64 (x : Int) 8 = some (.int .u64 ((x / 256 : Nat) : Int)) := by
      have := shr_nat x 8 (by omega)
      rwa [Nat.shiftRight_eq_div_pow] at this
    have hy : x / 256 < 256 := by omega
    generalize x / 256 = y at *
    have hg := len8 y hy
    obtain ⟨g1, g2⟩ := len_small y hy
    have hw : IntKind.u8.wrap (y : Int) = (y : Int) := by
      simp [IntKind.wrap, IntKind.bits, IntKind.signed]; omega
    have h2 : 256 ≤ (x : Int) := by omega
    clear g1
    rw [hs]
    (repeat' (first | ((first | with_reducible refine st_skip ?_ | with_reducible refine st_exit ?_); (try simp only [seqQ, blockQ, loopQ, forQ, whileQ, reduceIte, Nat.reduceEqDiff])) | (with_reducible refine st_ret ?_; ((try simp only [seqQ, blockQ, loopQ, forQ, whileQ]); first | (with_reducible refine retM_ret ?_) | refine retQ_ret ?_; simp [h2, hf, hw, hg])) | refine st_seq ?_ | refine st_block ?_ | ((with_reducible show (STri _ _ _ _ _) ∧ (STri _ _ _ _ _)); refine And.intro ?_ ?_) | ((first | refine st_reg ?_ | refine buildP_own ?_ | refine appP_own ?_) <;> (simp -dsimp [h2, hf, hw, hg]; (repeat (simp -dsimp (disch := (first | omega | assumption | (refine Bool.eq_false_iff.1 ?_; assumption))) only [wrap_in, if_pos, if_neg]; (try simp -dsimp [h2, hf, hw, hg]))))) | ((first | refine guardP_of (fun hc => ?_) (fun hc => ?_) | refine st_cond rfl (fun hc => ?_) (fun hc => ?_)) <;> (try simp only [lqA, lqB, lqC, lqD, lqE, lqF, lqG, lqH, lqI, lqJ, lqK, lqL, lqM, lqN, lqO] at hc) <;> (try (exfalso; first | omega | exact bool_tf hc (by assumption) | exact bool_ft hc (by assumption) | exact absurd (by assumption) hc)) <;> (first | with_reducible show STri _ _ _ _ _ _ | (simp -dsimp [h2, hf, hw, hg, hc]; (repeat (simp -dsimp (disch := (first | omega | assumption | (refine Bool.eq_false_iff.1 ?_; assumption))) only [wrap_in, if_pos, if_neg]; (try simp -dsimp [h2, hf, hw, hg, hc]))))))))
    all_goals (refine CLe.int ?_; omega)
  · have hg := len8 x (by omega)
    obtain ⟨g1, g2⟩ := len_small x (by omega)
    have hw : IntKind.u8.wrap (x : Int) = (x : Int) := by
      simp [IntKind.wrap, IntKind.bits, IntKind.signed]; omega
    (repeat' (first | ((first | with_reducible refine st_skip ?_ | with_reducible refine st_exit ?_); (try simp only [seqQ, blockQ, loopQ, forQ, whileQ, reduceIte, Nat.reduceEqDiff])) | (with_reducible refine st_ret ?_; ((try simp only [seqQ, blockQ, loopQ, forQ, whileQ]); first | (with_reducible refine retM_ret ?_) | refine retQ_ret ?_; simp [h, hw, hg])) | refine st_seq ?_ | refine st_block ?_ | ((with_reducible show (STri _ _ _ _ _) ∧ (STri _ _ _ _ _)); refine And.intro ?_ ?_) | ((first | refine st_reg ?_ | refine buildP_own ?_ | refine appP_own ?_) <;> (simp -dsimp [h, hw, hg]; (repeat (simp -dsimp (disch := (first | omega | assumption | (refine Bool.eq_false_iff.1 ?_; assumption))) only [wrap_in, if_pos, if_neg]; (try simp -dsimp [h, hw, hg]))))) | ((first | refine guardP_of (fun hc => ?_) (fun hc => ?_) | refine st_cond rfl (fun hc => ?_) (fun hc => ?_)) <;> (try simp only [lqA, lqB, lqC, lqD, lqE, lqF, lqG, lqH, lqI, lqJ, lqK, lqL, lqM, lqN, lqO] at hc) <;> (try (exfalso; first | omega | exact bool_tf hc (by assumption) | exact bool_ft hc (by assumption) | exact absurd (by assumption) hc)) <;> (first | with_reducible show STri _ _ _ _ _ _ | (simp -dsimp [h, hw, hg, hc]; (repeat (simp -dsimp (disch := (first | omega | assumption | (refine Bool.eq_false_iff.1 ?_; assumption))) only [wrap_in, if_pos, if_neg]; (try simp -dsimp [h, hw, hg, hc]))))))))
    all_goals (refine CLe.int ?_; omega)
theorem sLen (x : Nat) (hx : x < 1024) : SC Try.prog 46 [U x] (I (lenN x)) := by
  refine law_math_bits_Len _ _ (by simp) ?_
  (repeat' (first | ((first | with_reducible refine st_skip ?_ | with_reducible refine st_exit ?_); (try simp only [seqQ, blockQ, loopQ, forQ, whileQ, reduceIte, Nat.reduceEqDiff])) | (with_reducible refine st_ret ?_; ((try simp only [seqQ, blockQ, loopQ, forQ, whileQ]); first | (with_reducible refine retM_ret ?_) | refine retQ_ret ?_; simp)) | refine st_seq ?_ | refine st_block ?_ | ((with_reducible show (STri _ _ _ _ _) ∧ (STri _ _ _ _ _)); refine And.intro ?_ ?_) | ((first | refine st_reg ?_ | refine buildP_own ?_ | refine appP_own ?_ | refine callP_b (sLen64 x hx) rfl ?_) <;> (simp -dsimp; (repeat (simp -dsimp (disch := (first | omega | assumption | (refine Bool.eq_false_iff.1 ?_; assumption))) only [wrap_in, if_pos, if_neg]; (try simp -dsimp))))) | ((first | refine guardP_of (fun hc => ?_) (fun hc => ?_) | refine st_cond rfl (fun hc => ?_) (fun hc => ?_)) <;> (try simp only [lqA, lqB, lqC, lqD, lqE, lqF, lqG, lqH, lqI, lqJ, lqK, lqL, lqM, lqN, lqO] at hc) <;> (try (exfalso; first | omega | exact bool_tf hc (by assumption) | exact bool_ft hc (by assumption) | exact absurd (by assumption) hc)) <;> (first | with_reducible show STri _ _ _ _ _ _ | (simp -dsimp [hc]; (repeat (simp -dsimp (disch := (first | omega | assumption | (refine Bool.eq_false_iff.1 ?_; assumption))) only [wrap_in, if_pos, if_neg]; (try simp -dsimp [hc]))))))))
  all_goals exact .refl _
end Go.Proofs.Ytlodpljdhdhfmaa
/- Wire, VIII: all corrections; spans of them. -/
namespace Go.Proofs.Ytlodpljdhdhfmaa
open Go.RowKit
def bookN (b : Wbk) : Nat := (b.nhi + 1 - b.nlo).toNat
def allL (b : Wbk) : List (Int × Nat) := (List.range (bookN b)).map fun (k : Nat) => (b.nlo + k, wrongN b (b.nlo + k))
def rowA (x : Int × Nat) : List CV := [I x.1, U x.2]
theorem allL_get {b : Wbk} {k : Nat} (h : k < bookN b) : (allL b)[k]? = some (b.nlo + k, wrongN b (b.nlo + k)) := by simp [allL, h]
theorem allL_len (b : Wbk) : (allL b).length = bookN b := by simp [allL]
theorem iAll (b : Wbk) (hb : BkOK b) : IterL Try.prog 30 1000 [cBk b] [] ((allL b).map rowA) := by
  refine ilaw_wire_book_all 1000 _ _ _ (by omega) (by simp) (fun Iv A G id hG hY => ?_)
  have hlen : ((allL b).map rowA).length = bookN b := by simp [allL]
  have n0 := hb.n0
  have n1 := hb.n1
  have n2 := hb.n2
  have hN : (bookN b : Int) = b.nhi + 1 - b.nlo := by unfold bookN; omega
  (repeat' (first | ((first | with_reducible refine st_skip ?_ | with_reducible refine st_exit ?_); (try simp only [seqQ, blockQ, loopQ, forQ, whileQ, reduceIte, Nat.reduceEqDiff])) | (with_reducible refine st_ret ?_; ((try simp only [seqQ, blockQ, loopQ, forQ, whileQ]); first | (with_reducible refine retM_ret ?_) | refine retQ_ret ?_; simp)) | refine st_seq ?_ | refine st_block ?_ | ((with_reducible show (STri _ _ _ _ _) ∧ (STri _ _ _ _ _)); refine And.intro ?_ ?_) | ((first | refine st_reg ?_ | refine buildP_own ?_ | refine appP_own ?_) <;> (simp -dsimp; (repeat (simp -dsimp (disch := (first | omega | assumption | (refine Bool.eq_false_iff.1 ?_; assumption))) only [wrap_in, if_pos, if_neg]; (try simp -dsimp))))) | ((first | refine guardP_of (fun hc => ?_) (fun hc => ?_) | refine st_cond rfl (fun hc => ?_) (fun hc => ?_)) <;> (try simp only [lqA, lqB, lqC, lqD, lqE, lqF, lqG, lqH, lqI, lqJ, lqK, lqL, lqM, lqN, lqO] at hc) <;> (try (exfalso; first | omega | exact bool_tf hc (by assumption) | exact bool_ft hc (by assumption) | exact absurd (by assumption) hc)) <;> (first | with_reducible show STri _ _ _ _ _ _ | (simp -dsimp [hc]; (repeat (simp -dsimp (disch := (first | omega | assumption | (refine Bool.eq_false_iff.1 ?_; assumption))) only [wrap_in, if_pos, if_neg]; (try simp -dsimp [hc]))))))))
  refine st_for [1000001000, 1002] (bookN b) (fun k T H => T = [(1, .yl id), (2, .ptr 1002 0), (4, .c (I (b.nlo + k)))] ∧ H = [(1000001000, .gh k false), (1002, .box 60 ((rowBk b).map .c))]) (by simp) ⟨by simp, by simp⟩ ?_
  rintro k T H hk ⟨rfl, rfl⟩
  by_cases hlt : k < bookN b
  · have hle : b.nlo + k ≤ b.nhi := by omega
    have hrow : ((allL b).map rowA)[k]? = some [I (b.nlo + k), .val (.int .u64 (wrongN b (b.nlo + k)))] := by rw [List.getElem?_map, allL_get hlt]; rfl
    have sw := sWrong b hb (b.nlo + k) (by omega) (by omega)
    (repeat' (first | ((first | with_reducible refine st_skip ?_ | with_reducible refine st_exit ?_); (try simp only [seqQ, blockQ, loopQ, forQ, whileQ, reduceIte, Nat.reduceEqDiff])) | (with_reducible refine st_ret ?_; ((try simp only [seqQ, blockQ, loopQ, forQ, whileQ]); first | (with_reducible refine retM_ret ?_) | refine retQ_ret ?_; simp [hle])) | refine st_seq ?_ | refine st_block ?_ | ((with_reducible show (STri _ _ _ _ _) ∧ (STri _ _ _ _ _)); refine And.intro ?_ ?_) | ((first | refine st_reg ?_ | ((with_reducible show callVP _ _ _ _ _ _ _); refine callV_yl (hY k _ hrow) [] (by first | rfl | simp) (fun j hj => by cases hj) rfl ?_ ?_) | refine buildP_own ?_ | refine appP_own ?_ | refine callP_b (sw) rfl ?_) <;> (simp -dsimp [hle]; (repeat (simp -dsimp (disch := (first | omega | assumption | (refine Bool.eq_false_iff.1 ?_; assumption))) only [wrap_in, if_pos, if_neg]; (try simp -dsimp [hle]))))) | ((first | refine guardP_of (fun hc => ?_) (fun hc => ?_) | refine st_cond rfl (fun hc => ?_) (fun hc => ?_)) <;> (try simp only [lqA, lqB, lqC, lqD, lqE, lqF, lqG, lqH, lqI, lqJ, lqK, lqL, lqM, lqN, lqO] at hc) <;> (try (exfalso; first | omega | exact bool_tf hc (by assumption) | exact bool_ft hc (by assumption) | exact absurd (by assumption) hc)) <;> (first | with_reducible show STri _ _ _ _ _ _ | (simp -dsimp [hle, hc]; (repeat (simp -dsimp (disch := (first | omega | assumption | (refine Bool.eq_false_iff.1 ?_; assumption))) only [wrap_in, if_pos, if_neg]; (try simp -dsimp [hle, hc]))))))))
    · exact ⟨hlt, by simp, by simp; omega, by simp⟩
    · exact st_ret ⟨.inr rfl, k + 1, true, rfl, fun h => by cases h⟩
  · have hle : ¬ b.nlo + k ≤ b.nhi := by omega
    (repeat' (first | ((first | with_reducible refine st_skip ?_ | with_reducible refine st_exit ?_); (try simp only [seqQ, blockQ, loopQ, forQ, whileQ, reduceIte, Nat.reduceEqDiff])) | (with_reducible refine st_ret ?_; ((try simp only [seqQ, blockQ, loopQ, forQ, whileQ]); first | (with_reducible refine retM_ret ?_) | refine retQ_ret ?_; simp [hle])) | refine st_seq ?_ | refine st_block ?_ | ((with_reducible show (STri _ _ _ _ _) ∧ (STri _ _ _ _ _)); refine And.intro ?_ ?_) | ((first | refine st_reg ?_ | refine buildP_own ?_ | refine appP_own ?_) <;> (simp -dsimp [hle]; (repeat (simp -dsimp (disch := (first | omega | assumption | (refine Bool.eq_false_iff.1 ?_; assumption))) only [wrap_in, if_pos, if_neg]; (try simp -dsimp [hle]))))) | ((first | refine guardP_of (fun hc => ?_) (fun hc => ?_) | refine st_cond rfl (fun hc => ?_) (fun hc => ?_)) <;> (try simp only [lqA, lqB, lqC, lqD, lqE, lqF, lqG, lqH, lqI, lqJ, lqK, lqL, lqM, lqN, lqO] at hc) <;> (try (exfalso; first | omega | exact bool_tf hc (by assumption) | exact bool_ft hc (by assumption) | exact absurd (by assumption) hc)) <;> (first | with_reducible show STri _ _ _ _ _ _ | (simp -dsimp [hle, hc]; (repeat (simp -dsimp (disch := (first | omega | assumption | (refine Bool.eq_false_iff.1 ?_; assumption))) only [wrap_in, if_pos, if_neg]; (try simp -dsimp [hle, hc]))))))))
    exact ⟨.inl rfl, k, false, rfl, fun _ => by rw [hlen]; omega⟩
def spanStep (p : Nat → Bool) (acc : List (Int × Int)) (x : Int × Nat) : List (Int × Int) :=
  if p x.2 = true then match acc.getLast? with
    | some l => if l.2 = x.1 - 1 then acc.dropLast ++ [(l.1, x.1)] else acc ++ [(x.1, x.1)]
    | none => [(x.1, x.1)]
  else acc
def spansTo (b : Wbk) (p : Nat → Bool) (k : Nat) : List (Int × Int) := ((allL b).take k).foldl (spanStep p) []
def spansL (b : Wbk) (p : Nat → Bool) : List (Int × Int) := (allL b).foldl (spanStep p) []
def slE (l : List (Int × Int)) : CV := .sl 2 (l.map rowE)
attribute [simp] slE
theorem spansTo_succ {b : Wbk} {p : Nat → Bool} {k : Nat} (h : k < (allL b).length) : spansTo b p (k + 1) = spanStep p (spansTo b p k) (allL b)[k] := by
  unfold spansTo
  rw [List.take_succ_eq_append_getElem h, List.foldl_append]
  rfl
theorem step_len (p : Nat → Bool) (acc : List (Int × Int)) (x : Int × Nat) : (spanStep p acc x).length ≤ acc.length + 1 := by
  unfold spanStep
  split
  · split
    · split <;> simp <;> omega
    · simp
  · omega
theorem spansTo_len (b : Wbk) (p : Nat → Bool) (k : Nat) (hk : k ≤ (allL b).length) : (spansTo b p k).length ≤ k := by
  induction k with
  | zero => simp [spansTo]
  | succ k ih =>
    rw [spansTo_succ (by omega)]
    have := step_len p (spansTo b p k) ((allL b)[k]'(by omega))
    have := ih (by omega)
    omega
def spI (b : Wbk) (p : Nat → Bool) (f : CV) (k : Nat) (R : HL) : Prop := R = [(3, .box 64 [.c f]), (4, .box 26 [.own 200 (spansTo b p k).length]), (200, .arr 29 2 ((spansTo b p k).map rowE))]
theorem sSpansL (b : Wbk) (hb : BkOK b) (p : Nat → Bool) (f : FuncId) (fs es : List CV) (he : Ent Try.prog f) (hp : ∀ x ∈ allL b, SC Try.prog f (fs ++ [U x.2] ++ es) (B (p x.2))) : SC Try.prog 19 [cBk b, .fn f fs es] (slE (spansL b p)) := by
  refine law_wire_book_spans _ _ (by simp) ?_
  have n0 := hb.n0
  have n1 := hb.n1
  have n2 := hb.n2
  have hlen := allL_len b
  have hN : (bookN b : Int) = b.nhi + 1 - b.nlo := by unfold bookN; omega
  (repeat' (first | (refine st_nilB 4 0 200 29 2 rfl (by simp) rfl (by simp [newOK]) ?_) | ((first | with_reducible refine st_skip ?_ | with_reducible refine st_exit ?_); (try simp only [seqQ, blockQ, loopQ, forQ, whileQ, reduceIte, Nat.reduceEqDiff])) | (with_reducible refine st_ret ?_; ((try simp only [seqQ, blockQ, loopQ, forQ, whileQ]); first | (with_reducible refine retM_ret ?_) | refine retQ_ret ?_; simp)) | refine st_seq ?_ | refine st_block ?_ | ((with_reducible show (STri _ _ _ _ _) ∧ (STri _ _ _ _ _)); refine And.intro ?_ ?_) | ((first | refine st_reg ?_ | refine buildP_own ?_ | refine appP_own ?_) <;> (simp -dsimp; (repeat (simp -dsimp (disch := (first | omega | assumption | (refine Bool.eq_false_iff.1 ?_; assumption))) only [wrap_in, if_pos, if_neg]; (try simp -dsimp))))) | ((first | refine guardP_of (fun hc => ?_) (fun hc => ?_) | refine st_cond rfl (fun hc => ?_) (fun hc => ?_)) <;> (try simp only [lqA, lqB, lqC, lqD, lqE, lqF, lqG, lqH, lqI, lqJ, lqK, lqL, lqM, lqN, lqO] at hc) <;> (try (exfalso; first | omega | exact bool_tf hc (by assumption) | exact bool_ft hc (by assumption) | exact absurd (by assumption) hc)) <;> (first | with_reducible show STri _ _ _ _ _ _ | (simp -dsimp [hc]; (repeat (simp -dsimp (disch := (first | omega | assumption | (refine Bool.eq_false_iff.1 ?_; assumption))) only [wrap_in, if_pos, if_neg]; (try simp -dsimp [hc]))))))))
  refine st_range (iAll b hb) [3, 4, 200] [] (fun k R => spI b p (.fn f fs es) k R)
    rfl rfl rfl (by kernel_rfl) (by show (0 : Nat) + 1000 ≤ 1000; decide) (fun j hj => by cases hj) (fun row hrow => by obtain ⟨y, _, rfl⟩ := List.mem_map.1 hrow; rfl) (by simp) (by simp) (by simp [spI, spansTo]) ?_ ?_
  · rintro k row R rfl hrow Iv1 G1 hGG hin
    obtain ⟨d, hdk, rfl⟩ : ∃ d, (allL b)[k]? = some d ∧ row = rowA d := by
      rw [List.getElem?_map, Option.map_eq_some_iff] at hrow
      obtain ⟨d, h1, h2⟩ := hrow
      exact ⟨d, h1, h2.symm⟩
    have hk : k < (allL b).length := (List.getElem?_eq_some_iff.1 hdk).1
    have hkd : (allL b)[k] = d := (List.getElem?_eq_some_iff.1 hdk).2
    have hs := spansTo_succ (p := p) hk
    rw [hkd] at hs
    have hcl := hp d (hkd ▸ List.getElem_mem hk)
    have hd1 : d.1 = b.nlo + k := by
      rw [allL_get (by omega)] at hdk; cases hdk; rfl
    have hsl := spansTo_len b p k (by omega)
    unfold rowA
    (repeat' (first | ((first | with_reducible refine st_skip ?_ | with_reducible refine st_exit ?_); (try simp only [seqQ, blockQ, loopQ, forQ, whileQ, reduceIte, Nat.reduceEqDiff])) | (with_reducible refine st_ret ?_; ((try simp only [seqQ, blockQ, loopQ, forQ, whileQ]); first | (with_reducible refine retM_ret ?_) | refine retQ_ret ?_; simp)) | refine st_seq ?_ | refine st_block ?_ | ((with_reducible show (STri _ _ _ _ _) ∧ (STri _ _ _ _ _)); refine And.intro ?_ ?_) | ((first | refine st_reg ?_ | refine buildP_own ?_ | refine appP_own ?_) <;> (simp -dsimp; (repeat (simp -dsimp (disch := (first | omega | assumption | (refine Bool.eq_false_iff.1 ?_; assumption))) only [wrap_in, if_pos, if_neg]; (try simp -dsimp))))) | ((first | refine guardP_of (fun hc => ?_) (fun hc => ?_) | refine st_cond rfl (fun hc => ?_) (fun hc => ?_)) <;> (try simp only [lqA, lqB, lqC, lqD, lqE, lqF, lqG, lqH, lqI, lqJ, lqK, lqL, lqM, lqN, lqO] at hc) <;> (try (exfalso; first | omega | exact bool_tf hc (by assumption) | exact bool_ft hc (by assumption) | exact absurd (by assumption) hc)) <;> (first | with_reducible show STri _ _ _ _ _ _ | (simp -dsimp [hc]; (repeat (simp -dsimp (disch := (first | omega | assumption | (refine Bool.eq_false_iff.1 ?_; assumption))) only [wrap_in, if_pos, if_neg]; (try simp -dsimp [hc]))))))))
    refine ⟨rfl, fun Iv2 hin2 => ?_⟩
    show STri _ _ _ _ (rangeQ _ _ _ (fun k R => spI b p (.fn f fs es) k R) _ _ _)
    generalize hq : spansTo b p k = acc at *
    by_cases hpd : p d.2 = true
    · unfold spanStep at hs
      rw [hpd] at hcl
      rw [if_pos hpd] at hs
      rcases List.eq_nil_or_concat acc with rfl | ⟨ini, l, rfl⟩
      · simp only [List.getLast?_nil] at hs
        (repeat' (first | ((first | with_reducible refine st_skip ?_ | with_reducible refine st_exit ?_); (try simp only [seqQ, blockQ, loopQ, forQ, whileQ, reduceIte, Nat.reduceEqDiff])) | (with_reducible refine st_ret ?_; ((try simp only [seqQ, blockQ, loopQ, forQ, whileQ]); first | (with_reducible refine retM_ret ?_) | refine retQ_ret ?_; simp)) | refine st_seq ?_ | refine st_block ?_ | ((with_reducible show (STri _ _ _ _ _) ∧ (STri _ _ _ _ _)); refine And.intro ?_ ?_) | ((first | refine st_reg ?_ | ((with_reducible show callVP _ _ _ _ _ _ _); refine callV_b (by first | exact Ent.h (by assumption) | kernel_rfl) (hcl) rfl ?_) | refine buildP_own ?_ | refine appP_own ?_) <;> (simp -dsimp; (repeat (simp -dsimp (disch := (first | omega | assumption | (refine Bool.eq_false_iff.1 ?_; assumption))) only [wrap_in, if_pos, if_neg]; (try simp -dsimp))))) | ((first | refine guardP_of (fun hc => ?_) (fun hc => ?_) | refine st_cond rfl (fun hc => ?_) (fun hc => ?_)) <;> (try simp only [lqA, lqB, lqC, lqD, lqE, lqF, lqG, lqH, lqI, lqJ, lqK, lqL, lqM, lqN, lqO] at hc) <;> (try (exfalso; first | omega | exact bool_tf hc (by assumption) | exact bool_ft hc (by assumption) | exact absurd (by assumption) hc)) <;> (first | with_reducible show STri _ _ _ _ _ _ | (simp -dsimp [hc]; (repeat (simp -dsimp (disch := (first | omega | assumption | (refine Bool.eq_false_iff.1 ?_; assumption))) only [wrap_in, if_pos, if_neg]; (try simp -dsimp [hc]))))))))
        exact ⟨by simp, by simp, by simp [spI, hs]⟩
      · rw [List.concat_eq_append] at *
        simp only [List.getLast?_append, List.getLast?_singleton, Option.some_or, List.dropLast_concat] at hs
        have hA : ini.length + 1 ≤ 9223372036854775806 := by simp at hsl; omega
        have hB : (ini.length + 1 + 1) * 16 ≤ 140737488355328 := by simp at hsl; omega
        have hget : (ini.map rowE ++ [rowE l])[ini.length]? = some (rowE l) := by simp
        have hset : ∀ r, (ini.map rowE ++ [rowE l]).set ini.length r = ini.map rowE ++ [r] := fun r => by simp
        by_cases hl : l.2 = d.1 - 1
        · rw [if_pos hl] at hs
          (repeat' (first | ((first | with_reducible refine st_skip ?_ | with_reducible refine st_exit ?_); (try simp only [seqQ, blockQ, loopQ, forQ, whileQ, reduceIte, Nat.reduceEqDiff])) | (with_reducible refine st_ret ?_; ((try simp only [seqQ, blockQ, loopQ, forQ, whileQ]); first | (with_reducible refine retM_ret ?_) | refine retQ_ret ?_; simp [hl, hget, hset])) | refine st_seq ?_ | refine st_block ?_ | ((with_reducible show (STri _ _ _ _ _) ∧ (STri _ _ _ _ _)); refine And.intro ?_ ?_) | ((first | refine st_reg ?_ | ((with_reducible show callVP _ _ _ _ _ _ _); refine callV_b (by first | exact Ent.h (by assumption) | kernel_rfl) (hcl) rfl ?_) | refine buildP_own ?_ | refine appP_own ?_) <;> (simp -dsimp [hl, hget, hset]; (repeat (simp -dsimp (disch := (first | omega | assumption | (refine Bool.eq_false_iff.1 ?_; assumption))) only [wrap_in, if_pos, if_neg]; (try simp -dsimp [hl, hget, hset]))))) | ((first | refine guardP_of (fun hc => ?_) (fun hc => ?_) | refine st_cond rfl (fun hc => ?_) (fun hc => ?_)) <;> (try simp only [lqA, lqB, lqC, lqD, lqE, lqF, lqG, lqH, lqI, lqJ, lqK, lqL, lqM, lqN, lqO] at hc) <;> (try (exfalso; first | omega | exact bool_tf hc (by assumption) | exact bool_ft hc (by assumption) | exact absurd (by assumption) hc)) <;> (first | with_reducible show STri _ _ _ _ _ _ | (simp -dsimp [hl, hget, hset, hc]; (repeat (simp -dsimp (disch := (first | omega | assumption | (refine Bool.eq_false_iff.1 ?_; assumption))) only [wrap_in, if_pos, if_neg]; (try simp -dsimp [hl, hget, hset, hc]))))))))
          exact ⟨by simp, by simp, by simp [spI, hs]⟩
        · rw [if_neg hl] at hs
          (repeat' (first | ((first | with_reducible refine st_skip ?_ | with_reducible refine st_exit ?_); (try simp only [seqQ, blockQ, loopQ, forQ, whileQ, reduceIte, Nat.reduceEqDiff])) | (with_reducible refine st_ret ?_; ((try simp only [seqQ, blockQ, loopQ, forQ, whileQ]); first | (with_reducible refine retM_ret ?_) | refine retQ_ret ?_; simp [hl, hget, hA, hB])) | refine st_seq ?_ | refine st_block ?_ | ((with_reducible show (STri _ _ _ _ _) ∧ (STri _ _ _ _ _)); refine And.intro ?_ ?_) | ((first | refine st_reg ?_ | ((with_reducible show callVP _ _ _ _ _ _ _); refine callV_b (by first | exact Ent.h (by assumption) | kernel_rfl) (hcl) rfl ?_) | refine buildP_own ?_ | refine appP_own ?_) <;> (simp -dsimp [hl, hget, hA, hB]; (repeat (simp -dsimp (disch := (first | omega | assumption | (refine Bool.eq_false_iff.1 ?_; assumption))) only [wrap_in, if_pos, if_neg]; (try simp -dsimp [hl, hget, hA, hB]))))) | ((first | refine guardP_of (fun hc => ?_) (fun hc => ?_) | refine st_cond rfl (fun hc => ?_) (fun hc => ?_)) <;> (try simp only [lqA, lqB, lqC, lqD, lqE, lqF, lqG, lqH, lqI, lqJ, lqK, lqL, lqM, lqN, lqO] at hc) <;> (try (exfalso; first | omega | exact bool_tf hc (by assumption) | exact bool_ft hc (by assumption) | exact absurd (by assumption) hc)) <;> (first | with_reducible show STri _ _ _ _ _ _ | (simp -dsimp [hl, hget, hA, hB, hc]; (repeat (simp -dsimp (disch := (first | omega | assumption | (refine Bool.eq_false_iff.1 ?_; assumption))) only [wrap_in, if_pos, if_neg]; (try simp -dsimp [hl, hget, hA, hB, hc]))))))))
          exact ⟨by simp, by simp, by simp [spI, hs]⟩
    · unfold spanStep at hs
      rw [if_neg hpd] at hs
      rw [Bool.not_eq_true] at hpd
      rw [hpd] at hcl
      (repeat' (first | ((first | with_reducible refine st_skip ?_ | with_reducible refine st_exit ?_); (try simp only [seqQ, blockQ, loopQ, forQ, whileQ, reduceIte, Nat.reduceEqDiff])) | (with_reducible refine st_ret ?_; ((try simp only [seqQ, blockQ, loopQ, forQ, whileQ]); first | (with_reducible refine retM_ret ?_) | refine retQ_ret ?_; simp)) | refine st_seq ?_ | refine st_block ?_ | ((with_reducible show (STri _ _ _ _ _) ∧ (STri _ _ _ _ _)); refine And.intro ?_ ?_) | ((first | refine st_reg ?_ | ((with_reducible show callVP _ _ _ _ _ _ _); refine callV_b (by first | exact Ent.h (by assumption) | kernel_rfl) (hcl) rfl ?_) | refine buildP_own ?_ | refine appP_own ?_) <;> (simp -dsimp; (repeat (simp -dsimp (disch := (first | omega | assumption | (refine Bool.eq_false_iff.1 ?_; assumption))) only [wrap_in, if_pos, if_neg]; (try simp -dsimp))))) | ((first | refine guardP_of (fun hc => ?_) (fun hc => ?_) | refine st_cond rfl (fun hc => ?_) (fun hc => ?_)) <;> (try simp only [lqA, lqB, lqC, lqD, lqE, lqF, lqG, lqH, lqI, lqJ, lqK, lqL, lqM, lqN, lqO] at hc) <;> (try (exfalso; first | omega | exact bool_tf hc (by assumption) | exact bool_ft hc (by assumption) | exact absurd (by assumption) hc)) <;> (first | with_reducible show STri _ _ _ _ _ _ | (simp -dsimp [hc]; (repeat (simp -dsimp (disch := (first | omega | assumption | (refine Bool.eq_false_iff.1 ?_; assumption))) only [wrap_in, if_pos, if_neg]; (try simp -dsimp [hc]))))))))
      exact ⟨by simp, by simp, by simp [spI, hs]⟩
  · rintro R rfl
    simp only [blockQ, seqQ]
    have e : spansTo b p ((allL b).map rowA).length = spansL b p := by unfold spansTo spansL; rw [List.length_map, List.take_length]
    rw [e]
    (repeat' (first | ((first | with_reducible refine st_skip ?_ | with_reducible refine st_exit ?_); (try simp only [seqQ, blockQ, loopQ, forQ, whileQ, reduceIte, Nat.reduceEqDiff])) | (with_reducible refine st_ret ?_; ((try simp only [seqQ, blockQ, loopQ, forQ, whileQ]); first | (with_reducible refine retM_ret ?_) | refine retQ_ret ?_; simp)) | refine st_seq ?_ | refine st_block ?_ | ((with_reducible show (STri _ _ _ _ _) ∧ (STri _ _ _ _ _)); refine And.intro ?_ ?_) | ((first | refine st_reg ?_ | refine buildP_own ?_ | refine appP_own ?_) <;> (simp -dsimp; (repeat (simp -dsimp (disch := (first | omega | assumption | (refine Bool.eq_false_iff.1 ?_; assumption))) only [wrap_in, if_pos, if_neg]; (try simp -dsimp))))) | ((first | refine guardP_of (fun hc => ?_) (fun hc => ?_) | refine st_cond rfl (fun hc => ?_) (fun hc => ?_)) <;> (try simp only [lqA, lqB, lqC, lqD, lqE, lqF, lqG, lqH, lqI, lqJ, lqK, lqL, lqM, lqN, lqO] at hc) <;> (try (exfalso; first | omega | exact bool_tf hc (by assumption) | exact bool_ft hc (by assumption) | exact absurd (by assumption) hc)) <;> (first | with_reducible show STri _ _ _ _ _ _ | (simp -dsimp [hc]; (repeat (simp -dsimp (disch := (first | omega | assumption | (refine Bool.eq_false_iff.1 ?_; assumption))) only [wrap_in, if_pos, if_neg]; (try simp -dsimp [hc]))))))))
    exact .refl _
theorem sNobody (n : Nat) : SC Try.prog 20 [U n] (B (decide (n = 0))) := by
  refine law_wire_nobody _ _ (by simp) ?_
  (repeat' (first | ((first | with_reducible refine st_skip ?_ | with_reducible refine st_exit ?_); (try simp only [seqQ, blockQ, loopQ, forQ, whileQ, reduceIte, Nat.reduceEqDiff])) | (with_reducible refine st_ret ?_; ((try simp only [seqQ, blockQ, loopQ, forQ, whileQ]); first | (with_reducible refine retM_ret ?_) | refine retQ_ret ?_; simp)) | refine st_seq ?_ | refine st_block ?_ | ((with_reducible show (STri _ _ _ _ _) ∧ (STri _ _ _ _ _)); refine And.intro ?_ ?_) | ((first | refine st_reg ?_ | refine buildP_own ?_ | refine appP_own ?_) <;> (simp -dsimp; (repeat (simp -dsimp (disch := (first | omega | assumption | (refine Bool.eq_false_iff.1 ?_; assumption))) only [wrap_in, if_pos, if_neg]; (try simp -dsimp))))) | ((first | refine guardP_of (fun hc => ?_) (fun hc => ?_) | refine st_cond rfl (fun hc => ?_) (fun hc => ?_)) <;> (try simp only [lqA, lqB, lqC, lqD, lqE, lqF, lqG, lqH, lqI, lqJ, lqK, lqL, lqM, lqN, lqO] at hc) <;> (try (exfalso; first | omega | exact bool_tf hc (by assumption) | exact bool_ft hc (by assumption) | exact absurd (by assumption) hc)) <;> (first | with_reducible show STri _ _ _ _ _ _ | (simp -dsimp [hc]; (repeat (simp -dsimp (disch := (first | omega | assumption | (refine Bool.eq_false_iff.1 ?_; assumption))) only [wrap_in, if_pos, if_neg]; (try simp -dsimp [hc]))))))))
  all_goals (refine CLe.bool ?_; rw [Bool.eq_iff_iff]; simp)
theorem new_ok {w : List Wsrc} {l : List Wnt} {nlo nhi : Int} (h : newErr w l nlo nhi = 0) : newBk w l nlo nhi = ⟨w, w.map errOf, l, nlo, nhi⟩ ∧ sizeW w = true ∧ w.all validV = true ∧ l.length ≤ 60 ∧ notesErr w l = 0 ∧ spanW nlo nhi 7200 = true := by
  have h0 := h
  unfold newErr at h
  split at h
  · cases h
  rename_i h1
  split at h
  · cases h
  rename_i h2
  split at h
  · cases h
  rename_i h3
  split at h
  · rename_i h4; exact absurd h h4
  rename_i h4
  split at h
  case isFalse => cases h
  rename_i h5
  refine ⟨by unfold newBk; rw [if_neg h1, if_neg h2, if_pos h0], by simpa using h1, by simpa using h2, by omega, by simpa using h4, h5⟩
theorem noteErr_zero {w : List Wsrc} {n : Wnt} (h : noteErr w n = 0) : 0 ≤ n.src ∧ n.src < w.length ∧ 0 ≤ n.tick ∧ n.tick ≤ 3155760000 ∧ (w.map fun s => saidB s n.said).getD n.src.toNat false = true := by
  unfold noteErr at h
  split at h
  case isFalse => cases h
  rename_i h1
  split at h
  case isFalse => cases h
  rename_i h2
  unfold within1 at h1 h2
  simp only [Bool.and_eq_true, decide_eq_true_eq] at h1 h2
  exact ⟨h1.1, by omega, h2.1.1, h2.1.2, h2.2⟩
theorem notesErr_zero {w : List Wsrc} {l : List Wnt} (h : notesErr w l = 0) : ∀ n ∈ l, noteErr w n = 0 := by
  unfold notesErr at h
  cases hf : l.find? (fun n => decide (noteErr w n ≠ 0)) with
  | none => intro n hn; simpa using List.find?_eq_none.1 hf n hn
  | some n =>
    rw [hf] at h
    have := List.find?_some hf
    simp at this
    exact absurd h this
theorem said_bd {s : Wsrc} {n : Int} (h : saidB s n = true) : 0 ≤ n ∧ n ≤ 3155760000 := by
  unfold saidB within1 at h
  split at h
  · simp at h; omega
  · split at h <;> simp at h <;> omega
theorem new_bk {w : List Wsrc} {l : List Wnt} {nlo nhi : Int} (h : newErr w l nlo nhi = 0) : BkOK (newBk w l nlo nhi) := by
  obtain ⟨e, h1, h2, h3, h4, h5⟩ := new_ok h
  rw [e]
  have hz : 1 ≤ w.length ∧ w.length ≤ 10 := by unfold sizeW within1 at h1; simp at h1; omega
  have hv : ∀ s ∈ w, validV s = true := List.all_eq_true.1 h2
  have hsp : -7200 ≤ nlo ∧ nlo ≤ nhi ∧ nhi ≤ 7200 := by unfold spanW at h5; simp at h5; omega
  refine ⟨hz.2, by simp, hv, fun x hx => ?_, h3, fun n hn => ?_, hsp.1, hsp.2.1, hsp.2.2⟩
  · obtain ⟨s, hs, rfl⟩ := List.mem_map.1 hx
    have := hv s hs
    unfold validV baseV spanW at this
    simp at this
    show -20000 ≤ s.elo ∧ s.elo ≤ 20000 ∧ -20000 ≤ s.ehi ∧ s.ehi ≤ 20000
    omega
  · obtain ⟨g1, g2, g3, g4, g5⟩ := noteErr_zero (notesErr_zero h4 n hn)
    have hlt : n.src.toNat < w.length := by omega
    have h6 : saidB (w[n.src.toNat]) n.said = true := by simpa [hlt] using g5
    have := said_bd h6
    exact ⟨g1, g2, g3, g4, this.1, this.2⟩
theorem sFits (w : List Wsrc) (hw : WLen w) (l : List Wnt) (hl : l.length ≤ 1000000) (nlo nhi : Int) : SC Try.prog 8 [slSr w, slN l, .agg [I nlo, I nhi]]
    (.tup [slE (if newErr w l nlo nhi = 0 then spansL (newBk w l nlo nhi) (fun m => decide (m = 0)) else []), I (if newErr w l nlo nhi = 0 then (if spansL (newBk w l nlo nhi) (fun m => decide (m = 0)) = [] then 7 else 0) else newErr w l nlo nhi)]) := by
  refine law_wire_Fits _ _ (by simp) ?_
  have sb := sNewBook w hw l hl nlo nhi
  by_cases h : newErr w l nlo nhi = 0
  · have hb := new_bk h
    have ss := sSpansL _ hb (fun m => decide (m = 0)) 20 [] [] ⟨by kernel_rfl⟩ (fun x _ => sNobody x.2)
    rw [if_pos h, if_pos h]
    rw [h] at sb
    generalize newBk w l nlo nhi = b at *
    generalize spansL b (fun m => decide (m = 0)) = r at *
    by_cases hr : r = []
    · subst hr
      (repeat' (first | ((first | with_reducible refine st_skip ?_ | with_reducible refine st_exit ?_); (try simp only [seqQ, blockQ, loopQ, forQ, whileQ, reduceIte, Nat.reduceEqDiff])) | (with_reducible refine st_ret ?_; ((try simp only [seqQ, blockQ, loopQ, forQ, whileQ]); first | (with_reducible refine retM_ret ?_) | refine retQ_ret ?_; simp)) | refine st_seq ?_ | refine st_block ?_ | ((with_reducible show (STri _ _ _ _ _) ∧ (STri _ _ _ _ _)); refine And.intro ?_ ?_) | ((first | refine st_reg ?_ | refine buildP_own ?_ | refine appP_own ?_ | refine callP_b (sb) rfl ?_ | refine callP_b (ss) rfl ?_) <;> (simp -dsimp; (repeat (simp -dsimp (disch := (first | omega | assumption | (refine Bool.eq_false_iff.1 ?_; assumption))) only [wrap_in, if_pos, if_neg]; (try simp -dsimp))))) | ((first | refine guardP_of (fun hc => ?_) (fun hc => ?_) | refine st_cond rfl (fun hc => ?_) (fun hc => ?_)) <;> (try simp only [lqA, lqB, lqC, lqD, lqE, lqF, lqG, lqH, lqI, lqJ, lqK, lqL, lqM, lqN, lqO] at hc) <;> (try (exfalso; first | omega | exact bool_tf hc (by assumption) | exact bool_ft hc (by assumption) | exact absurd (by assumption) hc)) <;> (first | with_reducible show STri _ _ _ _ _ _ | (simp -dsimp [hc]; (repeat (simp -dsimp (disch := (first | omega | assumption | (refine Bool.eq_false_iff.1 ?_; assumption))) only [wrap_in, if_pos, if_neg]; (try simp -dsimp [hc]))))))))
      exact cle_nilT 2 _
    · have hr2 : ¬ r.length = 0 := fun e => hr (List.length_eq_zero_iff.1 e)
      (repeat' (first | ((first | with_reducible refine st_skip ?_ | with_reducible refine st_exit ?_); (try simp only [seqQ, blockQ, loopQ, forQ, whileQ, reduceIte, Nat.reduceEqDiff])) | (with_reducible refine st_ret ?_; ((try simp only [seqQ, blockQ, loopQ, forQ, whileQ]); first | (with_reducible refine retM_ret ?_) | refine retQ_ret ?_; simp [hr, hr2])) | refine st_seq ?_ | refine st_block ?_ | ((with_reducible show (STri _ _ _ _ _) ∧ (STri _ _ _ _ _)); refine And.intro ?_ ?_) | ((first | refine st_reg ?_ | refine buildP_own ?_ | refine appP_own ?_ | refine callP_b (sb) rfl ?_ | refine callP_b (ss) rfl ?_) <;> (simp -dsimp [hr, hr2]; (repeat (simp -dsimp (disch := (first | omega | assumption | (refine Bool.eq_false_iff.1 ?_; assumption))) only [wrap_in, if_pos, if_neg]; (try simp -dsimp [hr, hr2]))))) | ((first | refine guardP_of (fun hc => ?_) (fun hc => ?_) | refine st_cond rfl (fun hc => ?_) (fun hc => ?_)) <;> (try simp only [lqA, lqB, lqC, lqD, lqE, lqF, lqG, lqH, lqI, lqJ, lqK, lqL, lqM, lqN, lqO] at hc) <;> (try (exfalso; first | omega | exact bool_tf hc (by assumption) | exact bool_ft hc (by assumption) | exact absurd (by assumption) hc)) <;> (first | with_reducible show STri _ _ _ _ _ _ | (simp -dsimp [hr, hr2, hc]; (repeat (simp -dsimp (disch := (first | omega | assumption | (refine Bool.eq_false_iff.1 ?_; assumption))) only [wrap_in, if_pos, if_neg]; (try simp -dsimp [hr, hr2, hc]))))))))
      all_goals exact .refl _
  · rw [if_neg h, if_neg h]
    generalize newErr w l nlo nhi = e at *
    generalize newBk w l nlo nhi = b at *
    (repeat' (first | ((first | with_reducible refine st_skip ?_ | with_reducible refine st_exit ?_); (try simp only [seqQ, blockQ, loopQ, forQ, whileQ, reduceIte, Nat.reduceEqDiff])) | (with_reducible refine st_ret ?_; ((try simp only [seqQ, blockQ, loopQ, forQ, whileQ]); first | (with_reducible refine retM_ret ?_) | refine retQ_ret ?_; simp [h])) | refine st_seq ?_ | refine st_block ?_ | ((with_reducible show (STri _ _ _ _ _) ∧ (STri _ _ _ _ _)); refine And.intro ?_ ?_) | ((first | refine st_reg ?_ | refine buildP_own ?_ | refine appP_own ?_ | refine callP_b (sb) rfl ?_) <;> (simp -dsimp [h]; (repeat (simp -dsimp (disch := (first | omega | assumption | (refine Bool.eq_false_iff.1 ?_; assumption))) only [wrap_in, if_pos, if_neg]; (try simp -dsimp [h]))))) | ((first | refine guardP_of (fun hc => ?_) (fun hc => ?_) | refine st_cond rfl (fun hc => ?_) (fun hc => ?_)) <;> (try simp only [lqA, lqB, lqC, lqD, lqE, lqF, lqG, lqH, lqI, lqJ, lqK, lqL, lqM, lqN, lqO] at hc) <;> (try (exfalso; first | omega | exact bool_tf hc (by assumption) | exact bool_ft hc (by assumption) | exact absurd (by assumption) hc)) <;> (first | with_reducible show STri _ _ _ _ _ _ | (simp -dsimp [h, hc]; (repeat (simp -dsimp (disch := (first | omega | assumption | (refine Bool.eq_false_iff.1 ?_; assumption))) only [wrap_in, if_pos, if_neg]; (try simp -dsimp [h, hc]))))))))
    all_goals exact cle_nilT 2 _
end Go.Proofs.Ytlodpljdhdhfmaa
