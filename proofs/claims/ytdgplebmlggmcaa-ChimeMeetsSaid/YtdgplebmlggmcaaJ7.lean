/- It is proved that the statement named by the theorem at the end of this text holds, for every input, with no condition beyond the given ones. -/
import Derived.Test.YtdgplebmlggmcaaJ6
import Derived.Test.YtdgplebmlggmcaaJ4
import Derived.ChangeSame
import Derived.JoinedOf
import Derived.JoinedAt
import Derived.RowKit3
import Derived.ReadAgain
import Derived.RowKit2
import Derived.ChangeSlices
import Derived.OpenShut
set_option linter.unusedSimpArgs false
set_option linter.unusedVariables false
/- Law functions, I: works, tune, large, five, twenty. -/
namespace Go.Proofs.Ytdgplebmlggmcaa
open Go.RowKit

set_option maxRecDepth 100000 in
set_option maxHeartbeats 2000000 in
theorem sWorksC (c : Wk) (h1 : c.runs.length ≤ 1000000) (h2 : c.hammers.length ≤ 1000000) (h3 : c.pins.length ≤ 1000000) : SC Try.prog 16 [cWk c] (cWk c) := by
  have a1 : c.runs.length ≤ 9223372036854775807 := by omega
  have b1 : c.runs.length * 8 ≤ 140737488355328 := by omega
  have a2 : c.hammers.length ≤ 9223372036854775807 := by omega
  have b2 : c.hammers.length * 16 ≤ 140737488355328 := by omega
  have a3 : c.pins.length ≤ 9223372036854775807 := by omega
  have b3 : c.pins.length * 16 ≤ 140737488355328 := by omega
  refine law16 _ _ (by simp) ?_
  unfold cWk slI slP
  (repeat' (first | (refine buildP_own ?_; (simp -dsimp [a1, b1, a2, b2, a3, b3]; (repeat (simp -dsimp (disch := (first | omega | assumption | (refine Bool.eq_false_iff.1 ?_; assumption))) only [wrap_in, if_pos, if_neg]; (try simp -dsimp [a1, b1, a2, b2, a3, b3]))))) |  (with_reducible refine st_skip ?_; (try simp only [seqQ, blockQ, loopQ, forQ, whileQ, reduceIte, Nat.reduceEqDiff])) | (with_reducible refine st_exit ?_; (try simp only [seqQ, blockQ, loopQ, forQ, whileQ, reduceIte, Nat.reduceEqDiff])) | (with_reducible refine st_ret ?_; ((try simp only [seqQ, blockQ, loopQ, forQ, whileQ]); refine retQ_ret ?_; simp [a1, b1, a2, b2, a3, b3])) | refine st_seq ?_ | refine st_block ?_ | (refine st_reg follows ?_; (simp -dsimp [a1, b1, a2, b2, a3, b3]; (repeat (simp -dsimp (disch := (first | omega | assumption | (refine Bool.eq_false_iff.1 ?_; assumption))) only [wrap_in, if_pos, if_neg]; (try simp -dsimp [a1, b1, a2, b2, a3, b3]))))) | (refine guardP_of (fun hc => ?_) (fun hc => ?_) <;> (try simp only [decide_eq_true_eq, decide_eq_false_iff_not, Bool.true_eq_false, Bool.false_eq_true, bne_iff_ne, ne_eq, bne_eq_false_iff_eq, beq_iff_eq, beq_eq_false_iff_ne, Bool.not_eq_true, Bool.not_eq_false, Bool.not_eq_eq_eq_not, Bool.not_true, Bool.not_false, Decidable.not_not] at hc) <;> (try (exfalso; first | omega | exact bool_tf hc (by assumption) | exact bool_ft hc (by assumption) | exact absurd (by assumption) hc)) <;> (simp -dsimp [a1, b1, a2, b2, a3, b3, hc]; (repeat (simp -dsimp (disch := (first | omega | assumption | (refine Bool.eq_false_iff.1 ?_; assumption))) only [wrap_in, if_pos, if_neg]; (try simp -dsimp [a1, b1, a2, b2, a3, b3, hc]))))) | (refine st_cond rfl (fun hc => ?_) (fun hc => ?_) <;> (try simp only [decide_eq_true_eq, decide_eq_false_iff_not, Bool.true_eq_false, Bool.false_eq_true, bne_iff_ne, ne_eq, bne_eq_false_iff_eq, beq_iff_eq, beq_eq_false_iff_ne, Bool.not_eq_true, Bool.not_eq_false, Bool.not_eq_eq_eq_not, Bool.not_true, Bool.not_false, Decidable.not_not] at hc) <;> (try (exfalso; first | omega | exact bool_tf hc (by assumption) | exact bool_ft hc (by assumption) | exact absurd (by assumption) hc)))))
  exact .refl _

set_option maxRecDepth 100000 in
set_option maxHeartbeats 2000000 in
theorem sTuneC (s : Int) (bl : List (Int × Int)) (h1 : bl.length ≤ 1000000) : SC Try.prog 31 [cTune s bl] (cTune s bl) := by
  have a1 : bl.length ≤ 9223372036854775807 := by omega
  have b1 : bl.length * 16 ≤ 140737488355328 := by omega
  refine law31 _ _ (by simp) ?_
  unfold cTune slP
  (repeat' (first | (refine buildP_own ?_; (simp -dsimp [a1, b1]; (repeat (simp -dsimp (disch := (first | omega | assumption | (refine Bool.eq_false_iff.1 ?_; assumption))) only [wrap_in, if_pos, if_neg]; (try simp -dsimp [a1, b1]))))) |  (with_reducible refine st_skip ?_; (try simp only [seqQ, blockQ, loopQ, forQ, whileQ, reduceIte, Nat.reduceEqDiff])) | (with_reducible refine st_exit ?_; (try simp only [seqQ, blockQ, loopQ, forQ, whileQ, reduceIte, Nat.reduceEqDiff])) | (with_reducible refine st_ret ?_; ((try simp only [seqQ, blockQ, loopQ, forQ, whileQ]); refine retQ_ret ?_; simp [a1, b1])) | refine st_seq ?_ | refine st_block ?_ | (refine st_reg follows ?_; (simp -dsimp [a1, b1]; (repeat (simp -dsimp (disch := (first | omega | assumption | (refine Bool.eq_false_iff.1 ?_; assumption))) only [wrap_in, if_pos, if_neg]; (try simp -dsimp [a1, b1]))))) | (refine guardP_of (fun hc => ?_) (fun hc => ?_) <;> (try simp only [decide_eq_true_eq, decide_eq_false_iff_not, Bool.true_eq_false, Bool.false_eq_true, bne_iff_ne, ne_eq, bne_eq_false_iff_eq, beq_iff_eq, beq_eq_false_iff_ne, Bool.not_eq_true, Bool.not_eq_false, Bool.not_eq_eq_eq_not, Bool.not_true, Bool.not_false, Decidable.not_not] at hc) <;> (try (exfalso; first | omega | exact bool_tf hc (by assumption) | exact bool_ft hc (by assumption) | exact absurd (by assumption) hc)) <;> (simp -dsimp [a1, b1, hc]; (repeat (simp -dsimp (disch := (first | omega | assumption | (refine Bool.eq_false_iff.1 ?_; assumption))) only [wrap_in, if_pos, if_neg]; (try simp -dsimp [a1, b1, hc]))))) | (refine st_cond rfl (fun hc => ?_) (fun hc => ?_) <;> (try simp only [decide_eq_true_eq, decide_eq_false_iff_not, Bool.true_eq_false, Bool.false_eq_true, bne_iff_ne, ne_eq, bne_eq_false_iff_eq, beq_iff_eq, beq_eq_false_iff_ne, Bool.not_eq_true, Bool.not_eq_false, Bool.not_eq_eq_eq_not, Bool.not_true, Bool.not_false, Decidable.not_not] at hc) <;> (try (exfalso; first | omega | exact bool_tf hc (by assumption) | exact bool_ft hc (by assumption) | exact absurd (by assumption) hc)))))
  exact .refl _

def largeB (c : Wk) : Bool := decide (10 < c.runs.length) || decide (45 < c.hammers.length) || (decide (60 < c.pins.length) && decide (c.pins.length ≤ 400)) || decide (410 < c.pins.length) || (worksOk c && decide (200 < c.steps))

set_option maxRecDepth 100000 in
set_option maxHeartbeats 2000000 in
theorem sLarge (c : Wk) : SC Try.prog 14 [cWk c] (B (largeB c)) := by
  refine law14 _ _ (by simp) ?_
  unfold cWk slI slP
  (repeat' (first | (refine buildP_own ?_; (simp -dsimp; (repeat (simp -dsimp (disch := (first | omega | assumption | (refine Bool.eq_false_iff.1 ?_; assumption))) only [wrap_in, if_pos, if_neg]; (try simp -dsimp))))) | (refine callP_of (sWorks c) (.inl rfl) ?_; (simp -dsimp; (repeat (simp -dsimp (disch := (first | omega | assumption | (refine Bool.eq_false_iff.1 ?_; assumption))) only [wrap_in, if_pos, if_neg]; (try simp -dsimp))))) |  (with_reducible refine st_skip ?_; (try simp only [seqQ, blockQ, loopQ, forQ, whileQ, reduceIte, Nat.reduceEqDiff])) | (with_reducible refine st_exit ?_; (try simp only [seqQ, blockQ, loopQ, forQ, whileQ, reduceIte, Nat.reduceEqDiff])) | (with_reducible refine st_ret ?_; ((try simp only [seqQ, blockQ, loopQ, forQ, whileQ]); refine retQ_ret ?_; simp)) | refine st_seq ?_ | refine st_block ?_ | (refine st_reg follows ?_; (simp -dsimp; (repeat (simp -dsimp (disch := (first | omega | assumption | (refine Bool.eq_false_iff.1 ?_; assumption))) only [wrap_in, if_pos, if_neg]; (try simp -dsimp))))) | (refine guardP_of (fun hc => ?_) (fun hc => ?_) <;> (try simp only [decide_eq_true_eq, decide_eq_false_iff_not, Bool.true_eq_false, Bool.false_eq_true, bne_iff_ne, ne_eq, bne_eq_false_iff_eq, beq_iff_eq, beq_eq_false_iff_ne, Bool.not_eq_true, Bool.not_eq_false, Bool.not_eq_eq_eq_not, Bool.not_true, Bool.not_false, Decidable.not_not] at hc) <;> (try (exfalso; first | omega | exact bool_tf hc (by assumption) | exact bool_ft hc (by assumption) | exact absurd (by assumption) hc)) <;> (simp -dsimp [hc]; (repeat (simp -dsimp (disch := (first | omega | assumption | (refine Bool.eq_false_iff.1 ?_; assumption))) only [wrap_in, if_pos, if_neg]; (try simp -dsimp [hc]))))) | (refine st_cond rfl (fun hc => ?_) (fun hc => ?_) <;> (try simp only [decide_eq_true_eq, decide_eq_false_iff_not, Bool.true_eq_false, Bool.false_eq_true, bne_iff_ne, ne_eq, bne_eq_false_iff_eq, beq_iff_eq, beq_eq_false_iff_ne, Bool.not_eq_true, Bool.not_eq_false, Bool.not_eq_eq_eq_not, Bool.not_true, Bool.not_false, Decidable.not_not] at hc) <;> (try (exfalso; first | omega | exact bool_tf hc (by assumption) | exact bool_ft hc (by assumption) | exact absurd (by assumption) hc)))))
  all_goals (refine CLe.bool ?_; unfold largeB; simp [*] <;> omega)

def fiveT : Tn := (10, [(0, 5), (2, 5), (4, 5), (6, 5), (8, 5)])
def fiveTo (k : Nat) : List (Int × Int) := (List.range k).map fun (i : Nat) => (2 * (i : Int), 5)

set_option maxRecDepth 100000 in
set_option maxHeartbeats 2000000 in
theorem sFive : SC Try.prog 46 [] (cTune fiveT.1 fiveT.2) := by
  refine law46 _ _ (by simp) ?_
  (repeat' (first | (refine buildP_own ?_; (simp -dsimp; (repeat (simp -dsimp (disch := (first | omega | assumption | (refine Bool.eq_false_iff.1 ?_; assumption))) only [wrap_in, if_pos, if_neg]; (try simp -dsimp))))) |  (with_reducible refine st_skip ?_; (try simp only [seqQ, blockQ, loopQ, forQ, whileQ, reduceIte, Nat.reduceEqDiff])) | (with_reducible refine st_exit ?_; (try simp only [seqQ, blockQ, loopQ, forQ, whileQ, reduceIte, Nat.reduceEqDiff])) | (with_reducible refine st_ret ?_; ((try simp only [seqQ, blockQ, loopQ, forQ, whileQ]); refine retQ_ret ?_; simp)) | refine st_seq ?_ | refine st_block ?_ | (refine st_reg follows ?_; (simp -dsimp; (repeat (simp -dsimp (disch := (first | omega | assumption | (refine Bool.eq_false_iff.1 ?_; assumption))) only [wrap_in, if_pos, if_neg]; (try simp -dsimp))))) | (refine guardP_of (fun hc => ?_) (fun hc => ?_) <;> (try simp only [decide_eq_true_eq, decide_eq_false_iff_not, Bool.true_eq_false, Bool.false_eq_true, bne_iff_ne, ne_eq, bne_eq_false_iff_eq, beq_iff_eq, beq_eq_false_iff_ne, Bool.not_eq_true, Bool.not_eq_false, Bool.not_eq_eq_eq_not, Bool.not_true, Bool.not_false, Decidable.not_not] at hc) <;> (try (exfalso; first | omega | exact bool_tf hc (by assumption) | exact bool_ft hc (by assumption) | exact absurd (by assumption) hc)) <;> (simp -dsimp [hc]; (repeat (simp -dsimp (disch := (first | omega | assumption | (refine Bool.eq_false_iff.1 ?_; assumption))) only [wrap_in, if_pos, if_neg]; (try simp -dsimp [hc]))))) | (refine st_cond rfl (fun hc => ?_) (fun hc => ?_) <;> (try simp only [decide_eq_true_eq, decide_eq_false_iff_not, Bool.true_eq_false, Bool.false_eq_true, bne_iff_ne, ne_eq, bne_eq_false_iff_eq, beq_iff_eq, beq_eq_false_iff_ne, Bool.not_eq_true, Bool.not_eq_false, Bool.not_eq_eq_eq_not, Bool.not_true, Bool.not_false, Decidable.not_not] at hc) <;> (try (exfalso; first | omega | exact bool_tf hc (by assumption) | exact bool_ft hc (by assumption) | exact absurd (by assumption) hc)))))
  refine st_nilB 1 1 200 66 2 rfl rfl rfl ?_
  refine st_less [(0, .ptr 0 0), (1, .ptr 1 0), (2, .c (I 0))] [(0, .box 56 [.c (I 0), .c (.val (.slice none 0 0))]), (1, .box 56 [.c (I 10), .own 200 0]), (200, .arr 66 2 [])] (by simp [setL1]) ?_
  refine st_for [0, 1, 200] 5 (fun k T H => T = [(0, .ptr 0 0), (1, .ptr 1 0), (2, .c (I k))] ∧ H = [(0, .box 56 [.c (I 0), .c (.val (.slice none 0 0))]), (1, .box 56 [.c (I 10), .own 200 k]), (200, .arr 66 2 ((fiveTo k).map rowP))]) (by simp) ⟨by simp, by simp [fiveTo]⟩ ?_
  rintro k T H hk ⟨rfl, rfl⟩
  have hl : (fiveTo k).length = k := by simp [fiveTo]
  by_cases hlt : k < 5
  · have hlt' : (k : Int) < 5 := by omega
    have hw : IntKind.i64.wrap (2 * (k : Int)) = 2 * (k : Int) := wrap_in _ (by omega) (by omega)
    have hA : k ≤ 9223372036854775806 := by omega
    have hB : (k + 1) * 16 ≤ 140737488355328 := by omega
    have e : fiveTo (k + 1) = fiveTo k ++ [(2 * (k : Int), 5)] := by unfold fiveTo; rw [List.range_succ, List.map_append]; rfl
    (repeat' (first | (refine buildP_own ?_; (simp -dsimp [hlt, hlt', hw, hl, hA, hB]; (repeat (simp -dsimp (disch := (first | omega | assumption | (refine Bool.eq_false_iff.1 ?_; assumption))) only [wrap_in, if_pos, if_neg]; (try simp -dsimp [hlt, hlt', hw, hl, hA, hB]))))) |  (with_reducible refine st_skip ?_; (try simp only [seqQ, blockQ, loopQ, forQ, whileQ, reduceIte, Nat.reduceEqDiff])) | (with_reducible refine st_exit ?_; (try simp only [seqQ, blockQ, loopQ, forQ, whileQ, reduceIte, Nat.reduceEqDiff])) | (with_reducible refine st_ret ?_; ((try simp only [seqQ, blockQ, loopQ, forQ, whileQ]); refine retQ_ret ?_; simp [hlt, hlt', hw, hl, hA, hB])) | refine st_seq ?_ | refine st_block ?_ | (refine st_reg follows ?_; (simp -dsimp [hlt, hlt', hw, hl, hA, hB]; (repeat (simp -dsimp (disch := (first | omega | assumption | (refine Bool.eq_false_iff.1 ?_; assumption))) only [wrap_in, if_pos, if_neg]; (try simp -dsimp [hlt, hlt', hw, hl, hA, hB]))))) | (refine guardP_of (fun hc => ?_) (fun hc => ?_) <;> (try simp only [decide_eq_true_eq, decide_eq_false_iff_not, Bool.true_eq_false, Bool.false_eq_true, bne_iff_ne, ne_eq, bne_eq_false_iff_eq, beq_iff_eq, beq_eq_false_iff_ne, Bool.not_eq_true, Bool.not_eq_false, Bool.not_eq_eq_eq_not, Bool.not_true, Bool.not_false, Decidable.not_not] at hc) <;> (try (exfalso; first | omega | exact bool_tf hc (by assumption) | exact bool_ft hc (by assumption) | exact absurd (by assumption) hc)) <;> (simp -dsimp [hlt, hlt', hw, hl, hA, hB, hc]; (repeat (simp -dsimp (disch := (first | omega | assumption | (refine Bool.eq_false_iff.1 ?_; assumption))) only [wrap_in, if_pos, if_neg]; (try simp -dsimp [hlt, hlt', hw, hl, hA, hB, hc]))))) | (refine st_cond rfl (fun hc => ?_) (fun hc => ?_) <;> (try simp only [decide_eq_true_eq, decide_eq_false_iff_not, Bool.true_eq_false, Bool.false_eq_true, bne_iff_ne, ne_eq, bne_eq_false_iff_eq, beq_iff_eq, beq_eq_false_iff_ne, Bool.not_eq_true, Bool.not_eq_false, Bool.not_eq_eq_eq_not, Bool.not_true, Bool.not_false, Decidable.not_not] at hc) <;> (try (exfalso; first | omega | exact bool_tf hc (by assumption) | exact bool_ft hc (by assumption) | exact absurd (by assumption) hc)))))
    exact ⟨hlt, by simp, by simp, by simp [e]⟩
  · have hlt' : ¬ (k : Int) < 5 := by omega
    have hk5 : k = 5 := by omega
    subst hk5
    (repeat' (first | (refine buildP_own ?_; (simp -dsimp [hlt, hlt', hl]; (repeat (simp -dsimp (disch := (first | omega | assumption | (refine Bool.eq_false_iff.1 ?_; assumption))) only [wrap_in, if_pos, if_neg]; (try simp -dsimp [hlt, hlt', hl]))))) |  (with_reducible refine st_skip ?_; (try simp only [seqQ, blockQ, loopQ, forQ, whileQ, reduceIte, Nat.reduceEqDiff])) | (with_reducible refine st_exit ?_; (try simp only [seqQ, blockQ, loopQ, forQ, whileQ, reduceIte, Nat.reduceEqDiff])) | (with_reducible refine st_ret ?_; ((try simp only [seqQ, blockQ, loopQ, forQ, whileQ]); refine retQ_ret ?_; simp [hlt, hlt', hl])) | refine st_seq ?_ | refine st_block ?_ | (refine st_reg follows ?_; (simp -dsimp [hlt, hlt', hl]; (repeat (simp -dsimp (disch := (first | omega | assumption | (refine Bool.eq_false_iff.1 ?_; assumption))) only [wrap_in, if_pos, if_neg]; (try simp -dsimp [hlt, hlt', hl]))))) | (refine guardP_of (fun hc => ?_) (fun hc => ?_) <;> (try simp only [decide_eq_true_eq, decide_eq_false_iff_not, Bool.true_eq_false, Bool.false_eq_true, bne_iff_ne, ne_eq, bne_eq_false_iff_eq, beq_iff_eq, beq_eq_false_iff_ne, Bool.not_eq_true, Bool.not_eq_false, Bool.not_eq_eq_eq_not, Bool.not_true, Bool.not_false, Decidable.not_not] at hc) <;> (try (exfalso; first | omega | exact bool_tf hc (by assumption) | exact bool_ft hc (by assumption) | exact absurd (by assumption) hc)) <;> (simp -dsimp [hlt, hlt', hl, hc]; (repeat (simp -dsimp (disch := (first | omega | assumption | (refine Bool.eq_false_iff.1 ?_; assumption))) only [wrap_in, if_pos, if_neg]; (try simp -dsimp [hlt, hlt', hl, hc]))))) | (refine st_cond rfl (fun hc => ?_) (fun hc => ?_) <;> (try simp only [decide_eq_true_eq, decide_eq_false_iff_not, Bool.true_eq_false, Bool.false_eq_true, bne_iff_ne, ne_eq, bne_eq_false_iff_eq, beq_iff_eq, beq_eq_false_iff_ne, Bool.not_eq_true, Bool.not_eq_false, Bool.not_eq_eq_eq_not, Bool.not_true, Bool.not_false, Decidable.not_not] at hc) <;> (try (exfalso; first | omega | exact bool_tf hc (by assumption) | exact bool_ft hc (by assumption) | exact absurd (by assumption) hc)))))
    exact .refl _

def twHam (k : Nat) : List (Int × Int) := (List.range k).map fun (i : Nat) => ((i : Int), 3)
def twPin (k : Nat) : List (Int × Int) := (List.range k).flatMap fun (s : Nat) => [(0, 4 * (s : Int)), (1, 4 * (s : Int) + 1), (2, 4 * (s : Int) + 2), ((s : Int) % 4, 4 * (s : Int) + 3)]
theorem twPin_len : ∀ k, (twPin k).length = 4 * k
  | 0 => rfl
  | k + 1 => by
    have ih := twPin_len k
    unfold twPin at ih ⊢
    rw [List.range_succ, List.flatMap_append, List.length_append, ih]; simp; omega
def twentyW : Wk := { steps := 20, sections := 5, runs := [1, 2, 3, 4], tunes := 1, hammers := twHam 4, pins := twPin 5 }
def z6 : List SV := [.c (I 0), .c (I 0), .c (.val (.slice none 0 0)), .c (I 0), .c (.val (.slice none 0 0)), .c (.val (.slice none 0 0))]
attribute [simp] z6

set_option maxRecDepth 100000 in
set_option maxHeartbeats 4000000 in
theorem sTwenty : SC Try.prog 45 [] (cWk twentyW) := by
  refine law45 _ _ (by simp) ?_
  (repeat' (first | (refine buildP_own ?_; (simp -dsimp; (repeat (simp -dsimp (disch := (first | omega | assumption | (refine Bool.eq_false_iff.1 ?_; assumption))) only [wrap_in, if_pos, if_neg]; (try simp -dsimp))))) |  (with_reducible refine st_skip ?_; (try simp only [seqQ, blockQ, loopQ, forQ, whileQ, reduceIte, Nat.reduceEqDiff])) | (with_reducible refine st_exit ?_; (try simp only [seqQ, blockQ, loopQ, forQ, whileQ, reduceIte, Nat.reduceEqDiff])) | (with_reducible refine st_ret ?_; ((try simp only [seqQ, blockQ, loopQ, forQ, whileQ]); refine retQ_ret ?_; simp)) | refine st_seq ?_ | refine st_block ?_ | (refine st_reg follows ?_; (simp -dsimp; (repeat (simp -dsimp (disch := (first | omega | assumption | (refine Bool.eq_false_iff.1 ?_; assumption))) only [wrap_in, if_pos, if_neg]; (try simp -dsimp))))) | (refine guardP_of (fun hc => ?_) (fun hc => ?_) <;> (try simp only [decide_eq_true_eq, decide_eq_false_iff_not, Bool.true_eq_false, Bool.false_eq_true, bne_iff_ne, ne_eq, bne_eq_false_iff_eq, beq_iff_eq, beq_eq_false_iff_ne, Bool.not_eq_true, Bool.not_eq_false, Bool.not_eq_eq_eq_not, Bool.not_true, Bool.not_false, Decidable.not_not] at hc) <;> (try (exfalso; first | omega | exact bool_tf hc (by assumption) | exact bool_ft hc (by assumption) | exact absurd (by assumption) hc)) <;> (simp -dsimp [hc]; (repeat (simp -dsimp (disch := (first | omega | assumption | (refine Bool.eq_false_iff.1 ?_; assumption))) only [wrap_in, if_pos, if_neg]; (try simp -dsimp [hc]))))) | (refine st_cond rfl (fun hc => ?_) (fun hc => ?_) <;> (try simp only [decide_eq_true_eq, decide_eq_false_iff_not, Bool.true_eq_false, Bool.false_eq_true, bne_iff_ne, ne_eq, bne_eq_false_iff_eq, beq_iff_eq, beq_eq_false_iff_ne, Bool.not_eq_true, Bool.not_eq_false, Bool.not_eq_eq_eq_not, Bool.not_true, Bool.not_false, Decidable.not_not] at hc) <;> (try (exfalso; first | omega | exact bool_tf hc (by assumption) | exact bool_ft hc (by assumption) | exact absurd (by assumption) hc)))))
  refine st_nilB 1 4 200 91 2 rfl rfl rfl ?_
  refine st_less [(0, .ptr 0 0), (1, .ptr 1 0), (2, .c (I 0))] [(0, .box 26 z6), (1, .box 26 [.c (I 20), .c (I 5), .own 4 4, .c (I 1), .own 200 0, .c (.val (.slice none 0 0))]), (4, .arr 3 1 [[I 1], [I 2], [I 3], [I 4]]), (200, .arr 91 2 [])] (by simp [setL1]) ?_
  refine st_for [0, 1, 4, 200] 4 (fun k T H => T = [(0, .ptr 0 0), (1, .ptr 1 0), (2, .c (I k))] ∧ H = [(0, .box 26 z6), (1, .box 26 [.c (I 20), .c (I 5), .own 4 4, .c (I 1), .own 200 k, .c (.val (.slice none 0 0))]), (4, .arr 3 1 [[I 1], [I 2], [I 3], [I 4]]), (200, .arr 91 2 ((twHam k).map rowP))]) (by simp) ⟨by simp, by simp [twHam]⟩ ?_
  rintro k T H hk ⟨rfl, rfl⟩
  have hl : (twHam k).length = k := by simp [twHam]
  simp only [z6]
  by_cases hlt : k < 4
  · have hlt' : (k : Int) < 4 := by omega
    have hA : k ≤ 9223372036854775806 := by omega
    have hB : (k + 1) * 16 ≤ 140737488355328 := by omega
    have e : twHam (k + 1) = twHam k ++ [((k : Int), 3)] := by unfold twHam; rw [List.range_succ, List.map_append]; rfl
    (repeat' (first | (refine buildP_own ?_; (simp -dsimp [hlt, hlt', hl, hA, hB]; (repeat (simp -dsimp (disch := (first | omega | assumption | (refine Bool.eq_false_iff.1 ?_; assumption))) only [wrap_in, if_pos, if_neg]; (try simp -dsimp [hlt, hlt', hl, hA, hB]))))) |  (with_reducible refine st_skip ?_; (try simp only [seqQ, blockQ, loopQ, forQ, whileQ, reduceIte, Nat.reduceEqDiff])) | (with_reducible refine st_exit ?_; (try simp only [seqQ, blockQ, loopQ, forQ, whileQ, reduceIte, Nat.reduceEqDiff])) | (with_reducible refine st_ret ?_; ((try simp only [seqQ, blockQ, loopQ, forQ, whileQ]); refine retQ_ret ?_; simp [hlt, hlt', hl, hA, hB])) | refine st_seq ?_ | refine st_block ?_ | (refine st_reg follows ?_; (simp -dsimp [hlt, hlt', hl, hA, hB]; (repeat (simp -dsimp (disch := (first | omega | assumption | (refine Bool.eq_false_iff.1 ?_; assumption))) only [wrap_in, if_pos, if_neg]; (try simp -dsimp [hlt, hlt', hl, hA, hB]))))) | (refine guardP_of (fun hc => ?_) (fun hc => ?_) <;> (try simp only [decide_eq_true_eq, decide_eq_false_iff_not, Bool.true_eq_false, Bool.false_eq_true, bne_iff_ne, ne_eq, bne_eq_false_iff_eq, beq_iff_eq, beq_eq_false_iff_ne, Bool.not_eq_true, Bool.not_eq_false, Bool.not_eq_eq_eq_not, Bool.not_true, Bool.not_false, Decidable.not_not] at hc) <;> (try (exfalso; first | omega | exact bool_tf hc (by assumption) | exact bool_ft hc (by assumption) | exact absurd (by assumption) hc)) <;> (simp -dsimp [hlt, hlt', hl, hA, hB, hc]; (repeat (simp -dsimp (disch := (first | omega | assumption | (refine Bool.eq_false_iff.1 ?_; assumption))) only [wrap_in, if_pos, if_neg]; (try simp -dsimp [hlt, hlt', hl, hA, hB, hc]))))) | (refine st_cond rfl (fun hc => ?_) (fun hc => ?_) <;> (try simp only [decide_eq_true_eq, decide_eq_false_iff_not, Bool.true_eq_false, Bool.false_eq_true, bne_iff_ne, ne_eq, bne_eq_false_iff_eq, beq_iff_eq, beq_eq_false_iff_ne, Bool.not_eq_true, Bool.not_eq_false, Bool.not_eq_eq_eq_not, Bool.not_true, Bool.not_false, Decidable.not_not] at hc) <;> (try (exfalso; first | omega | exact bool_tf hc (by assumption) | exact bool_ft hc (by assumption) | exact absurd (by assumption) hc)))))
    exact ⟨hlt, by simp, by simp, by simp [e]⟩
  have hlt' : ¬ (k : Int) < 4 := by omega
  have hk4 : k = 4 := by omega
  subst hk4
  (repeat' (first | (refine buildP_own ?_; (simp -dsimp [hlt, hlt', hl]; (repeat (simp -dsimp (disch := (first | omega | assumption | (refine Bool.eq_false_iff.1 ?_; assumption))) only [wrap_in, if_pos, if_neg]; (try simp -dsimp [hlt, hlt', hl]))))) |  (with_reducible refine st_skip ?_; (try simp only [seqQ, blockQ, loopQ, forQ, whileQ, reduceIte, Nat.reduceEqDiff])) | (with_reducible refine st_exit ?_; (try simp only [seqQ, blockQ, loopQ, forQ, whileQ, reduceIte, Nat.reduceEqDiff])) | (with_reducible refine st_ret ?_; ((try simp only [seqQ, blockQ, loopQ, forQ, whileQ]); refine retQ_ret ?_; simp [hlt, hlt', hl])) | refine st_seq ?_ | refine st_block ?_ | (refine st_reg follows ?_; (simp -dsimp [hlt, hlt', hl]; (repeat (simp -dsimp (disch := (first | omega | assumption | (refine Bool.eq_false_iff.1 ?_; assumption))) only [wrap_in, if_pos, if_neg]; (try simp -dsimp [hlt, hlt', hl]))))) | (refine guardP_of (fun hc => ?_) (fun hc => ?_) <;> (try simp only [decide_eq_true_eq, decide_eq_false_iff_not, Bool.true_eq_false, Bool.false_eq_true, bne_iff_ne, ne_eq, bne_eq_false_iff_eq, beq_iff_eq, beq_eq_false_iff_ne, Bool.not_eq_true, Bool.not_eq_false, Bool.not_eq_eq_eq_not, Bool.not_true, Bool.not_false, Decidable.not_not] at hc) <;> (try (exfalso; first | omega | exact bool_tf hc (by assumption) | exact bool_ft hc (by assumption) | exact absurd (by assumption) hc)) <;> (simp -dsimp [hlt, hlt', hl, hc]; (repeat (simp -dsimp (disch := (first | omega | assumption | (refine Bool.eq_false_iff.1 ?_; assumption))) only [wrap_in, if_pos, if_neg]; (try simp -dsimp [hlt, hlt', hl, hc]))))) | (refine st_cond rfl (fun hc => ?_) (fun hc => ?_) <;> (try simp only [decide_eq_true_eq, decide_eq_false_iff_not, Bool.true_eq_false, Bool.false_eq_true, bne_iff_ne, ne_eq, bne_eq_false_iff_eq, beq_iff_eq, beq_eq_false_iff_ne, Bool.not_eq_true, Bool.not_eq_false, Bool.not_eq_eq_eq_not, Bool.not_true, Bool.not_false, Decidable.not_not] at hc) <;> (try (exfalso; first | omega | exact bool_tf hc (by assumption) | exact bool_ft hc (by assumption) | exact absurd (by assumption) hc)))))
  refine st_nilB 1 5 201 89 2 rfl rfl rfl ?_
  refine st_less [(0, .ptr 0 0), (1, .ptr 1 0), (3, .c (I 0))] [(0, .box 26 z6), (1, .box 26 [.c (I 20), .c (I 5), .own 4 4, .c (I 1), .own 200 4, .own 201 0]), (4, .arr 3 1 [[I 1], [I 2], [I 3], [I 4]]), (200, .arr 91 2 ((twHam 4).map rowP)), (201, .arr 89 2 [])] (by simp [setL1]) ?_
  refine st_for [0, 1, 4, 200, 201] 5 (fun k T H => T = [(0, .ptr 0 0), (1, .ptr 1 0), (3, .c (I k))] ∧ H = [(0, .box 26 z6), (1, .box 26 [.c (I 20), .c (I 5), .own 4 4, .c (I 1), .own 200 4, .own 201 (4 * k)]), (4, .arr 3 1 [[I 1], [I 2], [I 3], [I 4]]), (200, .arr 91 2 ((twHam 4).map rowP)), (201, .arr 89 2 ((twPin k).map rowP))]) (by simp) ⟨by simp, by simp [twPin]⟩ ?_
  clear hlt' hlt
  rintro k T H hk ⟨rfl, rfl⟩
  have hlp : (twPin k).length = 4 * k := twPin_len k
  simp only [z6]
  by_cases hlt : k < 5
  · have hlt' : (k : Int) < 5 := by omega
    have hA : 4 * k ≤ 9223372036854775803 := by omega
    have hA' : 4 * k + 4 ≤ 9223372036854775807 := by omega
    have hB : (4 * k + 4) * 16 ≤ 140737488355328 := by omega
    have e : twPin (k + 1) = twPin k ++ [(0, 4 * (k : Int)), (1, 4 * (k : Int) + 1), (2, 4 * (k : Int) + 2), ((k : Int) % 4, 4 * (k : Int) + 3)] := by unfold twPin; rw [List.range_succ, List.flatMap_append]; simp
    have hw0 : IntKind.i64.wrap (4 * (k : Int)) = 4 * (k : Int) := wrap_in _ (by omega) (by omega)
    have hw1 : IntKind.i64.wrap (4 * (k : Int) + 1) = 4 * (k : Int) + 1 := wrap_in _ (by omega) (by omega)
    have hw2 : IntKind.i64.wrap (4 * (k : Int) + 2) = 4 * (k : Int) + 2 := wrap_in _ (by omega) (by omega)
    have hw3 : IntKind.i64.wrap (4 * (k : Int) + 3) = 4 * (k : Int) + 3 := wrap_in _ (by omega) (by omega)
    have hm : (k : Int).tmod 4 = (k : Int) % 4 := Int.tmod_eq_emod_of_nonneg (by omega)
    (repeat' (first | (refine buildP_own ?_; (simp -dsimp [hlt, hlt', hlp, hA, hA', hB, hw0, hw1, hw2, hw3, hm]; (repeat (simp -dsimp (disch := (first | omega | assumption | (refine Bool.eq_false_iff.1 ?_; assumption))) only [wrap_in, if_pos, if_neg]; (try simp -dsimp [hlt, hlt', hlp, hA, hA', hB, hw0, hw1, hw2, hw3, hm]))))) |  (with_reducible refine st_skip ?_; (try simp only [seqQ, blockQ, loopQ, forQ, whileQ, reduceIte, Nat.reduceEqDiff])) | (with_reducible refine st_exit ?_; (try simp only [seqQ, blockQ, loopQ, forQ, whileQ, reduceIte, Nat.reduceEqDiff])) | (with_reducible refine st_ret ?_; ((try simp only [seqQ, blockQ, loopQ, forQ, whileQ]); refine retQ_ret ?_; simp [hlt, hlt', hlp, hA, hA', hB, hw0, hw1, hw2, hw3, hm])) | refine st_seq ?_ | refine st_block ?_ | (refine st_reg follows ?_; (simp -dsimp [hlt, hlt', hlp, hA, hA', hB, hw0, hw1, hw2, hw3, hm]; (repeat (simp -dsimp (disch := (first | omega | assumption | (refine Bool.eq_false_iff.1 ?_; assumption))) only [wrap_in, if_pos, if_neg]; (try simp -dsimp [hlt, hlt', hlp, hA, hA', hB, hw0, hw1, hw2, hw3, hm]))))) | (refine guardP_of (fun hc => ?_) (fun hc => ?_) <;> (try simp only [decide_eq_true_eq, decide_eq_false_iff_not, Bool.true_eq_false, Bool.false_eq_true, bne_iff_ne, ne_eq, bne_eq_false_iff_eq, beq_iff_eq, beq_eq_false_iff_ne, Bool.not_eq_true, Bool.not_eq_false, Bool.not_eq_eq_eq_not, Bool.not_true, Bool.not_false, Decidable.not_not] at hc) <;> (try (exfalso; first | omega | exact bool_tf hc (by assumption) | exact bool_ft hc (by assumption) | exact absurd (by assumption) hc)) <;> (simp -dsimp [hlt, hlt', hlp, hA, hA', hB, hw0, hw1, hw2, hw3, hm, hc]; (repeat (simp -dsimp (disch := (first | omega | assumption | (refine Bool.eq_false_iff.1 ?_; assumption))) only [wrap_in, if_pos, if_neg]; (try simp -dsimp [hlt, hlt', hlp, hA, hA', hB, hw0, hw1, hw2, hw3, hm, hc]))))) | (refine st_cond rfl (fun hc => ?_) (fun hc => ?_) <;> (try simp only [decide_eq_true_eq, decide_eq_false_iff_not, Bool.true_eq_false, Bool.false_eq_true, bne_iff_ne, ne_eq, bne_eq_false_iff_eq, beq_iff_eq, beq_eq_false_iff_ne, Bool.not_eq_true, Bool.not_eq_false, Bool.not_eq_eq_eq_not, Bool.not_true, Bool.not_false, Decidable.not_not] at hc) <;> (try (exfalso; first | omega | exact bool_tf hc (by assumption) | exact bool_ft hc (by assumption) | exact absurd (by assumption) hc)))))
    exact ⟨hlt, by simp, by simp, by simp [e]; omega⟩
  · have hlt' : ¬ (k : Int) < 5 := by omega
    have hk5 : k = 5 := by omega
    subst hk5
    (repeat' (first | (refine buildP_own ?_; (simp -dsimp [hlt, hlt', hlp, hl]; (repeat (simp -dsimp (disch := (first | omega | assumption | (refine Bool.eq_false_iff.1 ?_; assumption))) only [wrap_in, if_pos, if_neg]; (try simp -dsimp [hlt, hlt', hlp, hl]))))) |  (with_reducible refine st_skip ?_; (try simp only [seqQ, blockQ, loopQ, forQ, whileQ, reduceIte, Nat.reduceEqDiff])) | (with_reducible refine st_exit ?_; (try simp only [seqQ, blockQ, loopQ, forQ, whileQ, reduceIte, Nat.reduceEqDiff])) | (with_reducible refine st_ret ?_; ((try simp only [seqQ, blockQ, loopQ, forQ, whileQ]); refine retQ_ret ?_; simp [hlt, hlt', hlp, hl])) | refine st_seq ?_ | refine st_block ?_ | (refine st_reg follows ?_; (simp -dsimp [hlt, hlt', hlp, hl]; (repeat (simp -dsimp (disch := (first | omega | assumption | (refine Bool.eq_false_iff.1 ?_; assumption))) only [wrap_in, if_pos, if_neg]; (try simp -dsimp [hlt, hlt', hlp, hl]))))) | (refine guardP_of (fun hc => ?_) (fun hc => ?_) <;> (try simp only [decide_eq_true_eq, decide_eq_false_iff_not, Bool.true_eq_false, Bool.false_eq_true, bne_iff_ne, ne_eq, bne_eq_false_iff_eq, beq_iff_eq, beq_eq_false_iff_ne, Bool.not_eq_true, Bool.not_eq_false, Bool.not_eq_eq_eq_not, Bool.not_true, Bool.not_false, Decidable.not_not] at hc) <;> (try (exfalso; first | omega | exact bool_tf hc (by assumption) | exact bool_ft hc (by assumption) | exact absurd (by assumption) hc)) <;> (simp -dsimp [hlt, hlt', hlp, hl, hc]; (repeat (simp -dsimp (disch := (first | omega | assumption | (refine Bool.eq_false_iff.1 ?_; assumption))) only [wrap_in, if_pos, if_neg]; (try simp -dsimp [hlt, hlt', hlp, hl, hc]))))) | (refine st_cond rfl (fun hc => ?_) (fun hc => ?_) <;> (try simp only [decide_eq_true_eq, decide_eq_false_iff_not, Bool.true_eq_false, Bool.false_eq_true, bne_iff_ne, ne_eq, bne_eq_false_iff_eq, beq_iff_eq, beq_eq_false_iff_ne, Bool.not_eq_true, Bool.not_eq_false, Bool.not_eq_eq_eq_not, Bool.not_true, Bool.not_false, Decidable.not_not] at hc) <;> (try (exfalso; first | omega | exact bool_tf hc (by assumption) | exact bool_ft hc (by assumption) | exact absurd (by assumption) hc)))))
    exact .refl _

end Go.Proofs.Ytdgplebmlggmcaa
/- known(): the document's examples. -/
namespace Go.Proofs.Ytdgplebmlggmcaa
open Go.RowKit

theorem k1 : (if worksOk twentyW then clashL twentyW else []) = [(0, 19), (3, 4), (5, 7), (7, 9), (10, 11)] := by decide +kernel
theorem k2 : (if worksOk twentyW then (0 : Int) else 2) = 0 := by decide +kernel
theorem blows_sorted (c : Wk) (t s n : Int) (h : (strikes c t s n).Pairwise fun x y => leS x y = true) : blowsL c t s n = (strikes c t s n).map fun x => (x.1, x.2.1) := by
  unfold blowsL; rw [List.mergeSort_of_pairwise h]
theorem k4 : runErr twentyW 0 0 0 = 0 := by decide +kernel
theorem k3 : playsL twentyW 0 0 0 = [(0, 0), (1, 1), (2, 2), (3, 0)] := by
  unfold playsL; rw [if_pos k4, blows_sorted _ _ _ _ (by decide +kernel)]; decide +kernel
theorem k6 : heardErr twentyW 0 0 [0, 1, 2, 0] = 0 := by decide +kernel
theorem k5 : heardL twentyW 0 0 [0, 1, 2, 0] = [0, 4] := by
  unfold heardL; rw [if_pos k6]
  have h : ∀ s ∈ List.range 5, (strikes twentyW 0 ((s : Nat) : Int) 1).Pairwise fun x y => leS x y = true := by decide +kernel
  have e : (List.range 5).filter (fun (s : Nat) => bellsEq (blowsL twentyW 0 (s : Int) 1) [0, 1, 2, 0]) = [0, 4] := by
    rw [List.filter_congr (q := fun (s : Nat) => bellsEq ((strikes twentyW 0 (s : Int) 1).map fun x => (x.1, x.2.1)) [0, 1, 2, 0]) (fun s hs => by rw [blows_sorted _ _ _ _ (h s hs)])]
    decide +kernel
  show ((List.range 5).filter (fun (s : Nat) => bellsEq (blowsL twentyW 0 (s : Int) 1) [0, 1, 2, 0])).map (fun (s : Nat) => (s : Int)) = [0, 4]
  rw [e]; rfl
theorem k7 : bringL twentyW 0 2 1 = (2, 8) := by decide +kernel
theorem k8 : runErr twentyW 0 2 1 = 0 := by decide +kernel
theorem k9 : hamsOf 10 3 fiveT.2 = [(5, 3), (5, 3), (5, 3)] := by decide +kernel
theorem k10 : numsOf 10 3 fiveT.2 = [0, 1, 0, 1, 2] := by decide +kernel
theorem k11 : tuneErr 10 fiveT.2 3 = 0 := by decide +kernel
theorem k12 : (pinC [fiveT, fiveT] 3).pins = [(0, 0), (2, 2), (0, 4), (2, 6), (4, 8), (1, 0), (3, 2), (1, 4), (3, 6), (5, 8)] := by decide +kernel
theorem k13 : pinErr [fiveT, fiveT] 3 = 0 := by decide +kernel
theorem k14 : meetR [(4, 0, 1), (6, 3, 3)] 0 = (9, 0) := by decide +kernel

theorem kClash : SC Try.prog 18 [cWk twentyW] (.tup [slP [(0, 19), (3, 4), (5, 7), (7, 9), (10, 11)], I 0]) := by have h := cClash twentyW; rw [k1, k2] at h; exact h
theorem kPlays : SC Try.prog 22 [cWk twentyW, I 0, I 0, I 0] (.tup [slP [(0, 0), (1, 1), (2, 2), (3, 0)], I 0]) := by have h := cPlays twentyW 0 0 0; rw [k3, k4] at h; exact h
theorem kHeard : SC Try.prog 28 [cWk twentyW, I 0, I 0, slI [0, 1, 2, 0]] (.tup [slI [0, 4], I 0]) := by have h := cHeard twentyW 0 0 [0, 1, 2, 0]; rw [k5, k6] at h; exact h
theorem kBring : SC Try.prog 23 [cWk twentyW, I 0, I 2, I 1] (.tup [I 2, I 8, I 0]) := by have h := cBring twentyW 0 2 1; rw [k7, k8] at h; exact h
theorem kFewest : SC Try.prog 32 [cTune fiveT.1 fiveT.2, I 3] (.tup [slP [(5, 3), (5, 3), (5, 3)], slI [0, 1, 0, 1, 2], I 0]) := by have h := cFewest 10 3 fiveT.2; rw [k9, k10, k11] at h; exact h
def kPinL : List (Int × Int) := [(0, 0), (2, 2), (0, 4), (2, 6), (4, 8), (1, 0), (3, 2), (1, 4), (3, 6), (5, 8)]
theorem kPin : ∃ x0 x1 x2 x3 x4, SC Try.prog 38 [.sl 2 [[I fiveT.1, slP fiveT.2], [I fiveT.1, slP fiveT.2]], I 3] (.tup [.agg [I x0, I x1, slI x2, I x3, slP x4, slP kPinL], I 0]) := by
  have h := cPin [fiveT, fiveT] 3 (by simp [fiveT])
  rw [k13] at h
  unfold cWk at h
  rw [k12] at h
  exact ⟨_, _, _, _, _, h⟩
theorem kMeet : SC Try.prog 40 [slS [(4, 0, 1), (6, 3, 3)], I 0] (.tup [I 9, I 0]) := by have h := cMeet [(4, 0, 1), (6, 3, 3)] 0; rw [k14] at h; exact h

set_option maxRecDepth 100000 in
set_option maxHeartbeats 4000000 in
theorem sKnown : SC Try.prog 15 [] (B true) := by
  obtain ⟨x0, x1, x2, x3, x4, hP⟩ := kPin
  have hl : kPinL.length = 10 := rfl
  have h9 : ∀ h : 9 < kPinL.length, kPinL[9] = (5, 8) := fun _ => rfl
  refine law15 _ _ (by simp) ?_
  (repeat' (first | (refine buildP_frz ?_; (simp -dsimp [hl, h9]; (repeat (simp -dsimp (disch := (first | omega | assumption | (refine Bool.eq_false_iff.1 ?_; assumption))) only [wrap_in, if_pos, if_neg]; (try simp -dsimp [hl, h9]))))) | (refine callP_of (sTwenty) (.inl rfl) ?_; (simp -dsimp [hl, h9]; (repeat (simp -dsimp (disch := (first | omega | assumption | (refine Bool.eq_false_iff.1 ?_; assumption))) only [wrap_in, if_pos, if_neg]; (try simp -dsimp [hl, h9]))))) | (refine callP_of (sFive) (.inl rfl) ?_; (simp -dsimp [hl, h9]; (repeat (simp -dsimp (disch := (first | omega | assumption | (refine Bool.eq_false_iff.1 ?_; assumption))) only [wrap_in, if_pos, if_neg]; (try simp -dsimp [hl, h9]))))) | (refine callP_of (kClash) (.inl rfl) ?_; (simp -dsimp [hl, h9]; (repeat (simp -dsimp (disch := (first | omega | assumption | (refine Bool.eq_false_iff.1 ?_; assumption))) only [wrap_in, if_pos, if_neg]; (try simp -dsimp [hl, h9]))))) | (refine callP_of (kPlays) (.inl rfl) ?_; (simp -dsimp [hl, h9]; (repeat (simp -dsimp (disch := (first | omega | assumption | (refine Bool.eq_false_iff.1 ?_; assumption))) only [wrap_in, if_pos, if_neg]; (try simp -dsimp [hl, h9]))))) | (refine callP_of (kHeard) (.inl rfl) ?_; (simp -dsimp [hl, h9]; (repeat (simp -dsimp (disch := (first | omega | assumption | (refine Bool.eq_false_iff.1 ?_; assumption))) only [wrap_in, if_pos, if_neg]; (try simp -dsimp [hl, h9]))))) | (refine callP_of (kBring) (.inl rfl) ?_; (simp -dsimp [hl, h9]; (repeat (simp -dsimp (disch := (first | omega | assumption | (refine Bool.eq_false_iff.1 ?_; assumption))) only [wrap_in, if_pos, if_neg]; (try simp -dsimp [hl, h9]))))) | (refine callP_of (kFewest) (.inl rfl) ?_; (simp -dsimp [hl, h9]; (repeat (simp -dsimp (disch := (first | omega | assumption | (refine Bool.eq_false_iff.1 ?_; assumption))) only [wrap_in, if_pos, if_neg]; (try simp -dsimp [hl, h9]))))) | (refine callP_of (hP) (.inl rfl) ?_; (simp -dsimp [hl, h9]; (repeat (simp -dsimp (disch := (first | omega | assumption | (refine Bool.eq_false_iff.1 ?_; assumption))) only [wrap_in, if_pos, if_neg]; (try simp -dsimp [hl, h9]))))) | (refine callP_of (kMeet) (.inl rfl) ?_; (simp -dsimp [hl, h9]; (repeat (simp -dsimp (disch := (first | omega | assumption | (refine Bool.eq_false_iff.1 ?_; assumption))) only [wrap_in, if_pos, if_neg]; (try simp -dsimp [hl, h9]))))) |  (with_reducible refine st_skip ?_; (try simp only [seqQ, blockQ, loopQ, forQ, whileQ, reduceIte, Nat.reduceEqDiff])) | (with_reducible refine st_exit ?_; (try simp only [seqQ, blockQ, loopQ, forQ, whileQ, reduceIte, Nat.reduceEqDiff])) | (with_reducible refine st_ret ?_; ((try simp only [seqQ, blockQ, loopQ, forQ, whileQ]); refine retQ_ret ?_; simp [hl, h9])) | refine st_seq ?_ | refine st_block ?_ | (refine st_reg follows ?_; (simp -dsimp [hl, h9]; (repeat (simp -dsimp (disch := (first | omega | assumption | (refine Bool.eq_false_iff.1 ?_; assumption))) only [wrap_in, if_pos, if_neg]; (try simp -dsimp [hl, h9]))))) | (refine guardP_of (fun hc => ?_) (fun hc => ?_) <;> (try simp only [decide_eq_true_eq, decide_eq_false_iff_not, Bool.true_eq_false, Bool.false_eq_true, bne_iff_ne, ne_eq, bne_eq_false_iff_eq, beq_iff_eq, beq_eq_false_iff_ne, Bool.not_eq_true, Bool.not_eq_false, Bool.not_eq_eq_eq_not, Bool.not_true, Bool.not_false, Decidable.not_not] at hc) <;> (try (exfalso; first | omega | exact bool_tf hc (by assumption) | exact bool_ft hc (by assumption) | exact absurd (by assumption) hc)) <;> (simp -dsimp [hl, h9, hc]; (repeat (simp -dsimp (disch := (first | omega | assumption | (refine Bool.eq_false_iff.1 ?_; assumption))) only [wrap_in, if_pos, if_neg]; (try simp -dsimp [hl, h9, hc]))))) | (refine st_cond rfl (fun hc => ?_) (fun hc => ?_) <;> (try simp only [decide_eq_true_eq, decide_eq_false_iff_not, Bool.true_eq_false, Bool.false_eq_true, bne_iff_ne, ne_eq, bne_eq_false_iff_eq, beq_iff_eq, beq_eq_false_iff_ne, Bool.not_eq_true, Bool.not_eq_false, Bool.not_eq_eq_eq_not, Bool.not_true, Bool.not_false, Decidable.not_not] at hc) <;> (try (exfalso; first | omega | exact bool_tf hc (by assumption) | exact bool_ft hc (by assumption) | exact absurd (by assumption) hc)))))
  exact .refl _

end Go.Proofs.Ytdgplebmlggmcaa
/- Law functions, II: ChimeClashes. -/
namespace Go.Proofs.Ytdgplebmlggmcaa
open Go.RowKit

theorem large_bounds {c : Wk} (h : largeB c = false) : c.runs.length ≤ 10 ∧ c.hammers.length ≤ 45 ∧ c.pins.length ≤ 410 ∧ (worksOk c = true → c.steps ≤ 200 ∧ c.pins.length ≤ 60) := by
  unfold largeB at h
  simp at h
  obtain ⟨⟨⟨⟨h1, h2⟩, h3⟩, h4⟩, h5⟩ := h
  refine ⟨h1, h2, h4, fun hok => ⟨h5 hok, ?_⟩⟩
  have := (worksOk_parts hok).2.2.2.2.2.2.2.2.1
  omega

theorem pins_ok {c : Wk} (hok : worksOk c = true) : ∀ p ∈ c.pins, 0 ≤ p.1 ∧ p.1 < c.hammers.length * c.tunes ∧ 0 ≤ p.2 ∧ p.2 < c.steps := fun p hp => by
  have := pinOk_bounds (List.all_eq_true.1 (worksOk_parts hok).2.2.2.2.2.2.2.2.2.1 p hp)
  omega

set_option maxRecDepth 100000 in
set_option maxHeartbeats 4000000 in
theorem lClashes (c : Wk) : SC Try.prog 3 [cWk c] (B true) := by
  have hL := sLarge c
  refine law3 _ _ (by simp) ?_
  cases hl : largeB c with
  | true =>
    rw [hl] at hL
    unfold cWk slI slP
    (repeat' (first | (refine buildP_own ?_; (simp -dsimp [hl]; (repeat (simp -dsimp (disch := (first | omega | assumption | (refine Bool.eq_false_iff.1 ?_; assumption))) only [wrap_in, if_pos, if_neg]; (try simp -dsimp [hl]))))) | (refine callP_of (hL) (.inl rfl) ?_; (simp -dsimp [hl]; (repeat (simp -dsimp (disch := (first | omega | assumption | (refine Bool.eq_false_iff.1 ?_; assumption))) only [wrap_in, if_pos, if_neg]; (try simp -dsimp [hl]))))) | (refine callP_of (sKnown) (.inl rfl) ?_; (simp -dsimp [hl]; (repeat (simp -dsimp (disch := (first | omega | assumption | (refine Bool.eq_false_iff.1 ?_; assumption))) only [wrap_in, if_pos, if_neg]; (try simp -dsimp [hl]))))) |  (with_reducible refine st_skip ?_; (try simp only [seqQ, blockQ, loopQ, forQ, whileQ, reduceIte, Nat.reduceEqDiff])) | (with_reducible refine st_exit ?_; (try simp only [seqQ, blockQ, loopQ, forQ, whileQ, reduceIte, Nat.reduceEqDiff])) | (with_reducible refine st_ret ?_; ((try simp only [seqQ, blockQ, loopQ, forQ, whileQ]); refine retQ_ret ?_; simp [hl])) | refine st_seq ?_ | refine st_block ?_ | (refine st_reg follows ?_; (simp -dsimp [hl]; (repeat (simp -dsimp (disch := (first | omega | assumption | (refine Bool.eq_false_iff.1 ?_; assumption))) only [wrap_in, if_pos, if_neg]; (try simp -dsimp [hl]))))) | (refine guardP_of (fun hc => ?_) (fun hc => ?_) <;> (try simp only [decide_eq_true_eq, decide_eq_false_iff_not, Bool.true_eq_false, Bool.false_eq_true, bne_iff_ne, ne_eq, bne_eq_false_iff_eq, beq_iff_eq, beq_eq_false_iff_ne, Bool.not_eq_true, Bool.not_eq_false, Bool.not_eq_eq_eq_not, Bool.not_true, Bool.not_false, Decidable.not_not] at hc) <;> (try (exfalso; first | omega | exact bool_tf hc (by assumption) | exact bool_ft hc (by assumption) | exact absurd (by assumption) hc)) <;> (simp -dsimp [hl, hc]; (repeat (simp -dsimp (disch := (first | omega | assumption | (refine Bool.eq_false_iff.1 ?_; assumption))) only [wrap_in, if_pos, if_neg]; (try simp -dsimp [hl, hc]))))) | (refine st_cond rfl (fun hc => ?_) (fun hc => ?_) <;> (try simp only [decide_eq_true_eq, decide_eq_false_iff_not, Bool.true_eq_false, Bool.false_eq_true, bne_iff_ne, ne_eq, bne_eq_false_iff_eq, beq_iff_eq, beq_eq_false_iff_ne, Bool.not_eq_true, Bool.not_eq_false, Bool.not_eq_eq_eq_not, Bool.not_true, Bool.not_false, Decidable.not_not] at hc) <;> (try (exfalso; first | omega | exact bool_tf hc (by assumption) | exact bool_ft hc (by assumption) | exact absurd (by assumption) hc)))))
    exact .refl _
  | false =>
    rw [hl] at hL
    obtain ⟨b1, b2, b3, b4⟩ := large_bounds hl
    have hC := sWorksC c (by omega) (by omega) (by omega)
    have hS : SC Try.prog 19 [cWk c, cWk c] (B true) := by have h := sSame c c (by omega) (by omega) (by omega) (by omega) (by omega) (by omega); simpa using h
    have hW := sWorks c
    have hK := cCheck c
    have hX := cClash c
    cases hok : worksOk c with
    | false =>
      rw [hok] at hW hK hX
      simp only [Bool.false_eq_true, if_false] at hK hX
      unfold cWk slI slP
      (repeat' (first | (refine buildP_own ?_; (simp -dsimp [hl]; (repeat (simp -dsimp (disch := (first | omega | assumption | (refine Bool.eq_false_iff.1 ?_; assumption))) only [wrap_in, if_pos, if_neg]; (try simp -dsimp [hl]))))) | (refine callP_of (hL) (.inl rfl) ?_; (simp -dsimp [hl]; (repeat (simp -dsimp (disch := (first | omega | assumption | (refine Bool.eq_false_iff.1 ?_; assumption))) only [wrap_in, if_pos, if_neg]; (try simp -dsimp [hl]))))) | (refine callP_of (sKnown) (.inl rfl) ?_; (simp -dsimp [hl]; (repeat (simp -dsimp (disch := (first | omega | assumption | (refine Bool.eq_false_iff.1 ?_; assumption))) only [wrap_in, if_pos, if_neg]; (try simp -dsimp [hl]))))) | (refine callP_of (hC) (.inl rfl) ?_; (simp -dsimp [hl]; (repeat (simp -dsimp (disch := (first | omega | assumption | (refine Bool.eq_false_iff.1 ?_; assumption))) only [wrap_in, if_pos, if_neg]; (try simp -dsimp [hl]))))) | (refine callP_of (hS) (.inl rfl) ?_; (simp -dsimp [hl]; (repeat (simp -dsimp (disch := (first | omega | assumption | (refine Bool.eq_false_iff.1 ?_; assumption))) only [wrap_in, if_pos, if_neg]; (try simp -dsimp [hl]))))) | (refine callP_of (hW) (.inl rfl) ?_; (simp -dsimp [hl]; (repeat (simp -dsimp (disch := (first | omega | assumption | (refine Bool.eq_false_iff.1 ?_; assumption))) only [wrap_in, if_pos, if_neg]; (try simp -dsimp [hl]))))) | (refine callP_of (hK) (.inl rfl) ?_; (simp -dsimp [hl]; (repeat (simp -dsimp (disch := (first | omega | assumption | (refine Bool.eq_false_iff.1 ?_; assumption))) only [wrap_in, if_pos, if_neg]; (try simp -dsimp [hl]))))) | (refine callP_of (hX) (.inl rfl) ?_; (simp -dsimp [hl]; (repeat (simp -dsimp (disch := (first | omega | assumption | (refine Bool.eq_false_iff.1 ?_; assumption))) only [wrap_in, if_pos, if_neg]; (try simp -dsimp [hl]))))) |  (with_reducible refine st_skip ?_; (try simp only [seqQ, blockQ, loopQ, forQ, whileQ, reduceIte, Nat.reduceEqDiff])) | (with_reducible refine st_exit ?_; (try simp only [seqQ, blockQ, loopQ, forQ, whileQ, reduceIte, Nat.reduceEqDiff])) | (with_reducible refine st_ret ?_; ((try simp only [seqQ, blockQ, loopQ, forQ, whileQ]); refine retQ_ret ?_; simp [hl])) | refine st_seq ?_ | refine st_block ?_ | (refine st_reg follows ?_; (simp -dsimp [hl]; (repeat (simp -dsimp (disch := (first | omega | assumption | (refine Bool.eq_false_iff.1 ?_; assumption))) only [wrap_in, if_pos, if_neg]; (try simp -dsimp [hl]))))) | (refine guardP_of (fun hc => ?_) (fun hc => ?_) <;> (try simp only [decide_eq_true_eq, decide_eq_false_iff_not, Bool.true_eq_false, Bool.false_eq_true, bne_iff_ne, ne_eq, bne_eq_false_iff_eq, beq_iff_eq, beq_eq_false_iff_ne, Bool.not_eq_true, Bool.not_eq_false, Bool.not_eq_eq_eq_not, Bool.not_true, Bool.not_false, Decidable.not_not] at hc) <;> (try (exfalso; first | omega | exact bool_tf hc (by assumption) | exact bool_ft hc (by assumption) | exact absurd (by assumption) hc)) <;> (simp -dsimp [hl, hc]; (repeat (simp -dsimp (disch := (first | omega | assumption | (refine Bool.eq_false_iff.1 ?_; assumption))) only [wrap_in, if_pos, if_neg]; (try simp -dsimp [hl, hc]))))) | (refine st_cond rfl (fun hc => ?_) (fun hc => ?_) <;> (try simp only [decide_eq_true_eq, decide_eq_false_iff_not, Bool.true_eq_false, Bool.false_eq_true, bne_iff_ne, ne_eq, bne_eq_false_iff_eq, beq_iff_eq, beq_eq_false_iff_ne, Bool.not_eq_true, Bool.not_eq_false, Bool.not_eq_eq_eq_not, Bool.not_true, Bool.not_false, Decidable.not_not] at hc) <;> (try (exfalso; first | omega | exact bool_tf hc (by assumption) | exact bool_ft hc (by assumption) | exact absurd (by assumption) hc)))))
      exact .refl _
    | true =>
      rw [hok] at hW hK hX
      simp only [if_true] at hK hX
      have p := worksOk_parts hok
      have i1 := inn_iff.1 p.1
      have i6 := inn_iff.1 p.2.2.2.2.2.1
      have hR := sClash c (by omega) (by omega) (by omega) (by omega) p.2.2.2.2.2.2.2.2.1 (by omega) (pins_ok hok)
      obtain ⟨l, hll⟩ : ∃ l, clashL c = l := ⟨_, rfl⟩
      have hlb : l.length ≤ 160000 := by rw [← hll]; have := clOut_len c p.2.2.2.2.2.2.2.2.1 c.pins.length; unfold clashL; omega
      rw [hll] at hX hR
      unfold cWk slI slP
      (repeat' (first | (refine buildP_own ?_; (simp -dsimp [hl]; (repeat (simp -dsimp (disch := (first | omega | assumption | (refine Bool.eq_false_iff.1 ?_; assumption))) only [wrap_in, if_pos, if_neg]; (try simp -dsimp [hl]))))) | (refine callP_of (hL) (.inl rfl) ?_; (simp -dsimp [hl]; (repeat (simp -dsimp (disch := (first | omega | assumption | (refine Bool.eq_false_iff.1 ?_; assumption))) only [wrap_in, if_pos, if_neg]; (try simp -dsimp [hl]))))) | (refine callP_of (sKnown) (.inl rfl) ?_; (simp -dsimp [hl]; (repeat (simp -dsimp (disch := (first | omega | assumption | (refine Bool.eq_false_iff.1 ?_; assumption))) only [wrap_in, if_pos, if_neg]; (try simp -dsimp [hl]))))) | (refine callP_of (hC) (.inl rfl) ?_; (simp -dsimp [hl]; (repeat (simp -dsimp (disch := (first | omega | assumption | (refine Bool.eq_false_iff.1 ?_; assumption))) only [wrap_in, if_pos, if_neg]; (try simp -dsimp [hl]))))) | (refine callP_of (hS) (.inl rfl) ?_; (simp -dsimp [hl]; (repeat (simp -dsimp (disch := (first | omega | assumption | (refine Bool.eq_false_iff.1 ?_; assumption))) only [wrap_in, if_pos, if_neg]; (try simp -dsimp [hl]))))) | (refine callP_of (hW) (.inl rfl) ?_; (simp -dsimp [hl]; (repeat (simp -dsimp (disch := (first | omega | assumption | (refine Bool.eq_false_iff.1 ?_; assumption))) only [wrap_in, if_pos, if_neg]; (try simp -dsimp [hl]))))) | (refine callP_of (hK) (.inl rfl) ?_; (simp -dsimp [hl]; (repeat (simp -dsimp (disch := (first | omega | assumption | (refine Bool.eq_false_iff.1 ?_; assumption))) only [wrap_in, if_pos, if_neg]; (try simp -dsimp [hl]))))) | (refine callP_of (hX) (.inl rfl) ?_; (simp -dsimp [hl]; (repeat (simp -dsimp (disch := (first | omega | assumption | (refine Bool.eq_false_iff.1 ?_; assumption))) only [wrap_in, if_pos, if_neg]; (try simp -dsimp [hl]))))) | (refine callP_of (hR) (.inl rfl) ?_; (simp -dsimp [hl]; (repeat (simp -dsimp (disch := (first | omega | assumption | (refine Bool.eq_false_iff.1 ?_; assumption))) only [wrap_in, if_pos, if_neg]; (try simp -dsimp [hl]))))) |  (with_reducible refine st_skip ?_; (try simp only [seqQ, blockQ, loopQ, forQ, whileQ, reduceIte, Nat.reduceEqDiff])) | (with_reducible refine st_exit ?_; (try simp only [seqQ, blockQ, loopQ, forQ, whileQ, reduceIte, Nat.reduceEqDiff])) | (with_reducible refine st_ret ?_; ((try simp only [seqQ, blockQ, loopQ, forQ, whileQ]); refine retQ_ret ?_; simp [hl])) | refine st_seq ?_ | refine st_block ?_ | (refine st_reg follows ?_; (simp -dsimp [hl]; (repeat (simp -dsimp (disch := (first | omega | assumption | (refine Bool.eq_false_iff.1 ?_; assumption))) only [wrap_in, if_pos, if_neg]; (try simp -dsimp [hl]))))) | (refine guardP_of (fun hc => ?_) (fun hc => ?_) <;> (try simp only [decide_eq_true_eq, decide_eq_false_iff_not, Bool.true_eq_false, Bool.false_eq_true, bne_iff_ne, ne_eq, bne_eq_false_iff_eq, beq_iff_eq, beq_eq_false_iff_ne, Bool.not_eq_true, Bool.not_eq_false, Bool.not_eq_eq_eq_not, Bool.not_true, Bool.not_false, Decidable.not_not] at hc) <;> (try (exfalso; first | omega | exact bool_tf hc (by assumption) | exact bool_ft hc (by assumption) | exact absurd (by assumption) hc)) <;> (simp -dsimp [hl, hc]; (repeat (simp -dsimp (disch := (first | omega | assumption | (refine Bool.eq_false_iff.1 ?_; assumption))) only [wrap_in, if_pos, if_neg]; (try simp -dsimp [hl, hc]))))) | (refine st_cond rfl (fun hc => ?_) (fun hc => ?_) <;> (try simp only [decide_eq_true_eq, decide_eq_false_iff_not, Bool.true_eq_false, Bool.false_eq_true, bne_iff_ne, ne_eq, bne_eq_false_iff_eq, beq_iff_eq, beq_eq_false_iff_ne, Bool.not_eq_true, Bool.not_eq_false, Bool.not_eq_eq_eq_not, Bool.not_true, Bool.not_false, Decidable.not_not] at hc) <;> (try (exfalso; first | omega | exact bool_tf hc (by assumption) | exact bool_ft hc (by assumption) | exact absurd (by assumption) hc)))))
      refine st_for [] l.length (fun k T H => T = [(5, .c (slP l)), (7, .c (slP l)), (8, .c (I k))] ∧ H = []) (by simp) ⟨by simp, by simp⟩ ?_
      rintro k T H hk ⟨rfl, rfl⟩
      simp only [slP]
      by_cases hlt : k < l.length
      · (repeat' (first | (refine buildP_own ?_; (simp -dsimp [hlt]; (repeat (simp -dsimp (disch := (first | omega | assumption | (refine Bool.eq_false_iff.1 ?_; assumption))) only [wrap_in, if_pos, if_neg]; (try simp -dsimp [hlt]))))) |  (with_reducible refine st_skip ?_; (try simp only [seqQ, blockQ, loopQ, forQ, whileQ, reduceIte, Nat.reduceEqDiff])) | (with_reducible refine st_exit ?_; (try simp only [seqQ, blockQ, loopQ, forQ, whileQ, reduceIte, Nat.reduceEqDiff])) | (with_reducible refine st_ret ?_; ((try simp only [seqQ, blockQ, loopQ, forQ, whileQ]); refine retQ_ret ?_; simp [hlt])) | refine st_seq ?_ | refine st_block ?_ | (refine st_reg follows ?_; (simp -dsimp [hlt]; (repeat (simp -dsimp (disch := (first | omega | assumption | (refine Bool.eq_false_iff.1 ?_; assumption))) only [wrap_in, if_pos, if_neg]; (try simp -dsimp [hlt]))))) | (refine guardP_of (fun hc => ?_) (fun hc => ?_) <;> (try simp only [decide_eq_true_eq, decide_eq_false_iff_not, Bool.true_eq_false, Bool.false_eq_true, bne_iff_ne, ne_eq, bne_eq_false_iff_eq, beq_iff_eq, beq_eq_false_iff_ne, Bool.not_eq_true, Bool.not_eq_false, Bool.not_eq_eq_eq_not, Bool.not_true, Bool.not_false, Decidable.not_not] at hc) <;> (try (exfalso; first | omega | exact bool_tf hc (by assumption) | exact bool_ft hc (by assumption) | exact absurd (by assumption) hc)) <;> (simp -dsimp [hlt, hc]; (repeat (simp -dsimp (disch := (first | omega | assumption | (refine Bool.eq_false_iff.1 ?_; assumption))) only [wrap_in, if_pos, if_neg]; (try simp -dsimp [hlt, hc]))))) | (refine st_cond rfl (fun hc => ?_) (fun hc => ?_) <;> (try simp only [decide_eq_true_eq, decide_eq_false_iff_not, Bool.true_eq_false, Bool.false_eq_true, bne_iff_ne, ne_eq, bne_eq_false_iff_eq, beq_iff_eq, beq_eq_false_iff_ne, Bool.not_eq_true, Bool.not_eq_false, Bool.not_eq_eq_eq_not, Bool.not_true, Bool.not_false, Decidable.not_not] at hc) <;> (try (exfalso; first | omega | exact bool_tf hc (by assumption) | exact bool_ft hc (by assumption) | exact absurd (by assumption) hc)))))
        exact ⟨hlt, by simp, by simp, by simp⟩
      · (repeat' (first | (refine buildP_own ?_; (simp -dsimp [hlt]; (repeat (simp -dsimp (disch := (first | omega | assumption | (refine Bool.eq_false_iff.1 ?_; assumption))) only [wrap_in, if_pos, if_neg]; (try simp -dsimp [hlt]))))) | (refine callP_of (sKnown) (.inl rfl) ?_; (simp -dsimp [hlt]; (repeat (simp -dsimp (disch := (first | omega | assumption | (refine Bool.eq_false_iff.1 ?_; assumption))) only [wrap_in, if_pos, if_neg]; (try simp -dsimp [hlt]))))) |  (with_reducible refine st_skip ?_; (try simp only [seqQ, blockQ, loopQ, forQ, whileQ, reduceIte, Nat.reduceEqDiff])) | (with_reducible refine st_exit ?_; (try simp only [seqQ, blockQ, loopQ, forQ, whileQ, reduceIte, Nat.reduceEqDiff])) | (with_reducible refine st_ret ?_; ((try simp only [seqQ, blockQ, loopQ, forQ, whileQ]); refine retQ_ret ?_; simp [hlt])) | refine st_seq ?_ | refine st_block ?_ | (refine st_reg follows ?_; (simp -dsimp [hlt]; (repeat (simp -dsimp (disch := (first | omega | assumption | (refine Bool.eq_false_iff.1 ?_; assumption))) only [wrap_in, if_pos, if_neg]; (try simp -dsimp [hlt]))))) | (refine guardP_of (fun hc => ?_) (fun hc => ?_) <;> (try simp only [decide_eq_true_eq, decide_eq_false_iff_not, Bool.true_eq_false, Bool.false_eq_true, bne_iff_ne, ne_eq, bne_eq_false_iff_eq, beq_iff_eq, beq_eq_false_iff_ne, Bool.not_eq_true, Bool.not_eq_false, Bool.not_eq_eq_eq_not, Bool.not_true, Bool.not_false, Decidable.not_not] at hc) <;> (try (exfalso; first | omega | exact bool_tf hc (by assumption) | exact bool_ft hc (by assumption) | exact absurd (by assumption) hc)) <;> (simp -dsimp [hlt, hc]; (repeat (simp -dsimp (disch := (first | omega | assumption | (refine Bool.eq_false_iff.1 ?_; assumption))) only [wrap_in, if_pos, if_neg]; (try simp -dsimp [hlt, hc]))))) | (refine st_cond rfl (fun hc => ?_) (fun hc => ?_) <;> (try simp only [decide_eq_true_eq, decide_eq_false_iff_not, Bool.true_eq_false, Bool.false_eq_true, bne_iff_ne, ne_eq, bne_eq_false_iff_eq, beq_iff_eq, beq_eq_false_iff_ne, Bool.not_eq_true, Bool.not_eq_false, Bool.not_eq_eq_eq_not, Bool.not_true, Bool.not_false, Decidable.not_not] at hc) <;> (try (exfalso; first | omega | exact bool_tf hc (by assumption) | exact bool_ft hc (by assumption) | exact absurd (by assumption) hc)))))
        exact .refl _

end Go.Proofs.Ytdgplebmlggmcaa
/- From a contract by value to a given statement: arguments of plain types are opened, and read again behind the call. -/
namespace Go.Proofs.Ytdgplebmlggmcaa
open Go.RowKit Go.ChangeShapes Go.WideShapes

section
variable {P : Program}

/-- The cells of a plain type, closed. -/
def tyF (P : Program) (r : TypeId → List CV → Prop) : List Field → List CV → Prop
  | [], cs => cs = []
  | f :: fs, cs => ∃ c1 c2, cs = c1 ++ c2 ∧ r f.type c1 ∧ tyF P r fs c2
def tyA (r : List CV → Prop) : Nat → List CV → Prop
  | 0, cs => cs = []
  | n + 1, cs => ∃ c1 c2, cs = c1 ++ c2 ∧ r c1 ∧ tyA r n c2
def tyC (P : Program) : Nat → TypeId → List CV → Prop
  | 0, _, _ => False
  | d + 1, t, cs => match P.underlying t with
    | some .bool => ∃ b, cs = [.val (.bool b)]
    | some (.int k) => ∃ n, cs = [.val (.int k n)] ∧ (Lit.int k n).wf = true
    | some (.slice e) => ∃ rows, cs = [.sl (P.cellsOf e) rows] ∧ rows.length ≤ maxLen ∧ ∀ row ∈ rows, tyC P d e row
    | some (.struct fs) => tyF P (tyC P d) fs.toList cs
    | some (.array n e) => tyA (tyC P d e) n cs
    | _ => False

theorem tyC_int {d : Nat} {t : TypeId} {k : IntKind} {cs : List CV} (hu : P.underlying t = some (.int k)) (h : tyC P d t cs) : ∃ n, cs = [.val (.int k n)] ∧ (Lit.int k n).wf = true := by
  cases d with
  | zero => exact h.elim
  | succ d => unfold tyC at h; rw [hu] at h; exact h
theorem tyC_bool {d : Nat} {t : TypeId} {cs : List CV} (hu : P.underlying t = some .bool) (h : tyC P d t cs) : ∃ b, cs = [.val (.bool b)] := by
  cases d with
  | zero => exact h.elim
  | succ d => unfold tyC at h; rw [hu] at h; exact h
theorem tyC_slice {d : Nat} {t e : TypeId} {cs : List CV} (hu : P.underlying t = some (.slice e)) (h : tyC P d t cs) : ∃ d' rows, cs = [.sl (P.cellsOf e) rows] ∧ rows.length ≤ maxLen ∧ ∀ row ∈ rows, tyC P d' e row := by
  cases d with
  | zero => exact h.elim
  | succ d => unfold tyC at h; rw [hu] at h; exact ⟨d, h⟩
theorem tyC_struct {d : Nat} {t : TypeId} {fs : Array Field} {cs : List CV} (hu : P.underlying t = some (.struct fs)) (h : tyC P d t cs) : ∃ d', tyF P (tyC P d') fs.toList cs := by
  cases d with
  | zero => exact h.elim
  | succ d => unfold tyC at h; rw [hu] at h; exact ⟨d, h⟩
theorem tyC_array {d : Nat} {t e : TypeId} {n : Nat} {cs : List CV} (hu : P.underlying t = some (.array n e)) (h : tyC P d t cs) : ∃ d', tyA (tyC P d' e) n cs := by
  cases d with
  | zero => exact h.elim
  | succ d => unfold tyC at h; rw [hu] at h; exact ⟨d, h⟩
theorem rows_map {α : Type} {f : α → List CV} : ∀ {rows : List (List CV)}, (∀ row ∈ rows, ∃ x, row = f x) → ∃ xs : List α, rows = xs.map f
  | [], _ => ⟨[], rfl⟩
  | r :: rs, h => by
    obtain ⟨x, rfl⟩ := h r (by simp)
    obtain ⟨xs, rfl⟩ := rows_map (rows := rs) (fun r hr => h r (by simp [hr]))
    exact ⟨x :: xs, rfl⟩
theorem agg_cells {v : Value} (h : v.cells.size ≠ 1) : v = .agg v.cells := by
  cases v <;> first | rfl | (exact absurd rfl h)

def tileB (P : Program) : List Field → Nat → Nat → Bool
  | [], acc, n => acc == n
  | f :: fs, acc, n => f.offset == acc && tileB P fs (acc + P.cellsOf f.type) n
def plainB (P : Program) : Nat → TypeId → Bool
  | 0, _ => false
  | d + 1, t => match P.underlying t with
    | some .bool => P.cellsOf t == 1
    | some (.int _) => P.cellsOf t == 1
    | some (.slice e) => P.cellsOf t == 1 && decide (0 < P.cellsOf e) && plainB P d e
    | some (.struct fs) => tileB P fs.toList 0 (P.cellsOf t) && fs.toList.all fun f => plainB P d f.type
    | some (.array n e) => P.cellsOf t == n * P.cellsOf e && plainB P d e
    | _ => false

theorem tile_le : ∀ {fs : List Field} {acc n : Nat}, tileB P fs acc n = true → acc ≤ n
  | [], _, _, h => by simp [tileB] at h; omega
  | f :: fs, acc, n, h => by
    simp only [tileB, Bool.and_eq_true] at h
    have := tile_le h.2
    omega
theorem tyF_len {fs : List Field} {r : TypeId → List CV → Prop} (hr : ∀ (f : Field) c, f ∈ fs → r f.type c → c.length = P.cellsOf f.type ∧ c.all CV.one = true) : ∀ {fs' : List Field}, (∀ f ∈ fs', f ∈ fs) → ∀ {acc n : Nat} {cs : List CV}, tileB P fs' acc n = true → tyF P r fs' cs → acc + cs.length = n ∧ cs.all CV.one = true
  | [], _, acc, n, cs, ht, h => by simp [tileB] at ht; simp [tyF] at h; subst h; simp [ht]
  | f :: fs', hm, acc, n, cs, ht, h => by
    simp only [tileB, Bool.and_eq_true] at ht
    obtain ⟨c1, c2, rfl, h1, h2⟩ := h
    obtain ⟨l1, o1⟩ := hr f c1 (hm f (by simp)) h1
    obtain ⟨l2, o2⟩ := tyF_len hr (fun g hg => hm g (by simp [hg])) ht.2 h2
    rw [List.length_append, List.all_append, o1, o2]
    exact ⟨by omega, rfl⟩
theorem tyA_len {r : List CV → Prop} {k : Nat} (hr : ∀ c, r c → c.length = k ∧ c.all CV.one = true) : ∀ {n : Nat} {cs : List CV}, tyA r n cs → cs.length = n * k ∧ cs.all CV.one = true
  | 0, cs, h => by simp [tyA] at h; subst h; simp
  | n + 1, cs, h => by
    obtain ⟨c1, c2, rfl, h1, h2⟩ := h
    obtain ⟨l1, o1⟩ := hr c1 h1
    obtain ⟨l2, o2⟩ := tyA_len hr h2
    rw [List.length_append, List.all_append, o1, o2, l1, l2, Nat.succ_mul]
    exact ⟨by omega, rfl⟩
theorem tyC_len : ∀ {d : Nat} {t : TypeId} {cs : List CV}, plainB P d t = true → tyC P d t cs → cs.length = P.cellsOf t ∧ cs.all CV.one = true
  | 0, _, _, hp, _ => by simp [plainB] at hp
  | d + 1, t, cs, hp, h => by
    unfold plainB at hp
    unfold tyC at h
    split at hp <;> rename_i hu
    · rw [hu] at h; obtain ⟨b, rfl⟩ := h; simp at hp; simp [hp, CV.one]
    · rw [hu] at h; obtain ⟨n, rfl, _⟩ := h; simp at hp; simp [hp, CV.one]
    · rw [hu] at h; obtain ⟨rows, rfl, _⟩ := h; simp at hp; simp [hp.1.1, CV.one]
    · rw [hu] at h
      simp only [Bool.and_eq_true, List.all_eq_true] at hp
      obtain ⟨l, o⟩ := tyF_len (P := P) (fun f c hf hc => tyC_len (hp.2 f hf) hc) (fun f hf => hf) hp.1 h
      exact ⟨by omega, o⟩
    · rw [hu] at h
      simp only [Bool.and_eq_true, beq_iff_eq] at hp
      obtain ⟨l, o⟩ := tyA_len (fun c hc => tyC_len hp.2 hc) h
      exact ⟨by rw [l, hp.1], o⟩
    · simp at hp

/-- Closed cells for cells of a world, nothing avoided. -/
def RCs (w : World) (cs : List CV) (vs : List Value) : Prop := cs.length = vs.length ∧ ∀ (i : Nat) x v, cs[i]? = some x → vs[i]? = some v → RepC w (fun _ => False) x v
theorem RCs.append {w : World} {a b : List CV} {c d : List Value} (h : RCs w a c) (k : RCs w b d) : RCs w (a ++ b) (c ++ d) := by
  refine ⟨by rw [List.length_append, List.length_append, h.1, k.1], fun i x v hx hv => ?_⟩
  rw [List.getElem?_append] at hx hv
  rw [← h.1] at hv
  split at hx
  · rename_i hi; rw [if_pos hi] at hv; exact h.2 i x v hx hv
  · rename_i hi; rw [if_neg hi] at hv; exact k.2 _ x v hx hv
theorem RCs.one {w : World} {x : CV} {v : Value} (h : RepC w (fun _ => False) x v) : RCs w [x] [v] := ⟨rfl, fun i y u hx hv => by
  cases i with
  | zero => cases hx; cases hv; exact h
  | succ i => simp at hx⟩

section
variable {H : Type} {enc : TypeId × Value → H} {w : World} {spare : Nat → Bool} {held : Bool}

theorem cell_at {w : World} {a : Addr} {k len i j : Nat} {vr : List Value} (ha : a.spot = none) (h : w.cells? 0 (a.add (i * k)) k = some vr) (hj : j < k) : w.cell? ⟨a.block, a.off + i * k + j, none⟩ = vr[j]? := by
  obtain ⟨_, _, h3⟩ := World.cells?_some h
  rw [← h3 j hj]
  have e : ∀ m : Nat, a.add m = ⟨a.block, a.off + m, none⟩ := fun m => by
    unfold Addr.add
    split
    · rename_i h0; subst h0; cases a; simp at ha; simp [ha]
    · rfl
  rw [e]
  unfold Addr.add
  split
  · rename_i h0; subst h0; rfl
  · rfl

theorem open_tyC : ∀ {d n : Nat} {t : TypeId} {vs : List Value} {x : DataW H × List MemPlace}, plainB P d t = true → DataW.trod enc P w 0 spare held n t vs = some x → ∃ cs, tyC P d t cs ∧ RCs w cs vs
  | 0, _, _, _, _, hp, _ => by simp [plainB] at hp
  | d + 1, n, t, vs, x, hp, h => by
    unfold plainB at hp
    split at hp <;> rename_i hu
    · obtain ⟨b, rfl, _⟩ := DataW.trod_bool hu h
      exact ⟨[.val (.bool b)], by unfold tyC; rw [hu]; exact ⟨b, rfl⟩, .one (.val _)⟩
    · rename_i k
      obtain ⟨m, rfl, _, hw⟩ := DataW.trod_int hu h
      exact ⟨[.val (.int k m)], by unfold tyC; rw [hu]; exact ⟨m, rfl, hw⟩, .one (.val _)⟩
    · rename_i e
      simp only [Bool.and_eq_true, beq_iff_eq, decide_eq_true_eq] at hp
      obtain ⟨⟨_, hk⟩, hpe⟩ := hp
      rcases DataW.trod_slice hu h with ⟨rfl, _⟩ | ⟨a, len, cap, elems, rest, m, _, rfl, _, _, hl, hm, hlen, hel, _⟩
      · exact ⟨[.sl (P.cellsOf e) []], by unfold tyC; rw [hu]; exact ⟨[], rfl, Nat.zero_le _, by simp⟩, .one (.nil _ none 0 (Nat.zero_le _))⟩
      · have hrow : ∀ i, i < len → ∃ vr cr, w.cells? 0 (a.add (i * P.cellsOf e)) (P.cellsOf e) = some vr ∧ tyC P d e cr ∧ RCs w cr vr := fun i hi => by
          have h1 := hel i hi
          rw [List.getElem?_eq_getElem (by omega)] at h1
          obtain ⟨vr, h2, h3⟩ := Option.bind_eq_some_iff.1 h1
          obtain ⟨cr, h4, h5⟩ := open_tyC hpe h3
          exact ⟨vr, cr, h2, h4, h5⟩
        by_cases h0 : len = 0
        · subst h0
          exact ⟨[.sl (P.cellsOf e) []], by unfold tyC; rw [hu]; exact ⟨[], rfl, Nat.zero_le _, by simp⟩, .one (.nil _ (some a) cap hm)⟩
        have hch : ∃ (V : Nat → List Value) (C : Nat → List CV), ∀ i, i < len → w.cells? 0 (a.add (i * P.cellsOf e)) (P.cellsOf e) = some (V i) ∧ tyC P d e (C i) ∧ RCs w (C i) (V i) := by
          refine ⟨fun i => if h : i < len then Classical.choose (hrow i h) else [], fun i => if h : i < len then Classical.choose (Classical.choose_spec (hrow i h)) else [], fun i hi => ?_⟩
          simp only [dif_pos hi]
          exact Classical.choose_spec (Classical.choose_spec (hrow i hi))
        obtain ⟨V, C, hVC⟩ := hch
        have hfirst := hVC 0 (by omega)
        have hsp : a.spot = none := by
          obtain ⟨_, l1, h3⟩ := World.cells?_some hfirst.1
          have h4 := h3 0 hk
          rw [List.getElem?_eq_getElem (by omega)] at h4
          simp only [Nat.zero_mul, Addr.add, if_true] at h4
          unfold World.cell? at h4
          split at h4
          · split at h4
            · cases h4
            · rename_i hs; simpa using hs
          · cases h4
        have hblk : a.block < w.heap.size := by
          have := World.cells?_block hfirst.1 hk
          simpa [Addr.add] using this
        have hlenC : ∀ i, i < len → (C i).length = P.cellsOf e ∧ (C i).all CV.one = true := fun i hi => tyC_len hpe (hVC i hi).2.1
        have hget : ∀ (j : Nat) row, ((List.range len).map C)[j]? = some row → j < len ∧ row = C j := fun j row hj => by
          rw [List.getElem?_map] at hj
          obtain ⟨i, hi, rfl⟩ := Option.map_eq_some_iff.1 hj
          obtain ⟨h1, h2⟩ := List.getElem?_eq_some_iff.1 hi
          simp at h1 h2; subst h2; exact ⟨h1, rfl⟩
        have hsl := RepC.sl (w := w) (N := fun _ => False) (P.cellsOf e) ((List.range len).map C) a.block a.off cap (fun j i => ((V j)[i]?).getD undef) (by simpa using hl) hm hblk (fun h => h) (fun j row hj => by obtain ⟨h1, rfl⟩ := hget j row hj; exact hlenC j h1) (fun j row i y hj hy => by
            obtain ⟨h1, rfl⟩ := hget j row hj
            obtain ⟨q1, q2, q3⟩ := hVC j h1
            have hik : i < P.cellsOf e := by rw [← (hlenC j h1).1]; exact (List.getElem?_eq_some_iff.1 hy).1
            rw [cell_at (len := len) hsp q1 hik]
            have : i < (V j).length := by rw [← q3.1, (hlenC j h1).1]; exact hik
            rw [List.getElem?_eq_getElem this]; rfl) (fun j row i y hj hy => by
            obtain ⟨h1, rfl⟩ := hget j row hj
            obtain ⟨q1, q2, q3⟩ := hVC j h1
            have hik : i < P.cellsOf e := by rw [← (hlenC j h1).1]; exact (List.getElem?_eq_some_iff.1 hy).1
            have : i < (V j).length := by rw [← q3.1, (hlenC j h1).1]; exact hik
            refine q3.2 i y _ hy ?_
            rw [List.getElem?_eq_getElem this]; rfl)
        have ea : a = ⟨a.block, a.off, none⟩ := by cases a; simp at hsp; simp [hsp]
        rw [List.length_map, List.length_range, ← ea] at hsl
        have hrows : ∀ row ∈ (List.range len).map C, tyC P d e row := fun row hr => by
          obtain ⟨i, hi, rfl⟩ := List.mem_map.1 hr
          exact (hVC i (by simpa using hi)).2.1
        exact ⟨[.sl (P.cellsOf e) ((List.range len).map C)], by unfold tyC; rw [hu]; exact ⟨_, rfl, by simp; omega, hrows⟩, .one hsl⟩
    · rename_i fs
      simp only [Bool.and_eq_true, List.all_eq_true] at hp
      obtain ⟨xs, m, _, _, hlen, _, hf⟩ := DataW.trod_struct hu h
      have key : ∀ (fs' : List Field) (acc : Nat), (∀ f ∈ fs', plainB P d f.type = true ∧ ∃ y, DataW.trod enc P w 0 spare held m f.type ((vs.drop f.offset).take (P.cellsOf f.type)) = some y) → tileB P fs' acc (P.cellsOf t) = true → acc ≤ P.cellsOf t → ∃ cs, tyF P (tyC P d) fs' cs ∧ RCs w cs (vs.drop acc) := by
        intro fs'
        induction fs' with
        | nil =>
          intro acc _ ht _
          simp [tileB] at ht
          exact ⟨[], by simp [tyF], by constructor <;> simp [← hlen, ht] <;> omega⟩
        | cons f fs' ih =>
          intro acc hall ht hacc
          simp only [tileB, Bool.and_eq_true, beq_iff_eq] at ht
          obtain ⟨hpf, y, hy⟩ := hall f (by simp)
          obtain ⟨c1, t1, r1⟩ := open_tyC hpf hy
          have hlt := tile_le ht.2
          obtain ⟨c2, t2, r2⟩ := ih (acc + P.cellsOf f.type) (fun g hg => hall g (by simp [hg])) ht.2 hlt
          refine ⟨c1 ++ c2, ⟨c1, c2, rfl, t1, t2⟩, ?_⟩
          rw [ht.1] at r1
          have e : vs.drop acc = (vs.drop acc).take (P.cellsOf f.type) ++ vs.drop (acc + P.cellsOf f.type) := by rw [← List.drop_drop, List.take_append_drop]
          rw [e]; exact r1.append r2
      obtain ⟨cs, h1, h2⟩ := key fs.toList 0 (fun f hf' => by
        refine ⟨hp.2 f hf', ?_⟩
        obtain ⟨i, hi, he⟩ := List.getElem_of_mem hf'
        have := hf i f (by simp at hi; simp at he; simp [← he, hi])
        have hxl : i < xs.length := by simp at hi; omega
        rw [List.getElem?_eq_getElem hxl] at this
        exact ⟨_, this⟩) hp.1 (Nat.zero_le _)
      exact ⟨cs, by unfold tyC; rw [hu]; exact h1, by simpa using h2⟩
    · rename_i k e
      simp only [Bool.and_eq_true, beq_iff_eq] at hp
      obtain ⟨xs, m, _, _, hlen, hxs, hf⟩ := DataW.trod_array hu h
      have key : ∀ (r i : Nat), i + r = k → ∃ cs, tyA (tyC P d e) r cs ∧ RCs w cs (vs.drop (i * P.cellsOf e)) := by
        intro r
        induction r with
        | zero =>
          intro i hi
          have : vs.length ≤ i * P.cellsOf e := by rw [hlen, hp.1]; have : i = k := by omega
                                                   subst this; exact Nat.le_refl _
          exact ⟨[], by simp [tyA], by rw [List.drop_of_length_le this]; constructor <;> simp⟩
        | succ r ih =>
          intro i hi
          have h1 := hf i (by omega)
          rw [List.getElem?_eq_getElem (by omega)] at h1
          obtain ⟨c1, t1, r1⟩ := open_tyC hp.2 h1
          obtain ⟨c2, t2, r2⟩ := ih (i + 1) (by omega)
          refine ⟨c1 ++ c2, ⟨c1, c2, rfl, t1, t2⟩, ?_⟩
          have e' : vs.drop (i * P.cellsOf e) = (vs.drop (i * P.cellsOf e)).take (P.cellsOf e) ++ vs.drop ((i + 1) * P.cellsOf e) := by rw [Nat.succ_mul, ← List.drop_drop, List.take_append_drop]
          rw [e']; exact r1.append r2
      obtain ⟨cs, h1, h2⟩ := key k 0 (by omega)
      exact ⟨cs, by unfold tyC; rw [hu]; exact h1, by simpa using h2⟩
    · simp at hp

/-- Behind a call that only adds blocks, the arguments read as they did. -/
theorem trodAll_carry {w w' : World} {base : Nat} {spare : Nat → Bool} {held : Bool} : ∀ {ts : List TypeId} {vs : List Value} {ds : List (DataW H)} {ps : List MemPlace}, DataW.TrodAll enc P w base spare held ts vs ds ps → (∀ p ∈ ps, w.sameAt w' p) → DataW.TrodAll enc P w' base spare held ts vs ds ps
  | [], [], [], _, h, _ => h
  | _ :: _, _ :: _, _ :: _, _, ⟨p, q, ⟨n, h1⟩, h2, e⟩, hs =>
    ⟨p, q, ⟨n, DataW.trod_carry n _ _ _ h1 (fun x hx => hs x (by rw [e]; exact List.mem_append_left _ hx))⟩, trodAll_carry h2 (fun x hx => hs x (by rw [e]; exact List.mem_append_right _ hx)), e⟩

theorem post_ext {T : TypeId → Prop} (K : Kids P T) (hz : ∀ t e, T t → P.underlying t = some (.slice e) → 0 < P.cellsOf e) {f : Func} {s : ChangeSpec} {apart fresh handsOn again : Bool} {W W' : World} {args : Array Value} {v : Value} {ds gs : List (DataW H)} {before : List MemPlace}
    (hT : ∀ t ∈ f.params.toList, T t) (hsv : s.vars = []) (hW : DataW.Whole enc P f.params.toList s.vars apart W args.toList ds gs before)
    (hres : ∀ (b : Nat) (sp : Nat → Bool) (hd : Bool), DataW.TrodAll enc P W' b sp hd f.resultTypes.toList (v.resultList f.resultTypes.size) (s.fn H (ds ++ gs)).results [])
    (hargs : (s.fn H (ds ++ gs)).args = ds) (hvars : (s.fn H (ds ++ gs)).vars = []) (hx : Ext W W')
    (hok : ∀ (j : Nat) (t : TypeId) (r : Value), f.resultTypes[j]? = some t → (v.resultList f.resultTypes.size)[j]? = some r → Value.okWide P W' .any 0 t r) :
    s.post enc P f apart fresh handsOn again W args v W' := by
  have hlt := hW.lt
  have hold : ∀ p ∈ before, (fun b => decide (b < W.heap.size)) p.block = true := fun p hp => by simpa using hlt p hp
  have hW0 := hW
  obtain ⟨p, q, hA, hV, e, hfz, hn⟩ := hW
  rw [hsv] at hV
  obtain ⟨hg, hq⟩ := trodVars_none hV
  subst hq
  rw [List.append_nil] at e
  subst e
  have ha : ∀ sp : Nat → Bool, (∀ p ∈ before, sp p.block = true) → DataW.TrodAll enc P W' 0 sp true f.params.toList args.toList (s.fn H (ds ++ gs)).args before := fun sp hsp => by
    rw [hargs]
    exact trodAll_carry (DataW.TrodAll.respare K hz hT hA hsp) (fun p hp => hx.same (hlt p hp))
  have hv : ∀ sp : Nat → Bool, DataW.TrodVars enc P W' sp s.vars (s.fn H (ds ++ gs)).vars [] := fun sp => by rw [hvars, hsv]; exact rfl
  refine ⟨ds, gs, before, [], before, [], hW0, hres _ _ _, ha _ hold, hv _, World.keptBut_mono (fun p hp => ⟨hp, Or.inr (Or.inl hp)⟩) (hx.frame (· ∈ before)), fun _ => ?_⟩
  refine ⟨hok, _, _, ([] ++ before) ++ [], ⟨[] ++ before, [], trodAll_append (ha _ (fun _ _ => rfl)) (hres _ _ _), hv _, rfl, ?_, ?_⟩, ?_⟩
  · intro b off hp
    simp at hp
    rw [Below.frozen hx (p := ⟨b, off, none⟩) (hlt _ hp)]
    exact hfz b off hp
  · intro h
    simpa using hn h
  · intro p hp _
    simpa using hp

end
end
end Go.Proofs.Ytdgplebmlggmcaa
/- The last step: ChimeClashes. -/
namespace Go.Proofs.Ytdgplebmlggmcaa
open Go.RowKit Go.ChangeShapes Go.WideShapes Go.ChangeAt

theorem Try.own : ownKnob Try.prog.godebug = none := by kernel_rfl
theorem Try.kids : Kids Try.prog (· < Try.prog.types.size) := kids_rows (by kernel_rfl) (by kernel_rfl)
theorem Try.full : ∀ t e, t < Try.prog.types.size → Try.prog.underlying t = some (.slice e) → 0 < Try.prog.cellsOf e := slices_full_of Try.prog (by kernel_rfl)
theorem Try.cells3 : Try.prog.cellsOf 3 = 1 := by kernel_rfl
theorem Try.cells91 : Try.prog.cellsOf 91 = 2 := by kernel_rfl
theorem Try.cells89 : Try.prog.cellsOf 89 = 2 := by kernel_rfl
theorem Try.plain26 : plainB Try.prog 5 26 = true := by kernel_rfl

theorem ty_I {d : Nat} {cs : List CV} (h : tyC Try.prog d 3 cs) : ∃ n, cs = [I n] := by
  obtain ⟨n, h, _⟩ := tyC_int Try.underlying3 h; exact ⟨n, h⟩
theorem ty_slI {d : Nat} {cs : List CV} (h : tyC Try.prog d 22 cs) : ∃ xs, cs = [slI xs] := by
  obtain ⟨d', rows, h, _, h2⟩ := tyC_slice Try.underlying22 h
  rw [Try.cells3] at h
  obtain ⟨xs, rfl⟩ := rows_map (f := rowI) (fun row hr => ty_I (h2 row hr))
  exact ⟨xs, h⟩
theorem ty_ham {d : Nat} {cs : List CV} (h : tyC Try.prog d 91 cs) : ∃ x, cs = rowP x := by
  obtain ⟨d', c1, c2, rfl, h1, c3, c4, rfl, h2, h3⟩ := tyC_struct Try.underlying91 h
  obtain ⟨a, rfl⟩ := ty_I h1
  obtain ⟨b, rfl⟩ := ty_I h2
  have h3 : c4 = [] := h3
  subst h3
  exact ⟨(a, b), rfl⟩
theorem ty_pin {d : Nat} {cs : List CV} (h : tyC Try.prog d 89 cs) : ∃ x, cs = rowP x := by
  obtain ⟨d', c1, c2, rfl, h1, c3, c4, rfl, h2, h3⟩ := tyC_struct Try.underlying89 h
  obtain ⟨a, rfl⟩ := ty_I h1
  obtain ⟨b, rfl⟩ := ty_I h2
  have h3 : c4 = [] := h3
  subst h3
  exact ⟨(a, b), rfl⟩
theorem ty_hams {d : Nat} {cs : List CV} (h : tyC Try.prog d 23 cs) : ∃ xs, cs = [slP xs] := by
  obtain ⟨d', rows, h, _, h2⟩ := tyC_slice Try.underlying23 h
  rw [Try.cells91] at h
  obtain ⟨xs, rfl⟩ := rows_map (f := rowP) (fun row hr => ty_ham (h2 row hr))
  exact ⟨xs, h⟩
theorem ty_pins {d : Nat} {cs : List CV} (h : tyC Try.prog d 24 cs) : ∃ xs, cs = [slP xs] := by
  obtain ⟨d', rows, h, _, h2⟩ := tyC_slice Try.underlying24 h
  rw [Try.cells89] at h
  obtain ⟨xs, rfl⟩ := rows_map (f := rowP) (fun row hr => ty_pin (h2 row hr))
  exact ⟨xs, h⟩
theorem ty_works {d : Nat} {cs : List CV} (h : tyC Try.prog d 26 cs) : ∃ c : Wk, cs = [I c.steps, I c.sections, slI c.runs, I c.tunes, slP c.hammers, slP c.pins] := by
  obtain ⟨d', c1, r1, rfl, h1, c2, r2, rfl, h2, c3, r3, rfl, h3, c4, r4, rfl, h4, c5, r5, rfl, h5, c6, r6, rfl, h6, h7⟩ := tyC_struct Try.underlying26 h
  obtain ⟨a, rfl⟩ := ty_I h1
  obtain ⟨b, rfl⟩ := ty_I h2
  obtain ⟨c, rfl⟩ := ty_slI h3
  obtain ⟨d, rfl⟩ := ty_I h4
  obtain ⟨e, rfl⟩ := ty_hams h5
  obtain ⟨f, rfl⟩ := ty_pins h6
  have h7 : r6 = [] := h7
  subst h7
  exact ⟨⟨a, b, c, d, e, f⟩, rfl⟩

set_option maxRecDepth 100000 in
theorem open_works {H : Type} {enc : TypeId × Value → H} {w : World} {spare : Nat → Bool} {held : Bool} {v : Value} {x : DataW H} {ps : List MemPlace} (h : DataW.Trod enc Try.prog w 0 spare held 26 v x ps) : ∃ c : Wk, RepC w (fun _ => False) (cWk c) v := by
  obtain ⟨n, h⟩ := h
  obtain ⟨cs, h1, h2⟩ := open_tyC Try.plain26 h
  obtain ⟨c, rfl⟩ := ty_works h1
  have hs : v.cells.size = 6 := by have := h2.1; simp at this; omega
  have hv := agg_cells (v := v) (by omega)
  refine ⟨c, ?_⟩
  rw [hv]
  exact .agg _ _ (by simpa using hs) (fun i x u hx hu => h2.2 i x u hx (by simpa using hu))

set_option maxRecDepth 100000 in
theorem clashes_lifted (os : Os) (started : os.Started) (H : Type) (enc : TypeId × Value → H) :
    ReturnsInHanded {} Try.checked os 3 .any (Rows.chimeClashesSpec.pre6 enc Try.prog Try.f3 Rows.chimeClashesRow.domain false) (Rows.chimeClashesSpec.post enc Try.prog Try.f3 false true false false) := by
  refine returnsInHanded_of_change (C := Try.checked) Try.own started (by kernel_rfl) Try.func3
    (ChangeSpec.witness6 (enc := enc) (C := Try.checked) false ⟨#[], #[.agg #[.int .i64 0, .int .i64 0, .slice none 0 0, .int .i64 0, .slice none 0 0, .slice none 0 0]], []⟩ 8 (by kernel_rfl) (by kernel_rfl) (by kernel_rfl) (by kernel_rfl)) ?_
  intro W base args ds gs before hval0 hW hcnd _
  have hW' := hW
  obtain ⟨p, q, hA0, hV, rfl, hfz, hnd⟩ := hW
  have hA : DataW.TrodAll enc Try.prog W 0 (fun _ => true) true Try.f3.params.toList args.toList ds p := hA0
  rw [Try.params3] at hA
  obtain ⟨v0, d0, rfl, rfl, h0⟩ := trodAll_one hA
  obtain ⟨rfl, rfl⟩ := trodVars_none hV
  obtain ⟨c, hc⟩ := open_works h0
  clear hA0 hval0
  refine (lClashes c W (fun _ => False) #[v0] (fun b hb => hb.elim) rfl (fun i x v hx hv => ?_)).mono fun e W' ⟨v, he, hr, hx⟩ => ?_
  · cases i with
    | zero => cases hx; cases hv; exact hc
    | succ i => simp at hx
  subst he
  have hv := val_inv hr
  subst hv
  exact ⟨_, rfl, post_ext Try.kids Try.full (by rw [Try.params3]; decide +kernel) rfl hW' (fun _ _ _ => trodAll_mk1 (shut_bool Try.underlying4 _)) rfl rfl hx (ok_one (by kernel_rfl) rfl (okWide_bool_mk Try.underlying4 _))⟩

theorem chimeClashes_holds : Rows.ChimeClashesSaid :=
  OpenClaim.holds_of_wide 3 Try.f3 rfl rfl rfl rfl rfl rfl rfl ⟨rfl, rfl, rfl, rfl, rfl⟩ rfl rfl rfl rfl rfl (by kernel_rfl) Try.func3 (by kernel_rfl)
    (of_decide_eq_true (by kernel_rfl)) (by unfold Func.isWrapper; first | (rw [if_pos (by decide +kernel)]; kernel_rfl) | (rw [if_neg (by decide +kernel)]; exact ⟨rfl, rfl⟩))
    (fun os started H enc _ => clashes_lifted os started H enc)

end Go.Proofs.Ytdgplebmlggmcaa
/- Plain laws, I: the reference's blows are those of the program. -/
namespace Go.Proofs.Ytdgplebmlggmcaa
open Go.RowKit

def hits3 (c : Wk) (t s : Int) (n h : Nat) : List (Int × Int × Int) := (c.pins.filter (hitB c t s n h)).map fun p => ((n : Int), (c.hammers.getD h (0, 0)).1, p.1)
def hits3N (c : Wk) (t s : Int) (N : Nat) : List (Int × Int × Int) := (List.range N).flatMap fun n => (List.range c.hammers.length).flatMap fun h => hits3 c t s n h

theorem hits3_two (c : Wk) (t s : Int) (N : Nat) : (hits3N c t s N).map (fun x => (x.1, x.2.1)) = hitsN c t s N := by
  unfold hits3N hitsN hitsH hits hits3
  simp only [List.map_flatMap, List.map_map, List.take_length]
  rfl

theorem hitB_iff {c : Wk} {t s : Int} {n h : Nat} {p : Int × Int} : hitB c t s n h p = true ↔ p.1 = (h : Int) * c.tunes + t ∧ p.2 = (s * (c.steps / c.sections) + n) % c.steps := by
  unfold hitB; simp

/-- In order: earlier, or at the same step and of a lower track. -/
def ltT (x y : Int × Int × Int) : Prop := x.1 < y.1 ∨ x.1 = y.1 ∧ x.2.2 < y.2.2

theorem hits3_sorted (c : Wk) (t s : Int) (N : Nat) (hT : 0 < c.tunes) (hnd : c.pins.Nodup) : (hits3N c t s N).Pairwise ltT := by
  unfold hits3N
  rw [List.pairwise_flatMap]
  refine ⟨fun n _ => ?_, ?_⟩
  · rw [List.pairwise_flatMap]
    refine ⟨fun h _ => ?_, ?_⟩
    · unfold hits3
      rw [List.pairwise_map]
      refine (hnd.filter _).imp_of_mem fun {p q} hp hq hne => ?_
      have h1 := hitB_iff.1 (List.mem_filter.1 hp).2
      have h2 := hitB_iff.1 (List.mem_filter.1 hq).2
      exact absurd (Prod.ext (h1.1.trans h2.1.symm) (h1.2.trans h2.2.symm)) hne
    · refine List.pairwise_lt_range.imp fun {h h'} hlt x hx y hy => ?_
      unfold hits3 at hx hy
      obtain ⟨p, hp, rfl⟩ := List.mem_map.1 hx
      obtain ⟨q, hq, rfl⟩ := List.mem_map.1 hy
      have h1 := hitB_iff.1 (List.mem_filter.1 hp).2
      have h2 := hitB_iff.1 (List.mem_filter.1 hq).2
      refine .inr ⟨rfl, ?_⟩
      show p.1 < q.1
      rw [h1.1, h2.1]
      have : (h : Int) * c.tunes < (h' : Int) * c.tunes := Int.mul_lt_mul_of_pos_right (by omega) hT
      omega
  · refine List.pairwise_lt_range.imp fun {n n'} hlt x hx y hy => ?_
    obtain ⟨h, _, hx⟩ := List.mem_flatMap.1 hx
    obtain ⟨h', _, hy⟩ := List.mem_flatMap.1 hy
    unfold hits3 at hx hy
    obtain ⟨p, hp, rfl⟩ := List.mem_map.1 hx
    obtain ⟨q, hq, rfl⟩ := List.mem_map.1 hy
    exact .inl (show (n : Int) < (n' : Int) by omega)

theorem hits3_mem (c : Wk) (t s m : Int) (hok : worksOk c = true) (ht : inn 0 (c.tunes - 1) t = true) (hm : inn 0 c.sections m = true) (x : Int × Int × Int) :
    x ∈ hits3N c t s (m * (c.steps / c.sections)).toNat ↔ x ∈ strikes c t s m := by
  obtain ⟨p1, p2, p3, p4, p5, p6, p7, p8, p9, p10, p11⟩ := worksOk_parts hok
  have i1 := inn_iff.1 p1
  have i2 := inn_iff.1 p2
  have i6 := inn_iff.1 p6
  have it := inn_iff.1 ht
  have im := inn_iff.1 hm
  have hz1 : c.steps / c.sections * c.sections = c.steps := Int.ediv_mul_cancel (Int.dvd_of_emod_eq_zero p3)
  obtain ⟨z, hz⟩ : ∃ z, c.steps / c.sections = z := ⟨_, rfl⟩
  have hz0 : 0 ≤ z := by rw [← hz]; exact Int.ediv_nonneg (by omega) (by omega)
  have hmz : m * z ≤ c.steps := by
    have := Int.mul_le_mul_of_nonneg_left im.2 hz0
    rw [hz] at hz1
    rw [hz1, Int.mul_comm] at this; exact this
  have hmz0 : 0 ≤ m * z := Int.mul_nonneg im.1 hz0
  unfold hits3N strikes strikesOf hits3
  rw [hz]
  simp only [List.mem_flatMap, List.mem_range, List.mem_map, List.mem_filter]
  constructor
  · rintro ⟨n, hn, h, hh, p, ⟨hp, hb⟩, rfl⟩
    have hb := hitB_iff.1 hb
    rw [hz] at hb
    have e1 : p.1 % c.tunes = t := by rw [hb.1, Int.add_comm, Int.add_mul_emod_self_right]; exact Int.emod_eq_of_lt (by omega) (by omega)
    have e2 : p.1 / c.tunes = h := by rw [hb.1, Int.add_comm, Int.add_mul_ediv_right _ _ (by omega), Int.ediv_eq_zero_of_lt (by omega) (by omega)]; omega
    have e3 : aft c s p = n := by
      unfold aft
      rw [hz, hb.2, Int.sub_emod, Int.emod_emod_of_dvd _ (Int.dvd_refl _), ← Int.sub_emod]
      rw [show s * z + (n : Int) - s * z = n by omega]
      exact Int.emod_eq_of_lt (by omega) (by omega)
    refine ⟨p, ⟨hp, ?_⟩, ?_⟩
    · unfold strB; rw [e1, e3, hz]; simp; omega
    · rw [e3]; unfold ham; rw [e2]; rfl
  · rintro ⟨p, ⟨hp, hb⟩, rfl⟩
    have hpo := pinOk_bounds (List.all_eq_true.1 p10 p hp)
    unfold strB at hb
    rw [hz] at hb
    simp only [Bool.and_eq_true, decide_eq_true_eq] at hb
    have ha0 : 0 ≤ aft c s p := Int.emod_nonneg _ (by omega)
    have hq0 : 0 ≤ p.1 / c.tunes := Int.ediv_nonneg hpo.1 (by omega)
    have hq1 : p.1 / c.tunes < c.hammers.length := Int.ediv_lt_of_lt_mul (by omega) (by omega)
    refine ⟨(aft c s p).toNat, by omega, (p.1 / c.tunes).toNat, by omega, p, ⟨hp, hitB_iff.2 ⟨?_, ?_⟩⟩, ?_⟩
    · rw [Int.toNat_of_nonneg hq0]
      have := Int.mul_ediv_add_emod p.1 c.tunes
      rw [Int.mul_comm, hb.1] at this
      omega
    · rw [Int.toNat_of_nonneg ha0, hz]
      unfold aft
      rw [hz, Int.add_emod_emod, show s * z + (p.2 - s * z) = p.2 by omega]
      exact (Int.emod_eq_of_lt hpo.2.2.1 (by omega)).symm
    · rw [Int.toNat_of_nonneg ha0]; rfl

theorem rPlays_eq (c : Wk) (t s m : Int) (hok : worksOk c = true) (ht : inn 0 (c.tunes - 1) t = true) (hm : inn 0 c.sections m = true) : rPlays c t m s = blowsL c t s m := by
  obtain ⟨p1, p2, p3, p4, p5, p6, p7, p8, p9, p10, p11⟩ := worksOk_parts hok
  have i6 := inn_iff.1 p6
  have hs := hits3_sorted c t s (m * (c.steps / c.sections)).toNat (by omega) p11
  have hnd1 : (hits3N c t s (m * (c.steps / c.sections)).toNat).Nodup := hs.imp fun {x y} h e => by subst e; rcases h with h | h <;> omega
  have hnd2 : (strikes c t s m).Nodup := by
    unfold strikes strikesOf
    rw [List.Nodup, List.pairwise_map]
    refine (List.Pairwise.filter _ p11).imp_of_mem fun {p q} hp hq hne he => hne ?_
    simp only [Prod.mk.injEq] at he
    have hpo := pinOk_bounds (List.all_eq_true.1 p10 p (List.mem_filter.1 hp).1)
    have hqo := pinOk_bounds (List.all_eq_true.1 p10 q (List.mem_filter.1 hq).1)
    exact Prod.ext he.2.2 (aft_inj c s p q (inn_iff.1 p1).1 hpo.2.2.1 (by omega) hqo.2.2.1 (by omega) he.1)
  have hperm := (List.perm_ext_iff_of_nodup hnd1 hnd2).2 (hits3_mem c t s m hok ht hm)
  have h := sorted_one (strikes c t s m) _ (strikes_apart c t s m hok) hperm (hs.imp fun {x y} h => by
    have : leS x y = true := (leS_iff x y).2 (by rcases h with h | h <;> omega)
    unfold leS at this; simpa using this)
  unfold rPlays blowsL
  rw [← h, hits3_two]

end Go.Proofs.Ytdgplebmlggmcaa
/- Plain laws, II: what is heard, and how a barrel is brought into step. -/
namespace Go.Proofs.Ytdgplebmlggmcaa
open Go.RowKit

theorem rHeard_eq (c : Wk) (t n : Int) (bells : List Int) (hok : worksOk c = true) (ht : inn 0 (c.tunes - 1) t = true) (hn : inn 0 (c.runs.length - 1) n = true) : rHeard c t n bells = heardTo c t (c.runs.getD n.toNat 0) bells c.sections.toNat := by
  unfold rHeard rHeardTo heardTo
  congr 1
  exact List.filter_congr fun s _ => by rw [rPlays_eq c t s _ hok ht (runIn_ok hok hn)]

theorem bez (a b : Nat) : ∃ x y : Int, x * a + y * b = Nat.gcd a b := by
  induction a, b using Nat.gcd.induction with
  | H0 n => exact ⟨0, 1, by simp⟩
  | H1 m n hm ih =>
    obtain ⟨x, y, h⟩ := ih
    refine ⟨y - x * (n / m : Nat), x, ?_⟩
    rw [Nat.gcd_rec, ← h]
    have e : ((n % m : Nat) : Int) = n - m * (n / m : Nat) := by
      have := Nat.div_add_mod n m
      have h2 : ((m * (n / m) + n % m : Nat) : Int) = n := by exact_mod_cast this
      push_cast at h2 ⊢
      omega
    rw [e, Int.sub_mul, Int.mul_sub, Int.mul_comm (m : Int), ← Int.mul_assoc, Int.mul_assoc x]
    omega

theorem reach {T S pre q : Int} {e : Nat} (hS : 0 < S) (hT : 0 ≤ T) (he : e = Nat.gcd T.toNat S.toNat) (hq0 : 0 ≤ q) (hqS : q < S) : (∃ h : Nat, h < S.toNat + 1 ∧ ((h : Int) * T + pre) % S = q) ↔ (q - pre) % (e : Int) = 0 := by
  have hT' : (T.toNat : Int) = T := by omega
  have hS' : (S.toNat : Int) = S := by omega
  have d1 : (e : Int) ∣ T := by rw [← hT', he]; exact_mod_cast Nat.gcd_dvd_left _ _
  have d2 : (e : Int) ∣ S := by rw [← hS', he]; exact_mod_cast Nat.gcd_dvd_right _ _
  constructor
  · rintro ⟨h, _, rfl⟩
    have e1 : ((h : Int) * T + pre) % S % e = ((h : Int) * T + pre) % e := Int.emod_emod_of_dvd _ d2
    have e2 : ((h : Int) * T + pre) % e = pre % e := by
      obtain ⟨k, hk⟩ := d1
      rw [hk, ← Int.mul_assoc, Int.mul_comm (h : Int), Int.mul_assoc, Int.add_comm, Int.add_mul_emod_self_left]
    have e3 := Int.emod_eq_emod_iff_emod_sub_eq_zero.1 (e1.trans e2)
    exact e3
  · intro h0
    obtain ⟨d, hd⟩ := Int.dvd_of_emod_eq_zero h0
    obtain ⟨x, y, hxy⟩ := bez T.toNat S.toNat
    rw [← he, hT', hS'] at hxy
    have hx0 : 0 ≤ (x * d) % S := Int.emod_nonneg _ (by omega)
    have hx1 : (x * d) % S < S := Int.emod_lt_of_pos _ hS
    refine ⟨((x * d) % S).toNat, by omega, ?_⟩
    rw [Int.toNat_of_nonneg hx0]
    have e1 : ((x * d) % S * T + pre) % S = (x * d * T + pre) % S := by
      rw [Int.add_emod, Int.mul_emod, Int.emod_emod_of_dvd _ (Int.dvd_refl S), ← Int.mul_emod, ← Int.add_emod]
    rw [e1]
    have e2 : x * d * T + pre = q + S * (-(y * d)) := by
      have : x * T * d + y * S * d = e * d := by rw [← Int.add_mul, hxy]
      have h1 : x * d * T = x * T * d := by rw [Int.mul_assoc, Int.mul_comm d, Int.mul_assoc]
      have h2 : S * (-(y * d)) = -(y * S * d) := by rw [Int.mul_neg, ← Int.mul_assoc, Int.mul_comm S y]
      rw [h1, h2]; omega
    rw [e2, Int.add_mul_emod_self_left]
    exact Int.emod_eq_of_lt hq0 hqS

theorem rInStep_iff (c : Wk) (j : Nat) (s : Int) (n : Nat) (hok : worksOk c = true) (hj : j < c.runs.length) : rInStep c j ((s + n) % c.sections) = (n % everyOf c == firstOf c (j : Int) s) := by
  obtain ⟨p1, p2, p3, p4, p5, p6, p7, p8, p9, p10, p11⟩ := worksOk_parts hok
  have i2 := inn_iff.1 p2
  have hsum := runs_sum_all c hok
  have he0 : 0 < everyOf c := Nat.gcd_pos_of_pos_right _ (by omega)
  have hr := reach (T := c.runs.sum) (S := c.sections) (pre := (c.runs.take j).sum) (q := (s + n) % c.sections) (e := everyOf c) (by omega) (by omega) rfl (Int.emod_nonneg _ (by omega)) (Int.emod_lt_of_pos _ (by omega))
  have d2 : (everyOf c : Int) ∣ c.sections := by
    have : (c.sections.toNat : Int) = c.sections := by omega
    rw [← this]; unfold everyOf; exact_mod_cast Nat.gcd_dvd_right _ _
  rw [Bool.eq_iff_iff, beq_iff_eq]
  unfold rInStep inStepTo posAt
  rw [List.any_eq_true]
  simp only [List.mem_range, beq_iff_eq]
  rw [show (∃ x, x < c.sections.toNat + 1 ∧ ((x : Int) * c.runs.sum + (c.runs.take j).sum) % c.sections = (s + n) % c.sections) ↔ ((s + n) % c.sections - (c.runs.take j).sum) % (everyOf c : Int) = 0 from hr]
  have e1 : ((s + n) % c.sections - (c.runs.take j).sum) % (everyOf c : Int) = ((n : Int) - ((c.runs.take j).sum - s)) % (everyOf c : Int) := by
    rw [Int.sub_emod, Int.emod_emod_of_dvd _ d2, ← Int.sub_emod]; congr 1; omega
  rw [e1, ← Int.emod_eq_emod_iff_emod_sub_eq_zero]
  unfold firstOf
  rw [Int.toNat_natCast]
  have hf0 : 0 ≤ ((c.runs.take j).sum - s) % (everyOf c : Int) := Int.emod_nonneg _ (by omega)
  constructor
  · intro h; have : ((n % everyOf c : Nat) : Int) = ((c.runs.take j).sum - s) % (everyOf c : Int) := by rw [← h]; exact Int.natCast_emod n (everyOf c)
    omega
  · intro h
    have h2 : ((n % everyOf c : Nat) : Int) = ((c.runs.take j).sum - s) % (everyOf c : Int) := by omega
    rw [← h2]; exact (Int.natCast_emod n (everyOf c)).symm

/-- The two ways to keep the best so far. -/
def RelB (acc acc' : Int × Int) : Prop := (acc = (-1, 0) ∧ acc' = (0, -1)) ∨ (acc = acc' ∧ 0 ≤ acc.1 ∧ 0 ≤ acc.2)

theorem relB_fold (c : Wk) (t : Int) (j : Nat) (s : Int) (b : Nat → Bool) : ∀ (l : List Nat), (∀ n ∈ l, rInStep c j ((s + n) % c.sections) = b n ∧ (rPlays c t n s).length = (strikes c t s n).length) → ∀ acc acc', RelB acc acc' →
    RelB (l.foldl (rStep c t j s) acc) (l.foldl (fun x n => if b n = true then bringStep c t s x n else x) acc')
  | [], _, _, _, h => h
  | n :: l, hl, acc, acc', h => by
    refine relB_fold c t j s b l (fun m hm => hl m (by simp [hm])) _ _ ?_
    obtain ⟨h1, h2⟩ := hl n (by simp)
    unfold rStep bringStep
    rw [h1, h2]
    rcases h with ⟨rfl, rfl⟩ | ⟨rfl, h3, h4⟩
    · cases hb : b n
      · exact .inl ⟨by simp, by simp [hb]⟩
      · refine .inr ⟨by simp [hb], ?_, ?_⟩ <;> simp
    · cases hb : b n
      · exact .inr ⟨by simp [hb], by simpa using h3, by simpa using h4⟩
      · by_cases hc : ((strikes c t s n).length : Int) < acc.2
        · refine .inr ⟨by simp [hb, hc], ?_, ?_⟩ <;> simp [hc]
        · have h5 : ¬ acc.1 < 0 := by omega
          have h6 : ¬ acc.2 < 0 := by omega
          exact .inr ⟨by simp [hb, hc, h5, h6], by simpa [hc, h5] using h3, by simpa [hc, h5] using h4⟩

theorem bringStep_nonneg (c : Wk) (t s : Int) : ∀ (l : List Nat) (acc : Int × Int), 0 ≤ acc.2 → 0 ≤ (l.foldl (bringStep c t s) acc).2
  | [], _, h => h
  | n :: l, acc, h => bringStep_nonneg c t s l _ (by unfold bringStep; split; (exact Int.natCast_nonneg _); exact h)

theorem rBring_eq (c : Wk) (t : Int) (j : Nat) (s : Int) (hok : worksOk c = true) (ht : inn 0 (c.tunes - 1) t = true) (hj : j < c.runs.length) : rBring c t j s = bringOk c t (j : Int) s := by
  obtain ⟨p1, p2, p3, p4, p5, p6, p7, p8, p9, p10, p11⟩ := worksOk_parts hok
  have i2 := inn_iff.1 p2
  have he0 : 0 < everyOf c := Nat.gcd_pos_of_pos_right _ (by omega)
  have heS : everyOf c ≤ c.sections.toNat := Nat.gcd_le_right _ (by omega)
  have hf : firstOf c (j : Int) s < everyOf c := by
    unfold firstOf
    have h1 : 0 ≤ ((c.runs.take (j : Int).toNat).sum - s) % (everyOf c : Int) := Int.emod_nonneg _ (by omega)
    have h2 : ((c.runs.take (j : Int).toNat).sum - s) % (everyOf c : Int) < everyOf c := Int.emod_lt_of_pos _ (by omega)
    omega
  have h := relB_fold c t j s (fun n => n % everyOf c == firstOf c (j : Int) s) (List.range c.sections.toNat) (fun n hn => ⟨rInStep_iff c j s n hok hj, by
    have hn' : n < c.sections.toNat := by simpa using hn
    rw [rPlays_eq c t s n hok ht (inn_iff.2 ⟨by omega, by omega⟩), blowsL_len]⟩) (-1, 0) (0, -1) (.inl ⟨rfl, rfl⟩)
  have e : (List.range c.sections.toNat).foldl (fun x n => if (n % everyOf c == firstOf c (j : Int) s) = true then bringStep c t s x n else x) (0, -1) = bringOk c t (j : Int) s := by
    unfold bringOk withRest; rw [List.foldl_filter]
  rw [e] at h
  rcases h with ⟨_, h2⟩ | ⟨h1, _⟩
  · exfalso
    unfold bringOk at h2
    have hm : firstOf c (j : Int) s ∈ withRest (everyOf c) (firstOf c (j : Int) s) c.sections.toNat := by
      unfold withRest; rw [List.mem_filter]; exact ⟨by simp; omega, by simp [Nat.mod_eq_of_lt hf]⟩
    cases hl : withRest (everyOf c) (firstOf c (j : Int) s) c.sections.toNat with
    | nil => rw [hl] at hm; cases hm
    | cons n0 rest =>
      rw [hl, List.foldl_cons] at h2
      have h3 := bringStep_nonneg c t s rest (bringStep c t s (0, -1) n0) (by unfold bringStep; simp)
      rw [h2] at h3; simp at h3
  · exact h1

end Go.Proofs.Ytdgplebmlggmcaa
/- Law functions, III: ChimePlays. -/
namespace Go.Proofs.Ytdgplebmlggmcaa
open Go.RowKit

theorem blowsL_len' (c : Wk) (t s n : Int) (h : c.pins.length ≤ 400) : (blowsL c t s n).length ≤ 400 := by
  rw [blowsL_len]; exact Nat.le_trans (strikes_len c t s n) h

set_option maxRecDepth 100000 in
set_option maxHeartbeats 4000000 in
theorem lPlays (c : Wk) (n0 n1 n2 : Int) : SC Try.prog 4 [cWk c, .agg [I n0, I n1, I n2]] (B true) := by
  have hL := sLarge c
  refine law4 _ _ (by simp) ?_
  cases hl : largeB c with
  | true =>
    rw [hl] at hL
    unfold cWk slI slP
    (repeat' (first | (refine buildP_own ?_; (simp -dsimp [hl]; (repeat (simp -dsimp (disch := (first | omega | assumption | (refine Bool.eq_false_iff.1 ?_; assumption))) only [wrap_in, if_pos, if_neg]; (try simp -dsimp [hl]))))) | (refine callP_of (hL) (.inl rfl) ?_; (simp -dsimp [hl]; (repeat (simp -dsimp (disch := (first | omega | assumption | (refine Bool.eq_false_iff.1 ?_; assumption))) only [wrap_in, if_pos, if_neg]; (try simp -dsimp [hl]))))) | (refine callP_of (sKnown) (.inl rfl) ?_; (simp -dsimp [hl]; (repeat (simp -dsimp (disch := (first | omega | assumption | (refine Bool.eq_false_iff.1 ?_; assumption))) only [wrap_in, if_pos, if_neg]; (try simp -dsimp [hl]))))) |  (with_reducible refine st_skip ?_; (try simp only [seqQ, blockQ, loopQ, forQ, whileQ, reduceIte, Nat.reduceEqDiff])) | (with_reducible refine st_exit ?_; (try simp only [seqQ, blockQ, loopQ, forQ, whileQ, reduceIte, Nat.reduceEqDiff])) | (with_reducible refine st_ret ?_; ((try simp only [seqQ, blockQ, loopQ, forQ, whileQ]); refine retQ_ret ?_; simp [hl])) | refine st_seq ?_ | refine st_block ?_ | (refine st_reg follows ?_; (simp -dsimp [hl]; (repeat (simp -dsimp (disch := (first | omega | assumption | (refine Bool.eq_false_iff.1 ?_; assumption))) only [wrap_in, if_pos, if_neg]; (try simp -dsimp [hl]))))) | (refine guardP_of (fun hc => ?_) (fun hc => ?_) <;> (try simp only [decide_eq_true_eq, decide_eq_false_iff_not, Bool.true_eq_false, Bool.false_eq_true, bne_iff_ne, ne_eq, bne_eq_false_iff_eq, beq_iff_eq, beq_eq_false_iff_ne, Bool.not_eq_true, Bool.not_eq_false, Bool.not_eq_eq_eq_not, Bool.not_true, Bool.not_false, Decidable.not_not] at hc) <;> (try (exfalso; first | omega | exact bool_tf hc (by assumption) | exact bool_ft hc (by assumption) | exact absurd (by assumption) hc)) <;> (simp -dsimp [hl, hc]; (repeat (simp -dsimp (disch := (first | omega | assumption | (refine Bool.eq_false_iff.1 ?_; assumption))) only [wrap_in, if_pos, if_neg]; (try simp -dsimp [hl, hc]))))) | (refine st_cond rfl (fun hc => ?_) (fun hc => ?_) <;> (try simp only [decide_eq_true_eq, decide_eq_false_iff_not, Bool.true_eq_false, Bool.false_eq_true, bne_iff_ne, ne_eq, bne_eq_false_iff_eq, beq_iff_eq, beq_eq_false_iff_ne, Bool.not_eq_true, Bool.not_eq_false, Bool.not_eq_eq_eq_not, Bool.not_true, Bool.not_false, Decidable.not_not] at hc) <;> (try (exfalso; first | omega | exact bool_tf hc (by assumption) | exact bool_ft hc (by assumption) | exact absurd (by assumption) hc)))))
    exact .refl _
  | false =>
    rw [hl] at hL
    obtain ⟨b1, b2, b3, b4⟩ := large_bounds hl
    have hC := sWorksC c (by omega) (by omega) (by omega)
    have hS : SC Try.prog 19 [cWk c, cWk c] (B true) := by have h := sSame c c (by omega) (by omega) (by omega) (by omega) (by omega) (by omega); simpa using h
    have hP := cPlays c n0 n1 n2
    have hB := cBring c n0 n1 n2
    have hR := sRun c n0 n1 n2
    by_cases he : runErr c n0 n1 n2 = 0
    · obtain ⟨hok, ht, hn, hs⟩ := runErr_ok he
      have in1 := inn_iff.1 hn
      obtain ⟨j, rfl⟩ := Int.eq_ofNat_of_zero_le in1.1
      have hj : j < c.runs.length := by omega
      have eg : c.runs.getD ((j : Int).toNat) 0 = c.runs[j] := by rw [List.getD_eq_getElem?_getD, Int.toNat_natCast, List.getElem?_eq_getElem hj]; rfl
      have hrun := runIn_ok hok hn
      rw [eg] at hrun
      have p400 := (worksOk_parts hok).2.2.2.2.2.2.2.2.1
      have e1 : playsL c n0 (j : Int) n2 = blowsL c n0 n2 c.runs[j] := by unfold playsL; rw [if_pos he, eg]
      have e2 : bringL c n0 (j : Int) n2 = bringOk c n0 (j : Int) n2 := by unfold bringL; rw [if_pos he]
      have hRP := sPlays c n0 c.runs[j] n2 hok ht hrun hs
      have hRB := sBring c n0 j n2 hok ht hj hs
      rw [rPlays_eq c n0 n2 _ hok ht hrun] at hRP
      rw [rBring_eq c n0 j n2 hok ht hj] at hRB
      rw [e1, he] at hP
      rw [e2, he] at hB
      rw [he] at hR
      have hlen := blowsL_len' c n0 n2 c.runs[j] p400
      obtain ⟨l, hll⟩ : ∃ l, blowsL c n0 n2 c.runs[j] = l := ⟨_, rfl⟩
      obtain ⟨x, hx⟩ : ∃ x, bringOk c n0 (j : Int) n2 = x := ⟨_, rfl⟩
      rw [hll] at hP hRP hlen
      rw [hx] at hB hRB
      have hBl : SC Try.prog 26 [slP l, slP l] (B true) := by have h := sBlows l l (by omega) (by omega); simpa using h
      unfold cWk slI slP
      (repeat' (first | (refine buildP_own ?_; (simp -dsimp [hl, hj]; (repeat (simp -dsimp (disch := (first | omega | assumption | (refine Bool.eq_false_iff.1 ?_; assumption))) only [wrap_in, if_pos, if_neg]; (try simp -dsimp [hl, hj]))))) | (refine callP_of (hL) (.inl rfl) ?_; (simp -dsimp [hl, hj]; (repeat (simp -dsimp (disch := (first | omega | assumption | (refine Bool.eq_false_iff.1 ?_; assumption))) only [wrap_in, if_pos, if_neg]; (try simp -dsimp [hl, hj]))))) | (refine callP_of (sKnown) (.inl rfl) ?_; (simp -dsimp [hl, hj]; (repeat (simp -dsimp (disch := (first | omega | assumption | (refine Bool.eq_false_iff.1 ?_; assumption))) only [wrap_in, if_pos, if_neg]; (try simp -dsimp [hl, hj]))))) | (refine callP_of (hC) (.inl rfl) ?_; (simp -dsimp [hl, hj]; (repeat (simp -dsimp (disch := (first | omega | assumption | (refine Bool.eq_false_iff.1 ?_; assumption))) only [wrap_in, if_pos, if_neg]; (try simp -dsimp [hl, hj]))))) | (refine callP_of (hS) (.inl rfl) ?_; (simp -dsimp [hl, hj]; (repeat (simp -dsimp (disch := (first | omega | assumption | (refine Bool.eq_false_iff.1 ?_; assumption))) only [wrap_in, if_pos, if_neg]; (try simp -dsimp [hl, hj]))))) | (refine callP_of (hP) (.inl rfl) ?_; (simp -dsimp [hl, hj]; (repeat (simp -dsimp (disch := (first | omega | assumption | (refine Bool.eq_false_iff.1 ?_; assumption))) only [wrap_in, if_pos, if_neg]; (try simp -dsimp [hl, hj]))))) | (refine callP_of (hB) (.inl rfl) ?_; (simp -dsimp [hl, hj]; (repeat (simp -dsimp (disch := (first | omega | assumption | (refine Bool.eq_false_iff.1 ?_; assumption))) only [wrap_in, if_pos, if_neg]; (try simp -dsimp [hl, hj]))))) | (refine callP_of (hR) (.inl rfl) ?_; (simp -dsimp [hl, hj]; (repeat (simp -dsimp (disch := (first | omega | assumption | (refine Bool.eq_false_iff.1 ?_; assumption))) only [wrap_in, if_pos, if_neg]; (try simp -dsimp [hl, hj]))))) | (refine callP_of (hRP) (.inl rfl) ?_; (simp -dsimp [hl, hj]; (repeat (simp -dsimp (disch := (first | omega | assumption | (refine Bool.eq_false_iff.1 ?_; assumption))) only [wrap_in, if_pos, if_neg]; (try simp -dsimp [hl, hj]))))) | (refine callP_of (hRB) (.inl rfl) ?_; (simp -dsimp [hl, hj]; (repeat (simp -dsimp (disch := (first | omega | assumption | (refine Bool.eq_false_iff.1 ?_; assumption))) only [wrap_in, if_pos, if_neg]; (try simp -dsimp [hl, hj]))))) | (refine callP_of (hBl) (.inl rfl) ?_; (simp -dsimp [hl, hj]; (repeat (simp -dsimp (disch := (first | omega | assumption | (refine Bool.eq_false_iff.1 ?_; assumption))) only [wrap_in, if_pos, if_neg]; (try simp -dsimp [hl, hj]))))) |  (with_reducible refine st_skip ?_; (try simp only [seqQ, blockQ, loopQ, forQ, whileQ, reduceIte, Nat.reduceEqDiff])) | (with_reducible refine st_exit ?_; (try simp only [seqQ, blockQ, loopQ, forQ, whileQ, reduceIte, Nat.reduceEqDiff])) | (with_reducible refine st_ret ?_; ((try simp only [seqQ, blockQ, loopQ, forQ, whileQ]); refine retQ_ret ?_; simp [hl, hj])) | refine st_seq ?_ | refine st_block ?_ | (refine st_reg follows ?_; (simp -dsimp [hl, hj]; (repeat (simp -dsimp (disch := (first | omega | assumption | (refine Bool.eq_false_iff.1 ?_; assumption))) only [wrap_in, if_pos, if_neg]; (try simp -dsimp [hl, hj]))))) | (refine guardP_of (fun hc => ?_) (fun hc => ?_) <;> (try simp only [decide_eq_true_eq, decide_eq_false_iff_not, Bool.true_eq_false, Bool.false_eq_true, bne_iff_ne, ne_eq, bne_eq_false_iff_eq, beq_iff_eq, beq_eq_false_iff_ne, Bool.not_eq_true, Bool.not_eq_false, Bool.not_eq_eq_eq_not, Bool.not_true, Bool.not_false, Decidable.not_not] at hc) <;> (try (exfalso; first | omega | exact bool_tf hc (by assumption) | exact bool_ft hc (by assumption) | exact absurd (by assumption) hc)) <;> (simp -dsimp [hl, hj, hc]; (repeat (simp -dsimp (disch := (first | omega | assumption | (refine Bool.eq_false_iff.1 ?_; assumption))) only [wrap_in, if_pos, if_neg]; (try simp -dsimp [hl, hj, hc]))))) | (refine st_cond rfl (fun hc => ?_) (fun hc => ?_) <;> (try simp only [decide_eq_true_eq, decide_eq_false_iff_not, Bool.true_eq_false, Bool.false_eq_true, bne_iff_ne, ne_eq, bne_eq_false_iff_eq, beq_iff_eq, beq_eq_false_iff_ne, Bool.not_eq_true, Bool.not_eq_false, Bool.not_eq_eq_eq_not, Bool.not_true, Bool.not_false, Decidable.not_not] at hc) <;> (try (exfalso; first | omega | exact bool_tf hc (by assumption) | exact bool_ft hc (by assumption) | exact absurd (by assumption) hc)))))
      exact .refl _
    · have e1 : playsL c n0 n1 n2 = [] := by unfold playsL; rw [if_neg he]
      have e2 : bringL c n0 n1 n2 = (0, 0) := by unfold bringL; rw [if_neg he]
      rw [e1] at hP
      rw [e2] at hB
      obtain ⟨r, hr⟩ : ∃ r, runErr c n0 n1 n2 = r := ⟨_, rfl⟩
      rw [hr] at hP hB hR he
      unfold cWk slI slP
      (repeat' (first | (refine buildP_own ?_; (simp -dsimp [hl, he]; (repeat (simp -dsimp (disch := (first | omega | assumption | (refine Bool.eq_false_iff.1 ?_; assumption))) only [wrap_in, if_pos, if_neg]; (try simp -dsimp [hl, he]))))) | (refine callP_of (hL) (.inl rfl) ?_; (simp -dsimp [hl, he]; (repeat (simp -dsimp (disch := (first | omega | assumption | (refine Bool.eq_false_iff.1 ?_; assumption))) only [wrap_in, if_pos, if_neg]; (try simp -dsimp [hl, he]))))) | (refine callP_of (sKnown) (.inl rfl) ?_; (simp -dsimp [hl, he]; (repeat (simp -dsimp (disch := (first | omega | assumption | (refine Bool.eq_false_iff.1 ?_; assumption))) only [wrap_in, if_pos, if_neg]; (try simp -dsimp [hl, he]))))) | (refine callP_of (hC) (.inl rfl) ?_; (simp -dsimp [hl, he]; (repeat (simp -dsimp (disch := (first | omega | assumption | (refine Bool.eq_false_iff.1 ?_; assumption))) only [wrap_in, if_pos, if_neg]; (try simp -dsimp [hl, he]))))) | (refine callP_of (hS) (.inl rfl) ?_; (simp -dsimp [hl, he]; (repeat (simp -dsimp (disch := (first | omega | assumption | (refine Bool.eq_false_iff.1 ?_; assumption))) only [wrap_in, if_pos, if_neg]; (try simp -dsimp [hl, he]))))) | (refine callP_of (hP) (.inl rfl) ?_; (simp -dsimp [hl, he]; (repeat (simp -dsimp (disch := (first | omega | assumption | (refine Bool.eq_false_iff.1 ?_; assumption))) only [wrap_in, if_pos, if_neg]; (try simp -dsimp [hl, he]))))) | (refine callP_of (hB) (.inl rfl) ?_; (simp -dsimp [hl, he]; (repeat (simp -dsimp (disch := (first | omega | assumption | (refine Bool.eq_false_iff.1 ?_; assumption))) only [wrap_in, if_pos, if_neg]; (try simp -dsimp [hl, he]))))) | (refine callP_of (hR) (.inl rfl) ?_; (simp -dsimp [hl, he]; (repeat (simp -dsimp (disch := (first | omega | assumption | (refine Bool.eq_false_iff.1 ?_; assumption))) only [wrap_in, if_pos, if_neg]; (try simp -dsimp [hl, he]))))) |  (with_reducible refine st_skip ?_; (try simp only [seqQ, blockQ, loopQ, forQ, whileQ, reduceIte, Nat.reduceEqDiff])) | (with_reducible refine st_exit ?_; (try simp only [seqQ, blockQ, loopQ, forQ, whileQ, reduceIte, Nat.reduceEqDiff])) | (with_reducible refine st_ret ?_; ((try simp only [seqQ, blockQ, loopQ, forQ, whileQ]); refine retQ_ret ?_; simp [hl, he])) | refine st_seq ?_ | refine st_block ?_ | (refine st_reg follows ?_; (simp -dsimp [hl, he]; (repeat (simp -dsimp (disch := (first | omega | assumption | (refine Bool.eq_false_iff.1 ?_; assumption))) only [wrap_in, if_pos, if_neg]; (try simp -dsimp [hl, he]))))) | (refine guardP_of (fun hc => ?_) (fun hc => ?_) <;> (try simp only [decide_eq_true_eq, decide_eq_false_iff_not, Bool.true_eq_false, Bool.false_eq_true, bne_iff_ne, ne_eq, bne_eq_false_iff_eq, beq_iff_eq, beq_eq_false_iff_ne, Bool.not_eq_true, Bool.not_eq_false, Bool.not_eq_eq_eq_not, Bool.not_true, Bool.not_false, Decidable.not_not] at hc) <;> (try (exfalso; first | omega | exact bool_tf hc (by assumption) | exact bool_ft hc (by assumption) | exact absurd (by assumption) hc)) <;> (simp -dsimp [hl, he, hc]; (repeat (simp -dsimp (disch := (first | omega | assumption | (refine Bool.eq_false_iff.1 ?_; assumption))) only [wrap_in, if_pos, if_neg]; (try simp -dsimp [hl, he, hc]))))) | (refine st_cond rfl (fun hc => ?_) (fun hc => ?_) <;> (try simp only [decide_eq_true_eq, decide_eq_false_iff_not, Bool.true_eq_false, Bool.false_eq_true, bne_iff_ne, ne_eq, bne_eq_false_iff_eq, beq_iff_eq, beq_eq_false_iff_ne, Bool.not_eq_true, Bool.not_eq_false, Bool.not_eq_eq_eq_not, Bool.not_true, Bool.not_false, Decidable.not_not] at hc) <;> (try (exfalso; first | omega | exact bool_tf hc (by assumption) | exact bool_ft hc (by assumption) | exact absurd (by assumption) hc)))))
      exact .refl _

end Go.Proofs.Ytdgplebmlggmcaa
/- The last step: ChimePlays. -/
namespace Go.Proofs.Ytdgplebmlggmcaa
open Go.RowKit Go.ChangeShapes Go.WideShapes Go.ChangeAt

theorem Try.plain38 : plainB Try.prog 5 38 = true := by kernel_rfl
set_option maxRecDepth 100000 in
theorem open_three {H : Type} {enc : TypeId × Value → H} {w : World} {spare : Nat → Bool} {held : Bool} {v : Value} {x : DataW H} {ps : List MemPlace} (h : DataW.Trod enc Try.prog w 0 spare held 38 v x ps) : ∃ a b c : Int, RepC w (fun _ => False) (.agg [I a, I b, I c]) v := by
  obtain ⟨n, h⟩ := h
  obtain ⟨cs, h1, h2⟩ := open_tyC Try.plain38 h
  obtain ⟨d, c1, r1, rfl, t1, c2, r2, rfl, t2, c3, r3, rfl, t3, t4⟩ := tyC_array Try.underlying38 h1
  obtain ⟨a, rfl⟩ := ty_I t1
  obtain ⟨b, rfl⟩ := ty_I t2
  obtain ⟨c, rfl⟩ := ty_I t3
  have t4 : r3 = [] := t4
  subst t4
  have hs : v.cells.size = 3 := by have := h2.1; simp at this; omega
  have hv := agg_cells (v := v) (by omega)
  refine ⟨a, b, c, ?_⟩
  rw [hv]
  exact .agg _ _ (by simpa using hs) (fun i x u hx hu => h2.2 i x u hx (by simpa using hu))

set_option maxRecDepth 100000 in
theorem plays_lifted (os : Os) (started : os.Started) (H : Type) (enc : TypeId × Value → H) :
    ReturnsInHanded {} Try.checked os 4 .any (Rows.chimePlaysSpec.pre6 enc Try.prog Try.f4 Rows.chimePlaysRow.domain false) (Rows.chimePlaysSpec.post enc Try.prog Try.f4 false true false false) := by
  refine returnsInHanded_of_change (C := Try.checked) Try.own started (by kernel_rfl) Try.func4
    (ChangeSpec.witness6 (enc := enc) (C := Try.checked) false ⟨#[], #[.agg #[.int .i64 0, .int .i64 0, .slice none 0 0, .int .i64 0, .slice none 0 0, .slice none 0 0], .agg #[.int .i64 0, .int .i64 0, .int .i64 0]], []⟩ 8 (by kernel_rfl) (by kernel_rfl) (by kernel_rfl) (by kernel_rfl)) ?_
  intro W base args ds gs before hval0 hW hcnd _
  have hW' := hW
  obtain ⟨p, q, hA0, hV, rfl, hfz, hnd⟩ := hW
  have hA : DataW.TrodAll enc Try.prog W 0 (fun _ => true) true Try.f4.params.toList args.toList ds p := hA0
  rw [Try.params4] at hA
  obtain ⟨v0, v1, d0, d1, q0, q1, rfl, rfl, rfl, h0, h1⟩ := trodAll_two hA
  obtain ⟨rfl, rfl⟩ := trodVars_none hV
  obtain ⟨c, hc⟩ := open_works h0
  obtain ⟨n0, n1, n2, hn⟩ := open_three h1
  clear hA0 hval0
  refine (lPlays c n0 n1 n2 W (fun _ => False) #[v0, v1] (fun b hb => hb.elim) rfl (fun i x v hx hv => ?_)).mono fun e W' ⟨v, he, hr, hx⟩ => ?_
  · match i with
    | 0 => cases hx; cases hv; exact hc
    | 1 => cases hx; cases hv; exact hn
    | i + 2 => simp at hx
  subst he
  have hv := val_inv hr
  subst hv
  exact ⟨_, rfl, post_ext Try.kids Try.full (by rw [Try.params4]; decide +kernel) rfl hW' (fun _ _ _ => trodAll_mk1 (shut_bool Try.underlying4 _)) rfl rfl hx (ok_one (by kernel_rfl) rfl (okWide_bool_mk Try.underlying4 _))⟩

theorem chimePlays_holds : Rows.ChimePlaysSaid :=
  OpenClaim.holds_of_wide 4 Try.f4 rfl rfl rfl rfl rfl rfl rfl ⟨rfl, rfl, rfl, rfl, rfl⟩ rfl rfl rfl rfl rfl (by kernel_rfl) Try.func4 (by kernel_rfl)
    (of_decide_eq_true (by kernel_rfl)) (by unfold Func.isWrapper; first | (rw [if_pos (by decide +kernel)]; kernel_rfl) | (rw [if_neg (by decide +kernel)]; exact ⟨rfl, rfl⟩))
    (fun os started H enc _ => plays_lifted os started H enc)

end Go.Proofs.Ytdgplebmlggmcaa
/- Law functions, IV: ChimeHeards. -/
namespace Go.Proofs.Ytdgplebmlggmcaa
open Go.RowKit

theorem heardL_len (c : Wk) (t n : Int) (bells : List Int) : (heardL c t n bells).length ≤ c.sections.toNat := by
  unfold heardL
  split
  · unfold heardTo; rw [List.length_map]; exact Nat.le_trans (List.length_filter_le _ _) (by simp)
  · simp

set_option maxRecDepth 100000 in
set_option maxHeartbeats 4000000 in
theorem lHeardsT (c : Wk) (n0 n1 : Int) (bells : List Int) (hb : bells.length ≤ 410) (hl : largeB c = false) : STri Try.prog 86 c5_23 [(2, .c (slI bells)), (3, .ptr 3 0), (4, .ptr 4 0), (7, .c (slI bells))] [(3, boxW c), (4, .box 37 [.c (I n0), .c (I n1)])] (retQ rs5 (B true)) := by
  obtain ⟨b1, b2, b3, b4⟩ := large_bounds hl
  have hC := sWorksC c (by omega) (by omega) (by omega)
  have hH := cHeard c n0 n1 bells
  have hR := sRun c n0 n1 0
  have hI : SC Try.prog 29 [slI bells, slI bells] (B true) := by have h := sInts bells bells (by omega) (by omega); simpa using h
  by_cases he : runErr c n0 n1 0 = 0
  · by_cases hb4 : 400 < bells.length
    · have e1 : heardErr c n0 n1 bells = 5 := by unfold heardErr; simp [he, hb4]
      have e2 : heardL c n0 n1 bells = [] := by unfold heardL; rw [if_neg (by rw [e1]; decide)]
      have hb' : 400 < (bells.length : Int) := by omega
      rw [e1, e2] at hH
      rw [he] at hR
      simp only [boxW, cWk, slI, slP] at *
      (repeat' (first | (refine buildP_own ?_; (simp -dsimp [hb']; (repeat (simp -dsimp (disch := (first | omega | assumption | (refine Bool.eq_false_iff.1 ?_; assumption))) only [wrap_in, if_pos, if_neg]; (try simp -dsimp [hb']))))) | (refine callP_of (sKnown) (.inl rfl) ?_; (simp -dsimp [hb']; (repeat (simp -dsimp (disch := (first | omega | assumption | (refine Bool.eq_false_iff.1 ?_; assumption))) only [wrap_in, if_pos, if_neg]; (try simp -dsimp [hb']))))) | (refine callP_of (hC) (.inl rfl) ?_; (simp -dsimp [hb']; (repeat (simp -dsimp (disch := (first | omega | assumption | (refine Bool.eq_false_iff.1 ?_; assumption))) only [wrap_in, if_pos, if_neg]; (try simp -dsimp [hb']))))) | (refine callP_of (hR) (.inl rfl) ?_; (simp -dsimp [hb']; (repeat (simp -dsimp (disch := (first | omega | assumption | (refine Bool.eq_false_iff.1 ?_; assumption))) only [wrap_in, if_pos, if_neg]; (try simp -dsimp [hb']))))) | (refine callP_of (hH) (.inl rfl) ?_; (simp -dsimp [hb']; (repeat (simp -dsimp (disch := (first | omega | assumption | (refine Bool.eq_false_iff.1 ?_; assumption))) only [wrap_in, if_pos, if_neg]; (try simp -dsimp [hb']))))) | (refine callP_of (hI) (.inl rfl) ?_; (simp -dsimp [hb']; (repeat (simp -dsimp (disch := (first | omega | assumption | (refine Bool.eq_false_iff.1 ?_; assumption))) only [wrap_in, if_pos, if_neg]; (try simp -dsimp [hb']))))) |  (with_reducible refine st_skip ?_; (try simp only [seqQ, blockQ, loopQ, forQ, whileQ, reduceIte, Nat.reduceEqDiff])) | (with_reducible refine st_exit ?_; (try simp only [seqQ, blockQ, loopQ, forQ, whileQ, reduceIte, Nat.reduceEqDiff])) | (with_reducible refine st_ret ?_; ((try simp only [seqQ, blockQ, loopQ, forQ, whileQ]); refine retQ_ret ?_; simp [hb'])) | refine st_seq ?_ | refine st_block ?_ | (refine st_reg follows ?_; (simp -dsimp [hb']; (repeat (simp -dsimp (disch := (first | omega | assumption | (refine Bool.eq_false_iff.1 ?_; assumption))) only [wrap_in, if_pos, if_neg]; (try simp -dsimp [hb']))))) | (refine guardP_of (fun hc => ?_) (fun hc => ?_) <;> (try simp only [decide_eq_true_eq, decide_eq_false_iff_not, Bool.true_eq_false, Bool.false_eq_true, bne_iff_ne, ne_eq, bne_eq_false_iff_eq, beq_iff_eq, beq_eq_false_iff_ne, Bool.not_eq_true, Bool.not_eq_false, Bool.not_eq_eq_eq_not, Bool.not_true, Bool.not_false, Decidable.not_not] at hc) <;> (try (exfalso; first | omega | exact bool_tf hc (by assumption) | exact bool_ft hc (by assumption) | exact absurd (by assumption) hc)) <;> (simp -dsimp [hb', hc]; (repeat (simp -dsimp (disch := (first | omega | assumption | (refine Bool.eq_false_iff.1 ?_; assumption))) only [wrap_in, if_pos, if_neg]; (try simp -dsimp [hb', hc]))))) | (refine st_cond rfl (fun hc => ?_) (fun hc => ?_) <;> (try simp only [decide_eq_true_eq, decide_eq_false_iff_not, Bool.true_eq_false, Bool.false_eq_true, bne_iff_ne, ne_eq, bne_eq_false_iff_eq, beq_iff_eq, beq_eq_false_iff_ne, Bool.not_eq_true, Bool.not_eq_false, Bool.not_eq_eq_eq_not, Bool.not_true, Bool.not_false, Decidable.not_not] at hc) <;> (try (exfalso; first | omega | exact bool_tf hc (by assumption) | exact bool_ft hc (by assumption) | exact absurd (by assumption) hc)))))
      all_goals exact .refl _
    · obtain ⟨hok, ht, hn, hs⟩ := runErr_ok he
      have in1 := inn_iff.1 hn
      obtain ⟨j, rfl⟩ := Int.eq_ofNat_of_zero_le in1.1
      have hj : j < c.runs.length := by omega
      have e1 : heardErr c n0 j bells = 0 := by unfold heardErr; simp [he, hb4]
      have e2 : heardL c n0 j bells = rHeard c n0 j bells := by unfold heardL; rw [if_pos e1, rHeard_eq c n0 j bells hok ht hn]
      have hb' : ¬ 400 < (bells.length : Int) := by omega
      have hRH := sHeard c n0 j bells hok ht hn (by omega)
      have hlen := heardL_len c n0 j bells
      have i2 := inn_iff.1 (worksOk_parts hok).1
      have i3 := inn_iff.1 (worksOk_parts hok).2.1
      rw [e1] at hH
      rw [← e2] at hRH
      rw [he] at hR
      obtain ⟨l, hll⟩ : ∃ l, heardL c n0 j bells = l := ⟨_, rfl⟩
      rw [hll] at hH hRH hlen
      have hI2 : SC Try.prog 29 [slI l, slI l] (B true) := by have h := sInts l l (by omega) (by omega); simpa using h
      simp only [boxW, cWk, slI, slP] at *
      (repeat' (first | (refine buildP_own ?_; (simp -dsimp [hb', hj]; (repeat (simp -dsimp (disch := (first | omega | assumption | (refine Bool.eq_false_iff.1 ?_; assumption))) only [wrap_in, if_pos, if_neg]; (try simp -dsimp [hb', hj]))))) | (refine callP_of (sKnown) (.inl rfl) ?_; (simp -dsimp [hb', hj]; (repeat (simp -dsimp (disch := (first | omega | assumption | (refine Bool.eq_false_iff.1 ?_; assumption))) only [wrap_in, if_pos, if_neg]; (try simp -dsimp [hb', hj]))))) | (refine callP_of (hC) (.inl rfl) ?_; (simp -dsimp [hb', hj]; (repeat (simp -dsimp (disch := (first | omega | assumption | (refine Bool.eq_false_iff.1 ?_; assumption))) only [wrap_in, if_pos, if_neg]; (try simp -dsimp [hb', hj]))))) | (refine callP_of (hR) (.inl rfl) ?_; (simp -dsimp [hb', hj]; (repeat (simp -dsimp (disch := (first | omega | assumption | (refine Bool.eq_false_iff.1 ?_; assumption))) only [wrap_in, if_pos, if_neg]; (try simp -dsimp [hb', hj]))))) | (refine callP_of (hH) (.inl rfl) ?_; (simp -dsimp [hb', hj]; (repeat (simp -dsimp (disch := (first | omega | assumption | (refine Bool.eq_false_iff.1 ?_; assumption))) only [wrap_in, if_pos, if_neg]; (try simp -dsimp [hb', hj]))))) | (refine callP_of (hRH) (.inl rfl) ?_; (simp -dsimp [hb', hj]; (repeat (simp -dsimp (disch := (first | omega | assumption | (refine Bool.eq_false_iff.1 ?_; assumption))) only [wrap_in, if_pos, if_neg]; (try simp -dsimp [hb', hj]))))) | (refine callP_of (hI) (.inl rfl) ?_; (simp -dsimp [hb', hj]; (repeat (simp -dsimp (disch := (first | omega | assumption | (refine Bool.eq_false_iff.1 ?_; assumption))) only [wrap_in, if_pos, if_neg]; (try simp -dsimp [hb', hj]))))) | (refine callP_of (hI2) (.inl rfl) ?_; (simp -dsimp [hb', hj]; (repeat (simp -dsimp (disch := (first | omega | assumption | (refine Bool.eq_false_iff.1 ?_; assumption))) only [wrap_in, if_pos, if_neg]; (try simp -dsimp [hb', hj]))))) |  (with_reducible refine st_skip ?_; (try simp only [seqQ, blockQ, loopQ, forQ, whileQ, reduceIte, Nat.reduceEqDiff])) | (with_reducible refine st_exit ?_; (try simp only [seqQ, blockQ, loopQ, forQ, whileQ, reduceIte, Nat.reduceEqDiff])) | (with_reducible refine st_ret ?_; ((try simp only [seqQ, blockQ, loopQ, forQ, whileQ]); refine retQ_ret ?_; simp [hb', hj])) | refine st_seq ?_ | refine st_block ?_ | (refine st_reg follows ?_; (simp -dsimp [hb', hj]; (repeat (simp -dsimp (disch := (first | omega | assumption | (refine Bool.eq_false_iff.1 ?_; assumption))) only [wrap_in, if_pos, if_neg]; (try simp -dsimp [hb', hj]))))) | (refine guardP_of (fun hc => ?_) (fun hc => ?_) <;> (try simp only [decide_eq_true_eq, decide_eq_false_iff_not, Bool.true_eq_false, Bool.false_eq_true, bne_iff_ne, ne_eq, bne_eq_false_iff_eq, beq_iff_eq, beq_eq_false_iff_ne, Bool.not_eq_true, Bool.not_eq_false, Bool.not_eq_eq_eq_not, Bool.not_true, Bool.not_false, Decidable.not_not] at hc) <;> (try (exfalso; first | omega | exact bool_tf hc (by assumption) | exact bool_ft hc (by assumption) | exact absurd (by assumption) hc)) <;> (simp -dsimp [hb', hj, hc]; (repeat (simp -dsimp (disch := (first | omega | assumption | (refine Bool.eq_false_iff.1 ?_; assumption))) only [wrap_in, if_pos, if_neg]; (try simp -dsimp [hb', hj, hc]))))) | (refine st_cond rfl (fun hc => ?_) (fun hc => ?_) <;> (try simp only [decide_eq_true_eq, decide_eq_false_iff_not, Bool.true_eq_false, Bool.false_eq_true, bne_iff_ne, ne_eq, bne_eq_false_iff_eq, beq_iff_eq, beq_eq_false_iff_ne, Bool.not_eq_true, Bool.not_eq_false, Bool.not_eq_eq_eq_not, Bool.not_true, Bool.not_false, Decidable.not_not] at hc) <;> (try (exfalso; first | omega | exact bool_tf hc (by assumption) | exact bool_ft hc (by assumption) | exact absurd (by assumption) hc)))))
      all_goals exact .refl _
  · have e1 : heardErr c n0 n1 bells = runErr c n0 n1 0 := by unfold heardErr; simp [he]
    have e2 : heardL c n0 n1 bells = [] := by unfold heardL; rw [if_neg (by rw [e1]; exact he)]
    rw [e1, e2] at hH
    obtain ⟨r, hr⟩ : ∃ r, runErr c n0 n1 0 = r := ⟨_, rfl⟩
    rw [hr] at hH hR he
    simp only [boxW, cWk, slI, slP] at *
    (repeat' (first | (refine buildP_own ?_; (simp -dsimp [he]; (repeat (simp -dsimp (disch := (first | omega | assumption | (refine Bool.eq_false_iff.1 ?_; assumption))) only [wrap_in, if_pos, if_neg]; (try simp -dsimp [he]))))) | (refine callP_of (sKnown) (.inl rfl) ?_; (simp -dsimp [he]; (repeat (simp -dsimp (disch := (first | omega | assumption | (refine Bool.eq_false_iff.1 ?_; assumption))) only [wrap_in, if_pos, if_neg]; (try simp -dsimp [he]))))) | (refine callP_of (hC) (.inl rfl) ?_; (simp -dsimp [he]; (repeat (simp -dsimp (disch := (first | omega | assumption | (refine Bool.eq_false_iff.1 ?_; assumption))) only [wrap_in, if_pos, if_neg]; (try simp -dsimp [he]))))) | (refine callP_of (hR) (.inl rfl) ?_; (simp -dsimp [he]; (repeat (simp -dsimp (disch := (first | omega | assumption | (refine Bool.eq_false_iff.1 ?_; assumption))) only [wrap_in, if_pos, if_neg]; (try simp -dsimp [he]))))) | (refine callP_of (hH) (.inl rfl) ?_; (simp -dsimp [he]; (repeat (simp -dsimp (disch := (first | omega | assumption | (refine Bool.eq_false_iff.1 ?_; assumption))) only [wrap_in, if_pos, if_neg]; (try simp -dsimp [he]))))) | (refine callP_of (hI) (.inl rfl) ?_; (simp -dsimp [he]; (repeat (simp -dsimp (disch := (first | omega | assumption | (refine Bool.eq_false_iff.1 ?_; assumption))) only [wrap_in, if_pos, if_neg]; (try simp -dsimp [he]))))) |  (with_reducible refine st_skip ?_; (try simp only [seqQ, blockQ, loopQ, forQ, whileQ, reduceIte, Nat.reduceEqDiff])) | (with_reducible refine st_exit ?_; (try simp only [seqQ, blockQ, loopQ, forQ, whileQ, reduceIte, Nat.reduceEqDiff])) | (with_reducible refine st_ret ?_; ((try simp only [seqQ, blockQ, loopQ, forQ, whileQ]); refine retQ_ret ?_; simp [he])) | refine st_seq ?_ | refine st_block ?_ | (refine st_reg follows ?_; (simp -dsimp [he]; (repeat (simp -dsimp (disch := (first | omega | assumption | (refine Bool.eq_false_iff.1 ?_; assumption))) only [wrap_in, if_pos, if_neg]; (try simp -dsimp [he]))))) | (refine guardP_of (fun hc => ?_) (fun hc => ?_) <;> (try simp only [decide_eq_true_eq, decide_eq_false_iff_not, Bool.true_eq_false, Bool.false_eq_true, bne_iff_ne, ne_eq, bne_eq_false_iff_eq, beq_iff_eq, beq_eq_false_iff_ne, Bool.not_eq_true, Bool.not_eq_false, Bool.not_eq_eq_eq_not, Bool.not_true, Bool.not_false, Decidable.not_not] at hc) <;> (try (exfalso; first | omega | exact bool_tf hc (by assumption) | exact bool_ft hc (by assumption) | exact absurd (by assumption) hc)) <;> (simp -dsimp [he, hc]; (repeat (simp -dsimp (disch := (first | omega | assumption | (refine Bool.eq_false_iff.1 ?_; assumption))) only [wrap_in, if_pos, if_neg]; (try simp -dsimp [he, hc]))))) | (refine st_cond rfl (fun hc => ?_) (fun hc => ?_) <;> (try simp only [decide_eq_true_eq, decide_eq_false_iff_not, Bool.true_eq_false, Bool.false_eq_true, bne_iff_ne, ne_eq, bne_eq_false_iff_eq, beq_iff_eq, beq_eq_false_iff_ne, Bool.not_eq_true, Bool.not_eq_false, Bool.not_eq_eq_eq_not, Bool.not_true, Bool.not_false, Decidable.not_not] at hc) <;> (try (exfalso; first | omega | exact bool_tf hc (by assumption) | exact bool_ft hc (by assumption) | exact absurd (by assumption) hc)))))
    all_goals exact .refl _

set_option maxRecDepth 100000 in
set_option maxHeartbeats 4000000 in
theorem lHeards (c : Wk) (n0 n1 : Int) (bells : List Int) (hbl : bells.length ≤ 9223372036854775807) : SC Try.prog 5 [cWk c, .agg [I n0, I n1], slI bells] (B true) := by
  have hL := sLarge c
  refine law5 _ _ (by simp) ?_
  cases hl : largeB c with
  | true =>
    rw [hl] at hL
    unfold cWk slI slP
    (repeat' (first | (refine buildP_own ?_; (simp -dsimp [hl]; (repeat (simp -dsimp (disch := (first | omega | assumption | (refine Bool.eq_false_iff.1 ?_; assumption))) only [wrap_in, if_pos, if_neg]; (try simp -dsimp [hl]))))) | (refine callP_of (hL) (.inl rfl) ?_; (simp -dsimp [hl]; (repeat (simp -dsimp (disch := (first | omega | assumption | (refine Bool.eq_false_iff.1 ?_; assumption))) only [wrap_in, if_pos, if_neg]; (try simp -dsimp [hl]))))) | (refine callP_of (sKnown) (.inl rfl) ?_; (simp -dsimp [hl]; (repeat (simp -dsimp (disch := (first | omega | assumption | (refine Bool.eq_false_iff.1 ?_; assumption))) only [wrap_in, if_pos, if_neg]; (try simp -dsimp [hl]))))) |  (with_reducible refine st_skip ?_; (try simp only [seqQ, blockQ, loopQ, forQ, whileQ, reduceIte, Nat.reduceEqDiff])) | (with_reducible refine st_exit ?_; (try simp only [seqQ, blockQ, loopQ, forQ, whileQ, reduceIte, Nat.reduceEqDiff])) | (with_reducible refine st_ret ?_; ((try simp only [seqQ, blockQ, loopQ, forQ, whileQ]); refine retQ_ret ?_; simp [hl])) | refine st_seq ?_ | refine st_block ?_ | (refine st_reg follows ?_; (simp -dsimp [hl]; (repeat (simp -dsimp (disch := (first | omega | assumption | (refine Bool.eq_false_iff.1 ?_; assumption))) only [wrap_in, if_pos, if_neg]; (try simp -dsimp [hl]))))) | (refine guardP_of (fun hc => ?_) (fun hc => ?_) <;> (try simp only [decide_eq_true_eq, decide_eq_false_iff_not, Bool.true_eq_false, Bool.false_eq_true, bne_iff_ne, ne_eq, bne_eq_false_iff_eq, beq_iff_eq, beq_eq_false_iff_ne, Bool.not_eq_true, Bool.not_eq_false, Bool.not_eq_eq_eq_not, Bool.not_true, Bool.not_false, Decidable.not_not] at hc) <;> (try (exfalso; first | omega | exact bool_tf hc (by assumption) | exact bool_ft hc (by assumption) | exact absurd (by assumption) hc)) <;> (simp -dsimp [hl, hc]; (repeat (simp -dsimp (disch := (first | omega | assumption | (refine Bool.eq_false_iff.1 ?_; assumption))) only [wrap_in, if_pos, if_neg]; (try simp -dsimp [hl, hc]))))) | (refine st_cond rfl (fun hc => ?_) (fun hc => ?_) <;> (try simp only [decide_eq_true_eq, decide_eq_false_iff_not, Bool.true_eq_false, Bool.false_eq_true, bne_iff_ne, ne_eq, bne_eq_false_iff_eq, beq_iff_eq, beq_eq_false_iff_ne, Bool.not_eq_true, Bool.not_eq_false, Bool.not_eq_eq_eq_not, Bool.not_true, Bool.not_false, Decidable.not_not] at hc) <;> (try (exfalso; first | omega | exact bool_tf hc (by assumption) | exact bool_ft hc (by assumption) | exact absurd (by assumption) hc)))))
    exact .refl _
  | false =>
    rw [hl] at hL
    by_cases hb : 410 < bells.length
    · have hb' : 410 < (bells.length : Int) := by omega
      unfold cWk slI slP
      (repeat' (first | (refine buildP_own ?_; (simp -dsimp [hl, hb']; (repeat (simp -dsimp (disch := (first | omega | assumption | (refine Bool.eq_false_iff.1 ?_; assumption))) only [wrap_in, if_pos, if_neg]; (try simp -dsimp [hl, hb']))))) | (refine callP_of (hL) (.inl rfl) ?_; (simp -dsimp [hl, hb']; (repeat (simp -dsimp (disch := (first | omega | assumption | (refine Bool.eq_false_iff.1 ?_; assumption))) only [wrap_in, if_pos, if_neg]; (try simp -dsimp [hl, hb']))))) | (refine callP_of (sKnown) (.inl rfl) ?_; (simp -dsimp [hl, hb']; (repeat (simp -dsimp (disch := (first | omega | assumption | (refine Bool.eq_false_iff.1 ?_; assumption))) only [wrap_in, if_pos, if_neg]; (try simp -dsimp [hl, hb']))))) |  (with_reducible refine st_skip ?_; (try simp only [seqQ, blockQ, loopQ, forQ, whileQ, reduceIte, Nat.reduceEqDiff])) | (with_reducible refine st_exit ?_; (try simp only [seqQ, blockQ, loopQ, forQ, whileQ, reduceIte, Nat.reduceEqDiff])) | (with_reducible refine st_ret ?_; ((try simp only [seqQ, blockQ, loopQ, forQ, whileQ]); refine retQ_ret ?_; simp [hl, hb'])) | refine st_seq ?_ | refine st_block ?_ | (refine st_reg follows ?_; (simp -dsimp [hl, hb']; (repeat (simp -dsimp (disch := (first | omega | assumption | (refine Bool.eq_false_iff.1 ?_; assumption))) only [wrap_in, if_pos, if_neg]; (try simp -dsimp [hl, hb']))))) | (refine guardP_of (fun hc => ?_) (fun hc => ?_) <;> (try simp only [decide_eq_true_eq, decide_eq_false_iff_not, Bool.true_eq_false, Bool.false_eq_true, bne_iff_ne, ne_eq, bne_eq_false_iff_eq, beq_iff_eq, beq_eq_false_iff_ne, Bool.not_eq_true, Bool.not_eq_false, Bool.not_eq_eq_eq_not, Bool.not_true, Bool.not_false, Decidable.not_not] at hc) <;> (try (exfalso; first | omega | exact bool_tf hc (by assumption) | exact bool_ft hc (by assumption) | exact absurd (by assumption) hc)) <;> (simp -dsimp [hl, hb', hc]; (repeat (simp -dsimp (disch := (first | omega | assumption | (refine Bool.eq_false_iff.1 ?_; assumption))) only [wrap_in, if_pos, if_neg]; (try simp -dsimp [hl, hb', hc]))))) | (refine st_cond rfl (fun hc => ?_) (fun hc => ?_) <;> (try simp only [decide_eq_true_eq, decide_eq_false_iff_not, Bool.true_eq_false, Bool.false_eq_true, bne_iff_ne, ne_eq, bne_eq_false_iff_eq, beq_iff_eq, beq_eq_false_iff_ne, Bool.not_eq_true, Bool.not_eq_false, Bool.not_eq_eq_eq_not, Bool.not_true, Bool.not_false, Decidable.not_not] at hc) <;> (try (exfalso; first | omega | exact bool_tf hc (by assumption) | exact bool_ft hc (by assumption) | exact absurd (by assumption) hc)))))
      exact .refl _
    · have hb' : ¬ 410 < (bells.length : Int) := by omega
      have hA : bells.length ≤ 9223372036854775807 := by omega
      have hB : bells.length * 8 ≤ 140737488355328 := by omega
      have hT := lHeardsT c n0 n1 bells (by omega) hl
      unfold cWk slI slP
      (repeat' (first | (with_reducible refine st_close (sc := c5_23) [(2, .c (slI bells)), (3, .ptr 3 0), (4, .ptr 4 0), (7, .c (slI bells))] [(3, boxW c), (4, .box 37 [.c (I n0), .c (I n1)])] (by simp [ClosT]; exact ⟨19, 3, 1, _, ⟨rfl, (by simp)⟩, (by simp), (by simp), rfl, rfl⟩) (by simp [boxW]) hT) | (refine buildP_own ?_; (simp -dsimp [hl, hb', hA, hB]; (repeat (simp -dsimp (disch := (first | omega | assumption | (refine Bool.eq_false_iff.1 ?_; assumption))) only [wrap_in, if_pos, if_neg]; (try simp -dsimp [hl, hb', hA, hB]))))) | (refine callP_of (hL) (.inl rfl) ?_; (simp -dsimp [hl, hb', hA, hB]; (repeat (simp -dsimp (disch := (first | omega | assumption | (refine Bool.eq_false_iff.1 ?_; assumption))) only [wrap_in, if_pos, if_neg]; (try simp -dsimp [hl, hb', hA, hB]))))) | (refine callP_of (sKnown) (.inl rfl) ?_; (simp -dsimp [hl, hb', hA, hB]; (repeat (simp -dsimp (disch := (first | omega | assumption | (refine Bool.eq_false_iff.1 ?_; assumption))) only [wrap_in, if_pos, if_neg]; (try simp -dsimp [hl, hb', hA, hB]))))) |  (with_reducible refine st_skip ?_; (try simp only [seqQ, blockQ, loopQ, forQ, whileQ, reduceIte, Nat.reduceEqDiff])) | (with_reducible refine st_exit ?_; (try simp only [seqQ, blockQ, loopQ, forQ, whileQ, reduceIte, Nat.reduceEqDiff])) | (with_reducible refine st_ret ?_; ((try simp only [seqQ, blockQ, loopQ, forQ, whileQ]); refine retQ_ret ?_; simp [hl, hb', hA, hB])) | refine st_seq ?_ | refine st_block ?_ | (refine st_reg follows ?_; (simp -dsimp [hl, hb', hA, hB]; (repeat (simp -dsimp (disch := (first | omega | assumption | (refine Bool.eq_false_iff.1 ?_; assumption))) only [wrap_in, if_pos, if_neg]; (try simp -dsimp [hl, hb', hA, hB]))))) | (refine guardP_of (fun hc => ?_) (fun hc => ?_) <;> (try simp only [decide_eq_true_eq, decide_eq_false_iff_not, Bool.true_eq_false, Bool.false_eq_true, bne_iff_ne, ne_eq, bne_eq_false_iff_eq, beq_iff_eq, beq_eq_false_iff_ne, Bool.not_eq_true, Bool.not_eq_false, Bool.not_eq_eq_eq_not, Bool.not_true, Bool.not_false, Decidable.not_not] at hc) <;> (try (exfalso; first | omega | exact bool_tf hc (by assumption) | exact bool_ft hc (by assumption) | exact absurd (by assumption) hc)) <;> (simp -dsimp [hl, hb', hA, hB, hc]; (repeat (simp -dsimp (disch := (first | omega | assumption | (refine Bool.eq_false_iff.1 ?_; assumption))) only [wrap_in, if_pos, if_neg]; (try simp -dsimp [hl, hb', hA, hB, hc]))))) | (refine st_cond rfl (fun hc => ?_) (fun hc => ?_) <;> (try simp only [decide_eq_true_eq, decide_eq_false_iff_not, Bool.true_eq_false, Bool.false_eq_true, bne_iff_ne, ne_eq, bne_eq_false_iff_eq, beq_iff_eq, beq_eq_false_iff_ne, Bool.not_eq_true, Bool.not_eq_false, Bool.not_eq_eq_eq_not, Bool.not_true, Bool.not_false, Decidable.not_not] at hc) <;> (try (exfalso; first | omega | exact bool_tf hc (by assumption) | exact bool_ft hc (by assumption) | exact absurd (by assumption) hc)))))

end Go.Proofs.Ytdgplebmlggmcaa
/- The reference's Meet, and ChimeMeets. -/
namespace Go.Proofs.Ytdgplebmlggmcaa
open Go.RowKit

def mulN (l : List (Int × Int × Int)) (k : Nat) : Nat := (l.take k).foldl (fun t x => t * x.1.toNat) 1
theorem mulN_next {l : List (Int × Int × Int)} {k : Nat} (hk : k < l.length) : mulN l (k + 1) = mulN l k * l[k].1.toNat := by
  unfold mulN; rw [List.take_succ_eq_append_getElem hk, List.foldl_append]; rfl
def CamsTo (l : List (Int × Int × Int)) (k : Nat) : Prop := ∀ j, j < k → ∀ h : j < l.length, camOk l[j] = true
theorem CamsTo.next {l : List (Int × Int × Int)} {k : Nat} (h : CamsTo l k) (hk : ∀ h : k < l.length, camOk l[k] = true) : CamsTo l (k + 1) := fun j hj hl => by
  by_cases hjk : j < k
  · exact h j hjk hl
  · have : j = k := by omega
    subst this; exact hk hl
theorem cam_bounds {x : Int × Int × Int} (h : camOk x = true) : 1 ≤ x.1 ∧ x.1 ≤ 100 ∧ 0 ≤ x.2.1 ∧ x.2.1 ≤ x.2.2 ∧ x.2.2 ≤ x.1 - 1 := by
  unfold camOk at h
  simp only [Bool.and_eq_true, inn_iff, decide_eq_true_eq] at h
  omega
theorem cam_ok {x : Int × Int × Int} (h1 : inn 1 100 x.1 = true) (h2 : inn 0 x.2.2 x.2.1 = true) (h3 : x.2.2 < x.1) : camOk x = true := by
  unfold camOk
  rw [inn_iff] at h1 h2
  simp only [Bool.and_eq_true, inn_iff, decide_eq_true_eq]
  omega
theorem cam_no {x : Int × Int × Int} (h : camOk x = true) : inn 1 100 x.1 = true ∧ inn 0 x.2.2 x.2.1 = true ∧ x.2.2 < x.1 := by
  have := cam_bounds h
  rw [inn_iff, inn_iff]; omega
theorem mulN_bound {l : List (Int × Int × Int)} : ∀ {k : Nat}, CamsTo l k → k ≤ l.length → 0 < mulN l k ∧ mulN l k ≤ 100 ^ k
  | 0, _, _ => by simp [mulN]
  | k + 1, h, hk => by
    have ih := mulN_bound (l := l) (k := k) (fun j hj hl => h j (by omega) hl) (by omega)
    have hb := cam_bounds (h k (by omega) (by omega))
    rw [mulN_next (by omega), Nat.pow_succ]
    exact ⟨Nat.mul_pos ih.1 (by omega), Nat.mul_le_mul ih.2 (by omega)⟩

def NoneTo (l : List (Int × Int × Int)) (f : Int) (n : Nat) : Prop := ∀ m, m < n → allOut l (f + (m : Int)) = false
def outTo (l : List (Int × Int × Int)) (x : Int) (i : Nat) : Bool := (l.take i).all fun c => camOut c x
theorem outTo_next {l : List (Int × Int × Int)} {x : Int} {i : Nat} (hi : i < l.length) : outTo l x (i + 1) = (outTo l x i && camOut l[i] x) := by
  unfold outTo; rw [List.take_succ_eq_append_getElem hi, List.all_append]; simp
theorem outTo_all {l : List (Int × Int × Int)} {x : Int} {i : Nat} (hi : ¬ i < l.length) : outTo l x i = allOut l x := by
  unfold outTo allOut; rw [List.take_of_length_le (by omega)]

def rMeet (l : List (Int × Int × Int)) (f : Int) : Int × Int := if meetErr l f = 0 then (match (List.range (mulN l l.length)).find? fun (n : Nat) => allOut l (f + n) with
  | some n => (f + n, 0)
  | none => (0, 7)) else (0, meetErr l f)

theorem CamsTo.all {l : List (Int × Int × Int)} (h : CamsTo l l.length) : l.all camOk = true := by
  rw [List.all_eq_true]
  intro x hx
  obtain ⟨j, hj, rfl⟩ := List.getElem_of_mem hx
  exact h j hj hj
theorem notAll {l : List (Int × Int × Int)} {k : Nat} (hk : k < l.length) (h : camOk l[k] = false) : l.all camOk = false := by
  rw [List.all_eq_false]
  exact ⟨l[k], List.getElem_mem hk, by simp [h]⟩

theorem rMeet_err {l : List (Int × Int × Int)} {f e : Int} (h : meetErr l f = e) (h0 : e ≠ 0) : rMeet l f = (0, e) := by unfold rMeet; rw [if_neg (by rw [h]; exact h0), h]

set_option maxRecDepth 100000 in
set_option maxHeartbeats 4000000 in
theorem sMeet (l : List (Int × Int × Int)) (f : Int) : SC Try.prog 41 [slS l, I f] (.tup [I (rMeet l f).1, I (rMeet l f).2]) := by
  refine law41 _ _ (by simp) ?_
  unfold slS
  (repeat' (first | (refine buildP_own ?_; (simp -dsimp; (repeat (simp -dsimp (disch := (first | omega | assumption | (refine Bool.eq_false_iff.1 ?_; assumption))) only [wrap_in, if_pos, if_neg]; (try simp -dsimp))))) |  (with_reducible refine st_skip ?_; (try simp only [seqQ, blockQ, loopQ, forQ, whileQ, reduceIte, Nat.reduceEqDiff])) | (with_reducible refine st_exit ?_; (try simp only [seqQ, blockQ, loopQ, forQ, whileQ, reduceIte, Nat.reduceEqDiff])) | (with_reducible refine st_ret ?_; ((try simp only [seqQ, blockQ, loopQ, forQ, whileQ]); refine retQ_ret ?_; simp)) | refine st_seq ?_ | refine st_block ?_ | (refine st_reg follows ?_; (simp -dsimp; (repeat (simp -dsimp (disch := (first | omega | assumption | (refine Bool.eq_false_iff.1 ?_; assumption))) only [wrap_in, if_pos, if_neg]; (try simp -dsimp))))) | (refine guardP_of (fun hc => ?_) (fun hc => ?_) <;> (try simp only [decide_eq_true_eq, decide_eq_false_iff_not, Bool.true_eq_false, Bool.false_eq_true, bne_iff_ne, ne_eq, bne_eq_false_iff_eq, beq_iff_eq, beq_eq_false_iff_ne, Bool.not_eq_true, Bool.not_eq_false, Bool.not_eq_eq_eq_not, Bool.not_true, Bool.not_false, Decidable.not_not] at hc) <;> (try (exfalso; first | omega | exact bool_tf hc (by assumption) | exact bool_ft hc (by assumption) | exact absurd (by assumption) hc)) <;> (simp -dsimp [hc]; (repeat (simp -dsimp (disch := (first | omega | assumption | (refine Bool.eq_false_iff.1 ?_; assumption))) only [wrap_in, if_pos, if_neg]; (try simp -dsimp [hc]))))) | (refine st_cond rfl (fun hc => ?_) (fun hc => ?_) <;> (try simp only [decide_eq_true_eq, decide_eq_false_iff_not, Bool.true_eq_false, Bool.false_eq_true, bne_iff_ne, ne_eq, bne_eq_false_iff_eq, beq_iff_eq, beq_eq_false_iff_ne, Bool.not_eq_true, Bool.not_eq_false, Bool.not_eq_eq_eq_not, Bool.not_true, Bool.not_false, Decidable.not_not] at hc) <;> (try (exfalso; first | omega | exact bool_tf hc (by assumption) | exact bool_ft hc (by assumption) | exact absurd (by assumption) hc)))))
  · rw [rMeet_err (e := 5) (by unfold meetErr; rw [if_pos (by omega)]) (by decide)]; exact .refl _
  have h3 : ¬ 3 < l.length := by omega
  clear hc
  refine st_for [] l.length (fun k T H => CamsTo l k ∧ T = [(0, .c (slS l)), (1, .c (I f)), (6, .c (I (mulN l k : Int))), (7, .c (I k))] ∧ H = []) (by simp) ⟨fun j hj => absurd hj (by omega), by simp [mulN], by simp⟩ ?_
  rintro k T H hk ⟨hcam, rfl, rfl⟩
  simp only [slS]
  by_cases hlt : k < l.length
  · have bad : camOk l[k] = false → rMeet l f = (0, 2) := fun h => rMeet_err (by unfold meetErr; rw [if_neg h3, notAll hlt h]; rfl) (by decide)
    cases h1 : inn 1 100 l[k].1
    · have hb := bad (by rw [Bool.eq_false_iff]; intro h; rw [(cam_no h).1] at h1; cases h1)
      (repeat' (first | (refine buildP_own ?_; (simp -dsimp [hlt, h1]; (repeat (simp -dsimp (disch := (first | omega | assumption | (refine Bool.eq_false_iff.1 ?_; assumption))) only [wrap_in, if_pos, if_neg]; (try simp -dsimp [hlt, h1]))))) | (refine callP_of (sIn _ _ _) (.inl rfl) ?_; (simp -dsimp [hlt, h1]; (repeat (simp -dsimp (disch := (first | omega | assumption | (refine Bool.eq_false_iff.1 ?_; assumption))) only [wrap_in, if_pos, if_neg]; (try simp -dsimp [hlt, h1]))))) |  (with_reducible refine st_skip ?_; (try simp only [seqQ, blockQ, loopQ, forQ, whileQ, reduceIte, Nat.reduceEqDiff])) | (with_reducible refine st_exit ?_; (try simp only [seqQ, blockQ, loopQ, forQ, whileQ, reduceIte, Nat.reduceEqDiff])) | (with_reducible refine st_ret ?_; ((try simp only [seqQ, blockQ, loopQ, forQ, whileQ]); refine retQ_ret ?_; simp [hlt, h1])) | refine st_seq ?_ | refine st_block ?_ | (refine st_reg follows ?_; (simp -dsimp [hlt, h1]; (repeat (simp -dsimp (disch := (first | omega | assumption | (refine Bool.eq_false_iff.1 ?_; assumption))) only [wrap_in, if_pos, if_neg]; (try simp -dsimp [hlt, h1]))))) | (refine guardP_of (fun hc => ?_) (fun hc => ?_) <;> (try simp only [decide_eq_true_eq, decide_eq_false_iff_not, Bool.true_eq_false, Bool.false_eq_true, bne_iff_ne, ne_eq, bne_eq_false_iff_eq, beq_iff_eq, beq_eq_false_iff_ne, Bool.not_eq_true, Bool.not_eq_false, Bool.not_eq_eq_eq_not, Bool.not_true, Bool.not_false, Decidable.not_not] at hc) <;> (try (exfalso; first | omega | exact bool_tf hc (by assumption) | exact bool_ft hc (by assumption) | exact absurd (by assumption) hc)) <;> (simp -dsimp [hlt, h1, hc]; (repeat (simp -dsimp (disch := (first | omega | assumption | (refine Bool.eq_false_iff.1 ?_; assumption))) only [wrap_in, if_pos, if_neg]; (try simp -dsimp [hlt, h1, hc]))))) | (refine st_cond rfl (fun hc => ?_) (fun hc => ?_) <;> (try simp only [decide_eq_true_eq, decide_eq_false_iff_not, Bool.true_eq_false, Bool.false_eq_true, bne_iff_ne, ne_eq, bne_eq_false_iff_eq, beq_iff_eq, beq_eq_false_iff_ne, Bool.not_eq_true, Bool.not_eq_false, Bool.not_eq_eq_eq_not, Bool.not_true, Bool.not_false, Decidable.not_not] at hc) <;> (try (exfalso; first | omega | exact bool_tf hc (by assumption) | exact bool_ft hc (by assumption) | exact absurd (by assumption) hc)))))
      rw [hb]; exact .refl _
    cases h2 : inn 0 l[k].2.2 l[k].2.1
    · have hb := bad (by rw [Bool.eq_false_iff]; intro h; rw [(cam_no h).2.1] at h2; cases h2)
      (repeat' (first | (refine buildP_own ?_; (simp -dsimp [hlt, h1, h2]; (repeat (simp -dsimp (disch := (first | omega | assumption | (refine Bool.eq_false_iff.1 ?_; assumption))) only [wrap_in, if_pos, if_neg]; (try simp -dsimp [hlt, h1, h2]))))) | (refine callP_of (sIn _ _ _) (.inl rfl) ?_; (simp -dsimp [hlt, h1, h2]; (repeat (simp -dsimp (disch := (first | omega | assumption | (refine Bool.eq_false_iff.1 ?_; assumption))) only [wrap_in, if_pos, if_neg]; (try simp -dsimp [hlt, h1, h2]))))) |  (with_reducible refine st_skip ?_; (try simp only [seqQ, blockQ, loopQ, forQ, whileQ, reduceIte, Nat.reduceEqDiff])) | (with_reducible refine st_exit ?_; (try simp only [seqQ, blockQ, loopQ, forQ, whileQ, reduceIte, Nat.reduceEqDiff])) | (with_reducible refine st_ret ?_; ((try simp only [seqQ, blockQ, loopQ, forQ, whileQ]); refine retQ_ret ?_; simp [hlt, h1, h2])) | refine st_seq ?_ | refine st_block ?_ | (refine st_reg follows ?_; (simp -dsimp [hlt, h1, h2]; (repeat (simp -dsimp (disch := (first | omega | assumption | (refine Bool.eq_false_iff.1 ?_; assumption))) only [wrap_in, if_pos, if_neg]; (try simp -dsimp [hlt, h1, h2]))))) | (refine guardP_of (fun hc => ?_) (fun hc => ?_) <;> (try simp only [decide_eq_true_eq, decide_eq_false_iff_not, Bool.true_eq_false, Bool.false_eq_true, bne_iff_ne, ne_eq, bne_eq_false_iff_eq, beq_iff_eq, beq_eq_false_iff_ne, Bool.not_eq_true, Bool.not_eq_false, Bool.not_eq_eq_eq_not, Bool.not_true, Bool.not_false, Decidable.not_not] at hc) <;> (try (exfalso; first | omega | exact bool_tf hc (by assumption) | exact bool_ft hc (by assumption) | exact absurd (by assumption) hc)) <;> (simp -dsimp [hlt, h1, h2, hc]; (repeat (simp -dsimp (disch := (first | omega | assumption | (refine Bool.eq_false_iff.1 ?_; assumption))) only [wrap_in, if_pos, if_neg]; (try simp -dsimp [hlt, h1, h2, hc]))))) | (refine st_cond rfl (fun hc => ?_) (fun hc => ?_) <;> (try simp only [decide_eq_true_eq, decide_eq_false_iff_not, Bool.true_eq_false, Bool.false_eq_true, bne_iff_ne, ne_eq, bne_eq_false_iff_eq, beq_iff_eq, beq_eq_false_iff_ne, Bool.not_eq_true, Bool.not_eq_false, Bool.not_eq_eq_eq_not, Bool.not_true, Bool.not_false, Decidable.not_not] at hc) <;> (try (exfalso; first | omega | exact bool_tf hc (by assumption) | exact bool_ft hc (by assumption) | exact absurd (by assumption) hc)))))
      rw [hb]; exact .refl _
    by_cases h4 : l[k].1 ≤ l[k].2.2
    · have hb := bad (by rw [Bool.eq_false_iff]; intro h; have := (cam_no h).2.2; omega)
      (repeat' (first | (refine buildP_own ?_; (simp -dsimp [hlt, h1, h2, h4]; (repeat (simp -dsimp (disch := (first | omega | assumption | (refine Bool.eq_false_iff.1 ?_; assumption))) only [wrap_in, if_pos, if_neg]; (try simp -dsimp [hlt, h1, h2, h4]))))) | (refine callP_of (sIn _ _ _) (.inl rfl) ?_; (simp -dsimp [hlt, h1, h2, h4]; (repeat (simp -dsimp (disch := (first | omega | assumption | (refine Bool.eq_false_iff.1 ?_; assumption))) only [wrap_in, if_pos, if_neg]; (try simp -dsimp [hlt, h1, h2, h4]))))) |  (with_reducible refine st_skip ?_; (try simp only [seqQ, blockQ, loopQ, forQ, whileQ, reduceIte, Nat.reduceEqDiff])) | (with_reducible refine st_exit ?_; (try simp only [seqQ, blockQ, loopQ, forQ, whileQ, reduceIte, Nat.reduceEqDiff])) | (with_reducible refine st_ret ?_; ((try simp only [seqQ, blockQ, loopQ, forQ, whileQ]); refine retQ_ret ?_; simp [hlt, h1, h2, h4])) | refine st_seq ?_ | refine st_block ?_ | (refine st_reg follows ?_; (simp -dsimp [hlt, h1, h2, h4]; (repeat (simp -dsimp (disch := (first | omega | assumption | (refine Bool.eq_false_iff.1 ?_; assumption))) only [wrap_in, if_pos, if_neg]; (try simp -dsimp [hlt, h1, h2, h4]))))) | (refine guardP_of (fun hc => ?_) (fun hc => ?_) <;> (try simp only [decide_eq_true_eq, decide_eq_false_iff_not, Bool.true_eq_false, Bool.false_eq_true, bne_iff_ne, ne_eq, bne_eq_false_iff_eq, beq_iff_eq, beq_eq_false_iff_ne, Bool.not_eq_true, Bool.not_eq_false, Bool.not_eq_eq_eq_not, Bool.not_true, Bool.not_false, Decidable.not_not] at hc) <;> (try (exfalso; first | omega | exact bool_tf hc (by assumption) | exact bool_ft hc (by assumption) | exact absurd (by assumption) hc)) <;> (simp -dsimp [hlt, h1, h2, h4, hc]; (repeat (simp -dsimp (disch := (first | omega | assumption | (refine Bool.eq_false_iff.1 ?_; assumption))) only [wrap_in, if_pos, if_neg]; (try simp -dsimp [hlt, h1, h2, h4, hc]))))) | (refine st_cond rfl (fun hc => ?_) (fun hc => ?_) <;> (try simp only [decide_eq_true_eq, decide_eq_false_iff_not, Bool.true_eq_false, Bool.false_eq_true, bne_iff_ne, ne_eq, bne_eq_false_iff_eq, beq_iff_eq, beq_eq_false_iff_ne, Bool.not_eq_true, Bool.not_eq_false, Bool.not_eq_eq_eq_not, Bool.not_true, Bool.not_false, Decidable.not_not] at hc) <;> (try (exfalso; first | omega | exact bool_tf hc (by assumption) | exact bool_ft hc (by assumption) | exact absurd (by assumption) hc)))))
      rw [hb]; exact .refl _
    have hok := cam_ok h1 h2 (by omega)
    have hcam' := hcam.next (fun _ => hok)
    have hm := mulN_bound hcam' (by omega)
    have hm3 : 100 ^ (k + 1) ≤ 100 ^ 3 := Nat.pow_le_pow_right (by omega) (by omega)
    have cb := cam_bounds hok
    have ee : (mulN l k : Int) * l[k].1 = (mulN l (k + 1) : Int) := by rw [mulN_next hlt, Int.natCast_mul, Int.toNat_of_nonneg (by omega)]
    have hw : IntKind.i64.wrap ((mulN l k : Int) * l[k].1) = (mulN l (k + 1) : Int) := by rw [ee]; exact wrap_in _ (by omega) (by omega)
    (repeat' (first | (refine buildP_own ?_; (simp -dsimp [hlt, h1, h2, h4, hw]; (repeat (simp -dsimp (disch := (first | omega | assumption | (refine Bool.eq_false_iff.1 ?_; assumption))) only [wrap_in, if_pos, if_neg]; (try simp -dsimp [hlt, h1, h2, h4, hw]))))) | (refine callP_of (sIn _ _ _) (.inl rfl) ?_; (simp -dsimp [hlt, h1, h2, h4, hw]; (repeat (simp -dsimp (disch := (first | omega | assumption | (refine Bool.eq_false_iff.1 ?_; assumption))) only [wrap_in, if_pos, if_neg]; (try simp -dsimp [hlt, h1, h2, h4, hw]))))) |  (with_reducible refine st_skip ?_; (try simp only [seqQ, blockQ, loopQ, forQ, whileQ, reduceIte, Nat.reduceEqDiff])) | (with_reducible refine st_exit ?_; (try simp only [seqQ, blockQ, loopQ, forQ, whileQ, reduceIte, Nat.reduceEqDiff])) | (with_reducible refine st_ret ?_; ((try simp only [seqQ, blockQ, loopQ, forQ, whileQ]); refine retQ_ret ?_; simp [hlt, h1, h2, h4, hw])) | refine st_seq ?_ | refine st_block ?_ | (refine st_reg follows ?_; (simp -dsimp [hlt, h1, h2, h4, hw]; (repeat (simp -dsimp (disch := (first | omega | assumption | (refine Bool.eq_false_iff.1 ?_; assumption))) only [wrap_in, if_pos, if_neg]; (try simp -dsimp [hlt, h1, h2, h4, hw]))))) | (refine guardP_of (fun hc => ?_) (fun hc => ?_) <;> (try simp only [decide_eq_true_eq, decide_eq_false_iff_not, Bool.true_eq_false, Bool.false_eq_true, bne_iff_ne, ne_eq, bne_eq_false_iff_eq, beq_iff_eq, beq_eq_false_iff_ne, Bool.not_eq_true, Bool.not_eq_false, Bool.not_eq_eq_eq_not, Bool.not_true, Bool.not_false, Decidable.not_not] at hc) <;> (try (exfalso; first | omega | exact bool_tf hc (by assumption) | exact bool_ft hc (by assumption) | exact absurd (by assumption) hc)) <;> (simp -dsimp [hlt, h1, h2, h4, hw, hc]; (repeat (simp -dsimp (disch := (first | omega | assumption | (refine Bool.eq_false_iff.1 ?_; assumption))) only [wrap_in, if_pos, if_neg]; (try simp -dsimp [hlt, h1, h2, h4, hw, hc]))))) | (refine st_cond rfl (fun hc => ?_) (fun hc => ?_) <;> (try simp only [decide_eq_true_eq, decide_eq_false_iff_not, Bool.true_eq_false, Bool.false_eq_true, bne_iff_ne, ne_eq, bne_eq_false_iff_eq, beq_iff_eq, beq_eq_false_iff_ne, Bool.not_eq_true, Bool.not_eq_false, Bool.not_eq_eq_eq_not, Bool.not_true, Bool.not_false, Decidable.not_not] at hc) <;> (try (exfalso; first | omega | exact bool_tf hc (by assumption) | exact bool_ft hc (by assumption) | exact absurd (by assumption) hc)))))
    exact ⟨hlt, by simp, hcam', by simp, rfl⟩
  have hkl : k = l.length := by omega
  subst hkl
  have hall := hcam.all
  have hm := mulN_bound hcam (Nat.le_refl _)
  have hm3 : 100 ^ l.length ≤ 100 ^ 3 := Nat.pow_le_pow_right (by omega) (by omega)
  cases hf : inn 0 3155760000 f
  · (repeat' (first | (refine buildP_own ?_; (simp -dsimp [hlt, hf]; (repeat (simp -dsimp (disch := (first | omega | assumption | (refine Bool.eq_false_iff.1 ?_; assumption))) only [wrap_in, if_pos, if_neg]; (try simp -dsimp [hlt, hf]))))) | (refine callP_of (sIn _ _ _) (.inl rfl) ?_; (simp -dsimp [hlt, hf]; (repeat (simp -dsimp (disch := (first | omega | assumption | (refine Bool.eq_false_iff.1 ?_; assumption))) only [wrap_in, if_pos, if_neg]; (try simp -dsimp [hlt, hf]))))) |  (with_reducible refine st_skip ?_; (try simp only [seqQ, blockQ, loopQ, forQ, whileQ, reduceIte, Nat.reduceEqDiff])) | (with_reducible refine st_exit ?_; (try simp only [seqQ, blockQ, loopQ, forQ, whileQ, reduceIte, Nat.reduceEqDiff])) | (with_reducible refine st_ret ?_; ((try simp only [seqQ, blockQ, loopQ, forQ, whileQ]); refine retQ_ret ?_; simp [hlt, hf])) | refine st_seq ?_ | refine st_block ?_ | (refine st_reg follows ?_; (simp -dsimp [hlt, hf]; (repeat (simp -dsimp (disch := (first | omega | assumption | (refine Bool.eq_false_iff.1 ?_; assumption))) only [wrap_in, if_pos, if_neg]; (try simp -dsimp [hlt, hf]))))) | (refine guardP_of (fun hc => ?_) (fun hc => ?_) <;> (try simp only [decide_eq_true_eq, decide_eq_false_iff_not, Bool.true_eq_false, Bool.false_eq_true, bne_iff_ne, ne_eq, bne_eq_false_iff_eq, beq_iff_eq, beq_eq_false_iff_ne, Bool.not_eq_true, Bool.not_eq_false, Bool.not_eq_eq_eq_not, Bool.not_true, Bool.not_false, Decidable.not_not] at hc) <;> (try (exfalso; first | omega | exact bool_tf hc (by assumption) | exact bool_ft hc (by assumption) | exact absurd (by assumption) hc)) <;> (simp -dsimp [hlt, hf, hc]; (repeat (simp -dsimp (disch := (first | omega | assumption | (refine Bool.eq_false_iff.1 ?_; assumption))) only [wrap_in, if_pos, if_neg]; (try simp -dsimp [hlt, hf, hc]))))) | (refine st_cond rfl (fun hc => ?_) (fun hc => ?_) <;> (try simp only [decide_eq_true_eq, decide_eq_false_iff_not, Bool.true_eq_false, Bool.false_eq_true, bne_iff_ne, ne_eq, bne_eq_false_iff_eq, beq_iff_eq, beq_eq_false_iff_ne, Bool.not_eq_true, Bool.not_eq_false, Bool.not_eq_eq_eq_not, Bool.not_true, Bool.not_false, Decidable.not_not] at hc) <;> (try (exfalso; first | omega | exact bool_tf hc (by assumption) | exact bool_ft hc (by assumption) | exact absurd (by assumption) hc)))))
    rw [rMeet_err (e := 3) (by unfold meetErr; rw [if_neg h3, hall, hf]; rfl) (by decide)]; exact .refl _
  have f01 := inn_iff.1 hf
  have herr : meetErr l f = 0 := by unfold meetErr; rw [if_neg h3, hall, hf]; rfl
  obtain ⟨N, hN⟩ : ∃ N, mulN l l.length = N := ⟨_, rfl⟩
  have er : rMeet l f = match (List.range N).find? fun (n : Nat) => allOut l (f + n) with
    | some n => (f + n, 0)
    | none => (0, 7) := by unfold rMeet; rw [if_pos herr, hN]
  rw [hN] at hm ⊢
  (repeat' (first | (refine buildP_own ?_; (simp -dsimp [hlt, hf]; (repeat (simp -dsimp (disch := (first | omega | assumption | (refine Bool.eq_false_iff.1 ?_; assumption))) only [wrap_in, if_pos, if_neg]; (try simp -dsimp [hlt, hf]))))) | (refine callP_of (sIn _ _ _) (.inl rfl) ?_; (simp -dsimp [hlt, hf]; (repeat (simp -dsimp (disch := (first | omega | assumption | (refine Bool.eq_false_iff.1 ?_; assumption))) only [wrap_in, if_pos, if_neg]; (try simp -dsimp [hlt, hf]))))) |  (with_reducible refine st_skip ?_; (try simp only [seqQ, blockQ, loopQ, forQ, whileQ, reduceIte, Nat.reduceEqDiff])) | (with_reducible refine st_exit ?_; (try simp only [seqQ, blockQ, loopQ, forQ, whileQ, reduceIte, Nat.reduceEqDiff])) | (with_reducible refine st_ret ?_; ((try simp only [seqQ, blockQ, loopQ, forQ, whileQ]); refine retQ_ret ?_; simp [hlt, hf])) | refine st_seq ?_ | refine st_block ?_ | (refine st_reg follows ?_; (simp -dsimp [hlt, hf]; (repeat (simp -dsimp (disch := (first | omega | assumption | (refine Bool.eq_false_iff.1 ?_; assumption))) only [wrap_in, if_pos, if_neg]; (try simp -dsimp [hlt, hf]))))) | (refine guardP_of (fun hc => ?_) (fun hc => ?_) <;> (try simp only [decide_eq_true_eq, decide_eq_false_iff_not, Bool.true_eq_false, Bool.false_eq_true, bne_iff_ne, ne_eq, bne_eq_false_iff_eq, beq_iff_eq, beq_eq_false_iff_ne, Bool.not_eq_true, Bool.not_eq_false, Bool.not_eq_eq_eq_not, Bool.not_true, Bool.not_false, Decidable.not_not] at hc) <;> (try (exfalso; first | omega | exact bool_tf hc (by assumption) | exact bool_ft hc (by assumption) | exact absurd (by assumption) hc)) <;> (simp -dsimp [hlt, hf, hc]; (repeat (simp -dsimp (disch := (first | omega | assumption | (refine Bool.eq_false_iff.1 ?_; assumption))) only [wrap_in, if_pos, if_neg]; (try simp -dsimp [hlt, hf, hc]))))) | (refine st_cond rfl (fun hc => ?_) (fun hc => ?_) <;> (try simp only [decide_eq_true_eq, decide_eq_false_iff_not, Bool.true_eq_false, Bool.false_eq_true, bne_iff_ne, ne_eq, bne_eq_false_iff_eq, beq_iff_eq, beq_eq_false_iff_ne, Bool.not_eq_true, Bool.not_eq_false, Bool.not_eq_eq_eq_not, Bool.not_true, Bool.not_false, Decidable.not_not] at hc) <;> (try (exfalso; first | omega | exact bool_tf hc (by assumption) | exact bool_ft hc (by assumption) | exact absurd (by assumption) hc)))))
  refine st_for [] N (fun n T H => NoneTo l f n ∧ T = [(0, .c (slS l)), (1, .c (I f)), (6, .c (I N)), (9, .c (I (f + n)))] ∧ H = []) (by simp) ⟨fun j hj => absurd hj (by omega), by simp, by simp⟩ ?_
  clear hlt
  rintro n T H hn ⟨hno, rfl, rfl⟩
  simp only [slS]
  have hw0 : IntKind.i64.wrap (f + (N : Int)) = f + N := wrap_in _ (by omega) (by omega)
  by_cases hlt : n < N
  · have hlt' : f + (n : Int) < f + (N : Int) := by omega
    (repeat' (first | (refine buildP_own ?_; (simp -dsimp [hlt, hlt', hw0]; (repeat (simp -dsimp (disch := (first | omega | assumption | (refine Bool.eq_false_iff.1 ?_; assumption))) only [wrap_in, if_pos, if_neg]; (try simp -dsimp [hlt, hlt', hw0]))))) |  (with_reducible refine st_skip ?_; (try simp only [seqQ, blockQ, loopQ, forQ, whileQ, reduceIte, Nat.reduceEqDiff])) | (with_reducible refine st_exit ?_; (try simp only [seqQ, blockQ, loopQ, forQ, whileQ, reduceIte, Nat.reduceEqDiff])) | (with_reducible refine st_ret ?_; ((try simp only [seqQ, blockQ, loopQ, forQ, whileQ]); refine retQ_ret ?_; simp [hlt, hlt', hw0])) | refine st_seq ?_ | refine st_block ?_ | (refine st_reg follows ?_; (simp -dsimp [hlt, hlt', hw0]; (repeat (simp -dsimp (disch := (first | omega | assumption | (refine Bool.eq_false_iff.1 ?_; assumption))) only [wrap_in, if_pos, if_neg]; (try simp -dsimp [hlt, hlt', hw0]))))) | (refine guardP_of (fun hc => ?_) (fun hc => ?_) <;> (try simp only [decide_eq_true_eq, decide_eq_false_iff_not, Bool.true_eq_false, Bool.false_eq_true, bne_iff_ne, ne_eq, bne_eq_false_iff_eq, beq_iff_eq, beq_eq_false_iff_ne, Bool.not_eq_true, Bool.not_eq_false, Bool.not_eq_eq_eq_not, Bool.not_true, Bool.not_false, Decidable.not_not] at hc) <;> (try (exfalso; first | omega | exact bool_tf hc (by assumption) | exact bool_ft hc (by assumption) | exact absurd (by assumption) hc)) <;> (simp -dsimp [hlt, hlt', hw0, hc]; (repeat (simp -dsimp (disch := (first | omega | assumption | (refine Bool.eq_false_iff.1 ?_; assumption))) only [wrap_in, if_pos, if_neg]; (try simp -dsimp [hlt, hlt', hw0, hc]))))) | (refine st_cond rfl (fun hc => ?_) (fun hc => ?_) <;> (try simp only [decide_eq_true_eq, decide_eq_false_iff_not, Bool.true_eq_false, Bool.false_eq_true, bne_iff_ne, ne_eq, bne_eq_false_iff_eq, beq_iff_eq, beq_eq_false_iff_ne, Bool.not_eq_true, Bool.not_eq_false, Bool.not_eq_eq_eq_not, Bool.not_true, Bool.not_false, Decidable.not_not] at hc) <;> (try (exfalso; first | omega | exact bool_tf hc (by assumption) | exact bool_ft hc (by assumption) | exact absurd (by assumption) hc)))))
    refine st_for [] l.length (fun i T H => T = [(0, .c (slS l)), (1, .c (I f)), (6, .c (I N)), (9, .c (I (f + n))), (10, .c (B (outTo l (f + n) i))), (11, .c (I i))] ∧ H = []) (by simp) ⟨by simp [outTo], by simp⟩ ?_
    rintro i T H hi ⟨rfl, rfl⟩
    simp only [slS]
    have hw1 : IntKind.i64.wrap (f + (n : Int) + 1) = f + ((n + 1 : Nat) : Int) := (wrap_in _ (by omega) (by omega)).trans (by omega)
    by_cases hli : i < l.length
    · have cb := cam_bounds (hcam i hli hli)
      have hs0 : ¬ l[i].1 = 0 := by omega
      have ht : (f + (n : Int)).tmod l[i].1 = (f + n) % l[i].1 := Int.tmod_eq_emod_of_nonneg (by omega)
      cases ho : outTo l (f + n) i
      · (repeat' (first | (refine buildP_own ?_; (simp -dsimp [hlt, hli, ho]; (repeat (simp -dsimp (disch := (first | omega | assumption | (refine Bool.eq_false_iff.1 ?_; assumption))) only [wrap_in, if_pos, if_neg]; (try simp -dsimp [hlt, hli, ho]))))) |  (with_reducible refine st_skip ?_; (try simp only [seqQ, blockQ, loopQ, forQ, whileQ, reduceIte, Nat.reduceEqDiff])) | (with_reducible refine st_exit ?_; (try simp only [seqQ, blockQ, loopQ, forQ, whileQ, reduceIte, Nat.reduceEqDiff])) | (with_reducible refine st_ret ?_; ((try simp only [seqQ, blockQ, loopQ, forQ, whileQ]); refine retQ_ret ?_; simp [hlt, hli, ho])) | refine st_seq ?_ | refine st_block ?_ | (refine st_reg follows ?_; (simp -dsimp [hlt, hli, ho]; (repeat (simp -dsimp (disch := (first | omega | assumption | (refine Bool.eq_false_iff.1 ?_; assumption))) only [wrap_in, if_pos, if_neg]; (try simp -dsimp [hlt, hli, ho]))))) | (refine guardP_of (fun hc => ?_) (fun hc => ?_) <;> (try simp only [decide_eq_true_eq, decide_eq_false_iff_not, Bool.true_eq_false, Bool.false_eq_true, bne_iff_ne, ne_eq, bne_eq_false_iff_eq, beq_iff_eq, beq_eq_false_iff_ne, Bool.not_eq_true, Bool.not_eq_false, Bool.not_eq_eq_eq_not, Bool.not_true, Bool.not_false, Decidable.not_not] at hc) <;> (try (exfalso; first | omega | exact bool_tf hc (by assumption) | exact bool_ft hc (by assumption) | exact absurd (by assumption) hc)) <;> (simp -dsimp [hlt, hli, ho, hc]; (repeat (simp -dsimp (disch := (first | omega | assumption | (refine Bool.eq_false_iff.1 ?_; assumption))) only [wrap_in, if_pos, if_neg]; (try simp -dsimp [hlt, hli, ho, hc]))))) | (refine st_cond rfl (fun hc => ?_) (fun hc => ?_) <;> (try simp only [decide_eq_true_eq, decide_eq_false_iff_not, Bool.true_eq_false, Bool.false_eq_true, bne_iff_ne, ne_eq, bne_eq_false_iff_eq, beq_iff_eq, beq_eq_false_iff_ne, Bool.not_eq_true, Bool.not_eq_false, Bool.not_eq_eq_eq_not, Bool.not_true, Bool.not_false, Decidable.not_not] at hc) <;> (try (exfalso; first | omega | exact bool_tf hc (by assumption) | exact bool_ft hc (by assumption) | exact absurd (by assumption) hc)))))
        exact ⟨hli, by simp, by simp [outTo_next hli, ho], rfl⟩
      · (repeat' (first | (refine buildP_own ?_; (simp -dsimp [hlt, hli, ho, ht, hs0]; (repeat (simp -dsimp (disch := (first | omega | assumption | (refine Bool.eq_false_iff.1 ?_; assumption))) only [wrap_in, if_pos, if_neg]; (try simp -dsimp [hlt, hli, ho, ht, hs0]))))) | (refine callP_of (sIn _ _ _) (.inl rfl) ?_; (simp -dsimp [hlt, hli, ho, ht, hs0]; (repeat (simp -dsimp (disch := (first | omega | assumption | (refine Bool.eq_false_iff.1 ?_; assumption))) only [wrap_in, if_pos, if_neg]; (try simp -dsimp [hlt, hli, ho, ht, hs0]))))) |  (with_reducible refine st_skip ?_; (try simp only [seqQ, blockQ, loopQ, forQ, whileQ, reduceIte, Nat.reduceEqDiff])) | (with_reducible refine st_exit ?_; (try simp only [seqQ, blockQ, loopQ, forQ, whileQ, reduceIte, Nat.reduceEqDiff])) | (with_reducible refine st_ret ?_; ((try simp only [seqQ, blockQ, loopQ, forQ, whileQ]); refine retQ_ret ?_; simp [hlt, hli, ho, ht, hs0])) | refine st_seq ?_ | refine st_block ?_ | (refine st_reg follows ?_; (simp -dsimp [hlt, hli, ho, ht, hs0]; (repeat (simp -dsimp (disch := (first | omega | assumption | (refine Bool.eq_false_iff.1 ?_; assumption))) only [wrap_in, if_pos, if_neg]; (try simp -dsimp [hlt, hli, ho, ht, hs0]))))) | (refine guardP_of (fun hc => ?_) (fun hc => ?_) <;> (try simp only [decide_eq_true_eq, decide_eq_false_iff_not, Bool.true_eq_false, Bool.false_eq_true, bne_iff_ne, ne_eq, bne_eq_false_iff_eq, beq_iff_eq, beq_eq_false_iff_ne, Bool.not_eq_true, Bool.not_eq_false, Bool.not_eq_eq_eq_not, Bool.not_true, Bool.not_false, Decidable.not_not] at hc) <;> (try (exfalso; first | omega | exact bool_tf hc (by assumption) | exact bool_ft hc (by assumption) | exact absurd (by assumption) hc)) <;> (simp -dsimp [hlt, hli, ho, ht, hs0, hc]; (repeat (simp -dsimp (disch := (first | omega | assumption | (refine Bool.eq_false_iff.1 ?_; assumption))) only [wrap_in, if_pos, if_neg]; (try simp -dsimp [hlt, hli, ho, ht, hs0, hc]))))) | (refine st_cond rfl (fun hc => ?_) (fun hc => ?_) <;> (try simp only [decide_eq_true_eq, decide_eq_false_iff_not, Bool.true_eq_false, Bool.false_eq_true, bne_iff_ne, ne_eq, bne_eq_false_iff_eq, beq_iff_eq, beq_eq_false_iff_ne, Bool.not_eq_true, Bool.not_eq_false, Bool.not_eq_eq_eq_not, Bool.not_true, Bool.not_false, Decidable.not_not] at hc) <;> (try (exfalso; first | omega | exact bool_tf hc (by assumption) | exact bool_ft hc (by assumption) | exact absurd (by assumption) hc)))))
        exact ⟨hli, by simp, by simp [outTo_next hli, ho, camOut], rfl⟩
    · have eo := outTo_all (x := f + n) hli
      cases ho : outTo l (f + n) i
      · rw [ho] at eo
        (repeat' (first | (refine buildP_own ?_; (simp -dsimp [hlt, hli, ho, hw1]; (repeat (simp -dsimp (disch := (first | omega | assumption | (refine Bool.eq_false_iff.1 ?_; assumption))) only [wrap_in, if_pos, if_neg]; (try simp -dsimp [hlt, hli, ho, hw1]))))) |  (with_reducible refine st_skip ?_; (try simp only [seqQ, blockQ, loopQ, forQ, whileQ, reduceIte, Nat.reduceEqDiff])) | (with_reducible refine st_exit ?_; (try simp only [seqQ, blockQ, loopQ, forQ, whileQ, reduceIte, Nat.reduceEqDiff])) | (with_reducible refine st_ret ?_; ((try simp only [seqQ, blockQ, loopQ, forQ, whileQ]); refine retQ_ret ?_; simp [hlt, hli, ho, hw1])) | refine st_seq ?_ | refine st_block ?_ | (refine st_reg follows ?_; (simp -dsimp [hlt, hli, ho, hw1]; (repeat (simp -dsimp (disch := (first | omega | assumption | (refine Bool.eq_false_iff.1 ?_; assumption))) only [wrap_in, if_pos, if_neg]; (try simp -dsimp [hlt, hli, ho, hw1]))))) | (refine guardP_of (fun hc => ?_) (fun hc => ?_) <;> (try simp only [decide_eq_true_eq, decide_eq_false_iff_not, Bool.true_eq_false, Bool.false_eq_true, bne_iff_ne, ne_eq, bne_eq_false_iff_eq, beq_iff_eq, beq_eq_false_iff_ne, Bool.not_eq_true, Bool.not_eq_false, Bool.not_eq_eq_eq_not, Bool.not_true, Bool.not_false, Decidable.not_not] at hc) <;> (try (exfalso; first | omega | exact bool_tf hc (by assumption) | exact bool_ft hc (by assumption) | exact absurd (by assumption) hc)) <;> (simp -dsimp [hlt, hli, ho, hw1, hc]; (repeat (simp -dsimp (disch := (first | omega | assumption | (refine Bool.eq_false_iff.1 ?_; assumption))) only [wrap_in, if_pos, if_neg]; (try simp -dsimp [hlt, hli, ho, hw1, hc]))))) | (refine st_cond rfl (fun hc => ?_) (fun hc => ?_) <;> (try simp only [decide_eq_true_eq, decide_eq_false_iff_not, Bool.true_eq_false, Bool.false_eq_true, bne_iff_ne, ne_eq, bne_eq_false_iff_eq, beq_iff_eq, beq_eq_false_iff_ne, Bool.not_eq_true, Bool.not_eq_false, Bool.not_eq_eq_eq_not, Bool.not_true, Bool.not_false, Decidable.not_not] at hc) <;> (try (exfalso; first | omega | exact bool_tf hc (by assumption) | exact bool_ft hc (by assumption) | exact absurd (by assumption) hc)))))
        exact ⟨hlt, by simp, fun m hm => by
          by_cases hmn : m < n
          · exact hno m hmn
          · have : m = n := by omega
            subst this; exact eo.symm, by simp, rfl⟩
      · rw [ho] at eo
        (repeat' (first | (refine buildP_own ?_; (simp -dsimp [hlt, hli, ho, hw1]; (repeat (simp -dsimp (disch := (first | omega | assumption | (refine Bool.eq_false_iff.1 ?_; assumption))) only [wrap_in, if_pos, if_neg]; (try simp -dsimp [hlt, hli, ho, hw1]))))) |  (with_reducible refine st_skip ?_; (try simp only [seqQ, blockQ, loopQ, forQ, whileQ, reduceIte, Nat.reduceEqDiff])) | (with_reducible refine st_exit ?_; (try simp only [seqQ, blockQ, loopQ, forQ, whileQ, reduceIte, Nat.reduceEqDiff])) | (with_reducible refine st_ret ?_; ((try simp only [seqQ, blockQ, loopQ, forQ, whileQ]); refine retQ_ret ?_; simp [hlt, hli, ho, hw1])) | refine st_seq ?_ | refine st_block ?_ | (refine st_reg follows ?_; (simp -dsimp [hlt, hli, ho, hw1]; (repeat (simp -dsimp (disch := (first | omega | assumption | (refine Bool.eq_false_iff.1 ?_; assumption))) only [wrap_in, if_pos, if_neg]; (try simp -dsimp [hlt, hli, ho, hw1]))))) | (refine guardP_of (fun hc => ?_) (fun hc => ?_) <;> (try simp only [decide_eq_true_eq, decide_eq_false_iff_not, Bool.true_eq_false, Bool.false_eq_true, bne_iff_ne, ne_eq, bne_eq_false_iff_eq, beq_iff_eq, beq_eq_false_iff_ne, Bool.not_eq_true, Bool.not_eq_false, Bool.not_eq_eq_eq_not, Bool.not_true, Bool.not_false, Decidable.not_not] at hc) <;> (try (exfalso; first | omega | exact bool_tf hc (by assumption) | exact bool_ft hc (by assumption) | exact absurd (by assumption) hc)) <;> (simp -dsimp [hlt, hli, ho, hw1, hc]; (repeat (simp -dsimp (disch := (first | omega | assumption | (refine Bool.eq_false_iff.1 ?_; assumption))) only [wrap_in, if_pos, if_neg]; (try simp -dsimp [hlt, hli, ho, hw1, hc]))))) | (refine st_cond rfl (fun hc => ?_) (fun hc => ?_) <;> (try simp only [decide_eq_true_eq, decide_eq_false_iff_not, Bool.true_eq_false, Bool.false_eq_true, bne_iff_ne, ne_eq, bne_eq_false_iff_eq, beq_iff_eq, beq_eq_false_iff_ne, Bool.not_eq_true, Bool.not_eq_false, Bool.not_eq_eq_eq_not, Bool.not_true, Bool.not_false, Decidable.not_not] at hc) <;> (try (exfalso; first | omega | exact bool_tf hc (by assumption) | exact bool_ft hc (by assumption) | exact absurd (by assumption) hc)))))
        rw [er, find_range_some hlt eo.symm hno]; exact .refl _
  · have hlt' : ¬ f + (n : Int) < f + (N : Int) := by omega
    (repeat' (first | (refine buildP_own ?_; (simp -dsimp [hlt, hlt', hw0]; (repeat (simp -dsimp (disch := (first | omega | assumption | (refine Bool.eq_false_iff.1 ?_; assumption))) only [wrap_in, if_pos, if_neg]; (try simp -dsimp [hlt, hlt', hw0]))))) |  (with_reducible refine st_skip ?_; (try simp only [seqQ, blockQ, loopQ, forQ, whileQ, reduceIte, Nat.reduceEqDiff])) | (with_reducible refine st_exit ?_; (try simp only [seqQ, blockQ, loopQ, forQ, whileQ, reduceIte, Nat.reduceEqDiff])) | (with_reducible refine st_ret ?_; ((try simp only [seqQ, blockQ, loopQ, forQ, whileQ]); refine retQ_ret ?_; simp [hlt, hlt', hw0])) | refine st_seq ?_ | refine st_block ?_ | (refine st_reg follows ?_; (simp -dsimp [hlt, hlt', hw0]; (repeat (simp -dsimp (disch := (first | omega | assumption | (refine Bool.eq_false_iff.1 ?_; assumption))) only [wrap_in, if_pos, if_neg]; (try simp -dsimp [hlt, hlt', hw0]))))) | (refine guardP_of (fun hc => ?_) (fun hc => ?_) <;> (try simp only [decide_eq_true_eq, decide_eq_false_iff_not, Bool.true_eq_false, Bool.false_eq_true, bne_iff_ne, ne_eq, bne_eq_false_iff_eq, beq_iff_eq, beq_eq_false_iff_ne, Bool.not_eq_true, Bool.not_eq_false, Bool.not_eq_eq_eq_not, Bool.not_true, Bool.not_false, Decidable.not_not] at hc) <;> (try (exfalso; first | omega | exact bool_tf hc (by assumption) | exact bool_ft hc (by assumption) | exact absurd (by assumption) hc)) <;> (simp -dsimp [hlt, hlt', hw0, hc]; (repeat (simp -dsimp (disch := (first | omega | assumption | (refine Bool.eq_false_iff.1 ?_; assumption))) only [wrap_in, if_pos, if_neg]; (try simp -dsimp [hlt, hlt', hw0, hc]))))) | (refine st_cond rfl (fun hc => ?_) (fun hc => ?_) <;> (try simp only [decide_eq_true_eq, decide_eq_false_iff_not, Bool.true_eq_false, Bool.false_eq_true, bne_iff_ne, ne_eq, bne_eq_false_iff_eq, beq_iff_eq, beq_eq_false_iff_ne, Bool.not_eq_true, Bool.not_eq_false, Bool.not_eq_eq_eq_not, Bool.not_true, Bool.not_false, Decidable.not_not] at hc) <;> (try (exfalso; first | omega | exact bool_tf hc (by assumption) | exact bool_ft hc (by assumption) | exact absurd (by assumption) hc)))))
    have : n = N := by omega
    subst this
    rw [er, find_range_none hno]; exact .refl _

theorem turn_dvd (l : List (Int × Int × Int)) : ∀ x ∈ l, x.1.toNat ∣ turnOf l := by
  have key : ∀ (l : List (Int × Int × Int)) (t : Nat), t ∣ l.foldl (fun t x => Nat.lcm t x.1.toNat) t ∧ ∀ x ∈ l, x.1.toNat ∣ l.foldl (fun t x => Nat.lcm t x.1.toNat) t := by
    intro l
    induction l with
    | nil => intro t; simp
    | cons y l ih =>
      intro t
      rw [List.foldl_cons]
      obtain ⟨h1, h2⟩ := ih (Nat.lcm t y.1.toNat)
      refine ⟨Nat.dvd_trans (Nat.dvd_lcm_left _ _) h1, fun x hx => ?_⟩
      rcases List.mem_cons.1 hx with rfl | hx
      · exact Nat.dvd_trans (Nat.dvd_lcm_right _ _) h1
      · exact h2 x hx
  exact (key l 1).2

theorem turn_le_mul (l : List (Int × Int × Int)) (h : l.all camOk = true) : ∀ k, k ≤ l.length → turnOf (l.take k) ≤ mulN l k
  | 0, _ => by simp [turnOf, mulN]
  | k + 1, hk => by
    have ih := turn_le_mul l h k (by omega)
    rw [turnOf_take l k (by omega), mulN_next (by omega)]
    exact Nat.le_trans lcm_le (Nat.mul_le_mul_right _ ih)

theorem allOut_mod {l : List (Int × Int × Int)} {f : Int} (h : l.all camOk = true) (n : Nat) : allOut l (f + ((n % turnOf l : Nat) : Int)) = allOut l (f + (n : Int)) := by
  unfold allOut
  rw [Bool.eq_iff_iff, List.all_eq_true, List.all_eq_true]
  have : ∀ x ∈ l, camOut x (f + ((n % turnOf l : Nat) : Int)) = camOut x (f + (n : Int)) := fun x hx => by
    unfold camOut
    have cb := cam_bounds (List.all_eq_true.1 h x hx)
    obtain ⟨d, hd⟩ := turn_dvd l x hx
    have e1 : (n : Int) = ((n % turnOf l : Nat) : Int) + x.1 * (d * (n / turnOf l : Nat) : Int) := by
      have h1 := Nat.mod_add_div n (turnOf l)
      have h2 : ((n % turnOf l + turnOf l * (n / turnOf l) : Nat) : Int) = (n : Int) := by exact_mod_cast h1
      rw [Int.natCast_add, Int.natCast_mul] at h2
      have h3 : ((turnOf l : Nat) : Int) = x.1 * d := by
        rw [hd, Int.natCast_mul, Int.toNat_of_nonneg (by omega)]
      rw [← h2, h3, Int.mul_assoc]
    have e2 : (f + (n : Int)) % x.1 = (f + ((n % turnOf l : Nat) : Int)) % x.1 := by
      conv => lhs; rw [e1, ← Int.add_assoc, Int.add_mul_emod_self_left]
    rw [e2]
  exact ⟨fun h1 x hx => by rw [← this x hx]; exact h1 x hx, fun h1 x hx => by rw [this x hx]; exact h1 x hx⟩

theorem least_nat {p : Nat → Bool} {n : Nat} (h : p n = true) : ∃ m, m ≤ n ∧ p m = true ∧ ∀ k, k < m → p k = false := by
  induction n using Nat.strongRecOn with
  | _ n ih =>
    by_cases h' : ∃ k, k < n ∧ p k = true
    · obtain ⟨k, hk, hp⟩ := h'
      obtain ⟨m, h1, h2, h3⟩ := ih k hk hp
      exact ⟨m, by omega, h2, h3⟩
    · exact ⟨n, Nat.le_refl _, h, fun k hk => by
        cases hp : p k
        · rfl
        · exact absurd ⟨k, hk, hp⟩ h'⟩

theorem rMeet_eq (l : List (Int × Int × Int)) (f : Int) : rMeet l f = meetR l f := by
  unfold rMeet meetR
  by_cases he : meetErr l f = 0
  · rw [if_pos he, if_pos he]
    have hall : l.all camOk = true := by
      unfold meetErr at he
      cases h : l.all camOk
      · rw [h] at he; split at he <;> simp at he
      · rfl
    have hT : 0 < turnOf l := by
      have := (turnOf_bound l (List.all_eq_true.1 hall) l.length).1
      rwa [List.take_length] at this
    have hle : turnOf l ≤ mulN l l.length := by
      have := turn_le_mul l hall l.length (Nat.le_refl _)
      rwa [List.take_length] at this
    by_cases hex : ∃ n, n < mulN l l.length ∧ allOut l (f + (n : Int)) = true
    · obtain ⟨n, hn, ho⟩ := hex
      obtain ⟨m, h1, h2, h3⟩ := least_nat (p := fun n : Nat => allOut l (f + n)) ho
      have hmt : m < turnOf l := by
        rcases Nat.lt_or_ge m (turnOf l) with h | h
        · exact h
        · have h4 := h3 (m % turnOf l) (Nat.lt_of_lt_of_le (Nat.mod_lt _ hT) h)
          rw [allOut_mod hall] at h4
          rw [h4] at h2; cases h2
      rw [find_range_some (p := fun n : Nat => allOut l (f + n)) (by omega) h2 h3, meetOk_some hmt h2 h3]
    · have hno : ∀ n, n < mulN l l.length → allOut l (f + (n : Int)) = false := fun n hn => by
        cases h : allOut l (f + (n : Int))
        · rfl
        · exact absurd ⟨n, hn, h⟩ hex
      rw [find_range_none hno, meetOk_none fun n hn => hno n (by omega)]
  · rw [if_neg he, if_neg he]

set_option maxRecDepth 100000 in
set_option maxHeartbeats 4000000 in
theorem lMeetsT (l : List (Int × Int × Int)) (f : Int) (hl : l.length ≤ 10) : STri Try.prog 56 c8_29 [(0, .c (slS l)), (1, .c (I f)), (5, .c (slS l))] [] (retQ rs8 (B true)) := by
  have hM := cMeet l f
  have hR := sMeet l f
  rw [rMeet_eq] at hR
  obtain ⟨r, hr⟩ : ∃ r, meetR l f = r := ⟨_, rfl⟩
  rw [hr] at hM hR
  unfold slS
  (repeat' (first | (refine buildP_own ?_; (simp -dsimp; (repeat (simp -dsimp (disch := (first | omega | assumption | (refine Bool.eq_false_iff.1 ?_; assumption))) only [wrap_in, if_pos, if_neg]; (try simp -dsimp))))) | (refine callP_of (hM) (.inl rfl) ?_; (simp -dsimp; (repeat (simp -dsimp (disch := (first | omega | assumption | (refine Bool.eq_false_iff.1 ?_; assumption))) only [wrap_in, if_pos, if_neg]; (try simp -dsimp))))) | (refine callP_of (hR) (.inl rfl) ?_; (simp -dsimp; (repeat (simp -dsimp (disch := (first | omega | assumption | (refine Bool.eq_false_iff.1 ?_; assumption))) only [wrap_in, if_pos, if_neg]; (try simp -dsimp))))) | (refine callP_of (sKnown) (.inl rfl) ?_; (simp -dsimp; (repeat (simp -dsimp (disch := (first | omega | assumption | (refine Bool.eq_false_iff.1 ?_; assumption))) only [wrap_in, if_pos, if_neg]; (try simp -dsimp))))) |  (with_reducible refine st_skip ?_; (try simp only [seqQ, blockQ, loopQ, forQ, whileQ, reduceIte, Nat.reduceEqDiff])) | (with_reducible refine st_exit ?_; (try simp only [seqQ, blockQ, loopQ, forQ, whileQ, reduceIte, Nat.reduceEqDiff])) | (with_reducible refine st_ret ?_; ((try simp only [seqQ, blockQ, loopQ, forQ, whileQ]); refine retQ_ret ?_; simp)) | refine st_seq ?_ | refine st_block ?_ | (refine st_reg follows ?_; (simp -dsimp; (repeat (simp -dsimp (disch := (first | omega | assumption | (refine Bool.eq_false_iff.1 ?_; assumption))) only [wrap_in, if_pos, if_neg]; (try simp -dsimp))))) | (refine guardP_of (fun hc => ?_) (fun hc => ?_) <;> (try simp only [decide_eq_true_eq, decide_eq_false_iff_not, Bool.true_eq_false, Bool.false_eq_true, bne_iff_ne, ne_eq, bne_eq_false_iff_eq, beq_iff_eq, beq_eq_false_iff_ne, Bool.not_eq_true, Bool.not_eq_false, Bool.not_eq_eq_eq_not, Bool.not_true, Bool.not_false, Decidable.not_not] at hc) <;> (try (exfalso; first | omega | exact bool_tf hc (by assumption) | exact bool_ft hc (by assumption) | exact absurd (by assumption) hc)) <;> (simp -dsimp [hc]; (repeat (simp -dsimp (disch := (first | omega | assumption | (refine Bool.eq_false_iff.1 ?_; assumption))) only [wrap_in, if_pos, if_neg]; (try simp -dsimp [hc]))))) | (refine st_cond rfl (fun hc => ?_) (fun hc => ?_) <;> (try simp only [decide_eq_true_eq, decide_eq_false_iff_not, Bool.true_eq_false, Bool.false_eq_true, bne_iff_ne, ne_eq, bne_eq_false_iff_eq, beq_iff_eq, beq_eq_false_iff_ne, Bool.not_eq_true, Bool.not_eq_false, Bool.not_eq_eq_eq_not, Bool.not_true, Bool.not_false, Decidable.not_not] at hc) <;> (try (exfalso; first | omega | exact bool_tf hc (by assumption) | exact bool_ft hc (by assumption) | exact absurd (by assumption) hc)))))
  refine st_for [] l.length (fun k T H => T = [(0, .c (slS l)), (1, .c (I f)), (5, .c (slS l)), (6, .c (I r.1)), (7, .c (I r.2)), (8, .c (I k))] ∧ H = []) (by simp) ⟨by simp, by simp⟩ ?_
  rintro k T H hk ⟨rfl, rfl⟩
  simp only [slS]
  by_cases hlt : k < l.length
  · (repeat' (first | (refine buildP_own ?_; (simp -dsimp [hlt]; (repeat (simp -dsimp (disch := (first | omega | assumption | (refine Bool.eq_false_iff.1 ?_; assumption))) only [wrap_in, if_pos, if_neg]; (try simp -dsimp [hlt]))))) |  (with_reducible refine st_skip ?_; (try simp only [seqQ, blockQ, loopQ, forQ, whileQ, reduceIte, Nat.reduceEqDiff])) | (with_reducible refine st_exit ?_; (try simp only [seqQ, blockQ, loopQ, forQ, whileQ, reduceIte, Nat.reduceEqDiff])) | (with_reducible refine st_ret ?_; ((try simp only [seqQ, blockQ, loopQ, forQ, whileQ]); refine retQ_ret ?_; simp [hlt])) | refine st_seq ?_ | refine st_block ?_ | (refine st_reg follows ?_; (simp -dsimp [hlt]; (repeat (simp -dsimp (disch := (first | omega | assumption | (refine Bool.eq_false_iff.1 ?_; assumption))) only [wrap_in, if_pos, if_neg]; (try simp -dsimp [hlt]))))) | (refine guardP_of (fun hc => ?_) (fun hc => ?_) <;> (try simp only [decide_eq_true_eq, decide_eq_false_iff_not, Bool.true_eq_false, Bool.false_eq_true, bne_iff_ne, ne_eq, bne_eq_false_iff_eq, beq_iff_eq, beq_eq_false_iff_ne, Bool.not_eq_true, Bool.not_eq_false, Bool.not_eq_eq_eq_not, Bool.not_true, Bool.not_false, Decidable.not_not] at hc) <;> (try (exfalso; first | omega | exact bool_tf hc (by assumption) | exact bool_ft hc (by assumption) | exact absurd (by assumption) hc)) <;> (simp -dsimp [hlt, hc]; (repeat (simp -dsimp (disch := (first | omega | assumption | (refine Bool.eq_false_iff.1 ?_; assumption))) only [wrap_in, if_pos, if_neg]; (try simp -dsimp [hlt, hc]))))) | (refine st_cond rfl (fun hc => ?_) (fun hc => ?_) <;> (try simp only [decide_eq_true_eq, decide_eq_false_iff_not, Bool.true_eq_false, Bool.false_eq_true, bne_iff_ne, ne_eq, bne_eq_false_iff_eq, beq_iff_eq, beq_eq_false_iff_ne, Bool.not_eq_true, Bool.not_eq_false, Bool.not_eq_eq_eq_not, Bool.not_true, Bool.not_false, Decidable.not_not] at hc) <;> (try (exfalso; first | omega | exact bool_tf hc (by assumption) | exact bool_ft hc (by assumption) | exact absurd (by assumption) hc)))))
    exact ⟨hlt, by simp, by simp, by simp⟩
  · unfold slS at hM hR
    (repeat' (first | (refine buildP_own ?_; (simp -dsimp [hlt]; (repeat (simp -dsimp (disch := (first | omega | assumption | (refine Bool.eq_false_iff.1 ?_; assumption))) only [wrap_in, if_pos, if_neg]; (try simp -dsimp [hlt]))))) | (refine callP_of (hM) (.inl rfl) ?_; (simp -dsimp [hlt]; (repeat (simp -dsimp (disch := (first | omega | assumption | (refine Bool.eq_false_iff.1 ?_; assumption))) only [wrap_in, if_pos, if_neg]; (try simp -dsimp [hlt]))))) | (refine callP_of (hR) (.inl rfl) ?_; (simp -dsimp [hlt]; (repeat (simp -dsimp (disch := (first | omega | assumption | (refine Bool.eq_false_iff.1 ?_; assumption))) only [wrap_in, if_pos, if_neg]; (try simp -dsimp [hlt]))))) | (refine callP_of (sKnown) (.inl rfl) ?_; (simp -dsimp [hlt]; (repeat (simp -dsimp (disch := (first | omega | assumption | (refine Bool.eq_false_iff.1 ?_; assumption))) only [wrap_in, if_pos, if_neg]; (try simp -dsimp [hlt]))))) |  (with_reducible refine st_skip ?_; (try simp only [seqQ, blockQ, loopQ, forQ, whileQ, reduceIte, Nat.reduceEqDiff])) | (with_reducible refine st_exit ?_; (try simp only [seqQ, blockQ, loopQ, forQ, whileQ, reduceIte, Nat.reduceEqDiff])) | (with_reducible refine st_ret ?_; ((try simp only [seqQ, blockQ, loopQ, forQ, whileQ]); refine retQ_ret ?_; simp [hlt])) | refine st_seq ?_ | refine st_block ?_ | (refine st_reg follows ?_; (simp -dsimp [hlt]; (repeat (simp -dsimp (disch := (first | omega | assumption | (refine Bool.eq_false_iff.1 ?_; assumption))) only [wrap_in, if_pos, if_neg]; (try simp -dsimp [hlt]))))) | (refine guardP_of (fun hc => ?_) (fun hc => ?_) <;> (try simp only [decide_eq_true_eq, decide_eq_false_iff_not, Bool.true_eq_false, Bool.false_eq_true, bne_iff_ne, ne_eq, bne_eq_false_iff_eq, beq_iff_eq, beq_eq_false_iff_ne, Bool.not_eq_true, Bool.not_eq_false, Bool.not_eq_eq_eq_not, Bool.not_true, Bool.not_false, Decidable.not_not] at hc) <;> (try (exfalso; first | omega | exact bool_tf hc (by assumption) | exact bool_ft hc (by assumption) | exact absurd (by assumption) hc)) <;> (simp -dsimp [hlt, hc]; (repeat (simp -dsimp (disch := (first | omega | assumption | (refine Bool.eq_false_iff.1 ?_; assumption))) only [wrap_in, if_pos, if_neg]; (try simp -dsimp [hlt, hc]))))) | (refine st_cond rfl (fun hc => ?_) (fun hc => ?_) <;> (try simp only [decide_eq_true_eq, decide_eq_false_iff_not, Bool.true_eq_false, Bool.false_eq_true, bne_iff_ne, ne_eq, bne_eq_false_iff_eq, beq_iff_eq, beq_eq_false_iff_ne, Bool.not_eq_true, Bool.not_eq_false, Bool.not_eq_eq_eq_not, Bool.not_true, Bool.not_false, Decidable.not_not] at hc) <;> (try (exfalso; first | omega | exact bool_tf hc (by assumption) | exact bool_ft hc (by assumption) | exact absurd (by assumption) hc)))))
    exact .refl _

set_option maxRecDepth 100000 in
set_option maxHeartbeats 4000000 in
theorem lMeets (l : List (Int × Int × Int)) (f : Int) : SC Try.prog 8 [slS l, I f] (B true) := by
  refine law8 _ _ (by simp) ?_
  by_cases hl : 10 < l.length
  · have hl' : 10 < (l.length : Int) := by omega
    unfold slS
    (repeat' (first | (refine buildP_own ?_; (simp -dsimp [hl']; (repeat (simp -dsimp (disch := (first | omega | assumption | (refine Bool.eq_false_iff.1 ?_; assumption))) only [wrap_in, if_pos, if_neg]; (try simp -dsimp [hl']))))) | (refine callP_of (sKnown) (.inl rfl) ?_; (simp -dsimp [hl']; (repeat (simp -dsimp (disch := (first | omega | assumption | (refine Bool.eq_false_iff.1 ?_; assumption))) only [wrap_in, if_pos, if_neg]; (try simp -dsimp [hl']))))) |  (with_reducible refine st_skip ?_; (try simp only [seqQ, blockQ, loopQ, forQ, whileQ, reduceIte, Nat.reduceEqDiff])) | (with_reducible refine st_exit ?_; (try simp only [seqQ, blockQ, loopQ, forQ, whileQ, reduceIte, Nat.reduceEqDiff])) | (with_reducible refine st_ret ?_; ((try simp only [seqQ, blockQ, loopQ, forQ, whileQ]); refine retQ_ret ?_; simp [hl'])) | refine st_seq ?_ | refine st_block ?_ | (refine st_reg follows ?_; (simp -dsimp [hl']; (repeat (simp -dsimp (disch := (first | omega | assumption | (refine Bool.eq_false_iff.1 ?_; assumption))) only [wrap_in, if_pos, if_neg]; (try simp -dsimp [hl']))))) | (refine guardP_of (fun hc => ?_) (fun hc => ?_) <;> (try simp only [decide_eq_true_eq, decide_eq_false_iff_not, Bool.true_eq_false, Bool.false_eq_true, bne_iff_ne, ne_eq, bne_eq_false_iff_eq, beq_iff_eq, beq_eq_false_iff_ne, Bool.not_eq_true, Bool.not_eq_false, Bool.not_eq_eq_eq_not, Bool.not_true, Bool.not_false, Decidable.not_not] at hc) <;> (try (exfalso; first | omega | exact bool_tf hc (by assumption) | exact bool_ft hc (by assumption) | exact absurd (by assumption) hc)) <;> (simp -dsimp [hl', hc]; (repeat (simp -dsimp (disch := (first | omega | assumption | (refine Bool.eq_false_iff.1 ?_; assumption))) only [wrap_in, if_pos, if_neg]; (try simp -dsimp [hl', hc]))))) | (refine st_cond rfl (fun hc => ?_) (fun hc => ?_) <;> (try simp only [decide_eq_true_eq, decide_eq_false_iff_not, Bool.true_eq_false, Bool.false_eq_true, bne_iff_ne, ne_eq, bne_eq_false_iff_eq, beq_iff_eq, beq_eq_false_iff_ne, Bool.not_eq_true, Bool.not_eq_false, Bool.not_eq_eq_eq_not, Bool.not_true, Bool.not_false, Decidable.not_not] at hc) <;> (try (exfalso; first | omega | exact bool_tf hc (by assumption) | exact bool_ft hc (by assumption) | exact absurd (by assumption) hc)))))
    exact .refl _
  · have hl' : ¬ 10 < (l.length : Int) := by omega
    have hA : l.length ≤ 9223372036854775807 := by omega
    have hB : l.length * 24 ≤ 140737488355328 := by omega
    have hT := lMeetsT l f (by omega)
    unfold slS at *
    (repeat' (first | (with_reducible refine st_close (sc := c8_29) [(0, .c (.sl 3 (l.map rowS))), (1, .c (I f)), (5, .c (.sl 3 (l.map rowS)))] [] (by simp [ClosT]; exact ⟨15, _, _, _, ⟨rfl, (by simp)⟩, ⟨rfl, rfl, rfl, rfl⟩, rfl, rfl⟩) (by simp) hT) | (refine buildP_own ?_; (simp -dsimp [hl', hA, hB]; (repeat (simp -dsimp (disch := (first | omega | assumption | (refine Bool.eq_false_iff.1 ?_; assumption))) only [wrap_in, if_pos, if_neg]; (try simp -dsimp [hl', hA, hB]))))) | (refine callP_of (sKnown) (.inl rfl) ?_; (simp -dsimp [hl', hA, hB]; (repeat (simp -dsimp (disch := (first | omega | assumption | (refine Bool.eq_false_iff.1 ?_; assumption))) only [wrap_in, if_pos, if_neg]; (try simp -dsimp [hl', hA, hB]))))) |  (with_reducible refine st_skip ?_; (try simp only [seqQ, blockQ, loopQ, forQ, whileQ, reduceIte, Nat.reduceEqDiff])) | (with_reducible refine st_exit ?_; (try simp only [seqQ, blockQ, loopQ, forQ, whileQ, reduceIte, Nat.reduceEqDiff])) | (with_reducible refine st_ret ?_; ((try simp only [seqQ, blockQ, loopQ, forQ, whileQ]); refine retQ_ret ?_; simp [hl', hA, hB])) | refine st_seq ?_ | refine st_block ?_ | (refine st_reg follows ?_; (simp -dsimp [hl', hA, hB]; (repeat (simp -dsimp (disch := (first | omega | assumption | (refine Bool.eq_false_iff.1 ?_; assumption))) only [wrap_in, if_pos, if_neg]; (try simp -dsimp [hl', hA, hB]))))) | (refine guardP_of (fun hc => ?_) (fun hc => ?_) <;> (try simp only [decide_eq_true_eq, decide_eq_false_iff_not, Bool.true_eq_false, Bool.false_eq_true, bne_iff_ne, ne_eq, bne_eq_false_iff_eq, beq_iff_eq, beq_eq_false_iff_ne, Bool.not_eq_true, Bool.not_eq_false, Bool.not_eq_eq_eq_not, Bool.not_true, Bool.not_false, Decidable.not_not] at hc) <;> (try (exfalso; first | omega | exact bool_tf hc (by assumption) | exact bool_ft hc (by assumption) | exact absurd (by assumption) hc)) <;> (simp -dsimp [hl', hA, hB, hc]; (repeat (simp -dsimp (disch := (first | omega | assumption | (refine Bool.eq_false_iff.1 ?_; assumption))) only [wrap_in, if_pos, if_neg]; (try simp -dsimp [hl', hA, hB, hc]))))) | (refine st_cond rfl (fun hc => ?_) (fun hc => ?_) <;> (try simp only [decide_eq_true_eq, decide_eq_false_iff_not, Bool.true_eq_false, Bool.false_eq_true, bne_iff_ne, ne_eq, bne_eq_false_iff_eq, beq_iff_eq, beq_eq_false_iff_ne, Bool.not_eq_true, Bool.not_eq_false, Bool.not_eq_eq_eq_not, Bool.not_true, Bool.not_false, Decidable.not_not] at hc) <;> (try (exfalso; first | omega | exact bool_tf hc (by assumption) | exact bool_ft hc (by assumption) | exact absurd (by assumption) hc)))))

end Go.Proofs.Ytdgplebmlggmcaa
/- Arguments opened: slices and integers. -/
namespace Go.Proofs.Ytdgplebmlggmcaa
open Go.RowKit Go.ChangeShapes Go.WideShapes Go.ChangeAt

section
variable {H : Type} {enc : TypeId × Value → H} {P : Program} {w : World} {base b0 : Nat} {spare : Nat → Bool} {held : Bool} {v : Value} {x : DataW H} {ps : List MemPlace} {t : TypeId} {r : Reach}

theorem open_slice {e : TypeId} {d : Nat} (ht : P.underlying t = some (.slice e)) (hp : plainB P d t = true) (hval : Value.okWide P w r b0 t v) (h : DataW.Trod enc P w 0 spare held t v x ps) :
    ∃ d' rows, RepC w (fun _ => False) (.sl (P.cellsOf e) rows) v ∧ rows.length ≤ maxLen ∧ ∀ row ∈ rows, tyC P d' e row := by
  obtain ⟨a, len, cap, rfl⟩ := okWide_slice ht hval
  obtain ⟨n, h⟩ := h
  obtain ⟨cs, h1, h2⟩ := open_tyC hp h
  obtain ⟨d', rows, rfl, h3, h4⟩ := tyC_slice ht h1
  exact ⟨d', rows, h2.2 0 _ _ rfl rfl, h3, h4⟩

end

end Go.Proofs.Ytdgplebmlggmcaa
/- The last step: ChimeHeards. -/
namespace Go.Proofs.Ytdgplebmlggmcaa
open Go.RowKit Go.ChangeShapes Go.WideShapes Go.ChangeAt

theorem Try.plain37 : plainB Try.prog 5 37 = true := by kernel_rfl
theorem Try.plainI : plainB Try.prog 5 22 = true := by kernel_rfl
set_option maxRecDepth 100000 in
theorem open_two {H : Type} {enc : TypeId × Value → H} {w : World} {spare : Nat → Bool} {held : Bool} {v : Value} {x : DataW H} {ps : List MemPlace} (h : DataW.Trod enc Try.prog w 0 spare held 37 v x ps) : ∃ a b : Int, RepC w (fun _ => False) (.agg [I a, I b]) v := by
  obtain ⟨n, h⟩ := h
  obtain ⟨cs, h1, h2⟩ := open_tyC Try.plain37 h
  obtain ⟨d, c1, r1, rfl, t1, c2, r2, rfl, t2, t4⟩ := tyC_array Try.underlying37 h1
  obtain ⟨a, rfl⟩ := ty_I t1
  obtain ⟨b, rfl⟩ := ty_I t2
  have t4 : r2 = [] := t4
  subst t4
  have hs : v.cells.size = 2 := by have := h2.1; simp at this; omega
  have hv := agg_cells (v := v) (by omega)
  refine ⟨a, b, ?_⟩
  rw [hv]
  exact .agg _ _ (by simpa using hs) (fun i x u hx hu => h2.2 i x u hx (by simpa using hu))
set_option maxRecDepth 100000 in
theorem open_ints {H : Type} {enc : TypeId × Value → H} {w : World} {spare : Nat → Bool} {held : Bool} {v : Value} {x : DataW H} {ps : List MemPlace} {r : Reach} {b0 : Nat} (hval : Value.okWide Try.prog w r b0 22 v) (h : DataW.Trod enc Try.prog w 0 spare held 22 v x ps) :
    ∃ xs : List Int, RepC w (fun _ => False) (slI xs) v ∧ xs.length ≤ maxLen := by
  obtain ⟨d', rows, h1, h2, h3⟩ := open_slice Try.underlying22 Try.plainI hval h
  rw [Try.cells3] at h1
  obtain ⟨xs, rfl⟩ := rows_map (f := rowI) (fun row hr => ty_I (h3 row hr))
  exact ⟨xs, h1, by simpa using h2⟩

set_option maxRecDepth 100000 in
theorem heards_lifted (os : Os) (started : os.Started) (H : Type) (enc : TypeId × Value → H) :
    ReturnsInHanded {} Try.checked os 5 .any (Rows.chimeHeardsSpec.pre6 enc Try.prog Try.f5 Rows.chimeHeardsRow.domain false) (Rows.chimeHeardsSpec.post enc Try.prog Try.f5 false true false false) := by
  refine returnsInHanded_of_change (C := Try.checked) Try.own started (by kernel_rfl) Try.func5
    (ChangeSpec.witness6 (enc := enc) (C := Try.checked) false ⟨#[], #[.agg #[.int .i64 0, .int .i64 0, .slice none 0 0, .int .i64 0, .slice none 0 0, .slice none 0 0], .agg #[.int .i64 0, .int .i64 0], .slice none 0 0], []⟩ 8 (by kernel_rfl) (by kernel_rfl) (by kernel_rfl) (by kernel_rfl)) ?_
  intro W base args ds gs before hval0 hW hcnd _
  have hW' := hW
  obtain ⟨p, q, hA0, hV, rfl, hfz, hnd⟩ := hW
  have hA : DataW.TrodAll enc Try.prog W 0 (fun _ => true) true Try.f5.params.toList args.toList ds p := hA0
  rw [Try.params5] at hA
  obtain ⟨v0, v1, v2, d0, d1, d2, q0, q1, q2, rfl, rfl, rfl, h0, h1, h2⟩ := trodAll_three hA
  obtain ⟨rfl, rfl⟩ := trodVars_none hV
  obtain ⟨c, hc⟩ := open_works h0
  obtain ⟨n0, n1, hn⟩ := open_two h1
  obtain ⟨xs, hx, hxl⟩ := open_ints (hval0 2 _ v2 rfl rfl) h2
  clear hA0 hval0
  refine (lHeards c n0 n1 xs (Nat.le_trans hxl (by decide)) W (fun _ => False) #[v0, v1, v2] (fun b hb => hb.elim) rfl (fun i x v hx' hv => ?_)).mono fun e W' ⟨v, he, hr, hx⟩ => ?_
  · match i with
    | 0 => cases hx'; cases hv; exact hc
    | 1 => cases hx'; cases hv; exact hn
    | 2 => cases hx'; cases hv; exact hx
    | i + 3 => simp at hx'
  subst he
  have hv := val_inv hr
  subst hv
  exact ⟨_, rfl, post_ext Try.kids Try.full (by rw [Try.params5]; decide +kernel) rfl hW' (fun _ _ _ => trodAll_mk1 (shut_bool Try.underlying4 _)) rfl rfl hx (ok_one (by kernel_rfl) rfl (okWide_bool_mk Try.underlying4 _))⟩

theorem chimeHeards_holds : Rows.ChimeHeardsSaid :=
  OpenClaim.holds_of_wide 5 Try.f5 rfl rfl rfl rfl rfl rfl rfl ⟨rfl, rfl, rfl, rfl, rfl⟩ rfl rfl rfl rfl rfl (by kernel_rfl) Try.func5 (by kernel_rfl)
    (of_decide_eq_true (by kernel_rfl)) (by unfold Func.isWrapper; first | (rw [if_pos (by decide +kernel)]; kernel_rfl) | (rw [if_neg (by decide +kernel)]; exact ⟨rfl, rfl⟩))
    (fun os started H enc _ => heards_lifted os started H enc)

end Go.Proofs.Ytdgplebmlggmcaa
/- The last step: ChimeMeets. -/
namespace Go.Proofs.Ytdgplebmlggmcaa
open Go.RowKit Go.ChangeShapes Go.WideShapes Go.ChangeAt

theorem Try.plainCams : plainB Try.prog 6 74 = true := by kernel_rfl
theorem Try.cellsCam : Try.prog.cellsOf 80 = 3 := by kernel_rfl
theorem ty_span {d : Nat} {cs : List CV} (h : tyC Try.prog d 78 cs) : ∃ a b, cs = [I a, I b] := by
  obtain ⟨d', c1, c2, rfl, h1, c3, c4, rfl, h2, h3⟩ := tyC_struct Try.underlying78 h
  obtain ⟨a, rfl⟩ := ty_I h1
  obtain ⟨b, rfl⟩ := ty_I h2
  have h3 : c4 = [] := h3
  subst h3
  exact ⟨a, b, rfl⟩
theorem ty_cam {d : Nat} {cs : List CV} (h : tyC Try.prog d 80 cs) : ∃ x, cs = rowS x := by
  obtain ⟨d', c1, c2, rfl, h1, c3, c4, rfl, h2, h3⟩ := tyC_struct Try.underlying80 h
  obtain ⟨a, rfl⟩ := ty_I h1
  obtain ⟨b, c, rfl⟩ := ty_span h2
  have h3 : c4 = [] := h3
  subst h3
  exact ⟨(a, b, c), rfl⟩
set_option maxRecDepth 100000 in
theorem open_cams {H : Type} {enc : TypeId × Value → H} {w : World} {spare : Nat → Bool} {held : Bool} {v : Value} {x : DataW H} {ps : List MemPlace} {r : Reach} {b0 : Nat} (hval : Value.okWide Try.prog w r b0 74 v) (h : DataW.Trod enc Try.prog w 0 spare held 74 v x ps) :
    ∃ xs, RepC w (fun _ => False) (slS xs) v := by
  obtain ⟨d', rows, h1, h2, h3⟩ := open_slice Try.underlying74 Try.plainCams hval h
  rw [Try.cellsCam] at h1
  obtain ⟨xs, rfl⟩ := rows_map (f := rowS) (fun row hr => ty_cam (h3 row hr))
  exact ⟨xs, h1⟩

set_option maxRecDepth 100000 in
theorem meets_lifted (os : Os) (started : os.Started) (H : Type) (enc : TypeId × Value → H) :
    ReturnsInHanded {} Try.checked os 8 .any (Rows.chimeMeetsSpec.pre6 enc Try.prog Try.f8 Rows.chimeMeetsRow.domain false) (Rows.chimeMeetsSpec.post enc Try.prog Try.f8 false true false false) := by
  refine returnsInHanded_of_change (C := Try.checked) Try.own started (by kernel_rfl) Try.func8
    (ChangeSpec.witness6 (enc := enc) (C := Try.checked) false ⟨#[], #[.slice none 0 0, .int .i64 0], []⟩ 8 (by kernel_rfl) (by kernel_rfl) (by kernel_rfl) (by kernel_rfl)) ?_
  intro W base args ds gs before hval0 hW hcnd _
  have hW' := hW
  obtain ⟨p, q, hA0, hV, rfl, hfz, hnd⟩ := hW
  have hA : DataW.TrodAll enc Try.prog W 0 (fun _ => true) true Try.f8.params.toList args.toList ds p := hA0
  rw [Try.params8] at hA
  obtain ⟨v0, v1, d0, d1, q0, q1, rfl, rfl, rfl, h0, h1⟩ := trodAll_two hA
  obtain ⟨rfl, rfl⟩ := trodVars_none hV
  obtain ⟨xs, hxs⟩ := open_cams (hval0 0 _ v0 rfl rfl) h0
  obtain ⟨f, rfl, _, _, _⟩ := open_int Try.underlying3 (hval0 1 _ v1 rfl rfl) h1
  clear hA0 hval0
  refine (lMeets xs f W (fun _ => False) #[v0, .int .i64 f] (fun b hb => hb.elim) rfl (fun i x v hx' hv => ?_)).mono fun e W' ⟨v, he, hr, hx⟩ => ?_
  · match i with
    | 0 => cases hx'; cases hv; exact hxs
    | 1 => cases hx'; cases hv; exact .val _
    | i + 2 => simp at hx'
  subst he
  have hv := val_inv hr
  subst hv
  exact ⟨_, rfl, post_ext Try.kids Try.full (by rw [Try.params8]; decide +kernel) rfl hW' (fun _ _ _ => trodAll_mk1 (shut_bool Try.underlying4 _)) rfl rfl hx (ok_one (by kernel_rfl) rfl (okWide_bool_mk Try.underlying4 _))⟩

theorem chimeMeets_holds : Rows.ChimeMeetsSaid :=
  OpenClaim.holds_of_wide 8 Try.f8 rfl rfl rfl rfl rfl rfl rfl ⟨rfl, rfl, rfl, rfl, rfl⟩ rfl rfl rfl rfl rfl (by kernel_rfl) Try.func8 (by kernel_rfl)
    (of_decide_eq_true (by kernel_rfl)) (by unfold Func.isWrapper; first | (rw [if_pos (by decide +kernel)]; kernel_rfl) | (rw [if_neg (by decide +kernel)]; exact ⟨rfl, rfl⟩))
    (fun os started H enc _ => meets_lifted os started H enc)
#print axioms chimeMeets_holds

end Go.Proofs.Ytdgplebmlggmcaa
