/- It is proved that the statement named by the theorem at the end of this text holds, for every input, with no condition beyond the given ones. -/
import Derived.Test.YtdgplebmlggmcaaJ6
import Derived.Test.YtdgplebmlggmcaaJ4
import Derived.ChangeSame
import Derived.JoinedOf
import Derived.JoinedAt
import Derived.RowKit3
import Derived.ReadAgain
import Derived.RowKit2
import Derived.ChangeSlices
import Derived.OpenShut
/- Law functions, I: works, tune, large, five, twenty. -/
namespace Go.Proofs.Ytdgplebmlggmcaa
open Go.RowKit

set_option maxRecDepth 100000 in
set_option maxHeartbeats 2000000 in
theorem sWorksC (c : Wk) (h1 : c.runs.length ≤ 1000000) (h2 : c.hammers.length ≤ 1000000) (h3 : c.pins.length ≤ 1000000) : SC Try.prog 16 [cWk c] (cWk c) := by
  have a1 : c.runs.length ≤ 9223372036854775807 := by omega
  have b1 : c.runs.length * 8 ≤ 140737488355328 := by omega
  have a2 : c.hammers.length ≤ 9223372036854775807 := by omega
  have b2 : c.hammers.length * 16 ≤ 140737488355328 := by omega
  have a3 : c.pins.length ≤ 9223372036854775807 := by omega
  have b3 : c.pins.length * 16 ≤ 140737488355328 := by omega
  refine law16 _ _ (by simp) ?_
  unfold cWk slI slP
  (repeat' (first | (refine buildP_own ?_; (simp -dsimp [a1, b1, a2, b2, a3, b3]; (repeat (simp -dsimp (disch := (first | omega | assumption | (refine Bool.eq_false_iff.1 ?_; assumption))) only [wrap_in, if_pos, if_neg]; (try simp -dsimp [a1, b1, a2, b2, a3, b3]))))) |  (with_reducible refine st_skip ?_; (try simp only [seqQ, blockQ, loopQ, forQ, whileQ, reduceIte, Nat.reduceEqDiff])) | (with_reducible refine st_exit ?_; (try simp only [seqQ, blockQ, loopQ, forQ, whileQ, reduceIte, Nat.reduceEqDiff])) | (with_reducible refine st_ret ?_; ((try simp only [seqQ, blockQ, loopQ, forQ, whileQ]); refine retQ_ret ?_; simp [a1, b1, a2, b2, a3, b3])) | refine st_seq ?_ | refine st_block ?_ | (refine st_reg follows ?_; (simp -dsimp [a1, b1, a2, b2, a3, b3]; (repeat (simp -dsimp (disch := (first | omega | assumption | (refine Bool.eq_false_iff.1 ?_; assumption))) only [wrap_in, if_pos, if_neg]; (try simp -dsimp [a1, b1, a2, b2, a3, b3]))))) | (refine guardP_of (fun hc => ?_) (fun hc => ?_) <;> (try simp only [decide_eq_true_eq, decide_eq_false_iff_not, Bool.true_eq_false, Bool.false_eq_true, bne_iff_ne, ne_eq, bne_eq_false_iff_eq, beq_iff_eq, beq_eq_false_iff_ne, Bool.not_eq_true, Bool.not_eq_false, Bool.not_eq_eq_eq_not, Bool.not_true, Bool.not_false, Decidable.not_not] at hc) <;> (try (exfalso; first | omega | exact bool_tf hc (by assumption) | exact bool_ft hc (by assumption) | exact absurd (by assumption) hc)) <;> (simp -dsimp [a1, b1, a2, b2, a3, b3, hc]; (repeat (simp -dsimp (disch := (first | omega | assumption | (refine Bool.eq_false_iff.1 ?_; assumption))) only [wrap_in, if_pos, if_neg]; (try simp -dsimp [a1, b1, a2, b2, a3, b3, hc]))))) | (refine st_cond rfl (fun hc => ?_) (fun hc => ?_) <;> (try simp only [decide_eq_true_eq, decide_eq_false_iff_not, Bool.true_eq_false, Bool.false_eq_true, bne_iff_ne, ne_eq, bne_eq_false_iff_eq, beq_iff_eq, beq_eq_false_iff_ne, Bool.not_eq_true, Bool.not_eq_false, Bool.not_eq_eq_eq_not, Bool.not_true, Bool.not_false, Decidable.not_not] at hc) <;> (try (exfalso; first | omega | exact bool_tf hc (by assumption) | exact bool_ft hc (by assumption) | exact absurd (by assumption) hc)))))
  exact .refl _

set_option maxRecDepth 100000 in
set_option maxHeartbeats 2000000 in
theorem sTuneC (s : Int) (bl : List (Int × Int)) (h1 : bl.length ≤ 1000000) : SC Try.prog 31 [cTune s bl] (cTune s bl) := by
  have a1 : bl.length ≤ 9223372036854775807 := by omega
  have b1 : bl.length * 16 ≤ 140737488355328 := by omega
  refine law31 _ _ (by simp) ?_
  unfold cTune slP
  (repeat' (first | (refine buildP_own ?_; (simp -dsimp [a1, b1]; (repeat (simp -dsimp (disch := (first | omega | assumption | (refine Bool.eq_false_iff.1 ?_; assumption))) only [wrap_in, if_pos, if_neg]; (try simp -dsimp [a1, b1]))))) |  (with_reducible refine st_skip ?_; (try simp only [seqQ, blockQ, loopQ, forQ, whileQ, reduceIte, Nat.reduceEqDiff])) | (with_reducible refine st_exit ?_; (try simp only [seqQ, blockQ, loopQ, forQ, whileQ, reduceIte, Nat.reduceEqDiff])) | (with_reducible refine st_ret ?_; ((try simp only [seqQ, blockQ, loopQ, forQ, whileQ]); refine retQ_ret ?_; simp [a1, b1])) | refine st_seq ?_ | refine st_block ?_ | (refine st_reg follows ?_; (simp -dsimp [a1, b1]; (repeat (simp -dsimp (disch := (first | omega | assumption | (refine Bool.eq_false_iff.1 ?_; assumption))) only [wrap_in, if_pos, if_neg]; (try simp -dsimp [a1, b1]))))) | (refine guardP_of (fun hc => ?_) (fun hc => ?_) <;> (try simp only [decide_eq_true_eq, decide_eq_false_iff_not, Bool.true_eq_false, Bool.false_eq_true, bne_iff_ne, ne_eq, bne_eq_false_iff_eq, beq_iff_eq, beq_eq_false_iff_ne, Bool.not_eq_true, Bool.not_eq_false, Bool.not_eq_eq_eq_not, Bool.not_true, Bool.not_false, Decidable.not_not] at hc) <;> (try (exfalso; first | omega | exact bool_tf hc (by assumption) | exact bool_ft hc (by assumption) | exact absurd (by assumption) hc)) <;> (simp -dsimp [a1, b1, hc]; (repeat (simp -dsimp (disch := (first | omega | assumption | (refine Bool.eq_false_iff.1 ?_; assumption))) only [wrap_in, if_pos, if_neg]; (try simp -dsimp [a1, b1, hc]))))) | (refine st_cond rfl (fun hc => ?_) (fun hc => ?_) <;> (try simp only [decide_eq_true_eq, decide_eq_false_iff_not, Bool.true_eq_false, Bool.false_eq_true, bne_iff_ne, ne_eq, bne_eq_false_iff_eq, beq_iff_eq, beq_eq_false_iff_ne, Bool.not_eq_true, Bool.not_eq_false, Bool.not_eq_eq_eq_not, Bool.not_true, Bool.not_false, Decidable.not_not] at hc) <;> (try (exfalso; first | omega | exact bool_tf hc (by assumption) | exact bool_ft hc (by assumption) | exact absurd (by assumption) hc)))))
  exact .refl _

def largeB (c : Wk) : Bool := decide (10 < c.runs.length) || decide (45 < c.hammers.length) || (decide (60 < c.pins.length) && decide (c.pins.length ≤ 400)) || decide (410 < c.pins.length) || (worksOk c && decide (200 < c.steps))

set_option maxRecDepth 100000 in
set_option maxHeartbeats 2000000 in
theorem sLarge (c : Wk) : SC Try.prog 14 [cWk c] (B (largeB c)) := by
  refine law14 _ _ (by simp) ?_
  unfold cWk slI slP
  (repeat' (first | (refine buildP_own ?_; (simp -dsimp; (repeat (simp -dsimp (disch := (first | omega | assumption | (refine Bool.eq_false_iff.1 ?_; assumption))) only [wrap_in, if_pos, if_neg]; (try simp -dsimp))))) | (refine callP_of (sWorks c) (.inl rfl) ?_; (simp -dsimp; (repeat (simp -dsimp (disch := (first | omega | assumption | (refine Bool.eq_false_iff.1 ?_; assumption))) only [wrap_in, if_pos, if_neg]; (try simp -dsimp))))) |  (with_reducible refine st_skip ?_; (try simp only [seqQ, blockQ, loopQ, forQ, whileQ, reduceIte, Nat.reduceEqDiff])) | (with_reducible refine st_exit ?_; (try simp only [seqQ, blockQ, loopQ, forQ, whileQ, reduceIte, Nat.reduceEqDiff])) | (with_reducible refine st_ret ?_; ((try simp only [seqQ, blockQ, loopQ, forQ, whileQ]); refine retQ_ret ?_; simp)) | refine st_seq ?_ | refine st_block ?_ | (refine st_reg follows ?_; (simp -dsimp; (repeat (simp -dsimp (disch := (first | omega | assumption | (refine Bool.eq_false_iff.1 ?_; assumption))) only [wrap_in, if_pos, if_neg]; (try simp -dsimp))))) | (refine guardP_of (fun hc => ?_) (fun hc => ?_) <;> (try simp only [decide_eq_true_eq, decide_eq_false_iff_not, Bool.true_eq_false, Bool.false_eq_true, bne_iff_ne, ne_eq, bne_eq_false_iff_eq, beq_iff_eq, beq_eq_false_iff_ne, Bool.not_eq_true, Bool.not_eq_false, Bool.not_eq_eq_eq_not, Bool.not_true, Bool.not_false, Decidable.not_not] at hc) <;> (try (exfalso; first | omega | exact bool_tf hc (by assumption) | exact bool_ft hc (by assumption) | exact absurd (by assumption) hc)) <;> (simp -dsimp [hc]; (repeat (simp -dsimp (disch := (first | omega | assumption | (refine Bool.eq_false_iff.1 ?_; assumption))) only [wrap_in, if_pos, if_neg]; (try simp -dsimp [hc]))))) | (refine st_cond rfl (fun hc => ?_) (fun hc => ?_) <;> (try simp only [decide_eq_true_eq, decide_eq_false_iff_not, Bool.true_eq_false, Bool.false_eq_true, bne_iff_ne, ne_eq, bne_eq_false_iff_eq, beq_iff_eq, beq_eq_false_iff_ne, Bool.not_eq_true, Bool.not_eq_false, Bool.not_eq_eq_eq_not, Bool.not_true, Bool.not_false, Decidable.not_not] at hc) <;> (try (exfalso; first | omega | exact bool_tf hc (by assumption) | exact bool_ft hc (by assumption) | exact absurd (by assumption) hc)))))
  all_goals (refine CLe.bool ?_; unfold largeB; simp [*] <;> omega)

def fiveT : Tn := (10, [(0, 5), (2, 5), (4, 5), (6, 5), (8, 5)])
def fiveTo (k : Nat) : List (Int × Int) := (List.range k).map fun (i : Nat) => (2 * (i : Int), 5)

set_option maxRecDepth 100000 in
set_option maxHeartbeats 2000000 in
theorem sFive : SC Try.prog 46 [] (cTune fiveT.1 fiveT.2) := by
  refine law46 _ _ (by simp) ?_
  (repeat' (first | (refine buildP_own ?_; (simp -dsimp; (repeat (simp -dsimp (disch := (first | omega | assumption | (refine Bool.eq_false_iff.1 ?_; assumption))) only [wrap_in, if_pos, if_neg]; (try simp -dsimp))))) |  (with_reducible refine st_skip ?_; (try simp only [seqQ, blockQ, loopQ, forQ, whileQ, reduceIte, Nat.reduceEqDiff])) | (with_reducible refine st_exit ?_; (try simp only [seqQ, blockQ, loopQ, forQ, whileQ, reduceIte, Nat.reduceEqDiff])) | (with_reducible refine st_ret ?_; ((try simp only [seqQ, blockQ, loopQ, forQ, whileQ]); refine retQ_ret ?_; simp)) | refine st_seq ?_ | refine st_block ?_ | (refine st_reg follows ?_; (simp -dsimp; (repeat (simp -dsimp (disch := (first | omega | assumption | (refine Bool.eq_false_iff.1 ?_; assumption))) only [wrap_in, if_pos, if_neg]; (try simp -dsimp))))) | (refine guardP_of (fun hc => ?_) (fun hc => ?_) <;> (try simp only [decide_eq_true_eq, decide_eq_false_iff_not, Bool.true_eq_false, Bool.false_eq_true, bne_iff_ne, ne_eq, bne_eq_false_iff_eq, beq_iff_eq, beq_eq_false_iff_ne, Bool.not_eq_true, Bool.not_eq_false, Bool.not_eq_eq_eq_not, Bool.not_true, Bool.not_false, Decidable.not_not] at hc) <;> (try (exfalso; first | omega | exact bool_tf hc (by assumption) | exact bool_ft hc (by assumption) | exact absurd (by assumption) hc)) <;> (simp -dsimp [hc]; (repeat (simp -dsimp (disch := (first | omega | assumption | (refine Bool.eq_false_iff.1 ?_; assumption))) only [wrap_in, if_pos, if_neg]; (try simp -dsimp [hc]))))) | (refine st_cond rfl (fun hc => ?_) (fun hc => ?_) <;> (try simp only [decide_eq_true_eq, decide_eq_false_iff_not, Bool.true_eq_false, Bool.false_eq_true, bne_iff_ne, ne_eq, bne_eq_false_iff_eq, beq_iff_eq, beq_eq_false_iff_ne, Bool.not_eq_true, Bool.not_eq_false, Bool.not_eq_eq_eq_not, Bool.not_true, Bool.not_false, Decidable.not_not] at hc) <;> (try (exfalso; first | omega | exact bool_tf hc (by assumption) | exact bool_ft hc (by assumption) | exact absurd (by assumption) hc)))))
  refine st_nilB 1 1 200 66 2 rfl rfl rfl ?_
  refine st_less [(0, .ptr 0 0), (1, .ptr 1 0), (2, .c (I 0))] [(0, .box 56 [.c (I 0), .c (.val (.slice none 0 0))]), (1, .box 56 [.c (I 10), .own 200 0]), (200, .arr 66 2 [])] (by simp [setL1]) ?_
  refine st_for [0, 1, 200] 5 (fun k T H => T = [(0, .ptr 0 0), (1, .ptr 1 0), (2, .c (I k))] ∧ H = [(0, .box 56 [.c (I 0), .c (.val (.slice none 0 0))]), (1, .box 56 [.c (I 10), .own 200 k]), (200, .arr 66 2 ((fiveTo k).map rowP))]) (by simp) ⟨by simp, by simp [fiveTo]⟩ ?_
  rintro k T H hk ⟨rfl, rfl⟩
  have hl : (fiveTo k).length = k := by simp [fiveTo]
  by_cases hlt : k < 5
  · have hlt' : (k : Int) < 5 := by omega
    have hw : IntKind.i64.wrap (2 * (k : Int)) = 2 * (k : Int) := wrap_in _ (by omega) (by omega)
    have hA : k ≤ 9223372036854775806 := by omega
    have hB : (k + 1) * 16 ≤ 140737488355328 := by omega
    have e : fiveTo (k + 1) = fiveTo k ++ [(2 * (k : Int), 5)] := by unfold fiveTo; rw [List.range_succ, List.map_append]; rfl
    (repeat' (first | (refine buildP_own ?_; (simp -dsimp [hlt, hlt', hw, hl, hA, hB]; (repeat (simp -dsimp (disch := (first | omega | assumption | (refine Bool.eq_false_iff.1 ?_; assumption))) only [wrap_in, if_pos, if_neg]; (try simp -dsimp [hlt, hlt', hw, hl, hA, hB]))))) |  (with_reducible refine st_skip ?_; (try simp only [seqQ, blockQ, loopQ, forQ, whileQ, reduceIte, Nat.reduceEqDiff])) | (with_reducible refine st_exit ?_; (try simp only [seqQ, blockQ, loopQ, forQ, whileQ, reduceIte, Nat.reduceEqDiff])) | (with_reducible refine st_ret ?_; ((try simp only [seqQ, blockQ, loopQ, forQ, whileQ]); refine retQ_ret ?_; simp [hlt, hlt', hw, hl, hA, hB])) | refine st_seq ?_ | refine st_block ?_ | (refine st_reg follows ?_; (simp -dsimp [hlt, hlt', hw, hl, hA, hB]; (repeat (simp -dsimp (disch := (first | omega | assumption | (refine Bool.eq_false_iff.1 ?_; assumption))) only [wrap_in, if_pos, if_neg]; (try simp -dsimp [hlt, hlt', hw, hl, hA, hB]))))) | (refine guardP_of (fun hc => ?_) (fun hc => ?_) <;> (try simp only [decide_eq_true_eq, decide_eq_false_iff_not, Bool.true_eq_false, Bool.false_eq_true, bne_iff_ne, ne_eq, bne_eq_false_iff_eq, beq_iff_eq, beq_eq_false_iff_ne, Bool.not_eq_true, Bool.not_eq_false, Bool.not_eq_eq_eq_not, Bool.not_true, Bool.not_false, Decidable.not_not] at hc) <;> (try (exfalso; first | omega | exact bool_tf hc (by assumption) | exact bool_ft hc (by assumption) | exact absurd (by assumption) hc)) <;> (simp -dsimp [hlt, hlt', hw, hl, hA, hB, hc]; (repeat (simp -dsimp (disch := (first | omega | assumption | (refine Bool.eq_false_iff.1 ?_; assumption))) only [wrap_in, if_pos, if_neg]; (try simp -dsimp [hlt, hlt', hw, hl, hA, hB, hc]))))) | (refine st_cond rfl (fun hc => ?_) (fun hc => ?_) <;> (try simp only [decide_eq_true_eq, decide_eq_false_iff_not, Bool.true_eq_false, Bool.false_eq_true, bne_iff_ne, ne_eq, bne_eq_false_iff_eq, beq_iff_eq, beq_eq_false_iff_ne, Bool.not_eq_true, Bool.not_eq_false, Bool.not_eq_eq_eq_not, Bool.not_true, Bool.not_false, Decidable.not_not] at hc) <;> (try (exfalso; first | omega | exact bool_tf hc (by assumption) | exact bool_ft hc (by assumption) | exact absurd (by assumption) hc)))))
    exact ⟨hlt, by simp, by simp, by simp [e]⟩
  · have hlt' : ¬ (k : Int) < 5 := by omega
    have hk5 : k = 5 := by omega
    subst hk5
    (repeat' (first | (refine buildP_own ?_; (simp -dsimp [hlt, hlt', hl]; (repeat (simp -dsimp (disch := (first | omega | assumption | (refine Bool.eq_false_iff.1 ?_; assumption))) only [wrap_in, if_pos, if_neg]; (try simp -dsimp [hlt, hlt', hl]))))) |  (with_reducible refine st_skip ?_; (try simp only [seqQ, blockQ, loopQ, forQ, whileQ, reduceIte, Nat.reduceEqDiff])) | (with_reducible refine st_exit ?_; (try simp only [seqQ, blockQ, loopQ, forQ, whileQ, reduceIte, Nat.reduceEqDiff])) | (with_reducible refine st_ret ?_; ((try simp only [seqQ, blockQ, loopQ, forQ, whileQ]); refine retQ_ret ?_; simp [hlt, hlt', hl])) | refine st_seq ?_ | refine st_block ?_ | (refine st_reg follows ?_; (simp -dsimp [hlt, hlt', hl]; (repeat (simp -dsimp (disch := (first | omega | assumption | (refine Bool.eq_false_iff.1 ?_; assumption))) only [wrap_in, if_pos, if_neg]; (try simp -dsimp [hlt, hlt', hl]))))) | (refine guardP_of (fun hc => ?_) (fun hc => ?_) <;> (try simp only [decide_eq_true_eq, decide_eq_false_iff_not, Bool.true_eq_false, Bool.false_eq_true, bne_iff_ne, ne_eq, bne_eq_false_iff_eq, beq_iff_eq, beq_eq_false_iff_ne, Bool.not_eq_true, Bool.not_eq_false, Bool.not_eq_eq_eq_not, Bool.not_true, Bool.not_false, Decidable.not_not] at hc) <;> (try (exfalso; first | omega | exact bool_tf hc (by assumption) | exact bool_ft hc (by assumption) | exact absurd (by assumption) hc)) <;> (simp -dsimp [hlt, hlt', hl, hc]; (repeat (simp -dsimp (disch := (first | omega | assumption | (refine Bool.eq_false_iff.1 ?_; assumption))) only [wrap_in, if_pos, if_neg]; (try simp -dsimp [hlt, hlt', hl, hc]))))) | (refine st_cond rfl (fun hc => ?_) (fun hc => ?_) <;> (try simp only [decide_eq_true_eq, decide_eq_false_iff_not, Bool.true_eq_false, Bool.false_eq_true, bne_iff_ne, ne_eq, bne_eq_false_iff_eq, beq_iff_eq, beq_eq_false_iff_ne, Bool.not_eq_true, Bool.not_eq_false, Bool.not_eq_eq_eq_not, Bool.not_true, Bool.not_false, Decidable.not_not] at hc) <;> (try (exfalso; first | omega | exact bool_tf hc (by assumption) | exact bool_ft hc (by assumption) | exact absurd (by assumption) hc)))))
    exact .refl _

def twHam (k : Nat) : List (Int × Int) := (List.range k).map fun (i : Nat) => ((i : Int), 3)
def twPin (k : Nat) : List (Int × Int) := (List.range k).flatMap fun (s : Nat) => [(0, 4 * (s : Int)), (1, 4 * (s : Int) + 1), (2, 4 * (s : Int) + 2), ((s : Int) % 4, 4 * (s : Int) + 3)]
theorem twPin_len : ∀ k, (twPin k).length = 4 * k
  | 0 => rfl
  | k + 1 => by
    have ih := twPin_len k
    unfold twPin at ih ⊢
    rw [List.range_succ, List.flatMap_append, List.length_append, ih]; simp; omega
def twentyW : Wk := { steps := 20, sections := 5, runs := [1, 2, 3, 4], tunes := 1, hammers := twHam 4, pins := twPin 5 }
def z6 : List SV := [.c (I 0), .c (I 0), .c (.val (.slice none 0 0)), .c (I 0), .c (.val (.slice none 0 0)), .c (.val (.slice none 0 0))]
attribute [simp] z6

set_option maxRecDepth 100000 in
set_option maxHeartbeats 4000000 in
theorem sTwenty : SC Try.prog 45 [] (cWk twentyW) := by
  refine law45 _ _ (by simp) ?_
  (repeat' (first | (refine buildP_own ?_; (simp -dsimp; (repeat (simp -dsimp (disch := (first | omega | assumption | (refine Bool.eq_false_iff.1 ?_; assumption))) only [wrap_in, if_pos, if_neg]; (try simp -dsimp))))) |  (with_reducible refine st_skip ?_; (try simp only [seqQ, blockQ, loopQ, forQ, whileQ, reduceIte, Nat.reduceEqDiff])) | (with_reducible refine st_exit ?_; (try simp only [seqQ, blockQ, loopQ, forQ, whileQ, reduceIte, Nat.reduceEqDiff])) | (with_reducible refine st_ret ?_; ((try simp only [seqQ, blockQ, loopQ, forQ, whileQ]); refine retQ_ret ?_; simp)) | refine st_seq ?_ | refine st_block ?_ | (refine st_reg follows ?_; (simp -dsimp; (repeat (simp -dsimp (disch := (first | omega | assumption | (refine Bool.eq_false_iff.1 ?_; assumption))) only [wrap_in, if_pos, if_neg]; (try simp -dsimp))))) | (refine guardP_of (fun hc => ?_) (fun hc => ?_) <;> (try simp only [decide_eq_true_eq, decide_eq_false_iff_not, Bool.true_eq_false, Bool.false_eq_true, bne_iff_ne, ne_eq, bne_eq_false_iff_eq, beq_iff_eq, beq_eq_false_iff_ne, Bool.not_eq_true, Bool.not_eq_false, Bool.not_eq_eq_eq_not, Bool.not_true, Bool.not_false, Decidable.not_not] at hc) <;> (try (exfalso; first | omega | exact bool_tf hc (by assumption) | exact bool_ft hc (by assumption) | exact absurd (by assumption) hc)) <;> (simp -dsimp [hc]; (repeat (simp -dsimp (disch := (first | omega | assumption | (refine Bool.eq_false_iff.1 ?_; assumption))) only [wrap_in, if_pos, if_neg]; (try simp -dsimp [hc]))))) | (refine st_cond rfl (fun hc => ?_) (fun hc => ?_) <;> (try simp only [decide_eq_true_eq, decide_eq_false_iff_not, Bool.true_eq_false, Bool.false_eq_true, bne_iff_ne, ne_eq, bne_eq_false_iff_eq, beq_iff_eq, beq_eq_false_iff_ne, Bool.not_eq_true, Bool.not_eq_false, Bool.not_eq_eq_eq_not, Bool.not_true, Bool.not_false, Decidable.not_not] at hc) <;> (try (exfalso; first | omega | exact bool_tf hc (by assumption) | exact bool_ft hc (by assumption) | exact absurd (by assumption) hc)))))
  refine st_nilB 1 4 200 91 2 rfl rfl rfl ?_
  refine st_less [(0, .ptr 0 0), (1, .ptr 1 0), (2, .c (I 0))] [(0, .box 26 z6), (1, .box 26 [.c (I 20), .c (I 5), .own 4 4, .c (I 1), .own 200 0, .c (.val (.slice none 0 0))]), (4, .arr 3 1 [[I 1], [I 2], [I 3], [I 4]]), (200, .arr 91 2 [])] (by simp [setL1]) ?_
  refine st_for [0, 1, 4, 200] 4 (fun k T H => T = [(0, .ptr 0 0), (1, .ptr 1 0), (2, .c (I k))] ∧ H = [(0, .box 26 z6), (1, .box 26 [.c (I 20), .c (I 5), .own 4 4, .c (I 1), .own 200 k, .c (.val (.slice none 0 0))]), (4, .arr 3 1 [[I 1], [I 2], [I 3], [I 4]]), (200, .arr 91 2 ((twHam k).map rowP))]) (by simp) ⟨by simp, by simp [twHam]⟩ ?_
  rintro k T H hk ⟨rfl, rfl⟩
  have hl : (twHam k).length = k := by simp [twHam]
  simp only [z6]
  by_cases hlt : k < 4
  · have hlt' : (k : Int) < 4 := by omega
    have hA : k ≤ 9223372036854775806 := by omega
    have hB : (k + 1) * 16 ≤ 140737488355328 := by omega
    have e : twHam (k + 1) = twHam k ++ [((k : Int), 3)] := by unfold twHam; rw [List.range_succ, List.map_append]; rfl
    (repeat' (first | (refine buildP_own ?_; (simp -dsimp [hlt, hlt', hl, hA, hB]; (repeat (simp -dsimp (disch := (first | omega | assumption | (refine Bool.eq_false_iff.1 ?_; assumption))) only [wrap_in, if_pos, if_neg]; (try simp -dsimp [hlt, hlt', hl, hA, hB]))))) |  (with_reducible refine st_skip ?_; (try simp only [seqQ, blockQ, loopQ, forQ, whileQ, reduceIte, Nat.reduceEqDiff])) | (with_reducible refine st_exit ?_; (try simp only [seqQ, blockQ, loopQ, forQ, whileQ, reduceIte, Nat.reduceEqDiff])) | (with_reducible refine st_ret ?_; ((try simp only [seqQ, blockQ, loopQ, forQ, whileQ]); refine retQ_ret ?_; simp [hlt, hlt', hl, hA, hB])) | refine st_seq ?_ | refine st_block ?_ | (refine st_reg follows ?_; (simp -dsimp [hlt, hlt', hl, hA, hB]; (repeat (simp -dsimp (disch := (first | omega | assumption | (refine Bool.eq_false_iff.1 ?_; assumption))) only [wrap_in, if_pos, if_neg]; (try simp -dsimp [hlt, hlt', hl, hA, hB]))))) | (refine guardP_of (fun hc => ?_) (fun hc => ?_) <;> (try simp only [decide_eq_true_eq, decide_eq_false_iff_not, Bool.true_eq_false, Bool.false_eq_true, bne_iff_ne, ne_eq, bne_eq_false_iff_eq, beq_iff_eq, beq_eq_false_iff_ne, Bool.not_eq_true, Bool.not_eq_false, Bool.not_eq_eq_eq_not, Bool.not_true, Bool.not_false, Decidable.not_not] at hc) <;> (try (exfalso; first | omega | exact bool_tf hc (by assumption) | exact bool_ft hc (by assumption) | exact absurd (by assumption) hc)) <;> (simp -dsimp [hlt, hlt', hl, hA, hB, hc]; (repeat (simp -dsimp (disch := (first | omega | assumption | (refine Bool.eq_false_iff.1 ?_; assumption))) only [wrap_in, if_pos, if_neg]; (try simp -dsimp [hlt, hlt', hl, hA, hB, hc]))))) | (refine st_cond rfl (fun hc => ?_) (fun hc => ?_) <;> (try simp only [decide_eq_true_eq, decide_eq_false_iff_not, Bool.true_eq_false, Bool.false_eq_true, bne_iff_ne, ne_eq, bne_eq_false_iff_eq, beq_iff_eq, beq_eq_false_iff_ne, Bool.not_eq_true, Bool.not_eq_false, Bool.not_eq_eq_eq_not, Bool.not_true, Bool.not_false, Decidable.not_not] at hc) <;> (try (exfalso; first | omega | exact bool_tf hc (by assumption) | exact bool_ft hc (by assumption) | exact absurd (by assumption) hc)))))
    exact ⟨hlt, by simp, by simp, by simp [e]⟩
  have hlt' : ¬ (k : Int) < 4 := by omega
  have hk4 : k = 4 := by omega
  subst hk4
  (repeat' (first | (refine buildP_own ?_; (simp -dsimp [hlt, hlt', hl]; (repeat (simp -dsimp (disch := (first | omega | assumption | (refine Bool.eq_false_iff.1 ?_; assumption))) only [wrap_in, if_pos, if_neg]; (try simp -dsimp [hlt, hlt', hl]))))) |  (with_reducible refine st_skip ?_; (try simp only [seqQ, blockQ, loopQ, forQ, whileQ, reduceIte, Nat.reduceEqDiff])) | (with_reducible refine st_exit ?_; (try simp only [seqQ, blockQ, loopQ, forQ, whileQ, reduceIte, Nat.reduceEqDiff])) | (with_reducible refine st_ret ?_; ((try simp only [seqQ, blockQ, loopQ, forQ, whileQ]); refine retQ_ret ?_; simp [hlt, hlt', hl])) | refine st_seq ?_ | refine st_block ?_ | (refine st_reg follows ?_; (simp -dsimp [hlt, hlt', hl]; (repeat (simp -dsimp (disch := (first | omega | assumption | (refine Bool.eq_false_iff.1 ?_; assumption))) only [wrap_in, if_pos, if_neg]; (try simp -dsimp [hlt, hlt', hl]))))) | (refine guardP_of (fun hc => ?_) (fun hc => ?_) <;> (try simp only [decide_eq_true_eq, decide_eq_false_iff_not, Bool.true_eq_false, Bool.false_eq_true, bne_iff_ne, ne_eq, bne_eq_false_iff_eq, beq_iff_eq, beq_eq_false_iff_ne, Bool.not_eq_true, Bool.not_eq_false, Bool.not_eq_eq_eq_not, Bool.not_true, Bool.not_false, Decidable.not_not] at hc) <;> (try (exfalso; first | omega | exact bool_tf hc (by assumption) | exact bool_ft hc (by assumption) | exact absurd (by assumption) hc)) <;> (simp -dsimp [hlt, hlt', hl, hc]; (repeat (simp -dsimp (disch := (first | omega | assumption | (refine Bool.eq_false_iff.1 ?_; assumption))) only [wrap_in, if_pos, if_neg]; (try simp -dsimp [hlt, hlt', hl, hc]))))) | (refine st_cond rfl (fun hc => ?_) (fun hc => ?_) <;> (try simp only [decide_eq_true_eq, decide_eq_false_iff_not, Bool.true_eq_false, Bool.false_eq_true, bne_iff_ne, ne_eq, bne_eq_false_iff_eq, beq_iff_eq, beq_eq_false_iff_ne, Bool.not_eq_true, Bool.not_eq_false, Bool.not_eq_eq_eq_not, Bool.not_true, Bool.not_false, Decidable.not_not] at hc) <;> (try (exfalso; first | omega | exact bool_tf hc (by assumption) | exact bool_ft hc (by assumption) | exact absurd (by assumption) hc)))))
  refine st_nilB 1 5 201 89 2 rfl rfl rfl ?_
  refine st_less [(0, .ptr 0 0), (1, .ptr 1 0), (3, .c (I 0))] [(0, .box 26 z6), (1, .box 26 [.c (I 20), .c (I 5), .own 4 4, .c (I 1), .own 200 4, .own 201 0]), (4, .arr 3 1 [[I 1], [I 2], [I 3], [I 4]]), (200, .arr 91 2 ((twHam 4).map rowP)), (201, .arr 89 2 [])] (by simp [setL1]) ?_
  refine st_for [0, 1, 4, 200, 201] 5 (fun k T H => T = [(0, .ptr 0 0), (1, .ptr 1 0), (3, .c (I k))] ∧ H = [(0, .box 26 z6), (1, .box 26 [.c (I 20), .c (I 5), .own 4 4, .c (I 1), .own 200 4, .own 201 (4 * k)]), (4, .arr 3 1 [[I 1], [I 2], [I 3], [I 4]]), (200, .arr 91 2 ((twHam 4).map rowP)), (201, .arr 89 2 ((twPin k).map rowP))]) (by simp) ⟨by simp, by simp [twPin]⟩ ?_
  clear hlt' hlt
  rintro k T H hk ⟨rfl, rfl⟩
  have hlp : (twPin k).length = 4 * k := twPin_len k
  simp only [z6]
  by_cases hlt : k < 5
  · have hlt' : (k : Int) < 5 := by omega
    have hA : 4 * k ≤ 9223372036854775803 := by omega
    have hA' : 4 * k + 4 ≤ 9223372036854775807 := by omega
    have hB : (4 * k + 4) * 16 ≤ 140737488355328 := by omega
    have e : twPin (k + 1) = twPin k ++ [(0, 4 * (k : Int)), (1, 4 * (k : Int) + 1), (2, 4 * (k : Int) + 2), ((k : Int) % 4, 4 * (k : Int) + 3)] := by unfold twPin; rw [List.range_succ, List.flatMap_append]; simp
    have hw0 : IntKind.i64.wrap (4 * (k : Int)) = 4 * (k : Int) := wrap_in _ (by omega) (by omega)
    have hw1 : IntKind.i64.wrap (4 * (k : Int) + 1) = 4 * (k : Int) + 1 := wrap_in _ (by omega) (by omega)
    have hw2 : IntKind.i64.wrap (4 * (k : Int) + 2) = 4 * (k : Int) + 2 := wrap_in _ (by omega) (by omega)
    have hw3 : IntKind.i64.wrap (4 * (k : Int) + 3) = 4 * (k : Int) + 3 := wrap_in _ (by omega) (by omega)
    have hm : (k : Int).tmod 4 = (k : Int) % 4 := Int.tmod_eq_emod_of_nonneg (by omega)
    (repeat' (first | (refine buildP_own ?_; (simp -dsimp [hlt, hlt', hlp, hA, hA', hB, hw0, hw1, hw2, hw3, hm]; (repeat (simp -dsimp (disch := (first | omega | assumption | (refine Bool.eq_false_iff.1 ?_; assumption))) only [wrap_in, if_pos, if_neg]; (try simp -dsimp [hlt, hlt', hlp, hA, hA', hB, hw0, hw1, hw2, hw3, hm]))))) |  (with_reducible refine st_skip ?_; (try simp only [seqQ, blockQ, loopQ, forQ, whileQ, reduceIte, Nat.reduceEqDiff])) | (with_reducible refine st_exit ?_; (try simp only [seqQ, blockQ, loopQ, forQ, whileQ, reduceIte, Nat.reduceEqDiff])) | (with_reducible refine st_ret ?_; ((try simp only [seqQ, blockQ, loopQ, forQ, whileQ]); refine retQ_ret ?_; simp [hlt, hlt', hlp, hA, hA', hB, hw0, hw1, hw2, hw3, hm])) | refine st_seq ?_ | refine st_block ?_ | (refine st_reg follows ?_; (simp -dsimp [hlt, hlt', hlp, hA, hA', hB, hw0, hw1, hw2, hw3, hm]; (repeat (simp -dsimp (disch := (first | omega | assumption | (refine Bool.eq_false_iff.1 ?_; assumption))) only [wrap_in, if_pos, if_neg]; (try simp -dsimp [hlt, hlt', hlp, hA, hA', hB, hw0, hw1, hw2, hw3, hm]))))) | (refine guardP_of (fun hc => ?_) (fun hc => ?_) <;> (try simp only [decide_eq_true_eq, decide_eq_false_iff_not, Bool.true_eq_false, Bool.false_eq_true, bne_iff_ne, ne_eq, bne_eq_false_iff_eq, beq_iff_eq, beq_eq_false_iff_ne, Bool.not_eq_true, Bool.not_eq_false, Bool.not_eq_eq_eq_not, Bool.not_true, Bool.not_false, Decidable.not_not] at hc) <;> (try (exfalso; first | omega | exact bool_tf hc (by assumption) | exact bool_ft hc (by assumption) | exact absurd (by assumption) hc)) <;> (simp -dsimp [hlt, hlt', hlp, hA, hA', hB, hw0, hw1, hw2, hw3, hm, hc]; (repeat (simp -dsimp (disch := (first | omega | assumption | (refine Bool.eq_false_iff.1 ?_; assumption))) only [wrap_in, if_pos, if_neg]; (try simp -dsimp [hlt, hlt', hlp, hA, hA', hB, hw0, hw1, hw2, hw3, hm, hc]))))) | (refine st_cond rfl (fun hc => ?_) (fun hc => ?_) <;> (try simp only [decide_eq_true_eq, decide_eq_false_iff_not, Bool.true_eq_false, Bool.false_eq_true, bne_iff_ne, ne_eq, bne_eq_false_iff_eq, beq_iff_eq, beq_eq_false_iff_ne, Bool.not_eq_true, Bool.not_eq_false, Bool.not_eq_eq_eq_not, Bool.not_true, Bool.not_false, Decidable.not_not] at hc) <;> (try (exfalso; first | omega | exact bool_tf hc (by assumption) | exact bool_ft hc (by assumption) | exact absurd (by assumption) hc)))))
    exact ⟨hlt, by simp, by simp, by simp [e]; omega⟩
  · have hlt' : ¬ (k : Int) < 5 := by omega
    have hk5 : k = 5 := by omega
    subst hk5
    (repeat' (first | (refine buildP_own ?_; (simp -dsimp [hlt, hlt', hlp, hl]; (repeat (simp -dsimp (disch := (first | omega | assumption | (refine Bool.eq_false_iff.1 ?_; assumption))) only [wrap_in, if_pos, if_neg]; (try simp -dsimp [hlt, hlt', hlp, hl]))))) |  (with_reducible refine st_skip ?_; (try simp only [seqQ, blockQ, loopQ, forQ, whileQ, reduceIte, Nat.reduceEqDiff])) | (with_reducible refine st_exit ?_; (try simp only [seqQ, blockQ, loopQ, forQ, whileQ, reduceIte, Nat.reduceEqDiff])) | (with_reducible refine st_ret ?_; ((try simp only [seqQ, blockQ, loopQ, forQ, whileQ]); refine retQ_ret ?_; simp [hlt, hlt', hlp, hl])) | refine st_seq ?_ | refine st_block ?_ | (refine st_reg follows ?_; (simp -dsimp [hlt, hlt', hlp, hl]; (repeat (simp -dsimp (disch := (first | omega | assumption | (refine Bool.eq_false_iff.1 ?_; assumption))) only [wrap_in, if_pos, if_neg]; (try simp -dsimp [hlt, hlt', hlp, hl]))))) | (refine guardP_of (fun hc => ?_) (fun hc => ?_) <;> (try simp only [decide_eq_true_eq, decide_eq_false_iff_not, Bool.true_eq_false, Bool.false_eq_true, bne_iff_ne, ne_eq, bne_eq_false_iff_eq, beq_iff_eq, beq_eq_false_iff_ne, Bool.not_eq_true, Bool.not_eq_false, Bool.not_eq_eq_eq_not, Bool.not_true, Bool.not_false, Decidable.not_not] at hc) <;> (try (exfalso; first | omega | exact bool_tf hc (by assumption) | exact bool_ft hc (by assumption) | exact absurd (by assumption) hc)) <;> (simp -dsimp [hlt, hlt', hlp, hl, hc]; (repeat (simp -dsimp (disch := (first | omega | assumption | (refine Bool.eq_false_iff.1 ?_; assumption))) only [wrap_in, if_pos, if_neg]; (try simp -dsimp [hlt, hlt', hlp, hl, hc]))))) | (refine st_cond rfl (fun hc => ?_) (fun hc => ?_) <;> (try simp only [decide_eq_true_eq, decide_eq_false_iff_not, Bool.true_eq_false, Bool.false_eq_true, bne_iff_ne, ne_eq, bne_eq_false_iff_eq, beq_iff_eq, beq_eq_false_iff_ne, Bool.not_eq_true, Bool.not_eq_false, Bool.not_eq_eq_eq_not, Bool.not_true, Bool.not_false, Decidable.not_not] at hc) <;> (try (exfalso; first | omega | exact bool_tf hc (by assumption) | exact bool_ft hc (by assumption) | exact absurd (by assumption) hc)))))
    exact .refl _

end Go.Proofs.Ytdgplebmlggmcaa
/- known(): the document's examples. -/
namespace Go.Proofs.Ytdgplebmlggmcaa
open Go.RowKit

theorem k1 : (if worksOk twentyW then clashL twentyW else []) = [(0, 19), (3, 4), (5, 7), (7, 9), (10, 11)] := by decide +kernel
theorem k2 : (if worksOk twentyW then (0 : Int) else 2) = 0 := by decide +kernel
theorem blows_sorted (c : Wk) (t s n : Int) (h : (strikes c t s n).Pairwise fun x y => leS x y = true) : blowsL c t s n = (strikes c t s n).map fun x => (x.1, x.2.1) := by
  unfold blowsL; rw [List.mergeSort_of_pairwise h]
theorem k4 : runErr twentyW 0 0 0 = 0 := by decide +kernel
theorem k3 : playsL twentyW 0 0 0 = [(0, 0), (1, 1), (2, 2), (3, 0)] := by
  unfold playsL; rw [if_pos k4, blows_sorted _ _ _ _ (by decide +kernel)]; decide +kernel
theorem k6 : heardErr twentyW 0 0 [0, 1, 2, 0] = 0 := by decide +kernel
theorem k5 : heardL twentyW 0 0 [0, 1, 2, 0] = [0, 4] := by
  unfold heardL; rw [if_pos k6]
  have h : ∀ s ∈ List.range 5, (strikes twentyW 0 ((s : Nat) : Int) 1).Pairwise fun x y => leS x y = true := by decide +kernel
  have e : (List.range 5).filter (fun (s : Nat) => bellsEq (blowsL twentyW 0 (s : Int) 1) [0, 1, 2, 0]) = [0, 4] := by
    rw [List.filter_congr (q := fun (s : Nat) => bellsEq ((strikes twentyW 0 (s : Int) 1).map fun x => (x.1, x.2.1)) [0, 1, 2, 0]) (fun s hs => by rw [blows_sorted _ _ _ _ (h s hs)])]
    decide +kernel
  show ((List.range 5).filter (fun (s : Nat) => bellsEq (blowsL twentyW 0 (s : Int) 1) [0, 1, 2, 0])).map (fun (s : Nat) => (s : Int)) = [0, 4]
  rw [e]; rfl
theorem k7 : bringL twentyW 0 2 1 = (2, 8) := by decide +kernel
theorem k8 : runErr twentyW 0 2 1 = 0 := by decide +kernel
theorem k9 : hamsOf 10 3 fiveT.2 = [(5, 3), (5, 3), (5, 3)] := by decide +kernel
theorem k10 : numsOf 10 3 fiveT.2 = [0, 1, 0, 1, 2] := by decide +kernel
theorem k11 : tuneErr 10 fiveT.2 3 = 0 := by decide +kernel
theorem k12 : (pinC [fiveT, fiveT] 3).pins = [(0, 0), (2, 2), (0, 4), (2, 6), (4, 8), (1, 0), (3, 2), (1, 4), (3, 6), (5, 8)] := by decide +kernel
theorem k13 : pinErr [fiveT, fiveT] 3 = 0 := by decide +kernel
theorem k14 : meetR [(4, 0, 1), (6, 3, 3)] 0 = (9, 0) := by decide +kernel

theorem kClash : SC Try.prog 18 [cWk twentyW] (.tup [slP [(0, 19), (3, 4), (5, 7), (7, 9), (10, 11)], I 0]) := by have h := cClash twentyW; rw [k1, k2] at h; exact h
theorem kPlays : SC Try.prog 22 [cWk twentyW, I 0, I 0, I 0] (.tup [slP [(0, 0), (1, 1), (2, 2), (3, 0)], I 0]) := by have h := cPlays twentyW 0 0 0; rw [k3, k4] at h; exact h
theorem kHeard : SC Try.prog 28 [cWk twentyW, I 0, I 0, slI [0, 1, 2, 0]] (.tup [slI [0, 4], I 0]) := by have h := cHeard twentyW 0 0 [0, 1, 2, 0]; rw [k5, k6] at h; exact h
theorem kBring : SC Try.prog 23 [cWk twentyW, I 0, I 2, I 1] (.tup [I 2, I 8, I 0]) := by have h := cBring twentyW 0 2 1; rw [k7, k8] at h; exact h
theorem kFewest : SC Try.prog 32 [cTune fiveT.1 fiveT.2, I 3] (.tup [slP [(5, 3), (5, 3), (5, 3)], slI [0, 1, 0, 1, 2], I 0]) := by have h := cFewest 10 3 fiveT.2; rw [k9, k10, k11] at h; exact h
def kPinL : List (Int × Int) := [(0, 0), (2, 2), (0, 4), (2, 6), (4, 8), (1, 0), (3, 2), (1, 4), (3, 6), (5, 8)]
theorem kPin : ∃ x0 x1 x2 x3 x4, SC Try.prog 38 [.sl 2 [[I fiveT.1, slP fiveT.2], [I fiveT.1, slP fiveT.2]], I 3] (.tup [.agg [I x0, I x1, slI x2, I x3, slP x4, slP kPinL], I 0]) := by
  have h := cPin [fiveT, fiveT] 3 (by simp [fiveT])
  rw [k13] at h
  unfold cWk at h
  rw [k12] at h
  exact ⟨_, _, _, _, _, h⟩
theorem kMeet : SC Try.prog 40 [slS [(4, 0, 1), (6, 3, 3)], I 0] (.tup [I 9, I 0]) := by have h := cMeet [(4, 0, 1), (6, 3, 3)] 0; rw [k14] at h; exact h

set_option maxRecDepth 100000 in
set_option maxHeartbeats 4000000 in
theorem sKnown : SC Try.prog 15 [] (B true) := by
  obtain ⟨x0, x1, x2, x3, x4, hP⟩ := kPin
  have hl : kPinL.length = 10 := rfl
  have h9 : ∀ h : 9 < kPinL.length, kPinL[9] = (5, 8) := fun _ => rfl
  refine law15 _ _ (by simp) ?_
  (repeat' (first | (refine buildP_frz ?_; (simp -dsimp [hl, h9]; (repeat (simp -dsimp (disch := (first | omega | assumption | (refine Bool.eq_false_iff.1 ?_; assumption))) only [wrap_in, if_pos, if_neg]; (try simp -dsimp [hl, h9]))))) | (refine callP_of (sTwenty) (.inl rfl) ?_; (simp -dsimp [hl, h9]; (repeat (simp -dsimp (disch := (first | omega | assumption | (refine Bool.eq_false_iff.1 ?_; assumption))) only [wrap_in, if_pos, if_neg]; (try simp -dsimp [hl, h9]))))) | (refine callP_of (sFive) (.inl rfl) ?_; (simp -dsimp [hl, h9]; (repeat (simp -dsimp (disch := (first | omega | assumption | (refine Bool.eq_false_iff.1 ?_; assumption))) only [wrap_in, if_pos, if_neg]; (try simp -dsimp [hl, h9]))))) | (refine callP_of (kClash) (.inl rfl) ?_; (simp -dsimp [hl, h9]; (repeat (simp -dsimp (disch := (first | omega | assumption | (refine Bool.eq_false_iff.1 ?_; assumption))) only [wrap_in, if_pos, if_neg]; (try simp -dsimp [hl, h9]))))) | (refine callP_of (kPlays) (.inl rfl) ?_; (simp -dsimp [hl, h9]; (repeat (simp -dsimp (disch := (first | omega | assumption | (refine Bool.eq_false_iff.1 ?_; assumption))) only [wrap_in, if_pos, if_neg]; (try simp -dsimp [hl, h9]))))) | (refine callP_of (kHeard) (.inl rfl) ?_; (simp -dsimp [hl, h9]; (repeat (simp -dsimp (disch := (first | omega | assumption | (refine Bool.eq_false_iff.1 ?_; assumption))) only [wrap_in, if_pos, if_neg]; (try simp -dsimp [hl, h9]))))) | (refine callP_of (kBring) (.inl rfl) ?_; (simp -dsimp [hl, h9]; (repeat (simp -dsimp (disch := (first | omega | assumption | (refine Bool.eq_false_iff.1 ?_; assumption))) only [wrap_in, if_pos, if_neg]; (try simp -dsimp [hl, h9]))))) | (refine callP_of (kFewest) (.inl rfl) ?_; (simp -dsimp [hl, h9]; (repeat (simp -dsimp (disch := (first | omega | assumption | (refine Bool.eq_false_iff.1 ?_; assumption))) only [wrap_in, if_pos, if_neg]; (try simp -dsimp [hl, h9]))))) | (refine callP_of (hP) (.inl rfl) ?_; (simp -dsimp [hl, h9]; (repeat (simp -dsimp (disch := (first | omega | assumption | (refine Bool.eq_false_iff.1 ?_; assumption))) only [wrap_in, if_pos, if_neg]; (try simp -dsimp [hl, h9]))))) | (refine callP_of (kMeet) (.inl rfl) ?_; (simp -dsimp [hl, h9]; (repeat (simp -dsimp (disch := (first | omega | assumption | (refine Bool.eq_false_iff.1 ?_; assumption))) only [wrap_in, if_pos, if_neg]; (try simp -dsimp [hl, h9]))))) |  (with_reducible refine st_skip ?_; (try simp only [seqQ, blockQ, loopQ, forQ, whileQ, reduceIte, Nat.reduceEqDiff])) | (with_reducible refine st_exit ?_; (try simp only [seqQ, blockQ, loopQ, forQ, whileQ, reduceIte, Nat.reduceEqDiff])) | (with_reducible refine st_ret ?_; ((try simp only [seqQ, blockQ, loopQ, forQ, whileQ]); refine retQ_ret ?_; simp [hl, h9])) | refine st_seq ?_ | refine st_block ?_ | (refine st_reg follows ?_; (simp -dsimp [hl, h9]; (repeat (simp -dsimp (disch := (first | omega | assumption | (refine Bool.eq_false_iff.1 ?_; assumption))) only [wrap_in, if_pos, if_neg]; (try simp -dsimp [hl, h9]))))) | (refine guardP_of (fun hc => ?_) (fun hc => ?_) <;> (try simp only [decide_eq_true_eq, decide_eq_false_iff_not, Bool.true_eq_false, Bool.false_eq_true, bne_iff_ne, ne_eq, bne_eq_false_iff_eq, beq_iff_eq, beq_eq_false_iff_ne, Bool.not_eq_true, Bool.not_eq_false, Bool.not_eq_eq_eq_not, Bool.not_true, Bool.not_false, Decidable.not_not] at hc) <;> (try (exfalso; first | omega | exact bool_tf hc (by assumption) | exact bool_ft hc (by assumption) | exact absurd (by assumption) hc)) <;> (simp -dsimp [hl, h9, hc]; (repeat (simp -dsimp (disch := (first | omega | assumption | (refine Bool.eq_false_iff.1 ?_; assumption))) only [wrap_in, if_pos, if_neg]; (try simp -dsimp [hl, h9, hc]))))) | (refine st_cond rfl (fun hc => ?_) (fun hc => ?_) <;> (try simp only [decide_eq_true_eq, decide_eq_false_iff_not, Bool.true_eq_false, Bool.false_eq_true, bne_iff_ne, ne_eq, bne_eq_false_iff_eq, beq_iff_eq, beq_eq_false_iff_ne, Bool.not_eq_true, Bool.not_eq_false, Bool.not_eq_eq_eq_not, Bool.not_true, Bool.not_false, Decidable.not_not] at hc) <;> (try (exfalso; first | omega | exact bool_tf hc (by assumption) | exact bool_ft hc (by assumption) | exact absurd (by assumption) hc)))))
  exact .refl _

end Go.Proofs.Ytdgplebmlggmcaa
/- Law functions, II: ChimeClashes. -/
namespace Go.Proofs.Ytdgplebmlggmcaa
open Go.RowKit

theorem large_bounds {c : Wk} (h : largeB c = false) : c.runs.length ≤ 10 ∧ c.hammers.length ≤ 45 ∧ c.pins.length ≤ 410 ∧ (worksOk c = true → c.steps ≤ 200 ∧ c.pins.length ≤ 60) := by
  unfold largeB at h
  simp at h
  obtain ⟨⟨⟨⟨h1, h2⟩, h3⟩, h4⟩, h5⟩ := h
  refine ⟨h1, h2, h4, fun hok => ⟨h5 hok, ?_⟩⟩
  have := (worksOk_parts hok).2.2.2.2.2.2.2.2.1
  omega

theorem pins_ok {c : Wk} (hok : worksOk c = true) : ∀ p ∈ c.pins, 0 ≤ p.1 ∧ p.1 < c.hammers.length * c.tunes ∧ 0 ≤ p.2 ∧ p.2 < c.steps := fun p hp => by
  have := pinOk_bounds (List.all_eq_true.1 (worksOk_parts hok).2.2.2.2.2.2.2.2.2.1 p hp)
  omega

set_option maxRecDepth 100000 in
set_option maxHeartbeats 4000000 in
theorem lClashes (c : Wk) : SC Try.prog 3 [cWk c] (B true) := by
  have hL := sLarge c
  refine law3 _ _ (by simp) ?_
  cases hl : largeB c with
  | true =>
    rw [hl] at hL
    unfold cWk slI slP
    (repeat' (first | (refine buildP_own ?_; (simp -dsimp [hl]; (repeat (simp -dsimp (disch := (first | omega | assumption | (refine Bool.eq_false_iff.1 ?_; assumption))) only [wrap_in, if_pos, if_neg]; (try simp -dsimp [hl]))))) | (refine callP_of (hL) (.inl rfl) ?_; (simp -dsimp [hl]; (repeat (simp -dsimp (disch := (first | omega | assumption | (refine Bool.eq_false_iff.1 ?_; assumption))) only [wrap_in, if_pos, if_neg]; (try simp -dsimp [hl]))))) | (refine callP_of (sKnown) (.inl rfl) ?_; (simp -dsimp [hl]; (repeat (simp -dsimp (disch := (first | omega | assumption | (refine Bool.eq_false_iff.1 ?_; assumption))) only [wrap_in, if_pos, if_neg]; (try simp -dsimp [hl]))))) |  (with_reducible refine st_skip ?_; (try simp only [seqQ, blockQ, loopQ, forQ, whileQ, reduceIte, Nat.reduceEqDiff])) | (with_reducible refine st_exit ?_; (try simp only [seqQ, blockQ, loopQ, forQ, whileQ, reduceIte, Nat.reduceEqDiff])) | (with_reducible refine st_ret ?_; ((try simp only [seqQ, blockQ, loopQ, forQ, whileQ]); refine retQ_ret ?_; simp [hl])) | refine st_seq ?_ | refine st_block ?_ | (refine st_reg follows ?_; (simp -dsimp [hl]; (repeat (simp -dsimp (disch := (first | omega | assumption | (refine Bool.eq_false_iff.1 ?_; assumption))) only [wrap_in, if_pos, if_neg]; (try simp -dsimp [hl]))))) | (refine guardP_of (fun hc => ?_) (fun hc => ?_) <;> (try simp only [decide_eq_true_eq, decide_eq_false_iff_not, Bool.true_eq_false, Bool.false_eq_true, bne_iff_ne, ne_eq, bne_eq_false_iff_eq, beq_iff_eq, beq_eq_false_iff_ne, Bool.not_eq_true, Bool.not_eq_false, Bool.not_eq_eq_eq_not, Bool.not_true, Bool.not_false, Decidable.not_not] at hc) <;> (try (exfalso; first | omega | exact bool_tf hc (by assumption) | exact bool_ft hc (by assumption) | exact absurd (by assumption) hc)) <;> (simp -dsimp [hl, hc]; (repeat (simp -dsimp (disch := (first | omega | assumption | (refine Bool.eq_false_iff.1 ?_; assumption))) only [wrap_in, if_pos, if_neg]; (try simp -dsimp [hl, hc]))))) | (refine st_cond rfl (fun hc => ?_) (fun hc => ?_) <;> (try simp only [decide_eq_true_eq, decide_eq_false_iff_not, Bool.true_eq_false, Bool.false_eq_true, bne_iff_ne, ne_eq, bne_eq_false_iff_eq, beq_iff_eq, beq_eq_false_iff_ne, Bool.not_eq_true, Bool.not_eq_false, Bool.not_eq_eq_eq_not, Bool.not_true, Bool.not_false, Decidable.not_not] at hc) <;> (try (exfalso; first | omega | exact bool_tf hc (by assumption) | exact bool_ft hc (by assumption) | exact absurd (by assumption) hc)))))
    exact .refl _
  | false =>
    rw [hl] at hL
    obtain ⟨b1, b2, b3, b4⟩ := large_bounds hl
    have hC := sWorksC c (by omega) (by omega) (by omega)
    have hS : SC Try.prog 19 [cWk c, cWk c] (B true) := by have h := sSame c c (by omega) (by omega) (by omega) (by omega) (by omega) (by omega); simpa using h
    have hW := sWorks c
    have hK := cCheck c
    have hX := cClash c
    cases hok : worksOk c with
    | false =>
      rw [hok] at hW hK hX
      simp only [Bool.false_eq_true, if_false] at hK hX
      unfold cWk slI slP
      (repeat' (first | (refine buildP_own ?_; (simp -dsimp [hl]; (repeat (simp -dsimp (disch := (first | omega | assumption | (refine Bool.eq_false_iff.1 ?_; assumption))) only [wrap_in, if_pos, if_neg]; (try simp -dsimp [hl]))))) | (refine callP_of (hL) (.inl rfl) ?_; (simp -dsimp [hl]; (repeat (simp -dsimp (disch := (first | omega | assumption | (refine Bool.eq_false_iff.1 ?_; assumption))) only [wrap_in, if_pos, if_neg]; (try simp -dsimp [hl]))))) | (refine callP_of (sKnown) (.inl rfl) ?_; (simp -dsimp [hl]; (repeat (simp -dsimp (disch := (first | omega | assumption | (refine Bool.eq_false_iff.1 ?_; assumption))) only [wrap_in, if_pos, if_neg]; (try simp -dsimp [hl]))))) | (refine callP_of (hC) (.inl rfl) ?_; (simp -dsimp [hl]; (repeat (simp -dsimp (disch := (first | omega | assumption | (refine Bool.eq_false_iff.1 ?_; assumption))) only [wrap_in, if_pos, if_neg]; (try simp -dsimp [hl]))))) | (refine callP_of (hS) (.inl rfl) ?_; (simp -dsimp [hl]; (repeat (simp -dsimp (disch := (first | omega | assumption | (refine Bool.eq_false_iff.1 ?_; assumption))) only [wrap_in, if_pos, if_neg]; (try simp -dsimp [hl]))))) | (refine callP_of (hW) (.inl rfl) ?_; (simp -dsimp [hl]; (repeat (simp -dsimp (disch := (first | omega | assumption | (refine Bool.eq_false_iff.1 ?_; assumption))) only [wrap_in, if_pos, if_neg]; (try simp -dsimp [hl]))))) | (refine callP_of (hK) (.inl rfl) ?_; (simp -dsimp [hl]; (repeat (simp -dsimp (disch := (first | omega | assumption | (refine Bool.eq_false_iff.1 ?_; assumption))) only [wrap_in, if_pos, if_neg]; (try simp -dsimp [hl]))))) | (refine callP_of (hX) (.inl rfl) ?_; (simp -dsimp [hl]; (repeat (simp -dsimp (disch := (first | omega | assumption | (refine Bool.eq_false_iff.1 ?_; assumption))) only [wrap_in, if_pos, if_neg]; (try simp -dsimp [hl]))))) |  (with_reducible refine st_skip ?_; (try simp only [seqQ, blockQ, loopQ, forQ, whileQ, reduceIte, Nat.reduceEqDiff])) | (with_reducible refine st_exit ?_; (try simp only [seqQ, blockQ, loopQ, forQ, whileQ, reduceIte, Nat.reduceEqDiff])) | (with_reducible refine st_ret ?_; ((try simp only [seqQ, blockQ, loopQ, forQ, whileQ]); refine retQ_ret ?_; simp [hl])) | refine st_seq ?_ | refine st_block ?_ | (refine st_reg follows ?_; (simp -dsimp [hl]; (repeat (simp -dsimp (disch := (first | omega | assumption | (refine Bool.eq_false_iff.1 ?_; assumption))) only [wrap_in, if_pos, if_neg]; (try simp -dsimp [hl]))))) | (refine guardP_of (fun hc => ?_) (fun hc => ?_) <;> (try simp only [decide_eq_true_eq, decide_eq_false_iff_not, Bool.true_eq_false, Bool.false_eq_true, bne_iff_ne, ne_eq, bne_eq_false_iff_eq, beq_iff_eq, beq_eq_false_iff_ne, Bool.not_eq_true, Bool.not_eq_false, Bool.not_eq_eq_eq_not, Bool.not_true, Bool.not_false, Decidable.not_not] at hc) <;> (try (exfalso; first | omega | exact bool_tf hc (by assumption) | exact bool_ft hc (by assumption) | exact absurd (by assumption) hc)) <;> (simp -dsimp [hl, hc]; (repeat (simp -dsimp (disch := (first | omega | assumption | (refine Bool.eq_false_iff.1 ?_; assumption))) only [wrap_in, if_pos, if_neg]; (try simp -dsimp [hl, hc]))))) | (refine st_cond rfl (fun hc => ?_) (fun hc => ?_) <;> (try simp only [decide_eq_true_eq, decide_eq_false_iff_not, Bool.true_eq_false, Bool.false_eq_true, bne_iff_ne, ne_eq, bne_eq_false_iff_eq, beq_iff_eq, beq_eq_false_iff_ne, Bool.not_eq_true, Bool.not_eq_false, Bool.not_eq_eq_eq_not, Bool.not_true, Bool.not_false, Decidable.not_not] at hc) <;> (try (exfalso; first | omega | exact bool_tf hc (by assumption) | exact bool_ft hc (by assumption) | exact absurd (by assumption) hc)))))
      exact .refl _
    | true =>
      rw [hok] at hW hK hX
      simp only [if_true] at hK hX
      have p := worksOk_parts hok
      have i1 := inn_iff.1 p.1
      have i6 := inn_iff.1 p.2.2.2.2.2.1
      have hR := sClash c (by omega) (by omega) (by omega) (by omega) p.2.2.2.2.2.2.2.2.1 (by omega) (pins_ok hok)
      obtain ⟨l, hll⟩ : ∃ l, clashL c = l := ⟨_, rfl⟩
      have hlb : l.length ≤ 160000 := by rw [← hll]; have := clOut_len c p.2.2.2.2.2.2.2.2.1 c.pins.length; unfold clashL; omega
      rw [hll] at hX hR
      unfold cWk slI slP
      (repeat' (first | (refine buildP_own ?_; (simp -dsimp [hl]; (repeat (simp -dsimp (disch := (first | omega | assumption | (refine Bool.eq_false_iff.1 ?_; assumption))) only [wrap_in, if_pos, if_neg]; (try simp -dsimp [hl]))))) | (refine callP_of (hL) (.inl rfl) ?_; (simp -dsimp [hl]; (repeat (simp -dsimp (disch := (first | omega | assumption | (refine Bool.eq_false_iff.1 ?_; assumption))) only [wrap_in, if_pos, if_neg]; (try simp -dsimp [hl]))))) | (refine callP_of (sKnown) (.inl rfl) ?_; (simp -dsimp [hl]; (repeat (simp -dsimp (disch := (first | omega | assumption | (refine Bool.eq_false_iff.1 ?_; assumption))) only [wrap_in, if_pos, if_neg]; (try simp -dsimp [hl]))))) | (refine callP_of (hC) (.inl rfl) ?_; (simp -dsimp [hl]; (repeat (simp -dsimp (disch := (first | omega | assumption | (refine Bool.eq_false_iff.1 ?_; assumption))) only [wrap_in, if_pos, if_neg]; (try simp -dsimp [hl]))))) | (refine callP_of (hS) (.inl rfl) ?_; (simp -dsimp [hl]; (repeat (simp -dsimp (disch := (first | omega | assumption | (refine Bool.eq_false_iff.1 ?_; assumption))) only [wrap_in, if_pos, if_neg]; (try simp -dsimp [hl]))))) | (refine callP_of (hW) (.inl rfl) ?_; (simp -dsimp [hl]; (repeat (simp -dsimp (disch := (first | omega | assumption | (refine Bool.eq_false_iff.1 ?_; assumption))) only [wrap_in, if_pos, if_neg]; (try simp -dsimp [hl]))))) | (refine callP_of (hK) (.inl rfl) ?_; (simp -dsimp [hl]; (repeat (simp -dsimp (disch := (first | omega | assumption | (refine Bool.eq_false_iff.1 ?_; assumption))) only [wrap_in, if_pos, if_neg]; (try simp -dsimp [hl]))))) | (refine callP_of (hX) (.inl rfl) ?_; (simp -dsimp [hl]; (repeat (simp -dsimp (disch := (first | omega | assumption | (refine Bool.eq_false_iff.1 ?_; assumption))) only [wrap_in, if_pos, if_neg]; (try simp -dsimp [hl]))))) | (refine callP_of (hR) (.inl rfl) ?_; (simp -dsimp [hl]; (repeat (simp -dsimp (disch := (first | omega | assumption | (refine Bool.eq_false_iff.1 ?_; assumption))) only [wrap_in, if_pos, if_neg]; (try simp -dsimp [hl]))))) |  (with_reducible refine st_skip ?_; (try simp only [seqQ, blockQ, loopQ, forQ, whileQ, reduceIte, Nat.reduceEqDiff])) | (with_reducible refine st_exit ?_; (try simp only [seqQ, blockQ, loopQ, forQ, whileQ, reduceIte, Nat.reduceEqDiff])) | (with_reducible refine st_ret ?_; ((try simp only [seqQ, blockQ, loopQ, forQ, whileQ]); refine retQ_ret ?_; simp [hl])) | refine st_seq ?_ | refine st_block ?_ | (refine st_reg follows ?_; (simp -dsimp [hl]; (repeat (simp -dsimp (disch := (first | omega | assumption | (refine Bool.eq_false_iff.1 ?_; assumption))) only [wrap_in, if_pos, if_neg]; (try simp -dsimp [hl]))))) | (refine guardP_of (fun hc => ?_) (fun hc => ?_) <;> (try simp only [decide_eq_true_eq, decide_eq_false_iff_not, Bool.true_eq_false, Bool.false_eq_true, bne_iff_ne, ne_eq, bne_eq_false_iff_eq, beq_iff_eq, beq_eq_false_iff_ne, Bool.not_eq_true, Bool.not_eq_false, Bool.not_eq_eq_eq_not, Bool.not_true, Bool.not_false, Decidable.not_not] at hc) <;> (try (exfalso; first | omega | exact bool_tf hc (by assumption) | exact bool_ft hc (by assumption) | exact absurd (by assumption) hc)) <;> (simp -dsimp [hl, hc]; (repeat (simp -dsimp (disch := (first | omega | assumption | (refine Bool.eq_false_iff.1 ?_; assumption))) only [wrap_in, if_pos, if_neg]; (try simp -dsimp [hl, hc]))))) | (refine st_cond rfl (fun hc => ?_) (fun hc => ?_) <;> (try simp only [decide_eq_true_eq, decide_eq_false_iff_not, Bool.true_eq_false, Bool.false_eq_true, bne_iff_ne, ne_eq, bne_eq_false_iff_eq, beq_iff_eq, beq_eq_false_iff_ne, Bool.not_eq_true, Bool.not_eq_false, Bool.not_eq_eq_eq_not, Bool.not_true, Bool.not_false, Decidable.not_not] at hc) <;> (try (exfalso; first | omega | exact bool_tf hc (by assumption) | exact bool_ft hc (by assumption) | exact absurd (by assumption) hc)))))
      refine st_for [] l.length (fun k T H => T = [(5, .c (slP l)), (7, .c (slP l)), (8, .c (I k))] ∧ H = []) (by simp) ⟨by simp, by simp⟩ ?_
      rintro k T H hk ⟨rfl, rfl⟩
      simp only [slP]
      by_cases hlt : k < l.length
      · (repeat' (first | (refine buildP_own ?_; (simp -dsimp [hlt]; (repeat (simp -dsimp (disch := (first | omega | assumption | (refine Bool.eq_false_iff.1 ?_; assumption))) only [wrap_in, if_pos, if_neg]; (try simp -dsimp [hlt]))))) |  (with_reducible refine st_skip ?_; (try simp only [seqQ, blockQ, loopQ, forQ, whileQ, reduceIte, Nat.reduceEqDiff])) | (with_reducible refine st_exit ?_; (try simp only [seqQ, blockQ, loopQ, forQ, whileQ, reduceIte, Nat.reduceEqDiff])) | (with_reducible refine st_ret ?_; ((try simp only [seqQ, blockQ, loopQ, forQ, whileQ]); refine retQ_ret ?_; simp [hlt])) | refine st_seq ?_ | refine st_block ?_ | (refine st_reg follows ?_; (simp -dsimp [hlt]; (repeat (simp -dsimp (disch := (first | omega | assumption | (refine Bool.eq_false_iff.1 ?_; assumption))) only [wrap_in, if_pos, if_neg]; (try simp -dsimp [hlt]))))) | (refine guardP_of (fun hc => ?_) (fun hc => ?_) <;> (try simp only [decide_eq_true_eq, decide_eq_false_iff_not, Bool.true_eq_false, Bool.false_eq_true, bne_iff_ne, ne_eq, bne_eq_false_iff_eq, beq_iff_eq, beq_eq_false_iff_ne, Bool.not_eq_true, Bool.not_eq_false, Bool.not_eq_eq_eq_not, Bool.not_true, Bool.not_false, Decidable.not_not] at hc) <;> (try (exfalso; first | omega | exact bool_tf hc (by assumption) | exact bool_ft hc (by assumption) | exact absurd (by assumption) hc)) <;> (simp -dsimp [hlt, hc]; (repeat (simp -dsimp (disch := (first | omega | assumption | (refine Bool.eq_false_iff.1 ?_; assumption))) only [wrap_in, if_pos, if_neg]; (try simp -dsimp [hlt, hc]))))) | (refine st_cond rfl (fun hc => ?_) (fun hc => ?_) <;> (try simp only [decide_eq_true_eq, decide_eq_false_iff_not, Bool.true_eq_false, Bool.false_eq_true, bne_iff_ne, ne_eq, bne_eq_false_iff_eq, beq_iff_eq, beq_eq_false_iff_ne, Bool.not_eq_true, Bool.not_eq_false, Bool.not_eq_eq_eq_not, Bool.not_true, Bool.not_false, Decidable.not_not] at hc) <;> (try (exfalso; first | omega | exact bool_tf hc (by assumption) | exact bool_ft hc (by assumption) | exact absurd (by assumption) hc)))))
        exact ⟨hlt, by simp, by simp, by simp⟩
      · (repeat' (first | (refine buildP_own ?_; (simp -dsimp [hlt]; (repeat (simp -dsimp (disch := (first | omega | assumption | (refine Bool.eq_false_iff.1 ?_; assumption))) only [wrap_in, if_pos, if_neg]; (try simp -dsimp [hlt]))))) | (refine callP_of (sKnown) (.inl rfl) ?_; (simp -dsimp [hlt]; (repeat (simp -dsimp (disch := (first | omega | assumption | (refine Bool.eq_false_iff.1 ?_; assumption))) only [wrap_in, if_pos, if_neg]; (try simp -dsimp [hlt]))))) |  (with_reducible refine st_skip ?_; (try simp only [seqQ, blockQ, loopQ, forQ, whileQ, reduceIte, Nat.reduceEqDiff])) | (with_reducible refine st_exit ?_; (try simp only [seqQ, blockQ, loopQ, forQ, whileQ, reduceIte, Nat.reduceEqDiff])) | (with_reducible refine st_ret ?_; ((try simp only [seqQ, blockQ, loopQ, forQ, whileQ]); refine retQ_ret ?_; simp [hlt])) | refine st_seq ?_ | refine st_block ?_ | (refine st_reg follows ?_; (simp -dsimp [hlt]; (repeat (simp -dsimp (disch := (first | omega | assumption | (refine Bool.eq_false_iff.1 ?_; assumption))) only [wrap_in, if_pos, if_neg]; (try simp -dsimp [hlt]))))) | (refine guardP_of (fun hc => ?_) (fun hc => ?_) <;> (try simp only [decide_eq_true_eq, decide_eq_false_iff_not, Bool.true_eq_false, Bool.false_eq_true, bne_iff_ne, ne_eq, bne_eq_false_iff_eq, beq_iff_eq, beq_eq_false_iff_ne, Bool.not_eq_true, Bool.not_eq_false, Bool.not_eq_eq_eq_not, Bool.not_true, Bool.not_false, Decidable.not_not] at hc) <;> (try (exfalso; first | omega | exact bool_tf hc (by assumption) | exact bool_ft hc (by assumption) | exact absurd (by assumption) hc)) <;> (simp -dsimp [hlt, hc]; (repeat (simp -dsimp (disch := (first | omega | assumption | (refine Bool.eq_false_iff.1 ?_; assumption))) only [wrap_in, if_pos, if_neg]; (try simp -dsimp [hlt, hc]))))) | (refine st_cond rfl (fun hc => ?_) (fun hc => ?_) <;> (try simp only [decide_eq_true_eq, decide_eq_false_iff_not, Bool.true_eq_false, Bool.false_eq_true, bne_iff_ne, ne_eq, bne_eq_false_iff_eq, beq_iff_eq, beq_eq_false_iff_ne, Bool.not_eq_true, Bool.not_eq_false, Bool.not_eq_eq_eq_not, Bool.not_true, Bool.not_false, Decidable.not_not] at hc) <;> (try (exfalso; first | omega | exact bool_tf hc (by assumption) | exact bool_ft hc (by assumption) | exact absurd (by assumption) hc)))))
        exact .refl _

end Go.Proofs.Ytdgplebmlggmcaa
/- From a contract by value to a given statement: arguments of plain types are opened, and read again behind the call. -/
namespace Go.Proofs.Ytdgplebmlggmcaa
open Go.RowKit Go.ChangeShapes Go.WideShapes

section
variable {P : Program}

/-- The cells of a plain type, closed. -/
def tyF (P : Program) (r : TypeId → List CV → Prop) : List Field → List CV → Prop
  | [], cs => cs = []
  | f :: fs, cs => ∃ c1 c2, cs = c1 ++ c2 ∧ r f.type c1 ∧ tyF P r fs c2
def tyA (r : List CV → Prop) : Nat → List CV → Prop
  | 0, cs => cs = []
  | n + 1, cs => ∃ c1 c2, cs = c1 ++ c2 ∧ r c1 ∧ tyA r n c2
def tyC (P : Program) : Nat → TypeId → List CV → Prop
  | 0, _, _ => False
  | d + 1, t, cs => match P.underlying t with
    | some .bool => ∃ b, cs = [.val (.bool b)]
    | some (.int k) => ∃ n, cs = [.val (.int k n)] ∧ (Lit.int k n).wf = true
    | some (.slice e) => ∃ rows, cs = [.sl (P.cellsOf e) rows] ∧ rows.length ≤ maxLen ∧ ∀ row ∈ rows, tyC P d e row
    | some (.struct fs) => tyF P (tyC P d) fs.toList cs
    | some (.array n e) => tyA (tyC P d e) n cs
    | _ => False

theorem tyC_int {d : Nat} {t : TypeId} {k : IntKind} {cs : List CV} (hu : P.underlying t = some (.int k)) (h : tyC P d t cs) : ∃ n, cs = [.val (.int k n)] ∧ (Lit.int k n).wf = true := by
  cases d with
  | zero => exact h.elim
  | succ d => unfold tyC at h; rw [hu] at h; exact h
theorem tyC_bool {d : Nat} {t : TypeId} {cs : List CV} (hu : P.underlying t = some .bool) (h : tyC P d t cs) : ∃ b, cs = [.val (.bool b)] := by
  cases d with
  | zero => exact h.elim
  | succ d => unfold tyC at h; rw [hu] at h; exact h
theorem tyC_slice {d : Nat} {t e : TypeId} {cs : List CV} (hu : P.underlying t = some (.slice e)) (h : tyC P d t cs) : ∃ d' rows, cs = [.sl (P.cellsOf e) rows] ∧ rows.length ≤ maxLen ∧ ∀ row ∈ rows, tyC P d' e row := by
  cases d with
  | zero => exact h.elim
  | succ d => unfold tyC at h; rw [hu] at h; exact ⟨d, h⟩
theorem tyC_struct {d : Nat} {t : TypeId} {fs : Array Field} {cs : List CV} (hu : P.underlying t = some (.struct fs)) (h : tyC P d t cs) : ∃ d', tyF P (tyC P d') fs.toList cs := by
  cases d with
  | zero => exact h.elim
  | succ d => unfold tyC at h; rw [hu] at h; exact ⟨d, h⟩
theorem tyC_array {d : Nat} {t e : TypeId} {n : Nat} {cs : List CV} (hu : P.underlying t = some (.array n e)) (h : tyC P d t cs) : ∃ d', tyA (tyC P d' e) n cs := by
  cases d with
  | zero => exact h.elim
  | succ d => unfold tyC at h; rw [hu] at h; exact ⟨d, h⟩
theorem rows_map {α : Type} {f : α → List CV} : ∀ {rows : List (List CV)}, (∀ row ∈ rows, ∃ x, row = f x) → ∃ xs : List α, rows = xs.map f
  | [], _ => ⟨[], rfl⟩
  | r :: rs, h => by
    obtain ⟨x, rfl⟩ := h r (by simp)
    obtain ⟨xs, rfl⟩ := rows_map (rows := rs) (fun r hr => h r (by simp [hr]))
    exact ⟨x :: xs, rfl⟩
theorem agg_cells {v : Value} (h : v.cells.size ≠ 1) : v = .agg v.cells := by
  cases v <;> first | rfl | (exact absurd rfl h)

def tileB (P : Program) : List Field → Nat → Nat → Bool
  | [], acc, n => acc == n
  | f :: fs, acc, n => f.offset == acc && tileB P fs (acc + P.cellsOf f.type) n
def plainB (P : Program) : Nat → TypeId → Bool
  | 0, _ => false
  | d + 1, t => match P.underlying t with
    | some .bool => P.cellsOf t == 1
    | some (.int _) => P.cellsOf t == 1
    | some (.slice e) => P.cellsOf t == 1 && decide (0 < P.cellsOf e) && plainB P d e
    | some (.struct fs) => tileB P fs.toList 0 (P.cellsOf t) && fs.toList.all fun f => plainB P d f.type
    | some (.array n e) => P.cellsOf t == n * P.cellsOf e && plainB P d e
    | _ => false

theorem tile_le : ∀ {fs : List Field} {acc n : Nat}, tileB P fs acc n = true → acc ≤ n
  | [], _, _, h => by simp [tileB] at h; omega
  | f :: fs, acc, n, h => by
    simp only [tileB, Bool.and_eq_true] at h
    have := tile_le h.2
    omega
theorem tyF_len {fs : List Field} {r : TypeId → List CV → Prop} (hr : ∀ (f : Field) c, f ∈ fs → r f.type c → c.length = P.cellsOf f.type ∧ c.all CV.one = true) : ∀ {fs' : List Field}, (∀ f ∈ fs', f ∈ fs) → ∀ {acc n : Nat} {cs : List CV}, tileB P fs' acc n = true → tyF P r fs' cs → acc + cs.length = n ∧ cs.all CV.one = true
  | [], _, acc, n, cs, ht, h => by simp [tileB] at ht; simp [tyF] at h; subst h; simp [ht]
  | f :: fs', hm, acc, n, cs, ht, h => by
    simp only [tileB, Bool.and_eq_true] at ht
    obtain ⟨c1, c2, rfl, h1, h2⟩ := h
    obtain ⟨l1, o1⟩ := hr f c1 (hm f (by simp)) h1
    obtain ⟨l2, o2⟩ := tyF_len hr (fun g hg => hm g (by simp [hg])) ht.2 h2
    rw [List.length_append, List.all_append, o1, o2]
    exact ⟨by omega, rfl⟩
theorem tyA_len {r : List CV → Prop} {k : Nat} (hr : ∀ c, r c → c.length = k ∧ c.all CV.one = true) : ∀ {n : Nat} {cs : List CV}, tyA r n cs → cs.length = n * k ∧ cs.all CV.one = true
  | 0, cs, h => by simp [tyA] at h; subst h; simp
  | n + 1, cs, h => by
    obtain ⟨c1, c2, rfl, h1, h2⟩ := h
    obtain ⟨l1, o1⟩ := hr c1 h1
    obtain ⟨l2, o2⟩ := tyA_len hr h2
    rw [List.length_append, List.all_append, o1, o2, l1, l2, Nat.succ_mul]
    exact ⟨by omega, rfl⟩
theorem tyC_len : ∀ {d : Nat} {t : TypeId} {cs : List CV}, plainB P d t = true → tyC P d t cs → cs.length = P.cellsOf t ∧ cs.all CV.one = true
  | 0, _, _, hp, _ => by simp [plainB] at hp
  | d + 1, t, cs, hp, h => by
    unfold plainB at hp
    unfold tyC at h
    split at hp <;> rename_i hu
    · rw [hu] at h; obtain ⟨b, rfl⟩ := h; simp at hp; simp [hp, CV.one]
    · rw [hu] at h; obtain ⟨n, rfl, _⟩ := h; simp at hp; simp [hp, CV.one]
    · rw [hu] at h; obtain ⟨rows, rfl, _⟩ := h; simp at hp; simp [hp.1.1, CV.one]
    · rw [hu] at h
      simp only [Bool.and_eq_true, List.all_eq_true] at hp
      obtain ⟨l, o⟩ := tyF_len (P := P) (fun f c hf hc => tyC_len (hp.2 f hf) hc) (fun f hf => hf) hp.1 h
      exact ⟨by omega, o⟩
    · rw [hu] at h
      simp only [Bool.and_eq_true, beq_iff_eq] at hp
      obtain ⟨l, o⟩ := tyA_len (fun c hc => tyC_len hp.2 hc) h
      exact ⟨by rw [l, hp.1], o⟩
    · simp at hp

/-- Closed cells for cells of a world, nothing avoided. -/
def RCs (w : World) (cs : List CV) (vs : List Value) : Prop := cs.length = vs.length ∧ ∀ (i : Nat) x v, cs[i]? = some x → vs[i]? = some v → RepC w (fun _ => False) x v
theorem RCs.append {w : World} {a b : List CV} {c d : List Value} (h : RCs w a c) (k : RCs w b d) : RCs w (a ++ b) (c ++ d) := by
  refine ⟨by rw [List.length_append, List.length_append, h.1, k.1], fun i x v hx hv => ?_⟩
  rw [List.getElem?_append] at hx hv
  rw [← h.1] at hv
  split at hx
  · rename_i hi; rw [if_pos hi] at hv; exact h.2 i x v hx hv
  · rename_i hi; rw [if_neg hi] at hv; exact k.2 _ x v hx hv
theorem RCs.one {w : World} {x : CV} {v : Value} (h : RepC w (fun _ => False) x v) : RCs w [x] [v] := ⟨rfl, fun i y u hx hv => by
  cases i with
  | zero => cases hx; cases hv; exact h
  | succ i => simp at hx⟩

section
variable {H : Type} {enc : TypeId × Value → H} {w : World} {spare : Nat → Bool} {held : Bool}

theorem cell_at {w : World} {a : Addr} {k len i j : Nat} {vr : List Value} (ha : a.spot = none) (h : w.cells? 0 (a.add (i * k)) k = some vr) (hj : j < k) : w.cell? ⟨a.block, a.off + i * k + j, none⟩ = vr[j]? := by
  obtain ⟨_, _, h3⟩ := World.cells?_some h
  rw [← h3 j hj]
  have e : ∀ m : Nat, a.add m = ⟨a.block, a.off + m, none⟩ := fun m => by
    unfold Addr.add
    split
    · rename_i h0; subst h0; cases a; simp at ha; simp [ha]
    · rfl
  rw [e]
  unfold Addr.add
  split
  · rename_i h0; subst h0; rfl
  · rfl

theorem open_tyC : ∀ {d n : Nat} {t : TypeId} {vs : List Value} {x : DataW H × List MemPlace}, plainB P d t = true → DataW.trod enc P w 0 spare held n t vs = some x → ∃ cs, tyC P d t cs ∧ RCs w cs vs
  | 0, _, _, _, _, hp, _ => by simp [plainB] at hp
  | d + 1, n, t, vs, x, hp, h => by
    unfold plainB at hp
    split at hp <;> rename_i hu
    · obtain ⟨b, rfl, _⟩ := DataW.trod_bool hu h
      exact ⟨[.val (.bool b)], by unfold tyC; rw [hu]; exact ⟨b, rfl⟩, .one (.val _)⟩
    · rename_i k
      obtain ⟨m, rfl, _, hw⟩ := DataW.trod_int hu h
      exact ⟨[.val (.int k m)], by unfold tyC; rw [hu]; exact ⟨m, rfl, hw⟩, .one (.val _)⟩
    · rename_i e
      simp only [Bool.and_eq_true, beq_iff_eq, decide_eq_true_eq] at hp
      obtain ⟨⟨_, hk⟩, hpe⟩ := hp
      rcases DataW.trod_slice hu h with ⟨rfl, _⟩ | ⟨a, len, cap, elems, rest, m, _, rfl, _, _, hl, hm, hlen, hel, _⟩
      · exact ⟨[.sl (P.cellsOf e) []], by unfold tyC; rw [hu]; exact ⟨[], rfl, Nat.zero_le _, by simp⟩, .one (.nil _ none 0 (Nat.zero_le _))⟩
      · have hrow : ∀ i, i < len → ∃ vr cr, w.cells? 0 (a.add (i * P.cellsOf e)) (P.cellsOf e) = some vr ∧ tyC P d e cr ∧ RCs w cr vr := fun i hi => by
          have h1 := hel i hi
          rw [List.getElem?_eq_getElem (by omega)] at h1
          obtain ⟨vr, h2, h3⟩ := Option.bind_eq_some_iff.1 h1
          obtain ⟨cr, h4, h5⟩ := open_tyC hpe h3
          exact ⟨vr, cr, h2, h4, h5⟩
        by_cases h0 : len = 0
        · subst h0
          exact ⟨[.sl (P.cellsOf e) []], by unfold tyC; rw [hu]; exact ⟨[], rfl, Nat.zero_le _, by simp⟩, .one (.nil _ (some a) cap hm)⟩
        have hch : ∃ (V : Nat → List Value) (C : Nat → List CV), ∀ i, i < len → w.cells? 0 (a.add (i * P.cellsOf e)) (P.cellsOf e) = some (V i) ∧ tyC P d e (C i) ∧ RCs w (C i) (V i) := by
          refine ⟨fun i => if h : i < len then Classical.choose (hrow i h) else [], fun i => if h : i < len then Classical.choose (Classical.choose_spec (hrow i h)) else [], fun i hi => ?_⟩
          simp only [dif_pos hi]
          exact Classical.choose_spec (Classical.choose_spec (hrow i hi))
        obtain ⟨V, C, hVC⟩ := hch
        have hfirst := hVC 0 (by omega)
        have hsp : a.spot = none := by
          obtain ⟨_, l1, h3⟩ := World.cells?_some hfirst.1
          have h4 := h3 0 hk
          rw [List.getElem?_eq_getElem (by omega)] at h4
          simp only [Nat.zero_mul, Addr.add, if_true] at h4
          unfold World.cell? at h4
          split at h4
          · split at h4
            · cases h4
            · rename_i hs; simpa using hs
          · cases h4
        have hblk : a.block < w.heap.size := by
          have := World.cells?_block hfirst.1 hk
          simpa [Addr.add] using this
        have hlenC : ∀ i, i < len → (C i).length = P.cellsOf e ∧ (C i).all CV.one = true := fun i hi => tyC_len hpe (hVC i hi).2.1
        have hget : ∀ (j : Nat) row, ((List.range len).map C)[j]? = some row → j < len ∧ row = C j := fun j row hj => by
          rw [List.getElem?_map] at hj
          obtain ⟨i, hi, rfl⟩ := Option.map_eq_some_iff.1 hj
          obtain ⟨h1, h2⟩ := List.getElem?_eq_some_iff.1 hi
          simp at h1 h2; subst h2; exact ⟨h1, rfl⟩
        have hsl := RepC.sl (w := w) (N := fun _ => False) (P.cellsOf e) ((List.range len).map C) a.block a.off cap (fun j i => ((V j)[i]?).getD undef) (by simpa using hl) hm hblk (fun h => h) (fun j row hj => by obtain ⟨h1, rfl⟩ := hget j row hj; exact hlenC j h1) (fun j row i y hj hy => by
            obtain ⟨h1, rfl⟩ := hget j row hj
            obtain ⟨q1, q2, q3⟩ := hVC j h1
            have hik : i < P.cellsOf e := by rw [← (hlenC j h1).1]; exact (List.getElem?_eq_some_iff.1 hy).1
            rw [cell_at (len := len) hsp q1 hik]
            have : i < (V j).length := by rw [← q3.1, (hlenC j h1).1]; exact hik
            rw [List.getElem?_eq_getElem this]; rfl) (fun j row i y hj hy => by
            obtain ⟨h1, rfl⟩ := hget j row hj
            obtain ⟨q1, q2, q3⟩ := hVC j h1
            have hik : i < P.cellsOf e := by rw [← (hlenC j h1).1]; exact (List.getElem?_eq_some_iff.1 hy).1
            have : i < (V j).length := by rw [← q3.1, (hlenC j h1).1]; exact hik
            refine q3.2 i y _ hy ?_
            rw [List.getElem?_eq_getElem this]; rfl)
        have ea : a = ⟨a.block, a.off, none⟩ := by cases a; simp at hsp; simp [hsp]
        rw [List.length_map, List.length_range, ← ea] at hsl
        have hrows : ∀ row ∈ (List.range len).map C, tyC P d e row := fun row hr => by
          obtain ⟨i, hi, rfl⟩ := List.mem_map.1 hr
          exact (hVC i (by simpa using hi)).2.1
        exact ⟨[.sl (P.cellsOf e) ((List.range len).map C)], by unfold tyC; rw [hu]; exact ⟨_, rfl, by simp; omega, hrows⟩, .one hsl⟩
    · rename_i fs
      simp only [Bool.and_eq_true, List.all_eq_true] at hp
      obtain ⟨xs, m, _, _, hlen, _, hf⟩ := DataW.trod_struct hu h
      have key : ∀ (fs' : List Field) (acc : Nat), (∀ f ∈ fs', plainB P d f.type = true ∧ ∃ y, DataW.trod enc P w 0 spare held m f.type ((vs.drop f.offset).take (P.cellsOf f.type)) = some y) → tileB P fs' acc (P.cellsOf t) = true → acc ≤ P.cellsOf t → ∃ cs, tyF P (tyC P d) fs' cs ∧ RCs w cs (vs.drop acc) := by
        intro fs'
        induction fs' with
        | nil =>
          intro acc _ ht _
          simp [tileB] at ht
          exact ⟨[], by simp [tyF], by constructor <;> simp [← hlen, ht] <;> omega⟩
        | cons f fs' ih =>
          intro acc hall ht hacc
          simp only [tileB, Bool.and_eq_true, beq_iff_eq] at ht
          obtain ⟨hpf, y, hy⟩ := hall f (by simp)
          obtain ⟨c1, t1, r1⟩ := open_tyC hpf hy
          have hlt := tile_le ht.2
          obtain ⟨c2, t2, r2⟩ := ih (acc + P.cellsOf f.type) (fun g hg => hall g (by simp [hg])) ht.2 hlt
          refine ⟨c1 ++ c2, ⟨c1, c2, rfl, t1, t2⟩, ?_⟩
          rw [ht.1] at r1
          have e : vs.drop acc = (vs.drop acc).take (P.cellsOf f.type) ++ vs.drop (acc + P.cellsOf f.type) := by rw [← List.drop_drop, List.take_append_drop]
          rw [e]; exact r1.append r2
      obtain ⟨cs, h1, h2⟩ := key fs.toList 0 (fun f hf' => by
        refine ⟨hp.2 f hf', ?_⟩
        obtain ⟨i, hi, he⟩ := List.getElem_of_mem hf'
        have := hf i f (by simp at hi; simp at he; simp [← he, hi])
        have hxl : i < xs.length := by simp at hi; omega
        rw [List.getElem?_eq_getElem hxl] at this
        exact ⟨_, this⟩) hp.1 (Nat.zero_le _)
      exact ⟨cs, by unfold tyC; rw [hu]; exact h1, by simpa using h2⟩
    · rename_i k e
      simp only [Bool.and_eq_true, beq_iff_eq] at hp
      obtain ⟨xs, m, _, _, hlen, hxs, hf⟩ := DataW.trod_array hu h
      have key : ∀ (r i : Nat), i + r = k → ∃ cs, tyA (tyC P d e) r cs ∧ RCs w cs (vs.drop (i * P.cellsOf e)) := by
        intro r
        induction r with
        | zero =>
          intro i hi
          have : vs.length ≤ i * P.cellsOf e := by rw [hlen, hp.1]; have : i = k := by omega
                                                   subst this; exact Nat.le_refl _
          exact ⟨[], by simp [tyA], by rw [List.drop_of_length_le this]; constructor <;> simp⟩
        | succ r ih =>
          intro i hi
          have h1 := hf i (by omega)
          rw [List.getElem?_eq_getElem (by omega)] at h1
          obtain ⟨c1, t1, r1⟩ := open_tyC hp.2 h1
          obtain ⟨c2, t2, r2⟩ := ih (i + 1) (by omega)
          refine ⟨c1 ++ c2, ⟨c1, c2, rfl, t1, t2⟩, ?_⟩
          have e' : vs.drop (i * P.cellsOf e) = (vs.drop (i * P.cellsOf e)).take (P.cellsOf e) ++ vs.drop ((i + 1) * P.cellsOf e) := by rw [Nat.succ_mul, ← List.drop_drop, List.take_append_drop]
          rw [e']; exact r1.append r2
      obtain ⟨cs, h1, h2⟩ := key k 0 (by omega)
      exact ⟨cs, by unfold tyC; rw [hu]; exact h1, by simpa using h2⟩
    · simp at hp

/-- Behind a call that only adds blocks, the arguments read as they did. -/
theorem trodAll_carry {w w' : World} {base : Nat} {spare : Nat → Bool} {held : Bool} : ∀ {ts : List TypeId} {vs : List Value} {ds : List (DataW H)} {ps : List MemPlace}, DataW.TrodAll enc P w base spare held ts vs ds ps → (∀ p ∈ ps, w.sameAt w' p) → DataW.TrodAll enc P w' base spare held ts vs ds ps
  | [], [], [], _, h, _ => h
  | _ :: _, _ :: _, _ :: _, _, ⟨p, q, ⟨n, h1⟩, h2, e⟩, hs =>
    ⟨p, q, ⟨n, DataW.trod_carry n _ _ _ h1 (fun x hx => hs x (by rw [e]; exact List.mem_append_left _ hx))⟩, trodAll_carry h2 (fun x hx => hs x (by rw [e]; exact List.mem_append_right _ hx)), e⟩

theorem post_ext {T : TypeId → Prop} (K : Kids P T) (hz : ∀ t e, T t → P.underlying t = some (.slice e) → 0 < P.cellsOf e) {f : Func} {s : ChangeSpec} {apart fresh handsOn again : Bool} {W W' : World} {args : Array Value} {v : Value} {ds gs : List (DataW H)} {before : List MemPlace}
    (hT : ∀ t ∈ f.params.toList, T t) (hsv : s.vars = []) (hW : DataW.Whole enc P f.params.toList s.vars apart W args.toList ds gs before)
    (hres : ∀ (b : Nat) (sp : Nat → Bool) (hd : Bool), DataW.TrodAll enc P W' b sp hd f.resultTypes.toList (v.resultList f.resultTypes.size) (s.fn H (ds ++ gs)).results [])
    (hargs : (s.fn H (ds ++ gs)).args = ds) (hvars : (s.fn H (ds ++ gs)).vars = []) (hx : Ext W W')
    (hok : ∀ (j : Nat) (t : TypeId) (r : Value), f.resultTypes[j]? = some t → (v.resultList f.resultTypes.size)[j]? = some r → Value.okWide P W' .any 0 t r) :
    s.post enc P f apart fresh handsOn again W args v W' := by
  have hlt := hW.lt
  have hold : ∀ p ∈ before, (fun b => decide (b < W.heap.size)) p.block = true := fun p hp => by simpa using hlt p hp
  have hW0 := hW
  obtain ⟨p, q, hA, hV, e, hfz, hn⟩ := hW
  rw [hsv] at hV
  obtain ⟨hg, hq⟩ := trodVars_none hV
  subst hq
  rw [List.append_nil] at e
  subst e
  have ha : ∀ sp : Nat → Bool, (∀ p ∈ before, sp p.block = true) → DataW.TrodAll enc P W' 0 sp true f.params.toList args.toList (s.fn H (ds ++ gs)).args before := fun sp hsp => by
    rw [hargs]
    exact trodAll_carry (DataW.TrodAll.respare K hz hT hA hsp) (fun p hp => hx.same (hlt p hp))
  have hv : ∀ sp : Nat → Bool, DataW.TrodVars enc P W' sp s.vars (s.fn H (ds ++ gs)).vars [] := fun sp => by rw [hvars, hsv]; exact rfl
  refine ⟨ds, gs, before, [], before, [], hW0, hres _ _ _, ha _ hold, hv _, World.keptBut_mono (fun p hp => ⟨hp, Or.inr (Or.inl hp)⟩) (hx.frame (· ∈ before)), fun _ => ?_⟩
  refine ⟨hok, _, _, ([] ++ before) ++ [], ⟨[] ++ before, [], trodAll_append (ha _ (fun _ _ => rfl)) (hres _ _ _), hv _, rfl, ?_, ?_⟩, ?_⟩
  · intro b off hp
    simp at hp
    rw [Below.frozen hx (p := ⟨b, off, none⟩) (hlt _ hp)]
    exact hfz b off hp
  · intro h
    simpa using hn h
  · intro p hp _
    simpa using hp

end
end
end Go.Proofs.Ytdgplebmlggmcaa
/- The last step: ChimeClashes. -/
namespace Go.Proofs.Ytdgplebmlggmcaa
open Go.RowKit Go.ChangeShapes Go.WideShapes Go.ChangeAt

theorem Try.own : ownKnob Try.prog.godebug = none := by kernel_rfl
theorem Try.kids : Kids Try.prog (· < Try.prog.types.size) := kids_rows (by kernel_rfl) (by kernel_rfl)
theorem Try.full : ∀ t e, t < Try.prog.types.size → Try.prog.underlying t = some (.slice e) → 0 < Try.prog.cellsOf e := slices_full_of Try.prog (by kernel_rfl)
theorem Try.cells3 : Try.prog.cellsOf 3 = 1 := by kernel_rfl
theorem Try.cells91 : Try.prog.cellsOf 91 = 2 := by kernel_rfl
theorem Try.cells89 : Try.prog.cellsOf 89 = 2 := by kernel_rfl
theorem Try.plain26 : plainB Try.prog 5 26 = true := by kernel_rfl

theorem ty_I {d : Nat} {cs : List CV} (h : tyC Try.prog d 3 cs) : ∃ n, cs = [I n] := by
  obtain ⟨n, h, _⟩ := tyC_int Try.underlying3 h; exact ⟨n, h⟩
theorem ty_slI {d : Nat} {cs : List CV} (h : tyC Try.prog d 22 cs) : ∃ xs, cs = [slI xs] := by
  obtain ⟨d', rows, h, _, h2⟩ := tyC_slice Try.underlying22 h
  rw [Try.cells3] at h
  obtain ⟨xs, rfl⟩ := rows_map (f := rowI) (fun row hr => ty_I (h2 row hr))
  exact ⟨xs, h⟩
theorem ty_ham {d : Nat} {cs : List CV} (h : tyC Try.prog d 91 cs) : ∃ x, cs = rowP x := by
  obtain ⟨d', c1, c2, rfl, h1, c3, c4, rfl, h2, h3⟩ := tyC_struct Try.underlying91 h
  obtain ⟨a, rfl⟩ := ty_I h1
  obtain ⟨b, rfl⟩ := ty_I h2
  have h3 : c4 = [] := h3
  subst h3
  exact ⟨(a, b), rfl⟩
theorem ty_pin {d : Nat} {cs : List CV} (h : tyC Try.prog d 89 cs) : ∃ x, cs = rowP x := by
  obtain ⟨d', c1, c2, rfl, h1, c3, c4, rfl, h2, h3⟩ := tyC_struct Try.underlying89 h
  obtain ⟨a, rfl⟩ := ty_I h1
  obtain ⟨b, rfl⟩ := ty_I h2
  have h3 : c4 = [] := h3
  subst h3
  exact ⟨(a, b), rfl⟩
theorem ty_hams {d : Nat} {cs : List CV} (h : tyC Try.prog d 23 cs) : ∃ xs, cs = [slP xs] := by
  obtain ⟨d', rows, h, _, h2⟩ := tyC_slice Try.underlying23 h
  rw [Try.cells91] at h
  obtain ⟨xs, rfl⟩ := rows_map (f := rowP) (fun row hr => ty_ham (h2 row hr))
  exact ⟨xs, h⟩
theorem ty_pins {d : Nat} {cs : List CV} (h : tyC Try.prog d 24 cs) : ∃ xs, cs = [slP xs] := by
  obtain ⟨d', rows, h, _, h2⟩ := tyC_slice Try.underlying24 h
  rw [Try.cells89] at h
  obtain ⟨xs, rfl⟩ := rows_map (f := rowP) (fun row hr => ty_pin (h2 row hr))
  exact ⟨xs, h⟩
theorem ty_works {d : Nat} {cs : List CV} (h : tyC Try.prog d 26 cs) : ∃ c : Wk, cs = [I c.steps, I c.sections, slI c.runs, I c.tunes, slP c.hammers, slP c.pins] := by
  obtain ⟨d', c1, r1, rfl, h1, c2, r2, rfl, h2, c3, r3, rfl, h3, c4, r4, rfl, h4, c5, r5, rfl, h5, c6, r6, rfl, h6, h7⟩ := tyC_struct Try.underlying26 h
  obtain ⟨a, rfl⟩ := ty_I h1
  obtain ⟨b, rfl⟩ := ty_I h2
  obtain ⟨c, rfl⟩ := ty_slI h3
  obtain ⟨d, rfl⟩ := ty_I h4
  obtain ⟨e, rfl⟩ := ty_hams h5
  obtain ⟨f, rfl⟩ := ty_pins h6
  have h7 : r6 = [] := h7
  subst h7
  exact ⟨⟨a, b, c, d, e, f⟩, rfl⟩

set_option maxRecDepth 100000 in
theorem open_works {H : Type} {enc : TypeId × Value → H} {w : World} {spare : Nat → Bool} {held : Bool} {v : Value} {x : DataW H} {ps : List MemPlace} (h : DataW.Trod enc Try.prog w 0 spare held 26 v x ps) : ∃ c : Wk, RepC w (fun _ => False) (cWk c) v := by
  obtain ⟨n, h⟩ := h
  obtain ⟨cs, h1, h2⟩ := open_tyC Try.plain26 h
  obtain ⟨c, rfl⟩ := ty_works h1
  have hs : v.cells.size = 6 := by have := h2.1; simp at this; omega
  have hv := agg_cells (v := v) (by omega)
  refine ⟨c, ?_⟩
  rw [hv]
  exact .agg _ _ (by simpa using hs) (fun i x u hx hu => h2.2 i x u hx (by simpa using hu))

set_option maxRecDepth 100000 in
theorem clashes_lifted (os : Os) (started : os.Started) (H : Type) (enc : TypeId × Value → H) :
    ReturnsInHanded {} Try.checked os 3 .any (Rows.chimeClashesSpec.pre6 enc Try.prog Try.f3 Rows.chimeClashesRow.domain false) (Rows.chimeClashesSpec.post enc Try.prog Try.f3 false true false false) := by
  refine returnsInHanded_of_change (C := Try.checked) Try.own started (by kernel_rfl) Try.func3
    (ChangeSpec.witness6 (enc := enc) (C := Try.checked) false ⟨#[], #[.agg #[.int .i64 0, .int .i64 0, .slice none 0 0, .int .i64 0, .slice none 0 0, .slice none 0 0]], []⟩ 8 (by kernel_rfl) (by kernel_rfl) (by kernel_rfl) (by kernel_rfl)) ?_
  intro W base args ds gs before hval0 hW hcnd _
  have hW' := hW
  obtain ⟨p, q, hA0, hV, rfl, hfz, hnd⟩ := hW
  have hA : DataW.TrodAll enc Try.prog W 0 (fun _ => true) true Try.f3.params.toList args.toList ds p := hA0
  rw [Try.params3] at hA
  obtain ⟨v0, d0, rfl, rfl, h0⟩ := trodAll_one hA
  obtain ⟨rfl, rfl⟩ := trodVars_none hV
  obtain ⟨c, hc⟩ := open_works h0
  clear hA0 hval0
  refine (lClashes c W (fun _ => False) #[v0] (fun b hb => hb.elim) rfl (fun i x v hx hv => ?_)).mono fun e W' ⟨v, he, hr, hx⟩ => ?_
  · cases i with
    | zero => cases hx; cases hv; exact hc
    | succ i => simp at hx
  subst he
  have hv := val_inv hr
  subst hv
  exact ⟨_, rfl, post_ext Try.kids Try.full (by rw [Try.params3]; decide +kernel) rfl hW' (fun _ _ _ => trodAll_mk1 (shut_bool Try.underlying4 _)) rfl rfl hx (ok_one (by kernel_rfl) rfl (okWide_bool_mk Try.underlying4 _))⟩

theorem chimeClashes_holds : Rows.ChimeClashesSaid :=
  OpenClaim.holds_of_wide 3 Try.f3 rfl rfl rfl rfl rfl rfl rfl ⟨rfl, rfl, rfl, rfl, rfl⟩ rfl rfl rfl rfl rfl (by kernel_rfl) Try.func3 (by kernel_rfl)
    (of_decide_eq_true (by kernel_rfl)) (by unfold Func.isWrapper; first | (rw [if_pos (by decide +kernel)]; kernel_rfl) | (rw [if_neg (by decide +kernel)]; exact ⟨rfl, rfl⟩))
    (fun os started H enc _ => clashes_lifted os started H enc)
#print axioms chimeClashes_holds

end Go.Proofs.Ytdgplebmlggmcaa
