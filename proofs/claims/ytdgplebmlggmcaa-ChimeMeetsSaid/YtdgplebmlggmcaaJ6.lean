/- Part 6 of a proof: Ref1, Ref2, Ref3, Ref4, Con, Arr, PinS. -/
import Derived.Test.YtdgplebmlggmcaaJ5
import Derived.Test.YtdgplebmlggmcaaJ1
import Derived.Test.YtdgplebmlggmcaaJ2
set_option linter.unusedSimpArgs false
set_option linter.unusedVariables false
/- References, I: In, Mod, Apart, Clash, Ints, Blows, Hammered. -/
namespace Go.Proofs.Ytdgplebmlggmcaa
open Go.RowKit

def rowI (x : Int) : List CV := [I x]
def rowP (x : Int × Int) : List CV := [I x.1, I x.2]
def slI (xs : List Int) : CV := .sl 1 (xs.map rowI)
def slP (xs : List (Int × Int)) : CV := .sl 2 (xs.map rowP)
def cWk (c : Wk) : CV := .agg [I c.steps, I c.sections, slI c.runs, I c.tunes, slP c.hammers, slP c.pins]

theorem getR {α β : Type} (f : α → β) (xs : List α) (i : Nat) (d : α) (h : i < xs.length) : (xs.map f)[i]? = some (f (xs.getD i d)) := by
  rw [List.getElem?_map, List.getElem?_eq_getElem h, List.getD_eq_getElem?_getD, List.getElem?_eq_getElem h]; rfl

def apartR (a b s : Int) : Int := let n := if a - b < 0 then -(a - b) else a - b; if s - n < n then s - n else n

set_option maxHeartbeats 400000 in
theorem sApart (a b s : Int) (ha : 0 ≤ a) (ha' : a ≤ 100000) (hb : 0 ≤ b) (hb' : b ≤ 100000) (hs : 0 ≤ s) (hs' : s ≤ 100000) : SC Try.prog 59 [I a, I b, I s] (I (apartR a b s)) := by
  refine law59 _ _ (by simp) ?_
  (repeat' (first | (refine buildP_own ?_; (simp -dsimp; (repeat (simp -dsimp (disch := (first | omega | assumption | (refine Bool.eq_false_iff.1 ?_; assumption))) only [wrap_in, if_pos, if_neg]; (try simp -dsimp))))) |  (with_reducible refine st_skip ?_; (try simp only [seqQ, blockQ, loopQ, forQ, whileQ, reduceIte, Nat.reduceEqDiff])) | (with_reducible refine st_exit ?_; (try simp only [seqQ, blockQ, loopQ, forQ, whileQ, reduceIte, Nat.reduceEqDiff])) | (with_reducible refine st_ret ?_; ((try simp only [seqQ, blockQ, loopQ, forQ, whileQ]); refine retQ_ret ?_; simp)) | refine st_seq ?_ | refine st_block ?_ | (refine st_reg follows ?_; (simp -dsimp; (repeat (simp -dsimp (disch := (first | omega | assumption | (refine Bool.eq_false_iff.1 ?_; assumption))) only [wrap_in, if_pos, if_neg]; (try simp -dsimp))))) | (refine guardP_of (fun hc => ?_) (fun hc => ?_) <;> (try simp only [decide_eq_true_eq, decide_eq_false_iff_not, Bool.true_eq_false, Bool.false_eq_true, bne_iff_ne, ne_eq, bne_eq_false_iff_eq, beq_iff_eq, beq_eq_false_iff_ne, Bool.not_eq_true, Bool.not_eq_false, Bool.not_eq_eq_eq_not, Bool.not_true, Bool.not_false, Decidable.not_not] at hc) <;> (try (exfalso; first | omega | exact bool_tf hc (by assumption) | exact bool_ft hc (by assumption) | exact absurd (by assumption) hc)) <;> (simp -dsimp [hc]; (repeat (simp -dsimp (disch := (first | omega | assumption | (refine Bool.eq_false_iff.1 ?_; assumption))) only [wrap_in, if_pos, if_neg]; (try simp -dsimp [hc]))))) | (refine st_cond rfl (fun hc => ?_) (fun hc => ?_) <;> (try simp only [decide_eq_true_eq, decide_eq_false_iff_not, Bool.true_eq_false, Bool.false_eq_true, bne_iff_ne, ne_eq, bne_eq_false_iff_eq, beq_iff_eq, beq_eq_false_iff_ne, Bool.not_eq_true, Bool.not_eq_false, Bool.not_eq_eq_eq_not, Bool.not_true, Bool.not_false, Decidable.not_not] at hc) <;> (try (exfalso; first | omega | exact bool_tf hc (by assumption) | exact bool_ft hc (by assumption) | exact absurd (by assumption) hc)))))
  all_goals (refine CLe.int ?_; unfold apartR; dsimp only; (repeat' split) <;> omega)

theorem sIn (n lo hi : Int) : SC Try.prog 58 [I n, I lo, I hi] (B (inn lo hi n)) := by
  refine law58 _ _ (by simp) ?_
  (repeat' (first | (refine buildP_own ?_; (simp -dsimp; (repeat (simp -dsimp (disch := (first | omega | assumption | (refine Bool.eq_false_iff.1 ?_; assumption))) only [wrap_in, if_pos, if_neg]; (try simp -dsimp))))) |  (with_reducible refine st_skip ?_; (try simp only [seqQ, blockQ, loopQ, forQ, whileQ, reduceIte, Nat.reduceEqDiff])) | (with_reducible refine st_exit ?_; (try simp only [seqQ, blockQ, loopQ, forQ, whileQ, reduceIte, Nat.reduceEqDiff])) | (with_reducible refine st_ret ?_; ((try simp only [seqQ, blockQ, loopQ, forQ, whileQ]); refine retQ_ret ?_; simp)) | refine st_seq ?_ | refine st_block ?_ | (refine st_reg follows ?_; (simp -dsimp; (repeat (simp -dsimp (disch := (first | omega | assumption | (refine Bool.eq_false_iff.1 ?_; assumption))) only [wrap_in, if_pos, if_neg]; (try simp -dsimp))))) | (refine guardP_of (fun hc => ?_) (fun hc => ?_) <;> (try simp only [decide_eq_true_eq, decide_eq_false_iff_not, Bool.true_eq_false, Bool.false_eq_true, bne_iff_ne, ne_eq, bne_eq_false_iff_eq, beq_iff_eq, beq_eq_false_iff_ne, Bool.not_eq_true, Bool.not_eq_false, Bool.not_eq_eq_eq_not, Bool.not_true, Bool.not_false, Decidable.not_not] at hc) <;> (try (exfalso; first | omega | exact bool_tf hc (by assumption) | exact bool_ft hc (by assumption) | exact absurd (by assumption) hc)) <;> (simp -dsimp [hc]; (repeat (simp -dsimp (disch := (first | omega | assumption | (refine Bool.eq_false_iff.1 ?_; assumption))) only [wrap_in, if_pos, if_neg]; (try simp -dsimp [hc]))))) | (refine st_cond rfl (fun hc => ?_) (fun hc => ?_) <;> (try simp only [decide_eq_true_eq, decide_eq_false_iff_not, Bool.true_eq_false, Bool.false_eq_true, bne_iff_ne, ne_eq, bne_eq_false_iff_eq, beq_iff_eq, beq_eq_false_iff_ne, Bool.not_eq_true, Bool.not_eq_false, Bool.not_eq_eq_eq_not, Bool.not_true, Bool.not_false, Decidable.not_not] at hc) <;> (try (exfalso; first | omega | exact bool_tf hc (by assumption) | exact bool_ft hc (by assumption) | exact absurd (by assumption) hc)))))
  all_goals (refine CLe.bool ?_; unfold inn; rw [Bool.eq_iff_iff]; simp; omega)

attribute [simp] rowI rowP slI slP cWk

theorem take_eq {α : Type} {a b : List α} {k : Nat} (h : a.take k = b.take k) (ha : k < a.length) (hb : k < b.length) (he : a[k] = b[k]) : a.take (k + 1) = b.take (k + 1) := by
  rw [List.take_succ_eq_append_getElem ha, List.take_succ_eq_append_getElem hb, h, he]
theorem ne_at {α : Type} {a b : List α} {k : Nat} (ha : k < a.length) (hb : k < b.length) (he : ¬ a[k] = b[k]) : ¬ a = b := fun e => by subst e; exact he rfl

theorem sInts (a b : List Int) (ha : a.length ≤ 1000000) (hb : b.length ≤ 1000000) : SC Try.prog 29 [slI a, slI b] (B (decide (a = b))) := by
  refine law29 _ _ (by simp) ?_
  unfold slI
  (repeat' (first | (refine buildP_own ?_; (simp -dsimp; (repeat (simp -dsimp (disch := (first | omega | assumption | (refine Bool.eq_false_iff.1 ?_; assumption))) only [wrap_in, if_pos, if_neg]; (try simp -dsimp))))) |  (with_reducible refine st_skip ?_; (try simp only [seqQ, blockQ, loopQ, forQ, whileQ, reduceIte, Nat.reduceEqDiff])) | (with_reducible refine st_exit ?_; (try simp only [seqQ, blockQ, loopQ, forQ, whileQ, reduceIte, Nat.reduceEqDiff])) | (with_reducible refine st_ret ?_; ((try simp only [seqQ, blockQ, loopQ, forQ, whileQ]); refine retQ_ret ?_; simp)) | refine st_seq ?_ | refine st_block ?_ | (refine st_reg follows ?_; (simp -dsimp; (repeat (simp -dsimp (disch := (first | omega | assumption | (refine Bool.eq_false_iff.1 ?_; assumption))) only [wrap_in, if_pos, if_neg]; (try simp -dsimp))))) | (refine guardP_of (fun hc => ?_) (fun hc => ?_) <;> (try simp only [decide_eq_true_eq, decide_eq_false_iff_not, Bool.true_eq_false, Bool.false_eq_true, bne_iff_ne, ne_eq, bne_eq_false_iff_eq, beq_iff_eq, beq_eq_false_iff_ne, Bool.not_eq_true, Bool.not_eq_false, Bool.not_eq_eq_eq_not, Bool.not_true, Bool.not_false, Decidable.not_not] at hc) <;> (try (exfalso; first | omega | exact bool_tf hc (by assumption) | exact bool_ft hc (by assumption) | exact absurd (by assumption) hc)) <;> (simp -dsimp [hc]; (repeat (simp -dsimp (disch := (first | omega | assumption | (refine Bool.eq_false_iff.1 ?_; assumption))) only [wrap_in, if_pos, if_neg]; (try simp -dsimp [hc]))))) | (refine st_cond rfl (fun hc => ?_) (fun hc => ?_) <;> (try simp only [decide_eq_true_eq, decide_eq_false_iff_not, Bool.true_eq_false, Bool.false_eq_true, bne_iff_ne, ne_eq, bne_eq_false_iff_eq, beq_iff_eq, beq_eq_false_iff_ne, Bool.not_eq_true, Bool.not_eq_false, Bool.not_eq_eq_eq_not, Bool.not_true, Bool.not_false, Decidable.not_not] at hc) <;> (try (exfalso; first | omega | exact bool_tf hc (by assumption) | exact bool_ft hc (by assumption) | exact absurd (by assumption) hc)))))
  · refine CLe.bool (decide_eq_false fun e => hc (by rw [e])).symm
  · refine st_for [] a.length (fun k T H => a.take k = b.take k ∧ T = [(0, .c (.sl 1 (a.map rowI))), (1, .c (.sl 1 (b.map rowI))), (5, .c (I k))] ∧ H = []) (by simp) ⟨by simp, rfl, rfl⟩ ?_
    rintro k T H hk ⟨ht, rfl, rfl⟩
    by_cases hlt : k < a.length
    · have hlb : k < b.length := by omega
      (repeat' (first | (refine buildP_own ?_; (simp -dsimp [hlt, hlb]; (repeat (simp -dsimp (disch := (first | omega | assumption | (refine Bool.eq_false_iff.1 ?_; assumption))) only [wrap_in, if_pos, if_neg]; (try simp -dsimp [hlt, hlb]))))) |  (with_reducible refine st_skip ?_; (try simp only [seqQ, blockQ, loopQ, forQ, whileQ, reduceIte, Nat.reduceEqDiff])) | (with_reducible refine st_exit ?_; (try simp only [seqQ, blockQ, loopQ, forQ, whileQ, reduceIte, Nat.reduceEqDiff])) | (with_reducible refine st_ret ?_; ((try simp only [seqQ, blockQ, loopQ, forQ, whileQ]); refine retQ_ret ?_; simp [hlt, hlb])) | refine st_seq ?_ | refine st_block ?_ | (refine st_reg follows ?_; (simp -dsimp [hlt, hlb]; (repeat (simp -dsimp (disch := (first | omega | assumption | (refine Bool.eq_false_iff.1 ?_; assumption))) only [wrap_in, if_pos, if_neg]; (try simp -dsimp [hlt, hlb]))))) | (refine guardP_of (fun hc => ?_) (fun hc => ?_) <;> (try simp only [decide_eq_true_eq, decide_eq_false_iff_not, Bool.true_eq_false, Bool.false_eq_true, bne_iff_ne, ne_eq, bne_eq_false_iff_eq, beq_iff_eq, beq_eq_false_iff_ne, Bool.not_eq_true, Bool.not_eq_false, Bool.not_eq_eq_eq_not, Bool.not_true, Bool.not_false, Decidable.not_not] at hc) <;> (try (exfalso; first | omega | exact bool_tf hc (by assumption) | exact bool_ft hc (by assumption) | exact absurd (by assumption) hc)) <;> (simp -dsimp [hlt, hlb, hc]; (repeat (simp -dsimp (disch := (first | omega | assumption | (refine Bool.eq_false_iff.1 ?_; assumption))) only [wrap_in, if_pos, if_neg]; (try simp -dsimp [hlt, hlb, hc]))))) | (refine st_cond rfl (fun hc => ?_) (fun hc => ?_) <;> (try simp only [decide_eq_true_eq, decide_eq_false_iff_not, Bool.true_eq_false, Bool.false_eq_true, bne_iff_ne, ne_eq, bne_eq_false_iff_eq, beq_iff_eq, beq_eq_false_iff_ne, Bool.not_eq_true, Bool.not_eq_false, Bool.not_eq_eq_eq_not, Bool.not_true, Bool.not_false, Decidable.not_not] at hc) <;> (try (exfalso; first | omega | exact bool_tf hc (by assumption) | exact bool_ft hc (by assumption) | exact absurd (by assumption) hc)))))
      · exact CLe.bool (decide_eq_false (ne_at hlt hlb hc)).symm
      · exact ⟨hlt, by simp, take_eq ht hlt hlb hc, by simp, rfl⟩
    · (repeat' (first | (refine buildP_own ?_; (simp -dsimp [hlt]; (repeat (simp -dsimp (disch := (first | omega | assumption | (refine Bool.eq_false_iff.1 ?_; assumption))) only [wrap_in, if_pos, if_neg]; (try simp -dsimp [hlt]))))) |  (with_reducible refine st_skip ?_; (try simp only [seqQ, blockQ, loopQ, forQ, whileQ, reduceIte, Nat.reduceEqDiff])) | (with_reducible refine st_exit ?_; (try simp only [seqQ, blockQ, loopQ, forQ, whileQ, reduceIte, Nat.reduceEqDiff])) | (with_reducible refine st_ret ?_; ((try simp only [seqQ, blockQ, loopQ, forQ, whileQ]); refine retQ_ret ?_; simp [hlt])) | refine st_seq ?_ | refine st_block ?_ | (refine st_reg follows ?_; (simp -dsimp [hlt]; (repeat (simp -dsimp (disch := (first | omega | assumption | (refine Bool.eq_false_iff.1 ?_; assumption))) only [wrap_in, if_pos, if_neg]; (try simp -dsimp [hlt]))))) | (refine guardP_of (fun hc => ?_) (fun hc => ?_) <;> (try simp only [decide_eq_true_eq, decide_eq_false_iff_not, Bool.true_eq_false, Bool.false_eq_true, bne_iff_ne, ne_eq, bne_eq_false_iff_eq, beq_iff_eq, beq_eq_false_iff_ne, Bool.not_eq_true, Bool.not_eq_false, Bool.not_eq_eq_eq_not, Bool.not_true, Bool.not_false, Decidable.not_not] at hc) <;> (try (exfalso; first | omega | exact bool_tf hc (by assumption) | exact bool_ft hc (by assumption) | exact absurd (by assumption) hc)) <;> (simp -dsimp [hlt, hc]; (repeat (simp -dsimp (disch := (first | omega | assumption | (refine Bool.eq_false_iff.1 ?_; assumption))) only [wrap_in, if_pos, if_neg]; (try simp -dsimp [hlt, hc]))))) | (refine st_cond rfl (fun hc => ?_) (fun hc => ?_) <;> (try simp only [decide_eq_true_eq, decide_eq_false_iff_not, Bool.true_eq_false, Bool.false_eq_true, bne_iff_ne, ne_eq, bne_eq_false_iff_eq, beq_iff_eq, beq_eq_false_iff_ne, Bool.not_eq_true, Bool.not_eq_false, Bool.not_eq_eq_eq_not, Bool.not_true, Bool.not_false, Decidable.not_not] at hc) <;> (try (exfalso; first | omega | exact bool_tf hc (by assumption) | exact bool_ft hc (by assumption) | exact absurd (by assumption) hc)))))
      exact CLe.bool (decide_eq_true (by rw [List.take_of_length_le (by omega), List.take_of_length_le (by omega)] at ht; exact ht)).symm

theorem ext_P {x y : Int × Int} : x = y ↔ (x.1 = y.1 ∧ x.2 = y.2) := Prod.ext_iff

theorem sBlows (a b : List (Int × Int)) (ha : a.length ≤ 1000000) (hb : b.length ≤ 1000000) : SC Try.prog 26 [slP a, slP b] (B (decide (a = b))) := by
  refine law26 _ _ (by simp) ?_
  unfold slP
  (repeat' (first | (refine buildP_own ?_; (simp -dsimp; (repeat (simp -dsimp (disch := (first | omega | assumption | (refine Bool.eq_false_iff.1 ?_; assumption))) only [wrap_in, if_pos, if_neg]; (try simp -dsimp))))) |  (with_reducible refine st_skip ?_; (try simp only [seqQ, blockQ, loopQ, forQ, whileQ, reduceIte, Nat.reduceEqDiff])) | (with_reducible refine st_exit ?_; (try simp only [seqQ, blockQ, loopQ, forQ, whileQ, reduceIte, Nat.reduceEqDiff])) | (with_reducible refine st_ret ?_; ((try simp only [seqQ, blockQ, loopQ, forQ, whileQ]); refine retQ_ret ?_; simp)) | refine st_seq ?_ | refine st_block ?_ | (refine st_reg follows ?_; (simp -dsimp; (repeat (simp -dsimp (disch := (first | omega | assumption | (refine Bool.eq_false_iff.1 ?_; assumption))) only [wrap_in, if_pos, if_neg]; (try simp -dsimp))))) | (refine guardP_of (fun hc => ?_) (fun hc => ?_) <;> (try simp only [decide_eq_true_eq, decide_eq_false_iff_not, Bool.true_eq_false, Bool.false_eq_true, bne_iff_ne, ne_eq, bne_eq_false_iff_eq, beq_iff_eq, beq_eq_false_iff_ne, Bool.not_eq_true, Bool.not_eq_false, Bool.not_eq_eq_eq_not, Bool.not_true, Bool.not_false, Decidable.not_not] at hc) <;> (try (exfalso; first | omega | exact bool_tf hc (by assumption) | exact bool_ft hc (by assumption) | exact absurd (by assumption) hc)) <;> (simp -dsimp [hc]; (repeat (simp -dsimp (disch := (first | omega | assumption | (refine Bool.eq_false_iff.1 ?_; assumption))) only [wrap_in, if_pos, if_neg]; (try simp -dsimp [hc]))))) | (refine st_cond rfl (fun hc => ?_) (fun hc => ?_) <;> (try simp only [decide_eq_true_eq, decide_eq_false_iff_not, Bool.true_eq_false, Bool.false_eq_true, bne_iff_ne, ne_eq, bne_eq_false_iff_eq, beq_iff_eq, beq_eq_false_iff_ne, Bool.not_eq_true, Bool.not_eq_false, Bool.not_eq_eq_eq_not, Bool.not_true, Bool.not_false, Decidable.not_not] at hc) <;> (try (exfalso; first | omega | exact bool_tf hc (by assumption) | exact bool_ft hc (by assumption) | exact absurd (by assumption) hc)))))
  · refine CLe.bool (decide_eq_false fun e => hc (by rw [e])).symm
  · refine st_for [] a.length (fun k T H => a.take k = b.take k ∧ T = [(0, .c (.sl 2 (a.map rowP))), (1, .c (.sl 2 (b.map rowP))), (5, .c (I k))] ∧ H = []) (by simp) ⟨by simp, rfl, rfl⟩ ?_
    rintro k T H hk ⟨ht, rfl, rfl⟩
    by_cases hlt : k < a.length
    · have hlb : k < b.length := by omega
      (repeat' (first | (refine buildP_own ?_; (simp -dsimp [hlt, hlb]; (repeat (simp -dsimp (disch := (first | omega | assumption | (refine Bool.eq_false_iff.1 ?_; assumption))) only [wrap_in, if_pos, if_neg]; (try simp -dsimp [hlt, hlb]))))) |  (with_reducible refine st_skip ?_; (try simp only [seqQ, blockQ, loopQ, forQ, whileQ, reduceIte, Nat.reduceEqDiff])) | (with_reducible refine st_exit ?_; (try simp only [seqQ, blockQ, loopQ, forQ, whileQ, reduceIte, Nat.reduceEqDiff])) | (with_reducible refine st_ret ?_; ((try simp only [seqQ, blockQ, loopQ, forQ, whileQ]); refine retQ_ret ?_; simp [hlt, hlb])) | refine st_seq ?_ | refine st_block ?_ | (refine st_reg follows ?_; (simp -dsimp [hlt, hlb]; (repeat (simp -dsimp (disch := (first | omega | assumption | (refine Bool.eq_false_iff.1 ?_; assumption))) only [wrap_in, if_pos, if_neg]; (try simp -dsimp [hlt, hlb]))))) | (refine guardP_of (fun hc => ?_) (fun hc => ?_) <;> (try simp only [decide_eq_true_eq, decide_eq_false_iff_not, Bool.true_eq_false, Bool.false_eq_true, bne_iff_ne, ne_eq, bne_eq_false_iff_eq, beq_iff_eq, beq_eq_false_iff_ne, Bool.not_eq_true, Bool.not_eq_false, Bool.not_eq_eq_eq_not, Bool.not_true, Bool.not_false, Decidable.not_not] at hc) <;> (try (exfalso; first | omega | exact bool_tf hc (by assumption) | exact bool_ft hc (by assumption) | exact absurd (by assumption) hc)) <;> (simp -dsimp [hlt, hlb, hc]; (repeat (simp -dsimp (disch := (first | omega | assumption | (refine Bool.eq_false_iff.1 ?_; assumption))) only [wrap_in, if_pos, if_neg]; (try simp -dsimp [hlt, hlb, hc]))))) | (refine st_cond rfl (fun hc => ?_) (fun hc => ?_) <;> (try simp only [decide_eq_true_eq, decide_eq_false_iff_not, Bool.true_eq_false, Bool.false_eq_true, bne_iff_ne, ne_eq, bne_eq_false_iff_eq, beq_iff_eq, beq_eq_false_iff_ne, Bool.not_eq_true, Bool.not_eq_false, Bool.not_eq_eq_eq_not, Bool.not_true, Bool.not_false, Decidable.not_not] at hc) <;> (try (exfalso; first | omega | exact bool_tf hc (by assumption) | exact bool_ft hc (by assumption) | exact absurd (by assumption) hc)))))
      · exact CLe.bool (decide_eq_false (ne_at hlt hlb (fun e => by rw [e] at hc; simp at hc))).symm
      · exact ⟨hlt, by simp, take_eq ht hlt hlb (by simp at hc; exact Prod.ext hc.1 hc.2), by simp, rfl⟩
    · (repeat' (first | (refine buildP_own ?_; (simp -dsimp [hlt]; (repeat (simp -dsimp (disch := (first | omega | assumption | (refine Bool.eq_false_iff.1 ?_; assumption))) only [wrap_in, if_pos, if_neg]; (try simp -dsimp [hlt]))))) |  (with_reducible refine st_skip ?_; (try simp only [seqQ, blockQ, loopQ, forQ, whileQ, reduceIte, Nat.reduceEqDiff])) | (with_reducible refine st_exit ?_; (try simp only [seqQ, blockQ, loopQ, forQ, whileQ, reduceIte, Nat.reduceEqDiff])) | (with_reducible refine st_ret ?_; ((try simp only [seqQ, blockQ, loopQ, forQ, whileQ]); refine retQ_ret ?_; simp [hlt])) | refine st_seq ?_ | refine st_block ?_ | (refine st_reg follows ?_; (simp -dsimp [hlt]; (repeat (simp -dsimp (disch := (first | omega | assumption | (refine Bool.eq_false_iff.1 ?_; assumption))) only [wrap_in, if_pos, if_neg]; (try simp -dsimp [hlt]))))) | (refine guardP_of (fun hc => ?_) (fun hc => ?_) <;> (try simp only [decide_eq_true_eq, decide_eq_false_iff_not, Bool.true_eq_false, Bool.false_eq_true, bne_iff_ne, ne_eq, bne_eq_false_iff_eq, beq_iff_eq, beq_eq_false_iff_ne, Bool.not_eq_true, Bool.not_eq_false, Bool.not_eq_eq_eq_not, Bool.not_true, Bool.not_false, Decidable.not_not] at hc) <;> (try (exfalso; first | omega | exact bool_tf hc (by assumption) | exact bool_ft hc (by assumption) | exact absurd (by assumption) hc)) <;> (simp -dsimp [hlt, hc]; (repeat (simp -dsimp (disch := (first | omega | assumption | (refine Bool.eq_false_iff.1 ?_; assumption))) only [wrap_in, if_pos, if_neg]; (try simp -dsimp [hlt, hc]))))) | (refine st_cond rfl (fun hc => ?_) (fun hc => ?_) <;> (try simp only [decide_eq_true_eq, decide_eq_false_iff_not, Bool.true_eq_false, Bool.false_eq_true, bne_iff_ne, ne_eq, bne_eq_false_iff_eq, beq_iff_eq, beq_eq_false_iff_ne, Bool.not_eq_true, Bool.not_eq_false, Bool.not_eq_eq_eq_not, Bool.not_true, Bool.not_false, Decidable.not_not] at hc) <;> (try (exfalso; first | omega | exact bool_tf hc (by assumption) | exact bool_ft hc (by assumption) | exact absurd (by assumption) hc)))))
      exact CLe.bool (decide_eq_true (by rw [List.take_of_length_le (by omega), List.take_of_length_le (by omega)] at ht; exact ht)).symm

theorem sHammered (a b : List (Int × Int)) (ha : a.length ≤ 1000000) (hb : b.length ≤ 1000000) : SC Try.prog 36 [slP a, slP b] (B (decide (a = b))) := by
  refine law36 _ _ (by simp) ?_
  unfold slP
  (repeat' (first | (refine buildP_own ?_; (simp -dsimp; (repeat (simp -dsimp (disch := (first | omega | assumption | (refine Bool.eq_false_iff.1 ?_; assumption))) only [wrap_in, if_pos, if_neg]; (try simp -dsimp))))) |  (with_reducible refine st_skip ?_; (try simp only [seqQ, blockQ, loopQ, forQ, whileQ, reduceIte, Nat.reduceEqDiff])) | (with_reducible refine st_exit ?_; (try simp only [seqQ, blockQ, loopQ, forQ, whileQ, reduceIte, Nat.reduceEqDiff])) | (with_reducible refine st_ret ?_; ((try simp only [seqQ, blockQ, loopQ, forQ, whileQ]); refine retQ_ret ?_; simp)) | refine st_seq ?_ | refine st_block ?_ | (refine st_reg follows ?_; (simp -dsimp; (repeat (simp -dsimp (disch := (first | omega | assumption | (refine Bool.eq_false_iff.1 ?_; assumption))) only [wrap_in, if_pos, if_neg]; (try simp -dsimp))))) | (refine guardP_of (fun hc => ?_) (fun hc => ?_) <;> (try simp only [decide_eq_true_eq, decide_eq_false_iff_not, Bool.true_eq_false, Bool.false_eq_true, bne_iff_ne, ne_eq, bne_eq_false_iff_eq, beq_iff_eq, beq_eq_false_iff_ne, Bool.not_eq_true, Bool.not_eq_false, Bool.not_eq_eq_eq_not, Bool.not_true, Bool.not_false, Decidable.not_not] at hc) <;> (try (exfalso; first | omega | exact bool_tf hc (by assumption) | exact bool_ft hc (by assumption) | exact absurd (by assumption) hc)) <;> (simp -dsimp [hc]; (repeat (simp -dsimp (disch := (first | omega | assumption | (refine Bool.eq_false_iff.1 ?_; assumption))) only [wrap_in, if_pos, if_neg]; (try simp -dsimp [hc]))))) | (refine st_cond rfl (fun hc => ?_) (fun hc => ?_) <;> (try simp only [decide_eq_true_eq, decide_eq_false_iff_not, Bool.true_eq_false, Bool.false_eq_true, bne_iff_ne, ne_eq, bne_eq_false_iff_eq, beq_iff_eq, beq_eq_false_iff_ne, Bool.not_eq_true, Bool.not_eq_false, Bool.not_eq_eq_eq_not, Bool.not_true, Bool.not_false, Decidable.not_not] at hc) <;> (try (exfalso; first | omega | exact bool_tf hc (by assumption) | exact bool_ft hc (by assumption) | exact absurd (by assumption) hc)))))
  · refine CLe.bool (decide_eq_false fun e => hc (by rw [e])).symm
  · refine st_for [] a.length (fun k T H => a.take k = b.take k ∧ T = [(0, .c (.sl 2 (a.map rowP))), (1, .c (.sl 2 (b.map rowP))), (5, .c (I k))] ∧ H = []) (by simp) ⟨by simp, rfl, rfl⟩ ?_
    rintro k T H hk ⟨ht, rfl, rfl⟩
    by_cases hlt : k < a.length
    · have hlb : k < b.length := by omega
      (repeat' (first | (refine buildP_own ?_; (simp -dsimp [hlt, hlb]; (repeat (simp -dsimp (disch := (first | omega | assumption | (refine Bool.eq_false_iff.1 ?_; assumption))) only [wrap_in, if_pos, if_neg]; (try simp -dsimp [hlt, hlb]))))) |  (with_reducible refine st_skip ?_; (try simp only [seqQ, blockQ, loopQ, forQ, whileQ, reduceIte, Nat.reduceEqDiff])) | (with_reducible refine st_exit ?_; (try simp only [seqQ, blockQ, loopQ, forQ, whileQ, reduceIte, Nat.reduceEqDiff])) | (with_reducible refine st_ret ?_; ((try simp only [seqQ, blockQ, loopQ, forQ, whileQ]); refine retQ_ret ?_; simp [hlt, hlb])) | refine st_seq ?_ | refine st_block ?_ | (refine st_reg follows ?_; (simp -dsimp [hlt, hlb]; (repeat (simp -dsimp (disch := (first | omega | assumption | (refine Bool.eq_false_iff.1 ?_; assumption))) only [wrap_in, if_pos, if_neg]; (try simp -dsimp [hlt, hlb]))))) | (refine guardP_of (fun hc => ?_) (fun hc => ?_) <;> (try simp only [decide_eq_true_eq, decide_eq_false_iff_not, Bool.true_eq_false, Bool.false_eq_true, bne_iff_ne, ne_eq, bne_eq_false_iff_eq, beq_iff_eq, beq_eq_false_iff_ne, Bool.not_eq_true, Bool.not_eq_false, Bool.not_eq_eq_eq_not, Bool.not_true, Bool.not_false, Decidable.not_not] at hc) <;> (try (exfalso; first | omega | exact bool_tf hc (by assumption) | exact bool_ft hc (by assumption) | exact absurd (by assumption) hc)) <;> (simp -dsimp [hlt, hlb, hc]; (repeat (simp -dsimp (disch := (first | omega | assumption | (refine Bool.eq_false_iff.1 ?_; assumption))) only [wrap_in, if_pos, if_neg]; (try simp -dsimp [hlt, hlb, hc]))))) | (refine st_cond rfl (fun hc => ?_) (fun hc => ?_) <;> (try simp only [decide_eq_true_eq, decide_eq_false_iff_not, Bool.true_eq_false, Bool.false_eq_true, bne_iff_ne, ne_eq, bne_eq_false_iff_eq, beq_iff_eq, beq_eq_false_iff_ne, Bool.not_eq_true, Bool.not_eq_false, Bool.not_eq_eq_eq_not, Bool.not_true, Bool.not_false, Decidable.not_not] at hc) <;> (try (exfalso; first | omega | exact bool_tf hc (by assumption) | exact bool_ft hc (by assumption) | exact absurd (by assumption) hc)))))
      · exact CLe.bool (decide_eq_false (ne_at hlt hlb (fun e => by rw [e] at hc; simp at hc))).symm
      · exact ⟨hlt, by simp, take_eq ht hlt hlb (by simp at hc; exact Prod.ext hc.1 hc.2), by simp, rfl⟩
    · (repeat' (first | (refine buildP_own ?_; (simp -dsimp [hlt]; (repeat (simp -dsimp (disch := (first | omega | assumption | (refine Bool.eq_false_iff.1 ?_; assumption))) only [wrap_in, if_pos, if_neg]; (try simp -dsimp [hlt]))))) |  (with_reducible refine st_skip ?_; (try simp only [seqQ, blockQ, loopQ, forQ, whileQ, reduceIte, Nat.reduceEqDiff])) | (with_reducible refine st_exit ?_; (try simp only [seqQ, blockQ, loopQ, forQ, whileQ, reduceIte, Nat.reduceEqDiff])) | (with_reducible refine st_ret ?_; ((try simp only [seqQ, blockQ, loopQ, forQ, whileQ]); refine retQ_ret ?_; simp [hlt])) | refine st_seq ?_ | refine st_block ?_ | (refine st_reg follows ?_; (simp -dsimp [hlt]; (repeat (simp -dsimp (disch := (first | omega | assumption | (refine Bool.eq_false_iff.1 ?_; assumption))) only [wrap_in, if_pos, if_neg]; (try simp -dsimp [hlt]))))) | (refine guardP_of (fun hc => ?_) (fun hc => ?_) <;> (try simp only [decide_eq_true_eq, decide_eq_false_iff_not, Bool.true_eq_false, Bool.false_eq_true, bne_iff_ne, ne_eq, bne_eq_false_iff_eq, beq_iff_eq, beq_eq_false_iff_ne, Bool.not_eq_true, Bool.not_eq_false, Bool.not_eq_eq_eq_not, Bool.not_true, Bool.not_false, Decidable.not_not] at hc) <;> (try (exfalso; first | omega | exact bool_tf hc (by assumption) | exact bool_ft hc (by assumption) | exact absurd (by assumption) hc)) <;> (simp -dsimp [hlt, hc]; (repeat (simp -dsimp (disch := (first | omega | assumption | (refine Bool.eq_false_iff.1 ?_; assumption))) only [wrap_in, if_pos, if_neg]; (try simp -dsimp [hlt, hc]))))) | (refine st_cond rfl (fun hc => ?_) (fun hc => ?_) <;> (try simp only [decide_eq_true_eq, decide_eq_false_iff_not, Bool.true_eq_false, Bool.false_eq_true, bne_iff_ne, ne_eq, bne_eq_false_iff_eq, beq_iff_eq, beq_eq_false_iff_ne, Bool.not_eq_true, Bool.not_eq_false, Bool.not_eq_eq_eq_not, Bool.not_true, Bool.not_false, Decidable.not_not] at hc) <;> (try (exfalso; first | omega | exact bool_tf hc (by assumption) | exact bool_ft hc (by assumption) | exact absurd (by assumption) hc)))))
      exact CLe.bool (decide_eq_true (by rw [List.take_of_length_le (by omega), List.take_of_length_le (by omega)] at ht; exact ht)).symm


theorem apartR_eq {a b s : Int} (ha : 0 ≤ a) (ha' : a < s) (hb : 0 ≤ b) (hb' : b < s) : apartR a b s = apartI a b s := by
  unfold apartR apartI
  dsimp only
  rcases Int.lt_trichotomy a b with h | h | h
  · have h1 : (a - b) % s = s - (b - a) := by
      have h0 : (a - b + s) % s = a - b + s := Int.emod_eq_of_lt (by omega) (by omega)
      rw [← Int.add_emod_right, h0]; omega
    have h2 : (b - a) % s = b - a := Int.emod_eq_of_lt (by omega) (by omega)
    rw [h1, h2]
    (repeat' split) <;> omega
  · subst h
    simp
    omega
  · have h1 : (b - a) % s = s - (a - b) := by
      have h0 : (b - a + s) % s = b - a + s := Int.emod_eq_of_lt (by omega) (by omega)
      rw [← Int.add_emod_right, h0]; omega
    have h2 : (a - b) % s = a - b := Int.emod_eq_of_lt (by omega) (by omega)
    rw [h1, h2]
    (repeat' split) <;> omega

def boxW (c : Wk) : Blk := .box 26 [.c (I c.steps), .c (I c.sections), .c (slI c.runs), .c (I c.tunes), .c (slP c.hammers), .c (slP c.pins)]

theorem clOut_succ (c : Wk) (i : Nat) : clOut c (i + 1) = clOut c i ++ clIn c i (c.pins.length - (i + 1)) := by
  unfold clOut; rw [List.range_succ, List.flatMap_append]; simp
theorem clIn_succ (c : Wk) (i m : Nat) : clIn c i (m + 1) = clIn c i m ++ if clashB c (pinAt c i) (pinAt c (i + 1 + m)) then [((i : Int), (i : Int) + 1 + (m : Int))] else [] := by
  unfold clIn; rw [List.range_succ, List.filter_append, List.map_append]
  congr 1
  by_cases h : clashB c (pinAt c i) (pinAt c (i + 1 + m)) = true <;> simp [h]

set_option maxHeartbeats 2000000 in
theorem sClash (c : Wk) (hs : 0 < c.steps) (hs' : c.steps ≤ 1000) (ht : 0 < c.tunes) (ht' : c.tunes ≤ 8) (hp : c.pins.length ≤ 400) (hh : c.hammers.length ≤ 1000) (hpin : ∀ p ∈ c.pins, 0 ≤ p.1 ∧ p.1 < c.hammers.length * c.tunes ∧ 0 ≤ p.2 ∧ p.2 < c.steps) :
    SC Try.prog 21 [cWk c] (slP (clashL c)) := by
  refine law21 _ _ (by simp) ?_
  unfold cWk slI
  (repeat' (first | (refine buildP_own ?_; (simp -dsimp; (repeat (simp -dsimp (disch := (first | omega | assumption | (refine Bool.eq_false_iff.1 ?_; assumption))) only [wrap_in, if_pos, if_neg]; (try simp -dsimp))))) |  (with_reducible refine st_skip ?_; (try simp only [seqQ, blockQ, loopQ, forQ, whileQ, reduceIte, Nat.reduceEqDiff])) | (with_reducible refine st_exit ?_; (try simp only [seqQ, blockQ, loopQ, forQ, whileQ, reduceIte, Nat.reduceEqDiff])) | (with_reducible refine st_ret ?_; ((try simp only [seqQ, blockQ, loopQ, forQ, whileQ]); refine retQ_ret ?_; simp)) | refine st_seq ?_ | refine st_block ?_ | (refine st_reg follows ?_; (simp -dsimp; (repeat (simp -dsimp (disch := (first | omega | assumption | (refine Bool.eq_false_iff.1 ?_; assumption))) only [wrap_in, if_pos, if_neg]; (try simp -dsimp))))) | (refine guardP_of (fun hc => ?_) (fun hc => ?_) <;> (try simp only [decide_eq_true_eq, decide_eq_false_iff_not, Bool.true_eq_false, Bool.false_eq_true, bne_iff_ne, ne_eq, bne_eq_false_iff_eq, beq_iff_eq, beq_eq_false_iff_ne, Bool.not_eq_true, Bool.not_eq_false, Bool.not_eq_eq_eq_not, Bool.not_true, Bool.not_false, Decidable.not_not] at hc) <;> (try (exfalso; first | omega | exact bool_tf hc (by assumption) | exact bool_ft hc (by assumption) | exact absurd (by assumption) hc)) <;> (simp -dsimp [hc]; (repeat (simp -dsimp (disch := (first | omega | assumption | (refine Bool.eq_false_iff.1 ?_; assumption))) only [wrap_in, if_pos, if_neg]; (try simp -dsimp [hc]))))) | (refine st_cond rfl (fun hc => ?_) (fun hc => ?_) <;> (try simp only [decide_eq_true_eq, decide_eq_false_iff_not, Bool.true_eq_false, Bool.false_eq_true, bne_iff_ne, ne_eq, bne_eq_false_iff_eq, beq_iff_eq, beq_eq_false_iff_ne, Bool.not_eq_true, Bool.not_eq_false, Bool.not_eq_eq_eq_not, Bool.not_true, Bool.not_false, Decidable.not_not] at hc) <;> (try (exfalso; first | omega | exact bool_tf hc (by assumption) | exact bool_ft hc (by assumption) | exact absurd (by assumption) hc)))))
  refine st_for [1, 8] c.pins.length (fun i T H => T = [(1, .ptr 1 0), (3, .own 8 (clOut c i).length), (4, .c (I i))] ∧ H = [(1, boxW c), (8, .arr 37 2 ((clOut c i).map rowP))]) (by simp [slP]) ⟨by simp [clOut], by simp [clOut, boxW, slI]⟩ ?_
  rintro i T H hi ⟨rfl, rfl⟩
  by_cases hlt : i < c.pins.length
  · simp only [boxW, slI, slP]
    (repeat' (first | (refine buildP_own ?_; (simp -dsimp [hlt]; (repeat (simp -dsimp (disch := (first | omega | assumption | (refine Bool.eq_false_iff.1 ?_; assumption))) only [wrap_in, if_pos, if_neg]; (try simp -dsimp [hlt]))))) |  (with_reducible refine st_skip ?_; (try simp only [seqQ, blockQ, loopQ, forQ, whileQ, reduceIte, Nat.reduceEqDiff])) | (with_reducible refine st_exit ?_; (try simp only [seqQ, blockQ, loopQ, forQ, whileQ, reduceIte, Nat.reduceEqDiff])) | (with_reducible refine st_ret ?_; ((try simp only [seqQ, blockQ, loopQ, forQ, whileQ]); refine retQ_ret ?_; simp [hlt])) | refine st_seq ?_ | refine st_block ?_ | (refine st_reg follows ?_; (simp -dsimp [hlt]; (repeat (simp -dsimp (disch := (first | omega | assumption | (refine Bool.eq_false_iff.1 ?_; assumption))) only [wrap_in, if_pos, if_neg]; (try simp -dsimp [hlt]))))) | (refine guardP_of (fun hc => ?_) (fun hc => ?_) <;> (try simp only [decide_eq_true_eq, decide_eq_false_iff_not, Bool.true_eq_false, Bool.false_eq_true, bne_iff_ne, ne_eq, bne_eq_false_iff_eq, beq_iff_eq, beq_eq_false_iff_ne, Bool.not_eq_true, Bool.not_eq_false, Bool.not_eq_eq_eq_not, Bool.not_true, Bool.not_false, Decidable.not_not] at hc) <;> (try (exfalso; first | omega | exact bool_tf hc (by assumption) | exact bool_ft hc (by assumption) | exact absurd (by assumption) hc)) <;> (simp -dsimp [hlt, hc]; (repeat (simp -dsimp (disch := (first | omega | assumption | (refine Bool.eq_false_iff.1 ?_; assumption))) only [wrap_in, if_pos, if_neg]; (try simp -dsimp [hlt, hc]))))) | (refine st_cond rfl (fun hc => ?_) (fun hc => ?_) <;> (try simp only [decide_eq_true_eq, decide_eq_false_iff_not, Bool.true_eq_false, Bool.false_eq_true, bne_iff_ne, ne_eq, bne_eq_false_iff_eq, beq_iff_eq, beq_eq_false_iff_ne, Bool.not_eq_true, Bool.not_eq_false, Bool.not_eq_eq_eq_not, Bool.not_true, Bool.not_false, Decidable.not_not] at hc) <;> (try (exfalso; first | omega | exact bool_tf hc (by assumption) | exact bool_ft hc (by assumption) | exact absurd (by assumption) hc)))))
    refine st_for [1, 8] (c.pins.length - (i + 1)) (fun m T H => T = [(1, .ptr 1 0), (3, .own 8 (clOut c i ++ clIn c i m).length), (4, .c (I i)), (5, .c (I (i + 1 + m)))] ∧ H = [(1, boxW c), (8, .arr 37 2 ((clOut c i ++ clIn c i m).map rowP))]) (by simp) ⟨by simp [clIn], by simp [clIn, boxW, slI, slP]⟩ ?_
    rintro m T H hm ⟨rfl, rfl⟩
    simp only [boxW, slI, slP]
    by_cases hlm : i + 1 + m < c.pins.length
    · have e : ((i : Int) + 1 + (m : Int)).toNat = i + 1 + m := by omega
      have hlm' : (i : Int) + 1 + m < c.pins.length := by omega
      have hpi := hpin _ (List.getElem_mem hlt)
      have hpm := hpin _ (List.getElem_mem hlm)
      have hq : ∀ p ∈ c.pins, ∃ n : Nat, IntKind.i64.wrap (p.1.tdiv c.tunes) = (n : Int) ∧ p.1 / c.tunes = n ∧ n < c.hammers.length := by
        intro p hp'
        obtain ⟨h1, h2, -, -⟩ := hpin p hp'
        have h3 := Int.ediv_nonneg h1 (Int.le_of_lt ht)
        have h4 : p.1 / c.tunes < c.hammers.length := Int.ediv_lt_of_lt_mul ht h2
        refine ⟨(p.1 / c.tunes).toNat, ?_, by omega, by omega⟩
        rw [Int.tdiv_eq_ediv_of_nonneg h1, wrap_in _ (by omega) (by omega)]; omega
      obtain ⟨n1, hq1, hd1, hq2⟩ := hq _ (List.getElem_mem hlt)
      obtain ⟨n2, hq3, hd2, hq4⟩ := hq _ (List.getElem_mem hlm)
      have ht0 : ¬ c.tunes = 0 := by omega
      have hb1 := clIn_len c i m
      have hb2 : (clOut c i).length ≤ 160000 := by have := clOut_len c hp i; omega
      have hA : (clOut c i).length + (clIn c i m).length ≤ 9223372036854775806 := by omega
      have hB : ((clOut c i).length + (clIn c i m).length + 1) * 16 ≤ 140737488355328 := by omega
      (repeat' (first | (refine buildP_own ?_; (simp -dsimp [hlt, hlm, hlm', e]; (repeat (simp -dsimp (disch := (first | omega | assumption | (refine Bool.eq_false_iff.1 ?_; assumption))) only [wrap_in, if_pos, if_neg]; (try simp -dsimp [hlt, hlm, hlm', e]))))) |  (with_reducible refine st_skip ?_; (try simp only [seqQ, blockQ, loopQ, forQ, whileQ, reduceIte, Nat.reduceEqDiff])) | (with_reducible refine st_exit ?_; (try simp only [seqQ, blockQ, loopQ, forQ, whileQ, reduceIte, Nat.reduceEqDiff])) | (with_reducible refine st_ret ?_; ((try simp only [seqQ, blockQ, loopQ, forQ, whileQ]); refine retQ_ret ?_; simp [hlt, hlm, hlm', e])) | refine st_seq ?_ | refine st_block ?_ | (refine st_reg follows ?_; (simp -dsimp [hlt, hlm, hlm', e]; (repeat (simp -dsimp (disch := (first | omega | assumption | (refine Bool.eq_false_iff.1 ?_; assumption))) only [wrap_in, if_pos, if_neg]; (try simp -dsimp [hlt, hlm, hlm', e]))))) | (refine guardP_of (fun hc => ?_) (fun hc => ?_) <;> (try simp only [decide_eq_true_eq, decide_eq_false_iff_not, Bool.true_eq_false, Bool.false_eq_true, bne_iff_ne, ne_eq, bne_eq_false_iff_eq, beq_iff_eq, beq_eq_false_iff_ne, Bool.not_eq_true, Bool.not_eq_false, Bool.not_eq_eq_eq_not, Bool.not_true, Bool.not_false, Decidable.not_not] at hc) <;> (try (exfalso; first | omega | exact bool_tf hc (by assumption) | exact bool_ft hc (by assumption) | exact absurd (by assumption) hc)) <;> (simp -dsimp [hlt, hlm, hlm', e, hc]; (repeat (simp -dsimp (disch := (first | omega | assumption | (refine Bool.eq_false_iff.1 ?_; assumption))) only [wrap_in, if_pos, if_neg]; (try simp -dsimp [hlt, hlm, hlm', e, hc]))))) | (refine st_cond rfl (fun hc => ?_) (fun hc => ?_) <;> (try simp only [decide_eq_true_eq, decide_eq_false_iff_not, Bool.true_eq_false, Bool.false_eq_true, bne_iff_ne, ne_eq, bne_eq_false_iff_eq, beq_iff_eq, beq_eq_false_iff_ne, Bool.not_eq_true, Bool.not_eq_false, Bool.not_eq_eq_eq_not, Bool.not_true, Bool.not_false, Decidable.not_not] at hc) <;> (try (exfalso; first | omega | exact bool_tf hc (by assumption) | exact bool_ft hc (by assumption) | exact absurd (by assumption) hc)))))
      · refine callP_of (sApart _ _ _ (by omega) (by omega) (by omega) (by omega) (by omega) (by omega)) (.inl rfl) ?_
        (simp -dsimp [hlt, hlm, hlm', e, hq1, hq2, hq3, hq4, ht0, hA, hB]; (repeat (simp -dsimp (disch := (first | omega | assumption | (refine Bool.eq_false_iff.1 ?_; assumption))) only [wrap_in, if_pos, if_neg]; (try simp -dsimp [hlt, hlm, hlm', e, hq1, hq2, hq3, hq4, ht0, hA, hB]))))
        (repeat' (first | (refine buildP_own ?_; (simp -dsimp [hlt, hlm, hlm', e, hq1, hq2, hq3, hq4, ht0, hA, hB]; (repeat (simp -dsimp (disch := (first | omega | assumption | (refine Bool.eq_false_iff.1 ?_; assumption))) only [wrap_in, if_pos, if_neg]; (try simp -dsimp [hlt, hlm, hlm', e, hq1, hq2, hq3, hq4, ht0, hA, hB]))))) |  (with_reducible refine st_skip ?_; (try simp only [seqQ, blockQ, loopQ, forQ, whileQ, reduceIte, Nat.reduceEqDiff])) | (with_reducible refine st_exit ?_; (try simp only [seqQ, blockQ, loopQ, forQ, whileQ, reduceIte, Nat.reduceEqDiff])) | (with_reducible refine st_ret ?_; ((try simp only [seqQ, blockQ, loopQ, forQ, whileQ]); refine retQ_ret ?_; simp [hlt, hlm, hlm', e, hq1, hq2, hq3, hq4, ht0, hA, hB])) | refine st_seq ?_ | refine st_block ?_ | (refine st_reg follows ?_; (simp -dsimp [hlt, hlm, hlm', e, hq1, hq2, hq3, hq4, ht0, hA, hB]; (repeat (simp -dsimp (disch := (first | omega | assumption | (refine Bool.eq_false_iff.1 ?_; assumption))) only [wrap_in, if_pos, if_neg]; (try simp -dsimp [hlt, hlm, hlm', e, hq1, hq2, hq3, hq4, ht0, hA, hB]))))) | (refine guardP_of (fun hc => ?_) (fun hc => ?_) <;> (try simp only [decide_eq_true_eq, decide_eq_false_iff_not, Bool.true_eq_false, Bool.false_eq_true, bne_iff_ne, ne_eq, bne_eq_false_iff_eq, beq_iff_eq, beq_eq_false_iff_ne, Bool.not_eq_true, Bool.not_eq_false, Bool.not_eq_eq_eq_not, Bool.not_true, Bool.not_false, Decidable.not_not] at hc) <;> (try (exfalso; first | omega | exact bool_tf hc (by assumption) | exact bool_ft hc (by assumption) | exact absurd (by assumption) hc)) <;> (simp -dsimp [hlt, hlm, hlm', e, hq1, hq2, hq3, hq4, ht0, hA, hB, hc]; (repeat (simp -dsimp (disch := (first | omega | assumption | (refine Bool.eq_false_iff.1 ?_; assumption))) only [wrap_in, if_pos, if_neg]; (try simp -dsimp [hlt, hlm, hlm', e, hq1, hq2, hq3, hq4, ht0, hA, hB, hc]))))) | (refine st_cond rfl (fun hc => ?_) (fun hc => ?_) <;> (try simp only [decide_eq_true_eq, decide_eq_false_iff_not, Bool.true_eq_false, Bool.false_eq_true, bne_iff_ne, ne_eq, bne_eq_false_iff_eq, beq_iff_eq, beq_eq_false_iff_ne, Bool.not_eq_true, Bool.not_eq_false, Bool.not_eq_eq_eq_not, Bool.not_true, Bool.not_false, Decidable.not_not] at hc) <;> (try (exfalso; first | omega | exact bool_tf hc (by assumption) | exact bool_ft hc (by assumption) | exact absurd (by assumption) hc)))))
        · have hcb : clashB c (pinAt c i) (pinAt c (i + 1 + m)) = true := by
            rw [pinAt_get c i hlt, pinAt_get c _ hlm]; unfold clashB ham
            rw [apartR_eq hpi.2.2.1 hpi.2.2.2 hpm.2.2.1 hpm.2.2.2] at hc
            simp [*]
          exact ⟨by omega, by simp, by simp [clIn_yes c i m hcb, Int.add_assoc, Nat.add_assoc], by simp [clIn_yes c i m hcb]⟩
        · have hcb : clashB c (pinAt c i) (pinAt c (i + 1 + m)) = false := by
            rw [pinAt_get c i hlt, pinAt_get c _ hlm]; unfold clashB ham
            rw [apartR_eq hpi.2.2.1 hpi.2.2.2 hpm.2.2.1 hpm.2.2.2] at hc
            simp [*]
          exact ⟨by omega, by simp, by simp [clIn_no c i m hcb, Int.add_assoc], by simp [clIn_no c i m hcb]⟩
      · have hcb : clashB c (pinAt c i) (pinAt c (i + 1 + m)) = false := by
          rw [pinAt_get c i hlt, pinAt_get c _ hlm]; unfold clashB ham
          simp [*]
        exact ⟨by omega, by simp, by simp [clIn_no c i m hcb, Int.add_assoc], by simp [clIn_no c i m hcb]⟩
    · have hlm' : ¬ (i : Int) + 1 + m < c.pins.length := by omega
      have em : c.pins.length - (i + 1) = m := by omega
      (repeat' (first | (refine buildP_own ?_; (simp -dsimp [hlt, hlm, hlm']; (repeat (simp -dsimp (disch := (first | omega | assumption | (refine Bool.eq_false_iff.1 ?_; assumption))) only [wrap_in, if_pos, if_neg]; (try simp -dsimp [hlt, hlm, hlm']))))) |  (with_reducible refine st_skip ?_; (try simp only [seqQ, blockQ, loopQ, forQ, whileQ, reduceIte, Nat.reduceEqDiff])) | (with_reducible refine st_exit ?_; (try simp only [seqQ, blockQ, loopQ, forQ, whileQ, reduceIte, Nat.reduceEqDiff])) | (with_reducible refine st_ret ?_; ((try simp only [seqQ, blockQ, loopQ, forQ, whileQ]); refine retQ_ret ?_; simp [hlt, hlm, hlm'])) | refine st_seq ?_ | refine st_block ?_ | (refine st_reg follows ?_; (simp -dsimp [hlt, hlm, hlm']; (repeat (simp -dsimp (disch := (first | omega | assumption | (refine Bool.eq_false_iff.1 ?_; assumption))) only [wrap_in, if_pos, if_neg]; (try simp -dsimp [hlt, hlm, hlm']))))) | (refine guardP_of (fun hc => ?_) (fun hc => ?_) <;> (try simp only [decide_eq_true_eq, decide_eq_false_iff_not, Bool.true_eq_false, Bool.false_eq_true, bne_iff_ne, ne_eq, bne_eq_false_iff_eq, beq_iff_eq, beq_eq_false_iff_ne, Bool.not_eq_true, Bool.not_eq_false, Bool.not_eq_eq_eq_not, Bool.not_true, Bool.not_false, Decidable.not_not] at hc) <;> (try (exfalso; first | omega | exact bool_tf hc (by assumption) | exact bool_ft hc (by assumption) | exact absurd (by assumption) hc)) <;> (simp -dsimp [hlt, hlm, hlm', hc]; (repeat (simp -dsimp (disch := (first | omega | assumption | (refine Bool.eq_false_iff.1 ?_; assumption))) only [wrap_in, if_pos, if_neg]; (try simp -dsimp [hlt, hlm, hlm', hc]))))) | (refine st_cond rfl (fun hc => ?_) (fun hc => ?_) <;> (try simp only [decide_eq_true_eq, decide_eq_false_iff_not, Bool.true_eq_false, Bool.false_eq_true, bne_iff_ne, ne_eq, bne_eq_false_iff_eq, beq_iff_eq, beq_eq_false_iff_ne, Bool.not_eq_true, Bool.not_eq_false, Bool.not_eq_eq_eq_not, Bool.not_true, Bool.not_false, Decidable.not_not] at hc) <;> (try (exfalso; first | omega | exact bool_tf hc (by assumption) | exact bool_ft hc (by assumption) | exact absurd (by assumption) hc)))))
      exact ⟨hlt, by simp, by simp [clOut_succ, em], by simp [clOut_succ, em, boxW]⟩
  · simp only [boxW, slI, slP]
    (repeat' (first | (refine buildP_own ?_; (simp -dsimp [hlt]; (repeat (simp -dsimp (disch := (first | omega | assumption | (refine Bool.eq_false_iff.1 ?_; assumption))) only [wrap_in, if_pos, if_neg]; (try simp -dsimp [hlt]))))) |  (with_reducible refine st_skip ?_; (try simp only [seqQ, blockQ, loopQ, forQ, whileQ, reduceIte, Nat.reduceEqDiff])) | (with_reducible refine st_exit ?_; (try simp only [seqQ, blockQ, loopQ, forQ, whileQ, reduceIte, Nat.reduceEqDiff])) | (with_reducible refine st_ret ?_; ((try simp only [seqQ, blockQ, loopQ, forQ, whileQ]); refine retQ_ret ?_; simp [hlt])) | refine st_seq ?_ | refine st_block ?_ | (refine st_reg follows ?_; (simp -dsimp [hlt]; (repeat (simp -dsimp (disch := (first | omega | assumption | (refine Bool.eq_false_iff.1 ?_; assumption))) only [wrap_in, if_pos, if_neg]; (try simp -dsimp [hlt]))))) | (refine guardP_of (fun hc => ?_) (fun hc => ?_) <;> (try simp only [decide_eq_true_eq, decide_eq_false_iff_not, Bool.true_eq_false, Bool.false_eq_true, bne_iff_ne, ne_eq, bne_eq_false_iff_eq, beq_iff_eq, beq_eq_false_iff_ne, Bool.not_eq_true, Bool.not_eq_false, Bool.not_eq_eq_eq_not, Bool.not_true, Bool.not_false, Decidable.not_not] at hc) <;> (try (exfalso; first | omega | exact bool_tf hc (by assumption) | exact bool_ft hc (by assumption) | exact absurd (by assumption) hc)) <;> (simp -dsimp [hlt, hc]; (repeat (simp -dsimp (disch := (first | omega | assumption | (refine Bool.eq_false_iff.1 ?_; assumption))) only [wrap_in, if_pos, if_neg]; (try simp -dsimp [hlt, hc]))))) | (refine st_cond rfl (fun hc => ?_) (fun hc => ?_) <;> (try simp only [decide_eq_true_eq, decide_eq_false_iff_not, Bool.true_eq_false, Bool.false_eq_true, bne_iff_ne, ne_eq, bne_eq_false_iff_eq, beq_iff_eq, beq_eq_false_iff_ne, Bool.not_eq_true, Bool.not_eq_false, Bool.not_eq_eq_eq_not, Bool.not_true, Bool.not_false, Decidable.not_not] at hc) <;> (try (exfalso; first | omega | exact bool_tf hc (by assumption) | exact bool_ft hc (by assumption) | exact absurd (by assumption) hc)))))
    have ei : i = c.pins.length := by omega
    subst ei
    exact .refl _

end Go.Proofs.Ytdgplebmlggmcaa
/- References, II: Works, Same, Run. -/
namespace Go.Proofs.Ytdgplebmlggmcaa
open Go.RowKit

theorem all_next {α : Type} {xs : List α} {p : α → Bool} {k : Nat} (h : (xs.take k).all p = true) (hk : k < xs.length) (hp : p xs[k] = true) : (xs.take (k + 1)).all p = true := by
  rw [List.take_succ_eq_append_getElem hk, List.all_append, h]; simp [hp]
theorem all_no {α : Type} {xs : List α} {p : α → Bool} {k : Nat} (hk : k < xs.length) (hp : p xs[k] = false) : xs.all p = false := by
  rw [Bool.eq_false_iff]; intro h; rw [List.all_eq_true] at h; simp [h _ (List.getElem_mem hk)] at hp
theorem all_done {α : Type} {xs : List α} {p : α → Bool} {k : Nat} (h : (xs.take k).all p = true) (hk : ¬ k < xs.length) : xs.all p = true := by
  rw [List.take_of_length_le (by omega)] at h; exact h
theorem nodup_next {α : Type} {xs : List α} {k : Nat} (h : (xs.take k).Nodup) (hk : k < xs.length) (hn : xs[k] ∉ xs.take k) : (xs.take (k + 1)).Nodup := by
  rw [List.take_succ_eq_append_getElem hk, List.nodup_append]
  refine ⟨h, by simp, ?_⟩
  rintro a ha b hb rfl
  simp at hb; subst hb; exact hn ha
theorem nodup_no {α : Type} {xs : List α} {k m : Nat} (hk : k < xs.length) (hm : m < k) (he : xs[m] = xs[k]) : ¬ xs.Nodup := by
  intro h
  exact (List.pairwise_iff_getElem.1 h) m k (by omega) hk hm he
theorem notin_next {α : Type} {xs : List α} {m : Nat} {x : α} (h : x ∉ xs.take m) (hm : m < xs.length) (hn : ¬ xs[m] = x) : x ∉ xs.take (m + 1) := by
  rw [List.take_succ_eq_append_getElem hm, List.mem_append]
  rintro (h' | h')
  · exact h h'
  · simp at h'; exact hn h'.symm

/-- Beginnings of lists, as invariants; not to be unfolded by simp. -/
def AllTo {α : Type} (p : α → Bool) (xs : List α) (k : Nat) : Prop := (xs.take k).all p = true
theorem AllTo.zero {α : Type} (p : α → Bool) (xs : List α) : AllTo p xs 0 := by simp [AllTo]
theorem AllTo.next {α : Type} {p : α → Bool} {xs : List α} {k : Nat} (h : AllTo p xs k) (hk : k < xs.length) (hp : p xs[k] = true) : AllTo p xs (k + 1) := all_next h hk hp
theorem AllTo.done {α : Type} {p : α → Bool} {xs : List α} {k : Nat} (h : AllTo p xs k) (hk : ¬ k < xs.length) : xs.all p = true := all_done h hk
def NodTo {α : Type} (xs : List α) (k : Nat) : Prop := (xs.take k).Nodup
theorem NodTo.zero {α : Type} (xs : List α) : NodTo xs 0 := by simp [NodTo]
def NotTo {α : Type} (xs : List α) (x : α) (k : Nat) : Prop := x ∉ xs.take k
theorem NotTo.zero {α : Type} (xs : List α) (x : α) : NotTo xs x 0 := by simp [NotTo]
theorem NotTo.next {α : Type} {xs : List α} {x : α} {k : Nat} (h : NotTo xs x k) (hk : k < xs.length) (hn : ¬ xs[k] = x) : NotTo xs x (k + 1) := notin_next h hk hn
theorem NodTo.next {α : Type} {xs : List α} {k m : Nat} (h : NodTo xs k) (hk : k < xs.length) (hm : NotTo xs xs[k] m) (hmk : ¬ m < k) (hml : m ≤ k) : NodTo xs (k + 1) := by
  have : m = k := by omega
  subst this; exact nodup_next h hk hm
theorem NodTo.done {α : Type} {xs : List α} {k : Nat} (h : NodTo xs k) (hk : ¬ k < xs.length) : xs.Nodup := by
  unfold NodTo at h; rw [List.take_of_length_le (by omega)] at h; exact h

theorem worksOk_parts {c : Wk} (h : worksOk c = true) : inn 1 1000 c.steps = true ∧ inn 1 c.steps c.sections = true ∧ c.steps % c.sections = 0 ∧ inn 1 8 c.runs.length = true ∧ c.runs.all (inn 1 c.sections) = true ∧ inn 1 8 c.tunes = true ∧
    inn 1 40 c.hammers.length = true ∧ c.hammers.all hamOk = true ∧ c.pins.length ≤ 400 ∧ c.pins.all (pinOk c) = true ∧ c.pins.Nodup := by
  simp only [worksOk, partsOk, Bool.and_eq_true, beq_iff_eq, decide_eq_true_eq] at h
  obtain ⟨⟨⟨⟨⟨⟨⟨⟨⟨⟨h1, h2⟩, h3⟩, h4⟩, h5⟩, h6⟩, h7⟩, h8⟩, h9⟩, h10⟩, h11⟩ := h
  exact ⟨h1, h2, h3, h4, h5, h6, h7, h8, h9, h10, h11⟩
theorem bad_bool {b : Bool} (h : b = true → False) : CLe (CV.val (Value.bool false)) (B b) := CLe.bool (by cases b with | false => rfl | true => exact absurd rfl h)

theorem pair_eq {x y : Int × Int} (h : (x.1 == y.1 && x.2 == y.2) = true) : x = y := by simp at h; exact Prod.ext h.1 h.2
theorem pair_ne {x y : Int × Int} (h : (x.1 == y.1 && x.2 == y.2) = false) : ¬ x = y := by rintro rfl; simp at h

set_option maxRecDepth 100000 in
set_option maxHeartbeats 2000000 in
theorem sWorks (c : Wk) : SC Try.prog 20 [cWk c] (B (worksOk c)) := by
  refine law20 _ _ (by simp) ?_
  unfold cWk slI
  (repeat' (first | (refine buildP_own ?_; (simp -dsimp; (repeat (simp -dsimp (disch := (first | omega | assumption | (refine Bool.eq_false_iff.1 ?_; assumption))) only [wrap_in, if_pos, if_neg]; (try simp -dsimp))))) | (refine callP_of (sIn _ _ _) (.inl rfl) ?_; (simp -dsimp; (repeat (simp -dsimp (disch := (first | omega | assumption | (refine Bool.eq_false_iff.1 ?_; assumption))) only [wrap_in, if_pos, if_neg]; (try simp -dsimp))))) |  (with_reducible refine st_skip ?_; (try simp only [seqQ, blockQ, loopQ, forQ, whileQ, reduceIte, Nat.reduceEqDiff])) | (with_reducible refine st_exit ?_; (try simp only [seqQ, blockQ, loopQ, forQ, whileQ, reduceIte, Nat.reduceEqDiff])) | (with_reducible refine st_ret ?_; ((try simp only [seqQ, blockQ, loopQ, forQ, whileQ]); refine retQ_ret ?_; simp)) | refine st_seq ?_ | refine st_block ?_ | (refine st_reg follows ?_; (simp -dsimp; (repeat (simp -dsimp (disch := (first | omega | assumption | (refine Bool.eq_false_iff.1 ?_; assumption))) only [wrap_in, if_pos, if_neg]; (try simp -dsimp))))) | (refine guardP_of (fun hc => ?_) (fun hc => ?_) <;> (try simp only [decide_eq_true_eq, decide_eq_false_iff_not, Bool.true_eq_false, Bool.false_eq_true, bne_iff_ne, ne_eq, bne_eq_false_iff_eq, beq_iff_eq, beq_eq_false_iff_ne, Bool.not_eq_true, Bool.not_eq_false, Bool.not_eq_eq_eq_not, Bool.not_true, Bool.not_false, Decidable.not_not] at hc) <;> (try (exfalso; first | omega | exact bool_tf hc (by assumption) | exact bool_ft hc (by assumption) | exact absurd (by assumption) hc)) <;> (simp -dsimp [hc]; (repeat (simp -dsimp (disch := (first | omega | assumption | (refine Bool.eq_false_iff.1 ?_; assumption))) only [wrap_in, if_pos, if_neg]; (try simp -dsimp [hc]))))) | (refine st_cond rfl (fun hc => ?_) (fun hc => ?_) <;> (try simp only [decide_eq_true_eq, decide_eq_false_iff_not, Bool.true_eq_false, Bool.false_eq_true, bne_iff_ne, ne_eq, bne_eq_false_iff_eq, beq_iff_eq, beq_eq_false_iff_ne, Bool.not_eq_true, Bool.not_eq_false, Bool.not_eq_eq_eq_not, Bool.not_true, Bool.not_false, Decidable.not_not] at hc) <;> (try (exfalso; first | omega | exact bool_tf hc (by assumption) | exact bool_ft hc (by assumption) | exact absurd (by assumption) hc)))))
  · have hi1 := inn_iff.1 hc
    have hi2 := inn_iff.1 ‹inn 1 1000 c.steps = true›
    have hs0 : ¬ c.sections = 0 := by omega
    (simp -dsimp [hs0]; (repeat (simp -dsimp (disch := (first | omega | assumption | (refine Bool.eq_false_iff.1 ?_; assumption))) only [wrap_in, if_pos, if_neg]; (try simp -dsimp [hs0]))))
    have ht0 : c.steps.tmod c.sections = c.steps % c.sections := Int.tmod_eq_emod_of_nonneg (by omega)
    (repeat' (first | (refine buildP_own ?_; (simp -dsimp [hs0, ht0]; (repeat (simp -dsimp (disch := (first | omega | assumption | (refine Bool.eq_false_iff.1 ?_; assumption))) only [wrap_in, if_pos, if_neg]; (try simp -dsimp [hs0, ht0]))))) | (refine callP_of (sIn _ _ _) (.inl rfl) ?_; (simp -dsimp [hs0, ht0]; (repeat (simp -dsimp (disch := (first | omega | assumption | (refine Bool.eq_false_iff.1 ?_; assumption))) only [wrap_in, if_pos, if_neg]; (try simp -dsimp [hs0, ht0]))))) |  (with_reducible refine st_skip ?_; (try simp only [seqQ, blockQ, loopQ, forQ, whileQ, reduceIte, Nat.reduceEqDiff])) | (with_reducible refine st_exit ?_; (try simp only [seqQ, blockQ, loopQ, forQ, whileQ, reduceIte, Nat.reduceEqDiff])) | (with_reducible refine st_ret ?_; ((try simp only [seqQ, blockQ, loopQ, forQ, whileQ]); refine retQ_ret ?_; simp [hs0, ht0])) | refine st_seq ?_ | refine st_block ?_ | (refine st_reg follows ?_; (simp -dsimp [hs0, ht0]; (repeat (simp -dsimp (disch := (first | omega | assumption | (refine Bool.eq_false_iff.1 ?_; assumption))) only [wrap_in, if_pos, if_neg]; (try simp -dsimp [hs0, ht0]))))) | (refine guardP_of (fun hc => ?_) (fun hc => ?_) <;> (try simp only [decide_eq_true_eq, decide_eq_false_iff_not, Bool.true_eq_false, Bool.false_eq_true, bne_iff_ne, ne_eq, bne_eq_false_iff_eq, beq_iff_eq, beq_eq_false_iff_ne, Bool.not_eq_true, Bool.not_eq_false, Bool.not_eq_eq_eq_not, Bool.not_true, Bool.not_false, Decidable.not_not] at hc) <;> (try (exfalso; first | omega | exact bool_tf hc (by assumption) | exact bool_ft hc (by assumption) | exact absurd (by assumption) hc)) <;> (simp -dsimp [hs0, ht0, hc]; (repeat (simp -dsimp (disch := (first | omega | assumption | (refine Bool.eq_false_iff.1 ?_; assumption))) only [wrap_in, if_pos, if_neg]; (try simp -dsimp [hs0, ht0, hc]))))) | (refine st_cond rfl (fun hc => ?_) (fun hc => ?_) <;> (try simp only [decide_eq_true_eq, decide_eq_false_iff_not, Bool.true_eq_false, Bool.false_eq_true, bne_iff_ne, ne_eq, bne_eq_false_iff_eq, beq_iff_eq, beq_eq_false_iff_ne, Bool.not_eq_true, Bool.not_eq_false, Bool.not_eq_eq_eq_not, Bool.not_true, Bool.not_false, Decidable.not_not] at hc) <;> (try (exfalso; first | omega | exact bool_tf hc (by assumption) | exact bool_ft hc (by assumption) | exact absurd (by assumption) hc)))))
    any_goals (refine bad_bool fun h => ?_; obtain ⟨p1, p2, p3, p4, p5, p6, p7, p8, p9, p10, p11⟩ := worksOk_parts h; clear h p5 p8 p10; first | omega | (simp_all; done))
    have hr8 : inn 1 8 c.runs.length = true := ‹_›
    have ht8 : inn 1 8 c.tunes = true := ‹_›
    have hh40 : inn 1 40 c.hammers.length = true := ‹_›
    have hp400 : c.pins.length ≤ 400 := by omega
    have hsr : c.steps % c.sections = 0 := ‹_›
    have hi3 := inn_iff.1 ht8
    have hi4 := inn_iff.1 hh40
    have hi5 := inn_iff.1 hr8
    have hi6 : 0 ≤ (c.hammers.length : Int) * c.tunes := Int.mul_nonneg (by omega) (by omega)
    have hi7 : (c.hammers.length : Int) * c.tunes ≤ 40 * 8 := Int.mul_le_mul (by omega) (by omega) (by omega) (by omega)
    refine st_for [1] c.runs.length (fun k T H => AllTo (inn 1 c.sections) c.runs k ∧ T = [(1, .ptr 1 0), (3, .c (I k))] ∧ H = [(1, boxW c)]) (by simp) ⟨.zero _ _, rfl, rfl⟩ ?_
    rintro k T H hk ⟨hall, rfl, rfl⟩
    simp only [boxW, slI, slP]
    by_cases hlt : k < c.runs.length
    · (repeat' (first | (refine buildP_own ?_; (simp -dsimp [hlt]; (repeat (simp -dsimp (disch := (first | omega | assumption | (refine Bool.eq_false_iff.1 ?_; assumption))) only [wrap_in, if_pos, if_neg]; (try simp -dsimp [hlt]))))) | (refine callP_of (sIn _ _ _) (.inl rfl) ?_; (simp -dsimp [hlt]; (repeat (simp -dsimp (disch := (first | omega | assumption | (refine Bool.eq_false_iff.1 ?_; assumption))) only [wrap_in, if_pos, if_neg]; (try simp -dsimp [hlt]))))) |  (with_reducible refine st_skip ?_; (try simp only [seqQ, blockQ, loopQ, forQ, whileQ, reduceIte, Nat.reduceEqDiff])) | (with_reducible refine st_exit ?_; (try simp only [seqQ, blockQ, loopQ, forQ, whileQ, reduceIte, Nat.reduceEqDiff])) | (with_reducible refine st_ret ?_; ((try simp only [seqQ, blockQ, loopQ, forQ, whileQ]); refine retQ_ret ?_; simp [hlt])) | refine st_seq ?_ | refine st_block ?_ | (refine st_reg follows ?_; (simp -dsimp [hlt]; (repeat (simp -dsimp (disch := (first | omega | assumption | (refine Bool.eq_false_iff.1 ?_; assumption))) only [wrap_in, if_pos, if_neg]; (try simp -dsimp [hlt]))))) | (refine guardP_of (fun hc => ?_) (fun hc => ?_) <;> (try simp only [decide_eq_true_eq, decide_eq_false_iff_not, Bool.true_eq_false, Bool.false_eq_true, bne_iff_ne, ne_eq, bne_eq_false_iff_eq, beq_iff_eq, beq_eq_false_iff_ne, Bool.not_eq_true, Bool.not_eq_false, Bool.not_eq_eq_eq_not, Bool.not_true, Bool.not_false, Decidable.not_not] at hc) <;> (try (exfalso; first | omega | exact bool_tf hc (by assumption) | exact bool_ft hc (by assumption) | exact absurd (by assumption) hc)) <;> (simp -dsimp [hlt, hc]; (repeat (simp -dsimp (disch := (first | omega | assumption | (refine Bool.eq_false_iff.1 ?_; assumption))) only [wrap_in, if_pos, if_neg]; (try simp -dsimp [hlt, hc]))))) | (refine st_cond rfl (fun hc => ?_) (fun hc => ?_) <;> (try simp only [decide_eq_true_eq, decide_eq_false_iff_not, Bool.true_eq_false, Bool.false_eq_true, bne_iff_ne, ne_eq, bne_eq_false_iff_eq, beq_iff_eq, beq_eq_false_iff_ne, Bool.not_eq_true, Bool.not_eq_false, Bool.not_eq_eq_eq_not, Bool.not_true, Bool.not_false, Decidable.not_not] at hc) <;> (try (exfalso; first | omega | exact bool_tf hc (by assumption) | exact bool_ft hc (by assumption) | exact absurd (by assumption) hc)))))
      · exact bad_bool fun h => by have := all_no hlt ‹_›; rw [(worksOk_parts h).2.2.2.2.1] at this; simp at this
      · exact ⟨hlt, by simp, hall.next hlt ‹_›, by simp, rfl⟩
    · have hruns := hall.done hlt
      (repeat' (first | (refine buildP_own ?_; (simp -dsimp [hlt]; (repeat (simp -dsimp (disch := (first | omega | assumption | (refine Bool.eq_false_iff.1 ?_; assumption))) only [wrap_in, if_pos, if_neg]; (try simp -dsimp [hlt]))))) | (refine callP_of (sIn _ _ _) (.inl rfl) ?_; (simp -dsimp [hlt]; (repeat (simp -dsimp (disch := (first | omega | assumption | (refine Bool.eq_false_iff.1 ?_; assumption))) only [wrap_in, if_pos, if_neg]; (try simp -dsimp [hlt]))))) |  (with_reducible refine st_skip ?_; (try simp only [seqQ, blockQ, loopQ, forQ, whileQ, reduceIte, Nat.reduceEqDiff])) | (with_reducible refine st_exit ?_; (try simp only [seqQ, blockQ, loopQ, forQ, whileQ, reduceIte, Nat.reduceEqDiff])) | (with_reducible refine st_ret ?_; ((try simp only [seqQ, blockQ, loopQ, forQ, whileQ]); refine retQ_ret ?_; simp [hlt])) | refine st_seq ?_ | refine st_block ?_ | (refine st_reg follows ?_; (simp -dsimp [hlt]; (repeat (simp -dsimp (disch := (first | omega | assumption | (refine Bool.eq_false_iff.1 ?_; assumption))) only [wrap_in, if_pos, if_neg]; (try simp -dsimp [hlt]))))) | (refine guardP_of (fun hc => ?_) (fun hc => ?_) <;> (try simp only [decide_eq_true_eq, decide_eq_false_iff_not, Bool.true_eq_false, Bool.false_eq_true, bne_iff_ne, ne_eq, bne_eq_false_iff_eq, beq_iff_eq, beq_eq_false_iff_ne, Bool.not_eq_true, Bool.not_eq_false, Bool.not_eq_eq_eq_not, Bool.not_true, Bool.not_false, Decidable.not_not] at hc) <;> (try (exfalso; first | omega | exact bool_tf hc (by assumption) | exact bool_ft hc (by assumption) | exact absurd (by assumption) hc)) <;> (simp -dsimp [hlt, hc]; (repeat (simp -dsimp (disch := (first | omega | assumption | (refine Bool.eq_false_iff.1 ?_; assumption))) only [wrap_in, if_pos, if_neg]; (try simp -dsimp [hlt, hc]))))) | (refine st_cond rfl (fun hc => ?_) (fun hc => ?_) <;> (try simp only [decide_eq_true_eq, decide_eq_false_iff_not, Bool.true_eq_false, Bool.false_eq_true, bne_iff_ne, ne_eq, bne_eq_false_iff_eq, beq_iff_eq, beq_eq_false_iff_ne, Bool.not_eq_true, Bool.not_eq_false, Bool.not_eq_eq_eq_not, Bool.not_true, Bool.not_false, Decidable.not_not] at hc) <;> (try (exfalso; first | omega | exact bool_tf hc (by assumption) | exact bool_ft hc (by assumption) | exact absurd (by assumption) hc)))))
      refine st_for [1] c.hammers.length (fun k T H => AllTo hamOk c.hammers k ∧ T = [(1, .ptr 1 0), (4, .c (I k))] ∧ H = [(1, boxW c)]) (by simp) ⟨.zero _ _, rfl, rfl⟩ ?_
      clear hall hlt hk k
      rintro k T H hk ⟨hall, rfl, rfl⟩
      simp only [boxW, slI, slP]
      by_cases hlt : k < c.hammers.length
      · (repeat' (first | (refine buildP_own ?_; (simp -dsimp [hlt]; (repeat (simp -dsimp (disch := (first | omega | assumption | (refine Bool.eq_false_iff.1 ?_; assumption))) only [wrap_in, if_pos, if_neg]; (try simp -dsimp [hlt]))))) | (refine callP_of (sIn _ _ _) (.inl rfl) ?_; (simp -dsimp [hlt]; (repeat (simp -dsimp (disch := (first | omega | assumption | (refine Bool.eq_false_iff.1 ?_; assumption))) only [wrap_in, if_pos, if_neg]; (try simp -dsimp [hlt]))))) |  (with_reducible refine st_skip ?_; (try simp only [seqQ, blockQ, loopQ, forQ, whileQ, reduceIte, Nat.reduceEqDiff])) | (with_reducible refine st_exit ?_; (try simp only [seqQ, blockQ, loopQ, forQ, whileQ, reduceIte, Nat.reduceEqDiff])) | (with_reducible refine st_ret ?_; ((try simp only [seqQ, blockQ, loopQ, forQ, whileQ]); refine retQ_ret ?_; simp [hlt])) | refine st_seq ?_ | refine st_block ?_ | (refine st_reg follows ?_; (simp -dsimp [hlt]; (repeat (simp -dsimp (disch := (first | omega | assumption | (refine Bool.eq_false_iff.1 ?_; assumption))) only [wrap_in, if_pos, if_neg]; (try simp -dsimp [hlt]))))) | (refine guardP_of (fun hc => ?_) (fun hc => ?_) <;> (try simp only [decide_eq_true_eq, decide_eq_false_iff_not, Bool.true_eq_false, Bool.false_eq_true, bne_iff_ne, ne_eq, bne_eq_false_iff_eq, beq_iff_eq, beq_eq_false_iff_ne, Bool.not_eq_true, Bool.not_eq_false, Bool.not_eq_eq_eq_not, Bool.not_true, Bool.not_false, Decidable.not_not] at hc) <;> (try (exfalso; first | omega | exact bool_tf hc (by assumption) | exact bool_ft hc (by assumption) | exact absurd (by assumption) hc)) <;> (simp -dsimp [hlt, hc]; (repeat (simp -dsimp (disch := (first | omega | assumption | (refine Bool.eq_false_iff.1 ?_; assumption))) only [wrap_in, if_pos, if_neg]; (try simp -dsimp [hlt, hc]))))) | (refine st_cond rfl (fun hc => ?_) (fun hc => ?_) <;> (try simp only [decide_eq_true_eq, decide_eq_false_iff_not, Bool.true_eq_false, Bool.false_eq_true, bne_iff_ne, ne_eq, bne_eq_false_iff_eq, beq_iff_eq, beq_eq_false_iff_ne, Bool.not_eq_true, Bool.not_eq_false, Bool.not_eq_eq_eq_not, Bool.not_true, Bool.not_false, Decidable.not_not] at hc) <;> (try (exfalso; first | omega | exact bool_tf hc (by assumption) | exact bool_ft hc (by assumption) | exact absurd (by assumption) hc)))))
        · exact bad_bool fun h => by have hp := List.all_eq_true.1 (worksOk_parts h).2.2.2.2.2.2.2.1 _ (List.getElem_mem hlt); unfold hamOk at hp; rw [Bool.and_eq_true] at hp; first | exact bool_tf hp.1 (by assumption) | exact bool_tf hp.2 (by assumption)
        · exact ⟨hlt, by simp, hall.next hlt (by unfold hamOk; simp [*]), by simp, rfl⟩
        all_goals (exact bad_bool fun h => by have hp := List.all_eq_true.1 (worksOk_parts h).2.2.2.2.2.2.2.1 _ (List.getElem_mem hlt); unfold hamOk at hp; rw [Bool.and_eq_true] at hp; first | exact bool_tf hp.1 (by assumption) | exact bool_tf hp.2 (by assumption))
      · have hhams := hall.done hlt
        (repeat' (first | (refine buildP_own ?_; (simp -dsimp [hlt]; (repeat (simp -dsimp (disch := (first | omega | assumption | (refine Bool.eq_false_iff.1 ?_; assumption))) only [wrap_in, if_pos, if_neg]; (try simp -dsimp [hlt]))))) | (refine callP_of (sIn _ _ _) (.inl rfl) ?_; (simp -dsimp [hlt]; (repeat (simp -dsimp (disch := (first | omega | assumption | (refine Bool.eq_false_iff.1 ?_; assumption))) only [wrap_in, if_pos, if_neg]; (try simp -dsimp [hlt]))))) |  (with_reducible refine st_skip ?_; (try simp only [seqQ, blockQ, loopQ, forQ, whileQ, reduceIte, Nat.reduceEqDiff])) | (with_reducible refine st_exit ?_; (try simp only [seqQ, blockQ, loopQ, forQ, whileQ, reduceIte, Nat.reduceEqDiff])) | (with_reducible refine st_ret ?_; ((try simp only [seqQ, blockQ, loopQ, forQ, whileQ]); refine retQ_ret ?_; simp [hlt])) | refine st_seq ?_ | refine st_block ?_ | (refine st_reg follows ?_; (simp -dsimp [hlt]; (repeat (simp -dsimp (disch := (first | omega | assumption | (refine Bool.eq_false_iff.1 ?_; assumption))) only [wrap_in, if_pos, if_neg]; (try simp -dsimp [hlt]))))) | (refine guardP_of (fun hc => ?_) (fun hc => ?_) <;> (try simp only [decide_eq_true_eq, decide_eq_false_iff_not, Bool.true_eq_false, Bool.false_eq_true, bne_iff_ne, ne_eq, bne_eq_false_iff_eq, beq_iff_eq, beq_eq_false_iff_ne, Bool.not_eq_true, Bool.not_eq_false, Bool.not_eq_eq_eq_not, Bool.not_true, Bool.not_false, Decidable.not_not] at hc) <;> (try (exfalso; first | omega | exact bool_tf hc (by assumption) | exact bool_ft hc (by assumption) | exact absurd (by assumption) hc)) <;> (simp -dsimp [hlt, hc]; (repeat (simp -dsimp (disch := (first | omega | assumption | (refine Bool.eq_false_iff.1 ?_; assumption))) only [wrap_in, if_pos, if_neg]; (try simp -dsimp [hlt, hc]))))) | (refine st_cond rfl (fun hc => ?_) (fun hc => ?_) <;> (try simp only [decide_eq_true_eq, decide_eq_false_iff_not, Bool.true_eq_false, Bool.false_eq_true, bne_iff_ne, ne_eq, bne_eq_false_iff_eq, beq_iff_eq, beq_eq_false_iff_ne, Bool.not_eq_true, Bool.not_eq_false, Bool.not_eq_eq_eq_not, Bool.not_true, Bool.not_false, Decidable.not_not] at hc) <;> (try (exfalso; first | omega | exact bool_tf hc (by assumption) | exact bool_ft hc (by assumption) | exact absurd (by assumption) hc)))))
        refine st_for [1] c.pins.length (fun k T H => AllTo (pinOk c) c.pins k ∧ NodTo c.pins k ∧ T = [(1, .ptr 1 0), (5, .c (I k))] ∧ H = [(1, boxW c)]) (by simp) ⟨.zero _ _, .zero _, rfl, rfl⟩ ?_
        clear hall hlt hk k
        rintro k T H hk ⟨hall, hnod, rfl, rfl⟩
        simp only [boxW, slI, slP]
        by_cases hlt : k < c.pins.length
        · (repeat' (first | (refine buildP_own ?_; (simp -dsimp [hlt]; (repeat (simp -dsimp (disch := (first | omega | assumption | (refine Bool.eq_false_iff.1 ?_; assumption))) only [wrap_in, if_pos, if_neg]; (try simp -dsimp [hlt]))))) | (refine callP_of (sIn _ _ _) (.inl rfl) ?_; (simp -dsimp [hlt]; (repeat (simp -dsimp (disch := (first | omega | assumption | (refine Bool.eq_false_iff.1 ?_; assumption))) only [wrap_in, if_pos, if_neg]; (try simp -dsimp [hlt]))))) |  (with_reducible refine st_skip ?_; (try simp only [seqQ, blockQ, loopQ, forQ, whileQ, reduceIte, Nat.reduceEqDiff])) | (with_reducible refine st_exit ?_; (try simp only [seqQ, blockQ, loopQ, forQ, whileQ, reduceIte, Nat.reduceEqDiff])) | (with_reducible refine st_ret ?_; ((try simp only [seqQ, blockQ, loopQ, forQ, whileQ]); refine retQ_ret ?_; simp [hlt])) | refine st_seq ?_ | refine st_block ?_ | (refine st_reg follows ?_; (simp -dsimp [hlt]; (repeat (simp -dsimp (disch := (first | omega | assumption | (refine Bool.eq_false_iff.1 ?_; assumption))) only [wrap_in, if_pos, if_neg]; (try simp -dsimp [hlt]))))) | (refine guardP_of (fun hc => ?_) (fun hc => ?_) <;> (try simp only [decide_eq_true_eq, decide_eq_false_iff_not, Bool.true_eq_false, Bool.false_eq_true, bne_iff_ne, ne_eq, bne_eq_false_iff_eq, beq_iff_eq, beq_eq_false_iff_ne, Bool.not_eq_true, Bool.not_eq_false, Bool.not_eq_eq_eq_not, Bool.not_true, Bool.not_false, Decidable.not_not] at hc) <;> (try (exfalso; first | omega | exact bool_tf hc (by assumption) | exact bool_ft hc (by assumption) | exact absurd (by assumption) hc)) <;> (simp -dsimp [hlt, hc]; (repeat (simp -dsimp (disch := (first | omega | assumption | (refine Bool.eq_false_iff.1 ?_; assumption))) only [wrap_in, if_pos, if_neg]; (try simp -dsimp [hlt, hc]))))) | (refine st_cond rfl (fun hc => ?_) (fun hc => ?_) <;> (try simp only [decide_eq_true_eq, decide_eq_false_iff_not, Bool.true_eq_false, Bool.false_eq_true, bne_iff_ne, ne_eq, bne_eq_false_iff_eq, beq_iff_eq, beq_eq_false_iff_ne, Bool.not_eq_true, Bool.not_eq_false, Bool.not_eq_eq_eq_not, Bool.not_true, Bool.not_false, Decidable.not_not] at hc) <;> (try (exfalso; first | omega | exact bool_tf hc (by assumption) | exact bool_ft hc (by assumption) | exact absurd (by assumption) hc)))))
          · exact bad_bool fun h => by have hp := List.all_eq_true.1 (worksOk_parts h).2.2.2.2.2.2.2.2.2.1 _ (List.getElem_mem hlt); unfold pinOk at hp; rw [Bool.and_eq_true] at hp; first | exact bool_tf hp.1 (by assumption) | exact bool_tf hp.2 (by assumption)
          · refine st_for [1] k (fun m T H => NotTo c.pins c.pins[k] m ∧ T = [(1, .ptr 1 0), (5, .c (I k)), (6, .c (I m))] ∧ H = [(1, boxW c)]) (by simp) ⟨.zero _ _, rfl, rfl⟩ ?_
            rintro m T H hm ⟨hnot, rfl, rfl⟩
            simp only [boxW, slI, slP]
            by_cases hlm : m < k
            · have hlm2 : m < c.pins.length := by omega
              (repeat' (first | (refine buildP_own ?_; (simp -dsimp [hlt, hlm, hlm2]; (repeat (simp -dsimp (disch := (first | omega | assumption | (refine Bool.eq_false_iff.1 ?_; assumption))) only [wrap_in, if_pos, if_neg]; (try simp -dsimp [hlt, hlm, hlm2]))))) | (refine callP_of (sIn _ _ _) (.inl rfl) ?_; (simp -dsimp [hlt, hlm, hlm2]; (repeat (simp -dsimp (disch := (first | omega | assumption | (refine Bool.eq_false_iff.1 ?_; assumption))) only [wrap_in, if_pos, if_neg]; (try simp -dsimp [hlt, hlm, hlm2]))))) |  (with_reducible refine st_skip ?_; (try simp only [seqQ, blockQ, loopQ, forQ, whileQ, reduceIte, Nat.reduceEqDiff])) | (with_reducible refine st_exit ?_; (try simp only [seqQ, blockQ, loopQ, forQ, whileQ, reduceIte, Nat.reduceEqDiff])) | (with_reducible refine st_ret ?_; ((try simp only [seqQ, blockQ, loopQ, forQ, whileQ]); refine retQ_ret ?_; simp [hlt, hlm, hlm2])) | refine st_seq ?_ | refine st_block ?_ | (refine st_reg follows ?_; (simp -dsimp [hlt, hlm, hlm2]; (repeat (simp -dsimp (disch := (first | omega | assumption | (refine Bool.eq_false_iff.1 ?_; assumption))) only [wrap_in, if_pos, if_neg]; (try simp -dsimp [hlt, hlm, hlm2]))))) | (refine guardP_of (fun hc => ?_) (fun hc => ?_) <;> (try simp only [decide_eq_true_eq, decide_eq_false_iff_not, Bool.true_eq_false, Bool.false_eq_true, bne_iff_ne, ne_eq, bne_eq_false_iff_eq, beq_iff_eq, beq_eq_false_iff_ne, Bool.not_eq_true, Bool.not_eq_false, Bool.not_eq_eq_eq_not, Bool.not_true, Bool.not_false, Decidable.not_not] at hc) <;> (try (exfalso; first | omega | exact bool_tf hc (by assumption) | exact bool_ft hc (by assumption) | exact absurd (by assumption) hc)) <;> (simp -dsimp [hlt, hlm, hlm2, hc]; (repeat (simp -dsimp (disch := (first | omega | assumption | (refine Bool.eq_false_iff.1 ?_; assumption))) only [wrap_in, if_pos, if_neg]; (try simp -dsimp [hlt, hlm, hlm2, hc]))))) | (refine st_cond rfl (fun hc => ?_) (fun hc => ?_) <;> (try simp only [decide_eq_true_eq, decide_eq_false_iff_not, Bool.true_eq_false, Bool.false_eq_true, bne_iff_ne, ne_eq, bne_eq_false_iff_eq, beq_iff_eq, beq_eq_false_iff_ne, Bool.not_eq_true, Bool.not_eq_false, Bool.not_eq_eq_eq_not, Bool.not_true, Bool.not_false, Decidable.not_not] at hc) <;> (try (exfalso; first | omega | exact bool_tf hc (by assumption) | exact bool_ft hc (by assumption) | exact absurd (by assumption) hc)))))
              · exact bad_bool fun h => nodup_no hlt hlm (pair_eq hc) (worksOk_parts h).2.2.2.2.2.2.2.2.2.2
              · exact ⟨hlm, by simp, hnot.next hlm2 (pair_ne hc), by simp, rfl⟩
            · (repeat' (first | (refine buildP_own ?_; (simp -dsimp [hlt, hlm]; (repeat (simp -dsimp (disch := (first | omega | assumption | (refine Bool.eq_false_iff.1 ?_; assumption))) only [wrap_in, if_pos, if_neg]; (try simp -dsimp [hlt, hlm]))))) | (refine callP_of (sIn _ _ _) (.inl rfl) ?_; (simp -dsimp [hlt, hlm]; (repeat (simp -dsimp (disch := (first | omega | assumption | (refine Bool.eq_false_iff.1 ?_; assumption))) only [wrap_in, if_pos, if_neg]; (try simp -dsimp [hlt, hlm]))))) |  (with_reducible refine st_skip ?_; (try simp only [seqQ, blockQ, loopQ, forQ, whileQ, reduceIte, Nat.reduceEqDiff])) | (with_reducible refine st_exit ?_; (try simp only [seqQ, blockQ, loopQ, forQ, whileQ, reduceIte, Nat.reduceEqDiff])) | (with_reducible refine st_ret ?_; ((try simp only [seqQ, blockQ, loopQ, forQ, whileQ]); refine retQ_ret ?_; simp [hlt, hlm])) | refine st_seq ?_ | refine st_block ?_ | (refine st_reg follows ?_; (simp -dsimp [hlt, hlm]; (repeat (simp -dsimp (disch := (first | omega | assumption | (refine Bool.eq_false_iff.1 ?_; assumption))) only [wrap_in, if_pos, if_neg]; (try simp -dsimp [hlt, hlm]))))) | (refine guardP_of (fun hc => ?_) (fun hc => ?_) <;> (try simp only [decide_eq_true_eq, decide_eq_false_iff_not, Bool.true_eq_false, Bool.false_eq_true, bne_iff_ne, ne_eq, bne_eq_false_iff_eq, beq_iff_eq, beq_eq_false_iff_ne, Bool.not_eq_true, Bool.not_eq_false, Bool.not_eq_eq_eq_not, Bool.not_true, Bool.not_false, Decidable.not_not] at hc) <;> (try (exfalso; first | omega | exact bool_tf hc (by assumption) | exact bool_ft hc (by assumption) | exact absurd (by assumption) hc)) <;> (simp -dsimp [hlt, hlm, hc]; (repeat (simp -dsimp (disch := (first | omega | assumption | (refine Bool.eq_false_iff.1 ?_; assumption))) only [wrap_in, if_pos, if_neg]; (try simp -dsimp [hlt, hlm, hc]))))) | (refine st_cond rfl (fun hc => ?_) (fun hc => ?_) <;> (try simp only [decide_eq_true_eq, decide_eq_false_iff_not, Bool.true_eq_false, Bool.false_eq_true, bne_iff_ne, ne_eq, bne_eq_false_iff_eq, beq_iff_eq, beq_eq_false_iff_ne, Bool.not_eq_true, Bool.not_eq_false, Bool.not_eq_eq_eq_not, Bool.not_true, Bool.not_false, Decidable.not_not] at hc) <;> (try (exfalso; first | omega | exact bool_tf hc (by assumption) | exact bool_ft hc (by assumption) | exact absurd (by assumption) hc)))))
              exact ⟨hlt, by simp, hall.next hlt (by unfold pinOk; simp [*]), hnod.next hlt hnot hlm hm, by simp, rfl⟩
          all_goals (exact bad_bool fun h => by have hp := List.all_eq_true.1 (worksOk_parts h).2.2.2.2.2.2.2.2.2.1 _ (List.getElem_mem hlt); unfold pinOk at hp; rw [Bool.and_eq_true] at hp; first | exact bool_tf hp.1 (by assumption) | exact bool_tf hp.2 (by assumption))
        · have hpins := hall.done hlt
          have hnd := hnod.done hlt
          (repeat' (first | (refine buildP_own ?_; (simp -dsimp [hlt]; (repeat (simp -dsimp (disch := (first | omega | assumption | (refine Bool.eq_false_iff.1 ?_; assumption))) only [wrap_in, if_pos, if_neg]; (try simp -dsimp [hlt]))))) | (refine callP_of (sIn _ _ _) (.inl rfl) ?_; (simp -dsimp [hlt]; (repeat (simp -dsimp (disch := (first | omega | assumption | (refine Bool.eq_false_iff.1 ?_; assumption))) only [wrap_in, if_pos, if_neg]; (try simp -dsimp [hlt]))))) |  (with_reducible refine st_skip ?_; (try simp only [seqQ, blockQ, loopQ, forQ, whileQ, reduceIte, Nat.reduceEqDiff])) | (with_reducible refine st_exit ?_; (try simp only [seqQ, blockQ, loopQ, forQ, whileQ, reduceIte, Nat.reduceEqDiff])) | (with_reducible refine st_ret ?_; ((try simp only [seqQ, blockQ, loopQ, forQ, whileQ]); refine retQ_ret ?_; simp [hlt])) | refine st_seq ?_ | refine st_block ?_ | (refine st_reg follows ?_; (simp -dsimp [hlt]; (repeat (simp -dsimp (disch := (first | omega | assumption | (refine Bool.eq_false_iff.1 ?_; assumption))) only [wrap_in, if_pos, if_neg]; (try simp -dsimp [hlt]))))) | (refine guardP_of (fun hc => ?_) (fun hc => ?_) <;> (try simp only [decide_eq_true_eq, decide_eq_false_iff_not, Bool.true_eq_false, Bool.false_eq_true, bne_iff_ne, ne_eq, bne_eq_false_iff_eq, beq_iff_eq, beq_eq_false_iff_ne, Bool.not_eq_true, Bool.not_eq_false, Bool.not_eq_eq_eq_not, Bool.not_true, Bool.not_false, Decidable.not_not] at hc) <;> (try (exfalso; first | omega | exact bool_tf hc (by assumption) | exact bool_ft hc (by assumption) | exact absurd (by assumption) hc)) <;> (simp -dsimp [hlt, hc]; (repeat (simp -dsimp (disch := (first | omega | assumption | (refine Bool.eq_false_iff.1 ?_; assumption))) only [wrap_in, if_pos, if_neg]; (try simp -dsimp [hlt, hc]))))) | (refine st_cond rfl (fun hc => ?_) (fun hc => ?_) <;> (try simp only [decide_eq_true_eq, decide_eq_false_iff_not, Bool.true_eq_false, Bool.false_eq_true, bne_iff_ne, ne_eq, bne_eq_false_iff_eq, beq_iff_eq, beq_eq_false_iff_ne, Bool.not_eq_true, Bool.not_eq_false, Bool.not_eq_eq_eq_not, Bool.not_true, Bool.not_false, Decidable.not_not] at hc) <;> (try (exfalso; first | omega | exact bool_tf hc (by assumption) | exact bool_ft hc (by assumption) | exact absurd (by assumption) hc)))))
          exact CLe.bool (by simp [worksOk, partsOk, *])
  all_goals (refine bad_bool fun h => ?_; obtain ⟨p1, p2, p3, p4, p5, p6, p7, p8, p9, p10, p11⟩ := worksOk_parts h; clear h p5 p8 p10; first | omega | (simp_all; done))

theorem Wk.ext' {a b : Wk} (h1 : a.steps = b.steps) (h2 : a.sections = b.sections) (h3 : a.tunes = b.tunes) (h4 : a.runs = b.runs) (h5 : a.hammers = b.hammers) (h6 : a.pins = b.pins) : a = b := by cases a; cases b; simp_all
def SamTo {α : Type} (xs ys : List α) (k : Nat) : Prop := xs.take k = ys.take k
theorem SamTo.zero {α : Type} (xs ys : List α) : SamTo xs ys 0 := by simp [SamTo]
theorem SamTo.next {α : Type} {xs ys : List α} {k : Nat} (h : SamTo xs ys k) (h1 : k < xs.length) (h2 : k < ys.length) (he : xs[k] = ys[k]) : SamTo xs ys (k + 1) := take_eq h h1 h2 he
theorem SamTo.done {α : Type} {xs ys : List α} {k : Nat} (h : SamTo xs ys k) (h1 : ¬ k < xs.length) (h2 : xs.length = ys.length) : xs = ys := by
  unfold SamTo at h; rw [List.take_of_length_le (by omega), List.take_of_length_le (by omega)] at h; exact h
theorem pair_eq' {x y : Int × Int} (h : (x.1 == y.1) = true ∧ (x.2 == y.2) = true) : x = y := by simp at h; exact Prod.ext h.1 h.2
instance : DecidableEq Wk := fun a b => decidable_of_iff (a.steps = b.steps ∧ a.sections = b.sections ∧ a.tunes = b.tunes ∧ a.runs = b.runs ∧ a.hammers = b.hammers ∧ a.pins = b.pins)
  ⟨fun ⟨h1, h2, h3, h4, h5, h6⟩ => Wk.ext' h1 h2 h3 h4 h5 h6, fun h => by subst h; simp⟩

set_option maxRecDepth 100000 in
set_option maxHeartbeats 2000000 in
theorem sSame (a b : Wk) (h1 : a.runs.length ≤ 1000000) (h2 : b.runs.length ≤ 1000000) (h3 : a.hammers.length ≤ 1000000) (h4 : b.hammers.length ≤ 1000000) (h5 : a.pins.length ≤ 1000000) (h6 : b.pins.length ≤ 1000000) :
    SC Try.prog 19 [cWk a, cWk b] (B (decide (a = b))) := by
  refine law19 _ _ (by simp) ?_
  unfold cWk slI
  (repeat' (first | (refine buildP_own ?_; (simp -dsimp; (repeat (simp -dsimp (disch := (first | omega | assumption | (refine Bool.eq_false_iff.1 ?_; assumption))) only [wrap_in, if_pos, if_neg]; (try simp -dsimp))))) | (refine callP_of (sInts _ _ h1 h2) (.inl rfl) ?_; (simp -dsimp; (repeat (simp -dsimp (disch := (first | omega | assumption | (refine Bool.eq_false_iff.1 ?_; assumption))) only [wrap_in, if_pos, if_neg]; (try simp -dsimp))))) | (refine callP_of (sHammered _ _ h3 h4) (.inl rfl) ?_; (simp -dsimp; (repeat (simp -dsimp (disch := (first | omega | assumption | (refine Bool.eq_false_iff.1 ?_; assumption))) only [wrap_in, if_pos, if_neg]; (try simp -dsimp))))) |  (with_reducible refine st_skip ?_; (try simp only [seqQ, blockQ, loopQ, forQ, whileQ, reduceIte, Nat.reduceEqDiff])) | (with_reducible refine st_exit ?_; (try simp only [seqQ, blockQ, loopQ, forQ, whileQ, reduceIte, Nat.reduceEqDiff])) | (with_reducible refine st_ret ?_; ((try simp only [seqQ, blockQ, loopQ, forQ, whileQ]); refine retQ_ret ?_; simp)) | refine st_seq ?_ | refine st_block ?_ | (refine st_reg follows ?_; (simp -dsimp; (repeat (simp -dsimp (disch := (first | omega | assumption | (refine Bool.eq_false_iff.1 ?_; assumption))) only [wrap_in, if_pos, if_neg]; (try simp -dsimp))))) | (refine guardP_of (fun hc => ?_) (fun hc => ?_) <;> (try simp only [decide_eq_true_eq, decide_eq_false_iff_not, Bool.true_eq_false, Bool.false_eq_true, bne_iff_ne, ne_eq, bne_eq_false_iff_eq, beq_iff_eq, beq_eq_false_iff_ne, Bool.not_eq_true, Bool.not_eq_false, Bool.not_eq_eq_eq_not, Bool.not_true, Bool.not_false, Decidable.not_not] at hc) <;> (try (exfalso; first | omega | exact bool_tf hc (by assumption) | exact bool_ft hc (by assumption) | exact absurd (by assumption) hc)) <;> (simp -dsimp [hc]; (repeat (simp -dsimp (disch := (first | omega | assumption | (refine Bool.eq_false_iff.1 ?_; assumption))) only [wrap_in, if_pos, if_neg]; (try simp -dsimp [hc]))))) | (refine st_cond rfl (fun hc => ?_) (fun hc => ?_) <;> (try simp only [decide_eq_true_eq, decide_eq_false_iff_not, Bool.true_eq_false, Bool.false_eq_true, bne_iff_ne, ne_eq, bne_eq_false_iff_eq, beq_iff_eq, beq_eq_false_iff_ne, Bool.not_eq_true, Bool.not_eq_false, Bool.not_eq_eq_eq_not, Bool.not_true, Bool.not_false, Decidable.not_not] at hc) <;> (try (exfalso; first | omega | exact bool_tf hc (by assumption) | exact bool_ft hc (by assumption) | exact absurd (by assumption) hc)))))
  any_goals (refine bad_bool fun h => ?_; have e := of_decide_eq_true h; subst e; first | omega | (simp at *; done) | (simp_all; done))
  have hl : a.pins.length = b.pins.length := by omega
  have hr : a.runs = b.runs := by simp_all
  have hh : a.hammers = b.hammers := by simp_all
  have q1 : a.steps = b.steps := by simp_all
  have q2 : a.sections = b.sections := by simp_all
  have q3 : a.tunes = b.tunes := by simp_all
  refine st_for [2, 3] a.pins.length (fun k T H => SamTo a.pins b.pins k ∧ T = [(2, .ptr 2 0), (3, .ptr 3 0), (5, .c (I k))] ∧ H = [(2, boxW a), (3, boxW b)]) (by simp) ⟨.zero _ _, rfl, by simp [boxW, hh, hr, q1, q2, q3]⟩ ?_
  rintro k T H hk ⟨hsam, rfl, rfl⟩
  simp only [boxW, slI, slP]
  by_cases hlt : k < a.pins.length
  · have hlb : k < b.pins.length := by omega
    (repeat' (first | (refine buildP_own ?_; (simp -dsimp [hlt, hlb]; (repeat (simp -dsimp (disch := (first | omega | assumption | (refine Bool.eq_false_iff.1 ?_; assumption))) only [wrap_in, if_pos, if_neg]; (try simp -dsimp [hlt, hlb]))))) |  (with_reducible refine st_skip ?_; (try simp only [seqQ, blockQ, loopQ, forQ, whileQ, reduceIte, Nat.reduceEqDiff])) | (with_reducible refine st_exit ?_; (try simp only [seqQ, blockQ, loopQ, forQ, whileQ, reduceIte, Nat.reduceEqDiff])) | (with_reducible refine st_ret ?_; ((try simp only [seqQ, blockQ, loopQ, forQ, whileQ]); refine retQ_ret ?_; simp [hlt, hlb])) | refine st_seq ?_ | refine st_block ?_ | (refine st_reg follows ?_; (simp -dsimp [hlt, hlb]; (repeat (simp -dsimp (disch := (first | omega | assumption | (refine Bool.eq_false_iff.1 ?_; assumption))) only [wrap_in, if_pos, if_neg]; (try simp -dsimp [hlt, hlb]))))) | (refine guardP_of (fun hc => ?_) (fun hc => ?_) <;> (try simp only [decide_eq_true_eq, decide_eq_false_iff_not, Bool.true_eq_false, Bool.false_eq_true, bne_iff_ne, ne_eq, bne_eq_false_iff_eq, beq_iff_eq, beq_eq_false_iff_ne, Bool.not_eq_true, Bool.not_eq_false, Bool.not_eq_eq_eq_not, Bool.not_true, Bool.not_false, Decidable.not_not] at hc) <;> (try (exfalso; first | omega | exact bool_tf hc (by assumption) | exact bool_ft hc (by assumption) | exact absurd (by assumption) hc)) <;> (simp -dsimp [hlt, hlb, hc]; (repeat (simp -dsimp (disch := (first | omega | assumption | (refine Bool.eq_false_iff.1 ?_; assumption))) only [wrap_in, if_pos, if_neg]; (try simp -dsimp [hlt, hlb, hc]))))) | (refine st_cond rfl (fun hc => ?_) (fun hc => ?_) <;> (try simp only [decide_eq_true_eq, decide_eq_false_iff_not, Bool.true_eq_false, Bool.false_eq_true, bne_iff_ne, ne_eq, bne_eq_false_iff_eq, beq_iff_eq, beq_eq_false_iff_ne, Bool.not_eq_true, Bool.not_eq_false, Bool.not_eq_eq_eq_not, Bool.not_true, Bool.not_false, Decidable.not_not] at hc) <;> (try (exfalso; first | omega | exact bool_tf hc (by assumption) | exact bool_ft hc (by assumption) | exact absurd (by assumption) hc)))))
    · exact bad_bool fun h => by have e := of_decide_eq_true h; subst e; simp at hc
    · exact ⟨hlt, by simp, hsam.next hlt hlb (by simp at hc; exact Prod.ext hc.1 hc.2), by simp, rfl⟩
  · (repeat' (first | (refine buildP_own ?_; (simp -dsimp [hlt]; (repeat (simp -dsimp (disch := (first | omega | assumption | (refine Bool.eq_false_iff.1 ?_; assumption))) only [wrap_in, if_pos, if_neg]; (try simp -dsimp [hlt]))))) |  (with_reducible refine st_skip ?_; (try simp only [seqQ, blockQ, loopQ, forQ, whileQ, reduceIte, Nat.reduceEqDiff])) | (with_reducible refine st_exit ?_; (try simp only [seqQ, blockQ, loopQ, forQ, whileQ, reduceIte, Nat.reduceEqDiff])) | (with_reducible refine st_ret ?_; ((try simp only [seqQ, blockQ, loopQ, forQ, whileQ]); refine retQ_ret ?_; simp [hlt])) | refine st_seq ?_ | refine st_block ?_ | (refine st_reg follows ?_; (simp -dsimp [hlt]; (repeat (simp -dsimp (disch := (first | omega | assumption | (refine Bool.eq_false_iff.1 ?_; assumption))) only [wrap_in, if_pos, if_neg]; (try simp -dsimp [hlt]))))) | (refine guardP_of (fun hc => ?_) (fun hc => ?_) <;> (try simp only [decide_eq_true_eq, decide_eq_false_iff_not, Bool.true_eq_false, Bool.false_eq_true, bne_iff_ne, ne_eq, bne_eq_false_iff_eq, beq_iff_eq, beq_eq_false_iff_ne, Bool.not_eq_true, Bool.not_eq_false, Bool.not_eq_eq_eq_not, Bool.not_true, Bool.not_false, Decidable.not_not] at hc) <;> (try (exfalso; first | omega | exact bool_tf hc (by assumption) | exact bool_ft hc (by assumption) | exact absurd (by assumption) hc)) <;> (simp -dsimp [hlt, hc]; (repeat (simp -dsimp (disch := (first | omega | assumption | (refine Bool.eq_false_iff.1 ?_; assumption))) only [wrap_in, if_pos, if_neg]; (try simp -dsimp [hlt, hc]))))) | (refine st_cond rfl (fun hc => ?_) (fun hc => ?_) <;> (try simp only [decide_eq_true_eq, decide_eq_false_iff_not, Bool.true_eq_false, Bool.false_eq_true, bne_iff_ne, ne_eq, bne_eq_false_iff_eq, beq_iff_eq, beq_eq_false_iff_ne, Bool.not_eq_true, Bool.not_eq_false, Bool.not_eq_eq_eq_not, Bool.not_true, Bool.not_false, Decidable.not_not] at hc) <;> (try (exfalso; first | omega | exact bool_tf hc (by assumption) | exact bool_ft hc (by assumption) | exact absurd (by assumption) hc)))))
    exact CLe.bool (decide_eq_true (Wk.ext' q1 q2 q3 hr hh (hsam.done hlt hl))).symm

set_option maxRecDepth 100000 in
set_option maxHeartbeats 2000000 in
theorem sRun (c : Wk) (t n s : Int) : SC Try.prog 24 [cWk c, I t, I n, I s] (I (runErr c t n s)) := by
  refine law24 _ _ (by simp) ?_
  unfold cWk slI slP
  cases hok : worksOk c with
  | false =>
    (repeat' (first | (refine buildP_own ?_; (simp -dsimp [hok]; (repeat (simp -dsimp (disch := (first | omega | assumption | (refine Bool.eq_false_iff.1 ?_; assumption))) only [wrap_in, if_pos, if_neg]; (try simp -dsimp [hok]))))) | (refine callP_of (sWorks c) (.inl rfl) ?_; (simp -dsimp [hok]; (repeat (simp -dsimp (disch := (first | omega | assumption | (refine Bool.eq_false_iff.1 ?_; assumption))) only [wrap_in, if_pos, if_neg]; (try simp -dsimp [hok]))))) |  (with_reducible refine st_skip ?_; (try simp only [seqQ, blockQ, loopQ, forQ, whileQ, reduceIte, Nat.reduceEqDiff])) | (with_reducible refine st_exit ?_; (try simp only [seqQ, blockQ, loopQ, forQ, whileQ, reduceIte, Nat.reduceEqDiff])) | (with_reducible refine st_ret ?_; ((try simp only [seqQ, blockQ, loopQ, forQ, whileQ]); refine retQ_ret ?_; simp [hok])) | refine st_seq ?_ | refine st_block ?_ | (refine st_reg follows ?_; (simp -dsimp [hok]; (repeat (simp -dsimp (disch := (first | omega | assumption | (refine Bool.eq_false_iff.1 ?_; assumption))) only [wrap_in, if_pos, if_neg]; (try simp -dsimp [hok]))))) | (refine guardP_of (fun hc => ?_) (fun hc => ?_) <;> (try simp only [decide_eq_true_eq, decide_eq_false_iff_not, Bool.true_eq_false, Bool.false_eq_true, bne_iff_ne, ne_eq, bne_eq_false_iff_eq, beq_iff_eq, beq_eq_false_iff_ne, Bool.not_eq_true, Bool.not_eq_false, Bool.not_eq_eq_eq_not, Bool.not_true, Bool.not_false, Decidable.not_not] at hc) <;> (try (exfalso; first | omega | exact bool_tf hc (by assumption) | exact bool_ft hc (by assumption) | exact absurd (by assumption) hc)) <;> (simp -dsimp [hok, hc]; (repeat (simp -dsimp (disch := (first | omega | assumption | (refine Bool.eq_false_iff.1 ?_; assumption))) only [wrap_in, if_pos, if_neg]; (try simp -dsimp [hok, hc]))))) | (refine st_cond rfl (fun hc => ?_) (fun hc => ?_) <;> (try simp only [decide_eq_true_eq, decide_eq_false_iff_not, Bool.true_eq_false, Bool.false_eq_true, bne_iff_ne, ne_eq, bne_eq_false_iff_eq, beq_iff_eq, beq_eq_false_iff_ne, Bool.not_eq_true, Bool.not_eq_false, Bool.not_eq_eq_eq_not, Bool.not_true, Bool.not_false, Decidable.not_not] at hc) <;> (try (exfalso; first | omega | exact bool_tf hc (by assumption) | exact bool_ft hc (by assumption) | exact absurd (by assumption) hc)))))
    exact CLe.int (by simp [runErr, hok])
  | true =>
    obtain ⟨p1, p2, p3, p4, p5, p6, p7, p8, p9, p10, p11⟩ := worksOk_parts hok
    have i1 := inn_iff.1 p1
    have i2 := inn_iff.1 p2
    have i4 := inn_iff.1 p4
    have i6 := inn_iff.1 p6
    have hw1 : IntKind.i64.wrap (c.tunes - 1) = c.tunes - 1 := wrap_in _ (by omega) (by omega)
    have hw2 : IntKind.i64.wrap ((c.runs.length : Int) - 1) = (c.runs.length : Int) - 1 := wrap_in _ (by omega) (by omega)
    have hw3 : IntKind.i64.wrap (c.sections - 1) = c.sections - 1 := wrap_in _ (by omega) (by omega)
    (repeat' (first | (refine buildP_own ?_; (simp -dsimp [hok, hw1, hw2, hw3]; (repeat (simp -dsimp (disch := (first | omega | assumption | (refine Bool.eq_false_iff.1 ?_; assumption))) only [wrap_in, if_pos, if_neg]; (try simp -dsimp [hok, hw1, hw2, hw3]))))) | (refine callP_of (sIn _ _ _) (.inl rfl) ?_; (simp -dsimp [hok, hw1, hw2, hw3]; (repeat (simp -dsimp (disch := (first | omega | assumption | (refine Bool.eq_false_iff.1 ?_; assumption))) only [wrap_in, if_pos, if_neg]; (try simp -dsimp [hok, hw1, hw2, hw3]))))) | (refine callP_of (sWorks c) (.inl rfl) ?_; (simp -dsimp [hok, hw1, hw2, hw3]; (repeat (simp -dsimp (disch := (first | omega | assumption | (refine Bool.eq_false_iff.1 ?_; assumption))) only [wrap_in, if_pos, if_neg]; (try simp -dsimp [hok, hw1, hw2, hw3]))))) |  (with_reducible refine st_skip ?_; (try simp only [seqQ, blockQ, loopQ, forQ, whileQ, reduceIte, Nat.reduceEqDiff])) | (with_reducible refine st_exit ?_; (try simp only [seqQ, blockQ, loopQ, forQ, whileQ, reduceIte, Nat.reduceEqDiff])) | (with_reducible refine st_ret ?_; ((try simp only [seqQ, blockQ, loopQ, forQ, whileQ]); refine retQ_ret ?_; simp [hok, hw1, hw2, hw3])) | refine st_seq ?_ | refine st_block ?_ | (refine st_reg follows ?_; (simp -dsimp [hok, hw1, hw2, hw3]; (repeat (simp -dsimp (disch := (first | omega | assumption | (refine Bool.eq_false_iff.1 ?_; assumption))) only [wrap_in, if_pos, if_neg]; (try simp -dsimp [hok, hw1, hw2, hw3]))))) | (refine guardP_of (fun hc => ?_) (fun hc => ?_) <;> (try simp only [decide_eq_true_eq, decide_eq_false_iff_not, Bool.true_eq_false, Bool.false_eq_true, bne_iff_ne, ne_eq, bne_eq_false_iff_eq, beq_iff_eq, beq_eq_false_iff_ne, Bool.not_eq_true, Bool.not_eq_false, Bool.not_eq_eq_eq_not, Bool.not_true, Bool.not_false, Decidable.not_not] at hc) <;> (try (exfalso; first | omega | exact bool_tf hc (by assumption) | exact bool_ft hc (by assumption) | exact absurd (by assumption) hc)) <;> (simp -dsimp [hok, hw1, hw2, hw3, hc]; (repeat (simp -dsimp (disch := (first | omega | assumption | (refine Bool.eq_false_iff.1 ?_; assumption))) only [wrap_in, if_pos, if_neg]; (try simp -dsimp [hok, hw1, hw2, hw3, hc]))))) | (refine st_cond rfl (fun hc => ?_) (fun hc => ?_) <;> (try simp only [decide_eq_true_eq, decide_eq_false_iff_not, Bool.true_eq_false, Bool.false_eq_true, bne_iff_ne, ne_eq, bne_eq_false_iff_eq, beq_iff_eq, beq_eq_false_iff_ne, Bool.not_eq_true, Bool.not_eq_false, Bool.not_eq_eq_eq_not, Bool.not_true, Bool.not_false, Decidable.not_not] at hc) <;> (try (exfalso; first | omega | exact bool_tf hc (by assumption) | exact bool_ft hc (by assumption) | exact absurd (by assumption) hc)))))
    all_goals (exact CLe.int (by simp [runErr, *]))

end Go.Proofs.Ytdgplebmlggmcaa
/- References, III: Plays, Heard. -/
namespace Go.Proofs.Ytdgplebmlggmcaa
open Go.RowKit

def hitB (c : Wk) (t s : Int) (n h : Nat) (p : Int × Int) : Bool := (p.1 == (h : Int) * c.tunes + t) && (p.2 == (s * (c.steps / c.sections) + n) % c.steps)
def hits (c : Wk) (t s : Int) (n h i : Nat) : List (Int × Int) := ((c.pins.take i).filter (hitB c t s n h)).map fun _ => ((n : Int), (c.hammers.getD h (0, 0)).1)
def hitsH (c : Wk) (t s : Int) (n h : Nat) : List (Int × Int) := (List.range h).flatMap fun h => hits c t s n h c.pins.length
def hitsN (c : Wk) (t s : Int) (n : Nat) : List (Int × Int) := (List.range n).flatMap fun n => hitsH c t s n c.hammers.length
def hitsAt (c : Wk) (t s : Int) (n h i : Nat) : List (Int × Int) := hitsN c t s n ++ (hitsH c t s n h ++ hits c t s n h i)
def rPlays (c : Wk) (t m s : Int) : List (Int × Int) := hitsN c t s (m * (c.steps / c.sections)).toNat

theorem hits_len (c : Wk) (t s : Int) (n h i : Nat) : (hits c t s n h i).length ≤ c.pins.length := by
  unfold hits; rw [List.length_map]; exact Nat.le_trans (List.length_filter_le _ _) (by rw [List.length_take]; omega)
theorem hitsH_len (c : Wk) (t s : Int) (n h : Nat) : (hitsH c t s n h).length ≤ h * c.pins.length := by
  induction h with
  | zero => simp [hitsH]
  | succ h ih =>
    have e : hitsH c t s n (h + 1) = hitsH c t s n h ++ hits c t s n h c.pins.length := by unfold hitsH; rw [List.range_succ, List.flatMap_append]; simp
    have := hits_len c t s n h c.pins.length
    rw [e, List.length_append, Nat.succ_mul]; omega
theorem hitsN_len (c : Wk) (t s : Int) (n : Nat) : (hitsN c t s n).length ≤ n * (c.hammers.length * c.pins.length) := by
  induction n with
  | zero => simp [hitsN]
  | succ n ih =>
    have e : hitsN c t s (n + 1) = hitsN c t s n ++ hitsH c t s n c.hammers.length := by unfold hitsN; rw [List.range_succ, List.flatMap_append]; simp
    have := hitsH_len c t s n c.hammers.length
    rw [e, List.length_append, Nat.succ_mul]; omega
theorem hitsAt_len (c : Wk) (t s : Int) (n h i : Nat) (h1 : n ≤ 1000) (h2 : h ≤ c.hammers.length) (h3 : c.hammers.length ≤ 40) (h4 : c.pins.length ≤ 400) : (hitsAt c t s n h i).length ≤ 20000000 := by
  unfold hitsAt
  have a1 := hitsN_len c t s n
  have a2 := hitsH_len c t s n h
  have a3 := hits_len c t s n h i
  have b1 : c.hammers.length * c.pins.length ≤ 40 * 400 := Nat.mul_le_mul h3 h4
  have b2 : n * (c.hammers.length * c.pins.length) ≤ 1000 * (40 * 400) := Nat.mul_le_mul h1 b1
  have b3 : h * c.pins.length ≤ 40 * 400 := Nat.mul_le_mul (by omega) h4
  rw [List.length_append, List.length_append]; omega
theorem hitsAt_yes {c : Wk} {t s : Int} {n h i : Nat} (hi : i < c.pins.length) (hh : h < c.hammers.length) (hb : hitB c t s n h c.pins[i] = true) : hitsAt c t s n h (i + 1) = hitsAt c t s n h i ++ [((n : Int), c.hammers[h].1)] := by
  unfold hitsAt hits
  rw [List.take_succ_eq_append_getElem hi, List.filter_append, List.map_append, List.getD_eq_getElem?_getD, List.getElem?_eq_getElem hh]
  simp [hb]
theorem hitsAt_no {c : Wk} {t s : Int} {n h i : Nat} (hi : i < c.pins.length) (hb : hitB c t s n h c.pins[i] = false) : hitsAt c t s n h (i + 1) = hitsAt c t s n h i := by
  unfold hitsAt hits
  rw [List.take_succ_eq_append_getElem hi, List.filter_append, List.map_append]
  simp [hb]
theorem hitsAt_h (c : Wk) (t s : Int) (n h i : Nat) (hi : ¬ i < c.pins.length) : hitsAt c t s n (h + 1) 0 = hitsAt c t s n h i := by
  unfold hitsAt hitsH
  rw [List.range_succ, List.flatMap_append]
  simp [hits]
  rw [List.take_of_length_le (by omega)]
theorem hitsAt_n (c : Wk) (t s : Int) (n h : Nat) (hh : h = c.hammers.length) : hitsAt c t s (n + 1) 0 0 = hitsAt c t s n h 0 := by
  unfold hitsAt hitsN
  rw [List.range_succ, List.flatMap_append]
  simp [hits, hh, hitsH]
theorem hitsAt_zero (c : Wk) (t s : Int) : hitsAt c t s 0 0 0 = [] := by simp [hitsAt, hitsN, hitsH, hits]
theorem hitsAt_end (c : Wk) (t s : Int) (n : Nat) : hitsAt c t s n 0 0 = hitsN c t s n := by simp [hitsAt, hitsH, hits]

set_option maxRecDepth 100000 in
set_option maxHeartbeats 2000000 in
theorem sPlays (c : Wk) (t m s : Int) (hok : worksOk c = true) (ht : inn 0 (c.tunes - 1) t = true) (hm : inn 0 c.sections m = true) (hs : inn 0 (c.sections - 1) s = true) :
    SC Try.prog 27 [cWk c, I t, I m, I s] (slP (rPlays c t m s)) := by
  obtain ⟨p1, p2, p3, p4, p5, p6, p7, p8, p9, p10, p11⟩ := worksOk_parts hok
  have i1 := inn_iff.1 p1
  have i2 := inn_iff.1 p2
  have i6 := inn_iff.1 p6
  have i7 := inn_iff.1 p7
  have it := inn_iff.1 ht
  have im := inn_iff.1 hm
  have is := inn_iff.1 hs
  clear p1 p2 p4 p5 p6 p7 p8 p10 p11 ht hm hs hok
  have hs0 : ¬ c.sections = 0 := by omega
  have hst0 : ¬ c.steps = 0 := by omega
  obtain ⟨z, hz⟩ : ∃ z, c.steps / c.sections = z := ⟨_, rfl⟩
  have hz1 : z * c.sections = c.steps := by rw [← hz]; exact Int.ediv_mul_cancel (Int.dvd_of_emod_eq_zero p3)
  have hz0 : 0 ≤ z := by rw [← hz]; exact Int.ediv_nonneg (by omega) (by omega)
  have hz2 : z ≤ c.steps := by rw [← hz]; exact Int.ediv_le_self _ (by omega)
  have hmz : m * z ≤ c.steps := by rw [← hz1, Int.mul_comm]; exact Int.mul_le_mul_of_nonneg_left im.2 hz0
  have hsz : s * z ≤ c.steps := by rw [← hz1, Int.mul_comm]; exact Int.mul_le_mul_of_nonneg_left (by omega) hz0
  have hsz0 : 0 ≤ s * z := Int.mul_nonneg is.1 hz0
  obtain ⟨K, hK⟩ := Int.eq_ofNat_of_zero_le (Int.mul_nonneg im.1 hz0)
  have r1 : IntKind.i64.wrap (c.steps.tdiv c.sections) = z := by rw [Int.tdiv_eq_ediv_of_nonneg (by omega), hz]; exact wrap_in _ (by omega) (by omega)
  have r2 : IntKind.i64.wrap (m * z) = (K : Int) := by rw [hK]; exact wrap_in _ (by omega) (by omega)
  have r3 : IntKind.i64.wrap (s * z) = s * z := wrap_in _ (by omega) (by omega)
  have er : rPlays c t m s = hitsN c t s K := by unfold rPlays; rw [hz, hK]; rfl
  rw [er]
  refine law27 _ _ (by simp) ?_
  unfold cWk slI slP
  (repeat' (first | (refine buildP_own ?_; (simp -dsimp [hs0, r1]; (repeat (simp -dsimp (disch := (first | omega | assumption | (refine Bool.eq_false_iff.1 ?_; assumption))) only [wrap_in, if_pos, if_neg]; (try simp -dsimp [hs0, r1]))))) |  (with_reducible refine st_skip ?_; (try simp only [seqQ, blockQ, loopQ, forQ, whileQ, reduceIte, Nat.reduceEqDiff])) | (with_reducible refine st_exit ?_; (try simp only [seqQ, blockQ, loopQ, forQ, whileQ, reduceIte, Nat.reduceEqDiff])) | (with_reducible refine st_ret ?_; ((try simp only [seqQ, blockQ, loopQ, forQ, whileQ]); refine retQ_ret ?_; simp [hs0, r1])) | refine st_seq ?_ | refine st_block ?_ | (refine st_reg follows ?_; (simp -dsimp [hs0, r1]; (repeat (simp -dsimp (disch := (first | omega | assumption | (refine Bool.eq_false_iff.1 ?_; assumption))) only [wrap_in, if_pos, if_neg]; (try simp -dsimp [hs0, r1]))))) | (refine guardP_of (fun hc => ?_) (fun hc => ?_) <;> (try simp only [decide_eq_true_eq, decide_eq_false_iff_not, Bool.true_eq_false, Bool.false_eq_true, bne_iff_ne, ne_eq, bne_eq_false_iff_eq, beq_iff_eq, beq_eq_false_iff_ne, Bool.not_eq_true, Bool.not_eq_false, Bool.not_eq_eq_eq_not, Bool.not_true, Bool.not_false, Decidable.not_not] at hc) <;> (try (exfalso; first | omega | exact bool_tf hc (by assumption) | exact bool_ft hc (by assumption) | exact absurd (by assumption) hc)) <;> (simp -dsimp [hs0, r1, hc]; (repeat (simp -dsimp (disch := (first | omega | assumption | (refine Bool.eq_false_iff.1 ?_; assumption))) only [wrap_in, if_pos, if_neg]; (try simp -dsimp [hs0, r1, hc]))))) | (refine st_cond rfl (fun hc => ?_) (fun hc => ?_) <;> (try simp only [decide_eq_true_eq, decide_eq_false_iff_not, Bool.true_eq_false, Bool.false_eq_true, bne_iff_ne, ne_eq, bne_eq_false_iff_eq, beq_iff_eq, beq_eq_false_iff_ne, Bool.not_eq_true, Bool.not_eq_false, Bool.not_eq_eq_eq_not, Bool.not_true, Bool.not_false, Decidable.not_not] at hc) <;> (try (exfalso; first | omega | exact bool_tf hc (by assumption) | exact bool_ft hc (by assumption) | exact absurd (by assumption) hc)))))
  refine st_for [4, 14] K (fun n T H => T = [(1, .c (I t)), (2, .c (I m)), (3, .c (I s)), (4, .ptr 4 0), (9, .own 14 (hitsAt c t s n 0 0).length), (10, .c (I z)), (11, .c (I n))] ∧ H = [(4, boxW c), (14, .arr 66 2 ((hitsAt c t s n 0 0).map rowP))]) (by simp) ⟨by simp [hitsAt_zero], by simp [hitsAt_zero, boxW]⟩ ?_
  rintro n T H hn ⟨rfl, rfl⟩
  simp only [boxW, slI, slP]
  by_cases hlt : n < K
  · (repeat' (first | (refine buildP_own ?_; (simp -dsimp [hlt, r2]; (repeat (simp -dsimp (disch := (first | omega | assumption | (refine Bool.eq_false_iff.1 ?_; assumption))) only [wrap_in, if_pos, if_neg]; (try simp -dsimp [hlt, r2]))))) |  (with_reducible refine st_skip ?_; (try simp only [seqQ, blockQ, loopQ, forQ, whileQ, reduceIte, Nat.reduceEqDiff])) | (with_reducible refine st_exit ?_; (try simp only [seqQ, blockQ, loopQ, forQ, whileQ, reduceIte, Nat.reduceEqDiff])) | (with_reducible refine st_ret ?_; ((try simp only [seqQ, blockQ, loopQ, forQ, whileQ]); refine retQ_ret ?_; simp [hlt, r2])) | refine st_seq ?_ | refine st_block ?_ | (refine st_reg follows ?_; (simp -dsimp [hlt, r2]; (repeat (simp -dsimp (disch := (first | omega | assumption | (refine Bool.eq_false_iff.1 ?_; assumption))) only [wrap_in, if_pos, if_neg]; (try simp -dsimp [hlt, r2]))))) | (refine guardP_of (fun hc => ?_) (fun hc => ?_) <;> (try simp only [decide_eq_true_eq, decide_eq_false_iff_not, Bool.true_eq_false, Bool.false_eq_true, bne_iff_ne, ne_eq, bne_eq_false_iff_eq, beq_iff_eq, beq_eq_false_iff_ne, Bool.not_eq_true, Bool.not_eq_false, Bool.not_eq_eq_eq_not, Bool.not_true, Bool.not_false, Decidable.not_not] at hc) <;> (try (exfalso; first | omega | exact bool_tf hc (by assumption) | exact bool_ft hc (by assumption) | exact absurd (by assumption) hc)) <;> (simp -dsimp [hlt, r2, hc]; (repeat (simp -dsimp (disch := (first | omega | assumption | (refine Bool.eq_false_iff.1 ?_; assumption))) only [wrap_in, if_pos, if_neg]; (try simp -dsimp [hlt, r2, hc]))))) | (refine st_cond rfl (fun hc => ?_) (fun hc => ?_) <;> (try simp only [decide_eq_true_eq, decide_eq_false_iff_not, Bool.true_eq_false, Bool.false_eq_true, bne_iff_ne, ne_eq, bne_eq_false_iff_eq, beq_iff_eq, beq_eq_false_iff_ne, Bool.not_eq_true, Bool.not_eq_false, Bool.not_eq_eq_eq_not, Bool.not_true, Bool.not_false, Decidable.not_not] at hc) <;> (try (exfalso; first | omega | exact bool_tf hc (by assumption) | exact bool_ft hc (by assumption) | exact absurd (by assumption) hc)))))
    refine st_for [4, 14] c.hammers.length (fun h T H => T = [(1, .c (I t)), (2, .c (I m)), (3, .c (I s)), (4, .ptr 4 0), (9, .own 14 (hitsAt c t s n h 0).length), (10, .c (I z)), (11, .c (I n)), (12, .c (I h))] ∧ H = [(4, boxW c), (14, .arr 66 2 ((hitsAt c t s n h 0).map rowP))]) (by simp) ⟨by simp, by simp [boxW]⟩ ?_
    rintro h T H hh ⟨rfl, rfl⟩
    simp only [boxW, slI, slP]
    by_cases hlh : h < c.hammers.length
    · (repeat' (first | (refine buildP_own ?_; (simp -dsimp [hlt, hlh]; (repeat (simp -dsimp (disch := (first | omega | assumption | (refine Bool.eq_false_iff.1 ?_; assumption))) only [wrap_in, if_pos, if_neg]; (try simp -dsimp [hlt, hlh]))))) |  (with_reducible refine st_skip ?_; (try simp only [seqQ, blockQ, loopQ, forQ, whileQ, reduceIte, Nat.reduceEqDiff])) | (with_reducible refine st_exit ?_; (try simp only [seqQ, blockQ, loopQ, forQ, whileQ, reduceIte, Nat.reduceEqDiff])) | (with_reducible refine st_ret ?_; ((try simp only [seqQ, blockQ, loopQ, forQ, whileQ]); refine retQ_ret ?_; simp [hlt, hlh])) | refine st_seq ?_ | refine st_block ?_ | (refine st_reg follows ?_; (simp -dsimp [hlt, hlh]; (repeat (simp -dsimp (disch := (first | omega | assumption | (refine Bool.eq_false_iff.1 ?_; assumption))) only [wrap_in, if_pos, if_neg]; (try simp -dsimp [hlt, hlh]))))) | (refine guardP_of (fun hc => ?_) (fun hc => ?_) <;> (try simp only [decide_eq_true_eq, decide_eq_false_iff_not, Bool.true_eq_false, Bool.false_eq_true, bne_iff_ne, ne_eq, bne_eq_false_iff_eq, beq_iff_eq, beq_eq_false_iff_ne, Bool.not_eq_true, Bool.not_eq_false, Bool.not_eq_eq_eq_not, Bool.not_true, Bool.not_false, Decidable.not_not] at hc) <;> (try (exfalso; first | omega | exact bool_tf hc (by assumption) | exact bool_ft hc (by assumption) | exact absurd (by assumption) hc)) <;> (simp -dsimp [hlt, hlh, hc]; (repeat (simp -dsimp (disch := (first | omega | assumption | (refine Bool.eq_false_iff.1 ?_; assumption))) only [wrap_in, if_pos, if_neg]; (try simp -dsimp [hlt, hlh, hc]))))) | (refine st_cond rfl (fun hc => ?_) (fun hc => ?_) <;> (try simp only [decide_eq_true_eq, decide_eq_false_iff_not, Bool.true_eq_false, Bool.false_eq_true, bne_iff_ne, ne_eq, bne_eq_false_iff_eq, beq_iff_eq, beq_eq_false_iff_ne, Bool.not_eq_true, Bool.not_eq_false, Bool.not_eq_eq_eq_not, Bool.not_true, Bool.not_false, Decidable.not_not] at hc) <;> (try (exfalso; first | omega | exact bool_tf hc (by assumption) | exact bool_ft hc (by assumption) | exact absurd (by assumption) hc)))))
      have hht : (h : Int) * c.tunes ≤ 40 * 8 := Int.mul_le_mul (by omega) (by omega) (by omega) (by omega)
      have hht0 : 0 ≤ (h : Int) * c.tunes := Int.mul_nonneg (by omega) (by omega)
      have r4 : IntKind.i64.wrap ((h : Int) * c.tunes) = (h : Int) * c.tunes := wrap_in _ (by omega) (by omega)
      have r5 : IntKind.i64.wrap ((h : Int) * c.tunes + t) = (h : Int) * c.tunes + t := wrap_in _ (by omega) (by omega)
      have r6 : IntKind.i64.wrap (s * z + (n : Int)) = s * z + (n : Int) := wrap_in _ (by omega) (by omega)
      have r7 : (s * z + (n : Int)).tmod c.steps = (s * z + (n : Int)) % c.steps := Int.tmod_eq_emod_of_nonneg (by omega)
      refine st_for [4, 14] c.pins.length (fun i T H => T = [(1, .c (I t)), (2, .c (I m)), (3, .c (I s)), (4, .ptr 4 0), (9, .own 14 (hitsAt c t s n h i).length), (10, .c (I z)), (11, .c (I n)), (12, .c (I h)), (13, .c (I i))] ∧ H = [(4, boxW c), (14, .arr 66 2 ((hitsAt c t s n h i).map rowP))]) (by simp) ⟨by simp, by simp [boxW]⟩ ?_
      rintro i T H hi ⟨rfl, rfl⟩
      have hL := hitsAt_len c t s n h i (by omega) hh (by omega) p9
      simp only [boxW, slI, slP]
      by_cases hli : i < c.pins.length
      · have hA : (hitsAt c t s n h i).length ≤ 9223372036854775806 := by omega
        have hB : ((hitsAt c t s n h i).length + 1) * 16 ≤ 140737488355328 := by omega
        (repeat' (first | (refine buildP_own ?_; (simp -dsimp [hlt, hlh, hli, r3, r4, r5, r6, r7, hst0, hA, hB]; (repeat (simp -dsimp (disch := (first | omega | assumption | (refine Bool.eq_false_iff.1 ?_; assumption))) only [wrap_in, if_pos, if_neg]; (try simp -dsimp [hlt, hlh, hli, r3, r4, r5, r6, r7, hst0, hA, hB]))))) |  (with_reducible refine st_skip ?_; (try simp only [seqQ, blockQ, loopQ, forQ, whileQ, reduceIte, Nat.reduceEqDiff])) | (with_reducible refine st_exit ?_; (try simp only [seqQ, blockQ, loopQ, forQ, whileQ, reduceIte, Nat.reduceEqDiff])) | (with_reducible refine st_ret ?_; ((try simp only [seqQ, blockQ, loopQ, forQ, whileQ]); refine retQ_ret ?_; simp [hlt, hlh, hli, r3, r4, r5, r6, r7, hst0, hA, hB])) | refine st_seq ?_ | refine st_block ?_ | (refine st_reg follows ?_; (simp -dsimp [hlt, hlh, hli, r3, r4, r5, r6, r7, hst0, hA, hB]; (repeat (simp -dsimp (disch := (first | omega | assumption | (refine Bool.eq_false_iff.1 ?_; assumption))) only [wrap_in, if_pos, if_neg]; (try simp -dsimp [hlt, hlh, hli, r3, r4, r5, r6, r7, hst0, hA, hB]))))) | (refine guardP_of (fun hc => ?_) (fun hc => ?_) <;> (try simp only [decide_eq_true_eq, decide_eq_false_iff_not, Bool.true_eq_false, Bool.false_eq_true, bne_iff_ne, ne_eq, bne_eq_false_iff_eq, beq_iff_eq, beq_eq_false_iff_ne, Bool.not_eq_true, Bool.not_eq_false, Bool.not_eq_eq_eq_not, Bool.not_true, Bool.not_false, Decidable.not_not] at hc) <;> (try (exfalso; first | omega | exact bool_tf hc (by assumption) | exact bool_ft hc (by assumption) | exact absurd (by assumption) hc)) <;> (simp -dsimp [hlt, hlh, hli, r3, r4, r5, r6, r7, hst0, hA, hB, hc]; (repeat (simp -dsimp (disch := (first | omega | assumption | (refine Bool.eq_false_iff.1 ?_; assumption))) only [wrap_in, if_pos, if_neg]; (try simp -dsimp [hlt, hlh, hli, r3, r4, r5, r6, r7, hst0, hA, hB, hc]))))) | (refine st_cond rfl (fun hc => ?_) (fun hc => ?_) <;> (try simp only [decide_eq_true_eq, decide_eq_false_iff_not, Bool.true_eq_false, Bool.false_eq_true, bne_iff_ne, ne_eq, bne_eq_false_iff_eq, beq_iff_eq, beq_eq_false_iff_ne, Bool.not_eq_true, Bool.not_eq_false, Bool.not_eq_eq_eq_not, Bool.not_true, Bool.not_false, Decidable.not_not] at hc) <;> (try (exfalso; first | omega | exact bool_tf hc (by assumption) | exact bool_ft hc (by assumption) | exact absurd (by assumption) hc)))))
        · have hb : hitB c t s n h c.pins[i] = true := by unfold hitB; simp [*]
          exact ⟨hli, by simp, by simp [hitsAt_yes hli hlh hb], by simp [hitsAt_yes hli hlh hb]⟩
        · have hb : hitB c t s n h c.pins[i] = false := by unfold hitB; simp [*]
          exact ⟨hli, by simp, by simp [hitsAt_no hli hb], by simp [hitsAt_no hli hb]⟩
        · have hb : hitB c t s n h c.pins[i] = false := by unfold hitB; simp [*]
          exact ⟨hli, by simp, by simp [hitsAt_no hli hb], by simp [hitsAt_no hli hb]⟩
      · (repeat' (first | (refine buildP_own ?_; (simp -dsimp [hlt, hlh, hli]; (repeat (simp -dsimp (disch := (first | omega | assumption | (refine Bool.eq_false_iff.1 ?_; assumption))) only [wrap_in, if_pos, if_neg]; (try simp -dsimp [hlt, hlh, hli]))))) |  (with_reducible refine st_skip ?_; (try simp only [seqQ, blockQ, loopQ, forQ, whileQ, reduceIte, Nat.reduceEqDiff])) | (with_reducible refine st_exit ?_; (try simp only [seqQ, blockQ, loopQ, forQ, whileQ, reduceIte, Nat.reduceEqDiff])) | (with_reducible refine st_ret ?_; ((try simp only [seqQ, blockQ, loopQ, forQ, whileQ]); refine retQ_ret ?_; simp [hlt, hlh, hli])) | refine st_seq ?_ | refine st_block ?_ | (refine st_reg follows ?_; (simp -dsimp [hlt, hlh, hli]; (repeat (simp -dsimp (disch := (first | omega | assumption | (refine Bool.eq_false_iff.1 ?_; assumption))) only [wrap_in, if_pos, if_neg]; (try simp -dsimp [hlt, hlh, hli]))))) | (refine guardP_of (fun hc => ?_) (fun hc => ?_) <;> (try simp only [decide_eq_true_eq, decide_eq_false_iff_not, Bool.true_eq_false, Bool.false_eq_true, bne_iff_ne, ne_eq, bne_eq_false_iff_eq, beq_iff_eq, beq_eq_false_iff_ne, Bool.not_eq_true, Bool.not_eq_false, Bool.not_eq_eq_eq_not, Bool.not_true, Bool.not_false, Decidable.not_not] at hc) <;> (try (exfalso; first | omega | exact bool_tf hc (by assumption) | exact bool_ft hc (by assumption) | exact absurd (by assumption) hc)) <;> (simp -dsimp [hlt, hlh, hli, hc]; (repeat (simp -dsimp (disch := (first | omega | assumption | (refine Bool.eq_false_iff.1 ?_; assumption))) only [wrap_in, if_pos, if_neg]; (try simp -dsimp [hlt, hlh, hli, hc]))))) | (refine st_cond rfl (fun hc => ?_) (fun hc => ?_) <;> (try simp only [decide_eq_true_eq, decide_eq_false_iff_not, Bool.true_eq_false, Bool.false_eq_true, bne_iff_ne, ne_eq, bne_eq_false_iff_eq, beq_iff_eq, beq_eq_false_iff_ne, Bool.not_eq_true, Bool.not_eq_false, Bool.not_eq_eq_eq_not, Bool.not_true, Bool.not_false, Decidable.not_not] at hc) <;> (try (exfalso; first | omega | exact bool_tf hc (by assumption) | exact bool_ft hc (by assumption) | exact absurd (by assumption) hc)))))
        exact ⟨hlh, by simp, by simp [hitsAt_h c t s n h i hli], by simp [boxW, hitsAt_h c t s n h i hli]⟩
    · (repeat' (first | (refine buildP_own ?_; (simp -dsimp [hlt, hlh]; (repeat (simp -dsimp (disch := (first | omega | assumption | (refine Bool.eq_false_iff.1 ?_; assumption))) only [wrap_in, if_pos, if_neg]; (try simp -dsimp [hlt, hlh]))))) |  (with_reducible refine st_skip ?_; (try simp only [seqQ, blockQ, loopQ, forQ, whileQ, reduceIte, Nat.reduceEqDiff])) | (with_reducible refine st_exit ?_; (try simp only [seqQ, blockQ, loopQ, forQ, whileQ, reduceIte, Nat.reduceEqDiff])) | (with_reducible refine st_ret ?_; ((try simp only [seqQ, blockQ, loopQ, forQ, whileQ]); refine retQ_ret ?_; simp [hlt, hlh])) | refine st_seq ?_ | refine st_block ?_ | (refine st_reg follows ?_; (simp -dsimp [hlt, hlh]; (repeat (simp -dsimp (disch := (first | omega | assumption | (refine Bool.eq_false_iff.1 ?_; assumption))) only [wrap_in, if_pos, if_neg]; (try simp -dsimp [hlt, hlh]))))) | (refine guardP_of (fun hc => ?_) (fun hc => ?_) <;> (try simp only [decide_eq_true_eq, decide_eq_false_iff_not, Bool.true_eq_false, Bool.false_eq_true, bne_iff_ne, ne_eq, bne_eq_false_iff_eq, beq_iff_eq, beq_eq_false_iff_ne, Bool.not_eq_true, Bool.not_eq_false, Bool.not_eq_eq_eq_not, Bool.not_true, Bool.not_false, Decidable.not_not] at hc) <;> (try (exfalso; first | omega | exact bool_tf hc (by assumption) | exact bool_ft hc (by assumption) | exact absurd (by assumption) hc)) <;> (simp -dsimp [hlt, hlh, hc]; (repeat (simp -dsimp (disch := (first | omega | assumption | (refine Bool.eq_false_iff.1 ?_; assumption))) only [wrap_in, if_pos, if_neg]; (try simp -dsimp [hlt, hlh, hc]))))) | (refine st_cond rfl (fun hc => ?_) (fun hc => ?_) <;> (try simp only [decide_eq_true_eq, decide_eq_false_iff_not, Bool.true_eq_false, Bool.false_eq_true, bne_iff_ne, ne_eq, bne_eq_false_iff_eq, beq_iff_eq, beq_eq_false_iff_ne, Bool.not_eq_true, Bool.not_eq_false, Bool.not_eq_eq_eq_not, Bool.not_true, Bool.not_false, Decidable.not_not] at hc) <;> (try (exfalso; first | omega | exact bool_tf hc (by assumption) | exact bool_ft hc (by assumption) | exact absurd (by assumption) hc)))))
      exact ⟨hlt, by simp, by simp [hitsAt_n c t s n h (by omega)], by simp [boxW, hitsAt_n c t s n h (by omega)]⟩
  · (repeat' (first | (refine buildP_own ?_; (simp -dsimp [hlt, r2]; (repeat (simp -dsimp (disch := (first | omega | assumption | (refine Bool.eq_false_iff.1 ?_; assumption))) only [wrap_in, if_pos, if_neg]; (try simp -dsimp [hlt, r2]))))) |  (with_reducible refine st_skip ?_; (try simp only [seqQ, blockQ, loopQ, forQ, whileQ, reduceIte, Nat.reduceEqDiff])) | (with_reducible refine st_exit ?_; (try simp only [seqQ, blockQ, loopQ, forQ, whileQ, reduceIte, Nat.reduceEqDiff])) | (with_reducible refine st_ret ?_; ((try simp only [seqQ, blockQ, loopQ, forQ, whileQ]); refine retQ_ret ?_; simp [hlt, r2])) | refine st_seq ?_ | refine st_block ?_ | (refine st_reg follows ?_; (simp -dsimp [hlt, r2]; (repeat (simp -dsimp (disch := (first | omega | assumption | (refine Bool.eq_false_iff.1 ?_; assumption))) only [wrap_in, if_pos, if_neg]; (try simp -dsimp [hlt, r2]))))) | (refine guardP_of (fun hc => ?_) (fun hc => ?_) <;> (try simp only [decide_eq_true_eq, decide_eq_false_iff_not, Bool.true_eq_false, Bool.false_eq_true, bne_iff_ne, ne_eq, bne_eq_false_iff_eq, beq_iff_eq, beq_eq_false_iff_ne, Bool.not_eq_true, Bool.not_eq_false, Bool.not_eq_eq_eq_not, Bool.not_true, Bool.not_false, Decidable.not_not] at hc) <;> (try (exfalso; first | omega | exact bool_tf hc (by assumption) | exact bool_ft hc (by assumption) | exact absurd (by assumption) hc)) <;> (simp -dsimp [hlt, r2, hc]; (repeat (simp -dsimp (disch := (first | omega | assumption | (refine Bool.eq_false_iff.1 ?_; assumption))) only [wrap_in, if_pos, if_neg]; (try simp -dsimp [hlt, r2, hc]))))) | (refine st_cond rfl (fun hc => ?_) (fun hc => ?_) <;> (try simp only [decide_eq_true_eq, decide_eq_false_iff_not, Bool.true_eq_false, Bool.false_eq_true, bne_iff_ne, ne_eq, bne_eq_false_iff_eq, beq_iff_eq, beq_eq_false_iff_ne, Bool.not_eq_true, Bool.not_eq_false, Bool.not_eq_eq_eq_not, Bool.not_true, Bool.not_false, Decidable.not_not] at hc) <;> (try (exfalso; first | omega | exact bool_tf hc (by assumption) | exact bool_ft hc (by assumption) | exact absurd (by assumption) hc)))))
    have : n = K := by omega
    subst this
    rw [hitsAt_end]
    exact .refl _

theorem rPlays_len {c : Wk} {t m s : Int} (hok : worksOk c = true) (hm : inn 0 c.sections m = true) : (rPlays c t m s).length ≤ 20000000 := by
  obtain ⟨p1, p2, p3, p4, p5, p6, p7, p8, p9, p10, p11⟩ := worksOk_parts hok
  have i1 := inn_iff.1 p1
  have i2 := inn_iff.1 p2
  have i7 := inn_iff.1 p7
  have im := inn_iff.1 hm
  unfold rPlays
  have hz1 : c.steps / c.sections * c.sections = c.steps := Int.ediv_mul_cancel (Int.dvd_of_emod_eq_zero p3)
  have hz0 : 0 ≤ c.steps / c.sections := Int.ediv_nonneg (by omega) (by omega)
  have hmz : m * (c.steps / c.sections) ≤ c.steps := by
    have := Int.mul_le_mul_of_nonneg_left im.2 hz0
    rw [hz1, Int.mul_comm] at this; exact this
  rw [← hitsAt_end]
  exact hitsAt_len c t s _ 0 0 (by omega) (by omega) (by omega) p9

/-- The flag `same` of Heard. -/
def sameTo (l : List (Int × Int)) (ys : List Int) (i : Nat) : Bool := decide (l.length = ys.length) && decide ((l.take i).map Prod.snd = ys.take i)
theorem sameTo_zero (l : List (Int × Int)) (ys : List Int) : sameTo l ys 0 = decide (l.length = ys.length) := by simp [sameTo]
theorem sameTo_len {l : List (Int × Int)} {ys : List Int} {i : Nat} (h : sameTo l ys i = true) : l.length = ys.length := by simp [sameTo] at h; exact h.1
theorem sameTo_next {l : List (Int × Int)} {ys : List Int} {i : Nat} (h : sameTo l ys i = true) (h1 : i < l.length) (h2 : i < ys.length) : sameTo l ys (i + 1) = decide (l[i].2 = ys[i]) := by
  unfold sameTo at h ⊢
  simp only [Bool.and_eq_true, decide_eq_true_eq] at h
  rw [List.take_succ_eq_append_getElem h1, List.take_succ_eq_append_getElem h2, List.map_append, h.2]
  simp only [h.1, decide_true, Bool.true_and]
  rw [Bool.eq_iff_iff, decide_eq_true_eq, decide_eq_true_eq, List.append_right_inj]
  simp
theorem sameTo_done {l : List (Int × Int)} {ys : List Int} {i : Nat} (h : ¬ i < l.length) : bellsEq l ys = sameTo l ys i := by
  unfold sameTo bellsEq
  rw [List.take_of_length_le (by omega), Bool.eq_iff_iff]
  simp only [Bool.and_eq_true, decide_eq_true_eq]
  constructor
  · intro e
    have : l.length = ys.length := by rw [← e]; simp
    exact ⟨this, by rw [List.take_of_length_le (by omega)]; exact e⟩
  · rintro ⟨h1, h2⟩
    rwa [List.take_of_length_le (by omega)] at h2
theorem sameTo_false {l : List (Int × Int)} {ys : List Int} {i : Nat} (h : sameTo l ys i = false) : bellsEq l ys = false := by
  unfold bellsEq
  rw [decide_eq_false_iff_not]; intro e
  have h1 : l.length = ys.length := by rw [← e]; simp
  have h2 : (l.take i).map Prod.snd = ys.take i := by rw [← e, List.map_take]
  simp [sameTo, h1, h2] at h

def rHeardTo (c : Wk) (t m : Int) (bells : List Int) (k : Nat) : List Int := ((List.range k).filter fun (s : Nat) => bellsEq (rPlays c t m (s : Int)) bells).map fun (s : Nat) => (s : Int)
theorem rHeardTo_yes {c : Wk} {t m : Int} {bells : List Int} {k : Nat} (h : bellsEq (rPlays c t m k) bells = true) : rHeardTo c t m bells (k + 1) = rHeardTo c t m bells k ++ [(k : Int)] := by
  unfold rHeardTo; rw [List.range_succ, List.filter_append, List.map_append]; simp [h]
theorem rHeardTo_no {c : Wk} {t m : Int} {bells : List Int} {k : Nat} (h : bellsEq (rPlays c t m k) bells = false) : rHeardTo c t m bells (k + 1) = rHeardTo c t m bells k := by
  unfold rHeardTo; rw [List.range_succ, List.filter_append, List.map_append]; simp [h]
theorem rHeardTo_len (c : Wk) (t m : Int) (bells : List Int) (k : Nat) : (rHeardTo c t m bells k).length ≤ k := by
  unfold rHeardTo; rw [List.length_map]; exact Nat.le_trans (List.length_filter_le _ _) (by simp)
def rHeard (c : Wk) (t n : Int) (bells : List Int) : List Int := rHeardTo c t (c.runs.getD n.toNat 0) bells c.sections.toNat

set_option maxRecDepth 100000 in
set_option maxHeartbeats 2000000 in
theorem sHeard (c : Wk) (t n : Int) (bells : List Int) (hok : worksOk c = true) (ht : inn 0 (c.tunes - 1) t = true) (hn : inn 0 (c.runs.length - 1) n = true) (hb : bells.length ≤ 1000000) :
    SC Try.prog 30 [cWk c, I t, I n, slI bells] (slI (rHeard c t n bells)) := by
  have hrun := runIn_ok hok hn
  have hlen := fun s => rPlays_len (t := t) (s := s) hok hrun
  obtain ⟨p1, p2, p3, p4, p5, p6, p7, p8, p9, p10, p11⟩ := worksOk_parts hok
  have i1 := inn_iff.1 p1
  have i2 := inn_iff.1 p2
  have i4 := inn_iff.1 p4
  have i_n := inn_iff.1 hn
  obtain ⟨j, rfl⟩ := Int.eq_ofNat_of_zero_le i_n.1
  have hj : j < c.runs.length := by omega
  obtain ⟨K, hK⟩ := Int.eq_ofNat_of_zero_le (show 0 ≤ c.sections by omega)
  have er : rHeard c t (j : Int) bells = rHeardTo c t c.runs[j] bells K := by
    unfold rHeard; rw [hK, List.getD_eq_getElem?_getD, Int.toNat_natCast, List.getElem?_eq_getElem hj]; rfl
  have eg : c.runs.getD ((j : Int).toNat) 0 = c.runs[j] := by rw [List.getD_eq_getElem?_getD, Int.toNat_natCast, List.getElem?_eq_getElem hj]; rfl
  rw [eg] at hrun hlen
  rw [er]
  refine law30 _ _ (by simp) ?_
  unfold cWk slI slP
  (repeat' (first | (refine buildP_own ?_; (simp -dsimp; (repeat (simp -dsimp (disch := (first | omega | assumption | (refine Bool.eq_false_iff.1 ?_; assumption))) only [wrap_in, if_pos, if_neg]; (try simp -dsimp))))) |  (with_reducible refine st_skip ?_; (try simp only [seqQ, blockQ, loopQ, forQ, whileQ, reduceIte, Nat.reduceEqDiff])) | (with_reducible refine st_exit ?_; (try simp only [seqQ, blockQ, loopQ, forQ, whileQ, reduceIte, Nat.reduceEqDiff])) | (with_reducible refine st_ret ?_; ((try simp only [seqQ, blockQ, loopQ, forQ, whileQ]); refine retQ_ret ?_; simp)) | refine st_seq ?_ | refine st_block ?_ | (refine st_reg follows ?_; (simp -dsimp; (repeat (simp -dsimp (disch := (first | omega | assumption | (refine Bool.eq_false_iff.1 ?_; assumption))) only [wrap_in, if_pos, if_neg]; (try simp -dsimp))))) | (refine guardP_of (fun hc => ?_) (fun hc => ?_) <;> (try simp only [decide_eq_true_eq, decide_eq_false_iff_not, Bool.true_eq_false, Bool.false_eq_true, bne_iff_ne, ne_eq, bne_eq_false_iff_eq, beq_iff_eq, beq_eq_false_iff_ne, Bool.not_eq_true, Bool.not_eq_false, Bool.not_eq_eq_eq_not, Bool.not_true, Bool.not_false, Decidable.not_not] at hc) <;> (try (exfalso; first | omega | exact bool_tf hc (by assumption) | exact bool_ft hc (by assumption) | exact absurd (by assumption) hc)) <;> (simp -dsimp [hc]; (repeat (simp -dsimp (disch := (first | omega | assumption | (refine Bool.eq_false_iff.1 ?_; assumption))) only [wrap_in, if_pos, if_neg]; (try simp -dsimp [hc]))))) | (refine st_cond rfl (fun hc => ?_) (fun hc => ?_) <;> (try simp only [decide_eq_true_eq, decide_eq_false_iff_not, Bool.true_eq_false, Bool.false_eq_true, bne_iff_ne, ne_eq, bne_eq_false_iff_eq, beq_iff_eq, beq_eq_false_iff_ne, Bool.not_eq_true, Bool.not_eq_false, Bool.not_eq_eq_eq_not, Bool.not_true, Bool.not_false, Decidable.not_not] at hc) <;> (try (exfalso; first | omega | exact bool_tf hc (by assumption) | exact bool_ft hc (by assumption) | exact absurd (by assumption) hc)))))
  refine st_for [4, 14] K (fun k T H => T = [(1, .c (I t)), (2, .c (I j)), (3, .c (slI bells)), (4, .ptr 4 0), (9, .own 14 (rHeardTo c t c.runs[j] bells k).length), (10, .c (I k))] ∧ H = [(4, boxW c), (14, .arr 3 1 ((rHeardTo c t c.runs[j] bells k).map rowI))]) (by simp) ⟨by simp [rHeardTo], by simp [rHeardTo, boxW]⟩ ?_
  rintro k T H hk ⟨rfl, rfl⟩
  simp only [boxW, slI, slP]
  by_cases hlt : k < K
  · have hlt' : (k : Int) < c.sections := by omega
    have hls := hlen k
    have sP := sPlays c t c.runs[j] (k : Int) hok ht hrun (inn_iff.2 ⟨by omega, by omega⟩)
    obtain ⟨l, hl⟩ : ∃ l, rPlays c t c.runs[j] (k : Int) = l := ⟨_, rfl⟩
    rw [hl] at sP hls
    (repeat' (first | (refine buildP_own ?_; (simp -dsimp [hlt, hlt', hj]; (repeat (simp -dsimp (disch := (first | omega | assumption | (refine Bool.eq_false_iff.1 ?_; assumption))) only [wrap_in, if_pos, if_neg]; (try simp -dsimp [hlt, hlt', hj]))))) | (refine callP_of (sP) (.inl rfl) ?_; (simp -dsimp [hlt, hlt', hj]; (repeat (simp -dsimp (disch := (first | omega | assumption | (refine Bool.eq_false_iff.1 ?_; assumption))) only [wrap_in, if_pos, if_neg]; (try simp -dsimp [hlt, hlt', hj]))))) |  (with_reducible refine st_skip ?_; (try simp only [seqQ, blockQ, loopQ, forQ, whileQ, reduceIte, Nat.reduceEqDiff])) | (with_reducible refine st_exit ?_; (try simp only [seqQ, blockQ, loopQ, forQ, whileQ, reduceIte, Nat.reduceEqDiff])) | (with_reducible refine st_ret ?_; ((try simp only [seqQ, blockQ, loopQ, forQ, whileQ]); refine retQ_ret ?_; simp [hlt, hlt', hj])) | refine st_seq ?_ | refine st_block ?_ | (refine st_reg follows ?_; (simp -dsimp [hlt, hlt', hj]; (repeat (simp -dsimp (disch := (first | omega | assumption | (refine Bool.eq_false_iff.1 ?_; assumption))) only [wrap_in, if_pos, if_neg]; (try simp -dsimp [hlt, hlt', hj]))))) | (refine guardP_of (fun hc => ?_) (fun hc => ?_) <;> (try simp only [decide_eq_true_eq, decide_eq_false_iff_not, Bool.true_eq_false, Bool.false_eq_true, bne_iff_ne, ne_eq, bne_eq_false_iff_eq, beq_iff_eq, beq_eq_false_iff_ne, Bool.not_eq_true, Bool.not_eq_false, Bool.not_eq_eq_eq_not, Bool.not_true, Bool.not_false, Decidable.not_not] at hc) <;> (try (exfalso; first | omega | exact bool_tf hc (by assumption) | exact bool_ft hc (by assumption) | exact absurd (by assumption) hc)) <;> (simp -dsimp [hlt, hlt', hj, hc]; (repeat (simp -dsimp (disch := (first | omega | assumption | (refine Bool.eq_false_iff.1 ?_; assumption))) only [wrap_in, if_pos, if_neg]; (try simp -dsimp [hlt, hlt', hj, hc]))))) | (refine st_cond rfl (fun hc => ?_) (fun hc => ?_) <;> (try simp only [decide_eq_true_eq, decide_eq_false_iff_not, Bool.true_eq_false, Bool.false_eq_true, bne_iff_ne, ne_eq, bne_eq_false_iff_eq, beq_iff_eq, beq_eq_false_iff_ne, Bool.not_eq_true, Bool.not_eq_false, Bool.not_eq_eq_eq_not, Bool.not_true, Bool.not_false, Decidable.not_not] at hc) <;> (try (exfalso; first | omega | exact bool_tf hc (by assumption) | exact bool_ft hc (by assumption) | exact absurd (by assumption) hc)))))
    refine st_for [4, 14] l.length (fun i T H => T = [(1, .c (I t)), (2, .c (I j)), (3, .c (slI bells)), (4, .ptr 4 0), (9, .own 14 (rHeardTo c t c.runs[j] bells k).length), (10, .c (I k)), (11, .c (slP l)), (12, .c (B (sameTo l bells i))), (13, .c (I i))] ∧ H = [(4, boxW c), (14, .arr 3 1 ((rHeardTo c t c.runs[j] bells k).map rowI))]) (by simp) ⟨by simp [sameTo_zero]; rw [Bool.eq_iff_iff]; simp; omega, by simp [boxW]⟩ ?_
    rintro i T H hi ⟨rfl, rfl⟩
    have hL := rHeardTo_len c t c.runs[j] bells k
    have hA : (rHeardTo c t c.runs[j] bells k).length ≤ 9223372036854775806 := by omega
    have hB : ((rHeardTo c t c.runs[j] bells k).length + 1) * 8 ≤ 140737488355328 := by omega
    simp only [boxW, slI, slP]
    by_cases hli : i < l.length
    · cases hsm : sameTo l bells i with
      | true =>
        have hlb : i < bells.length := by rw [← sameTo_len hsm]; exact hli
        (repeat' (first | (refine buildP_own ?_; (simp -dsimp [hlt, hli, hlb, hsm]; (repeat (simp -dsimp (disch := (first | omega | assumption | (refine Bool.eq_false_iff.1 ?_; assumption))) only [wrap_in, if_pos, if_neg]; (try simp -dsimp [hlt, hli, hlb, hsm]))))) |  (with_reducible refine st_skip ?_; (try simp only [seqQ, blockQ, loopQ, forQ, whileQ, reduceIte, Nat.reduceEqDiff])) | (with_reducible refine st_exit ?_; (try simp only [seqQ, blockQ, loopQ, forQ, whileQ, reduceIte, Nat.reduceEqDiff])) | (with_reducible refine st_ret ?_; ((try simp only [seqQ, blockQ, loopQ, forQ, whileQ]); refine retQ_ret ?_; simp [hlt, hli, hlb, hsm])) | refine st_seq ?_ | refine st_block ?_ | (refine st_reg follows ?_; (simp -dsimp [hlt, hli, hlb, hsm]; (repeat (simp -dsimp (disch := (first | omega | assumption | (refine Bool.eq_false_iff.1 ?_; assumption))) only [wrap_in, if_pos, if_neg]; (try simp -dsimp [hlt, hli, hlb, hsm]))))) | (refine guardP_of (fun hc => ?_) (fun hc => ?_) <;> (try simp only [decide_eq_true_eq, decide_eq_false_iff_not, Bool.true_eq_false, Bool.false_eq_true, bne_iff_ne, ne_eq, bne_eq_false_iff_eq, beq_iff_eq, beq_eq_false_iff_ne, Bool.not_eq_true, Bool.not_eq_false, Bool.not_eq_eq_eq_not, Bool.not_true, Bool.not_false, Decidable.not_not] at hc) <;> (try (exfalso; first | omega | exact bool_tf hc (by assumption) | exact bool_ft hc (by assumption) | exact absurd (by assumption) hc)) <;> (simp -dsimp [hlt, hli, hlb, hsm, hc]; (repeat (simp -dsimp (disch := (first | omega | assumption | (refine Bool.eq_false_iff.1 ?_; assumption))) only [wrap_in, if_pos, if_neg]; (try simp -dsimp [hlt, hli, hlb, hsm, hc]))))) | (refine st_cond rfl (fun hc => ?_) (fun hc => ?_) <;> (try simp only [decide_eq_true_eq, decide_eq_false_iff_not, Bool.true_eq_false, Bool.false_eq_true, bne_iff_ne, ne_eq, bne_eq_false_iff_eq, beq_iff_eq, beq_eq_false_iff_ne, Bool.not_eq_true, Bool.not_eq_false, Bool.not_eq_eq_eq_not, Bool.not_true, Bool.not_false, Decidable.not_not] at hc) <;> (try (exfalso; first | omega | exact bool_tf hc (by assumption) | exact bool_ft hc (by assumption) | exact absurd (by assumption) hc)))))
        exact ⟨hli, by simp, by simp [sameTo_next hsm hli hlb]; rw [Bool.eq_iff_iff]; simp, by simp⟩
      | false =>
        (repeat' (first | (refine buildP_own ?_; (simp -dsimp [hlt, hli, hsm, hA, hB]; (repeat (simp -dsimp (disch := (first | omega | assumption | (refine Bool.eq_false_iff.1 ?_; assumption))) only [wrap_in, if_pos, if_neg]; (try simp -dsimp [hlt, hli, hsm, hA, hB]))))) |  (with_reducible refine st_skip ?_; (try simp only [seqQ, blockQ, loopQ, forQ, whileQ, reduceIte, Nat.reduceEqDiff])) | (with_reducible refine st_exit ?_; (try simp only [seqQ, blockQ, loopQ, forQ, whileQ, reduceIte, Nat.reduceEqDiff])) | (with_reducible refine st_ret ?_; ((try simp only [seqQ, blockQ, loopQ, forQ, whileQ]); refine retQ_ret ?_; simp [hlt, hli, hsm, hA, hB])) | refine st_seq ?_ | refine st_block ?_ | (refine st_reg follows ?_; (simp -dsimp [hlt, hli, hsm, hA, hB]; (repeat (simp -dsimp (disch := (first | omega | assumption | (refine Bool.eq_false_iff.1 ?_; assumption))) only [wrap_in, if_pos, if_neg]; (try simp -dsimp [hlt, hli, hsm, hA, hB]))))) | (refine guardP_of (fun hc => ?_) (fun hc => ?_) <;> (try simp only [decide_eq_true_eq, decide_eq_false_iff_not, Bool.true_eq_false, Bool.false_eq_true, bne_iff_ne, ne_eq, bne_eq_false_iff_eq, beq_iff_eq, beq_eq_false_iff_ne, Bool.not_eq_true, Bool.not_eq_false, Bool.not_eq_eq_eq_not, Bool.not_true, Bool.not_false, Decidable.not_not] at hc) <;> (try (exfalso; first | omega | exact bool_tf hc (by assumption) | exact bool_ft hc (by assumption) | exact absurd (by assumption) hc)) <;> (simp -dsimp [hlt, hli, hsm, hA, hB, hc]; (repeat (simp -dsimp (disch := (first | omega | assumption | (refine Bool.eq_false_iff.1 ?_; assumption))) only [wrap_in, if_pos, if_neg]; (try simp -dsimp [hlt, hli, hsm, hA, hB, hc]))))) | (refine st_cond rfl (fun hc => ?_) (fun hc => ?_) <;> (try simp only [decide_eq_true_eq, decide_eq_false_iff_not, Bool.true_eq_false, Bool.false_eq_true, bne_iff_ne, ne_eq, bne_eq_false_iff_eq, beq_iff_eq, beq_eq_false_iff_ne, Bool.not_eq_true, Bool.not_eq_false, Bool.not_eq_eq_eq_not, Bool.not_true, Bool.not_false, Decidable.not_not] at hc) <;> (try (exfalso; first | omega | exact bool_tf hc (by assumption) | exact bool_ft hc (by assumption) | exact absurd (by assumption) hc)))))
        have := sameTo_false hsm; rw [← hl] at this
        exact ⟨hlt, by simp, by simp [rHeardTo_no this], by simp [boxW, rHeardTo_no this]⟩
    · have hd := sameTo_done (ys := bells) hli
      rw [← hl] at hd
      (repeat' (first | (refine buildP_own ?_; (simp -dsimp [hlt, hli, hA, hB]; (repeat (simp -dsimp (disch := (first | omega | assumption | (refine Bool.eq_false_iff.1 ?_; assumption))) only [wrap_in, if_pos, if_neg]; (try simp -dsimp [hlt, hli, hA, hB]))))) |  (with_reducible refine st_skip ?_; (try simp only [seqQ, blockQ, loopQ, forQ, whileQ, reduceIte, Nat.reduceEqDiff])) | (with_reducible refine st_exit ?_; (try simp only [seqQ, blockQ, loopQ, forQ, whileQ, reduceIte, Nat.reduceEqDiff])) | (with_reducible refine st_ret ?_; ((try simp only [seqQ, blockQ, loopQ, forQ, whileQ]); refine retQ_ret ?_; simp [hlt, hli, hA, hB])) | refine st_seq ?_ | refine st_block ?_ | (refine st_reg follows ?_; (simp -dsimp [hlt, hli, hA, hB]; (repeat (simp -dsimp (disch := (first | omega | assumption | (refine Bool.eq_false_iff.1 ?_; assumption))) only [wrap_in, if_pos, if_neg]; (try simp -dsimp [hlt, hli, hA, hB]))))) | (refine guardP_of (fun hc => ?_) (fun hc => ?_) <;> (try simp only [decide_eq_true_eq, decide_eq_false_iff_not, Bool.true_eq_false, Bool.false_eq_true, bne_iff_ne, ne_eq, bne_eq_false_iff_eq, beq_iff_eq, beq_eq_false_iff_ne, Bool.not_eq_true, Bool.not_eq_false, Bool.not_eq_eq_eq_not, Bool.not_true, Bool.not_false, Decidable.not_not] at hc) <;> (try (exfalso; first | omega | exact bool_tf hc (by assumption) | exact bool_ft hc (by assumption) | exact absurd (by assumption) hc)) <;> (simp -dsimp [hlt, hli, hA, hB, hc]; (repeat (simp -dsimp (disch := (first | omega | assumption | (refine Bool.eq_false_iff.1 ?_; assumption))) only [wrap_in, if_pos, if_neg]; (try simp -dsimp [hlt, hli, hA, hB, hc]))))) | (refine st_cond rfl (fun hc => ?_) (fun hc => ?_) <;> (try simp only [decide_eq_true_eq, decide_eq_false_iff_not, Bool.true_eq_false, Bool.false_eq_true, bne_iff_ne, ne_eq, bne_eq_false_iff_eq, beq_iff_eq, beq_eq_false_iff_ne, Bool.not_eq_true, Bool.not_eq_false, Bool.not_eq_eq_eq_not, Bool.not_true, Bool.not_false, Decidable.not_not] at hc) <;> (try (exfalso; first | omega | exact bool_tf hc (by assumption) | exact bool_ft hc (by assumption) | exact absurd (by assumption) hc)))))
      · rw [hl, hc] at hd; rw [← hl] at hd
        exact ⟨hlt, by simp, by simp [rHeardTo_yes hd], by simp [boxW, rHeardTo_yes hd]⟩
      · rw [hl, hc] at hd; rw [← hl] at hd
        exact ⟨hlt, by simp, by simp [rHeardTo_no hd], by simp [boxW, rHeardTo_no hd]⟩
  · have hlt' : ¬ (k : Int) < c.sections := by omega
    (repeat' (first | (refine buildP_own ?_; (simp -dsimp [hlt, hlt']; (repeat (simp -dsimp (disch := (first | omega | assumption | (refine Bool.eq_false_iff.1 ?_; assumption))) only [wrap_in, if_pos, if_neg]; (try simp -dsimp [hlt, hlt']))))) |  (with_reducible refine st_skip ?_; (try simp only [seqQ, blockQ, loopQ, forQ, whileQ, reduceIte, Nat.reduceEqDiff])) | (with_reducible refine st_exit ?_; (try simp only [seqQ, blockQ, loopQ, forQ, whileQ, reduceIte, Nat.reduceEqDiff])) | (with_reducible refine st_ret ?_; ((try simp only [seqQ, blockQ, loopQ, forQ, whileQ]); refine retQ_ret ?_; simp [hlt, hlt'])) | refine st_seq ?_ | refine st_block ?_ | (refine st_reg follows ?_; (simp -dsimp [hlt, hlt']; (repeat (simp -dsimp (disch := (first | omega | assumption | (refine Bool.eq_false_iff.1 ?_; assumption))) only [wrap_in, if_pos, if_neg]; (try simp -dsimp [hlt, hlt']))))) | (refine guardP_of (fun hc => ?_) (fun hc => ?_) <;> (try simp only [decide_eq_true_eq, decide_eq_false_iff_not, Bool.true_eq_false, Bool.false_eq_true, bne_iff_ne, ne_eq, bne_eq_false_iff_eq, beq_iff_eq, beq_eq_false_iff_ne, Bool.not_eq_true, Bool.not_eq_false, Bool.not_eq_eq_eq_not, Bool.not_true, Bool.not_false, Decidable.not_not] at hc) <;> (try (exfalso; first | omega | exact bool_tf hc (by assumption) | exact bool_ft hc (by assumption) | exact absurd (by assumption) hc)) <;> (simp -dsimp [hlt, hlt', hc]; (repeat (simp -dsimp (disch := (first | omega | assumption | (refine Bool.eq_false_iff.1 ?_; assumption))) only [wrap_in, if_pos, if_neg]; (try simp -dsimp [hlt, hlt', hc]))))) | (refine st_cond rfl (fun hc => ?_) (fun hc => ?_) <;> (try simp only [decide_eq_true_eq, decide_eq_false_iff_not, Bool.true_eq_false, Bool.false_eq_true, bne_iff_ne, ne_eq, bne_eq_false_iff_eq, beq_iff_eq, beq_eq_false_iff_ne, Bool.not_eq_true, Bool.not_eq_false, Bool.not_eq_eq_eq_not, Bool.not_true, Bool.not_false, Decidable.not_not] at hc) <;> (try (exfalso; first | omega | exact bool_tf hc (by assumption) | exact bool_ft hc (by assumption) | exact absurd (by assumption) hc)))))
    have : k = K := by omega
    subst this
    exact .refl _

end Go.Proofs.Ytdgplebmlggmcaa
/- References, IV: InStep, Bring. -/
namespace Go.Proofs.Ytdgplebmlggmcaa
open Go.RowKit

def posAt (c : Wk) (h r : Nat) : Int := ((h : Int) * c.runs.sum + (c.runs.take r).sum) % c.sections
def inStepTo (c : Wk) (j : Nat) (sec : Int) (h : Nat) : Bool := (List.range h).any fun k => posAt c k j == sec
def rInStep (c : Wk) (j : Nat) (sec : Int) : Bool := inStepTo c j sec (c.sections.toNat + 1)

theorem posAt_r {c : Wk} {h r : Nat} (hr : r < c.runs.length) : posAt c h (r + 1) = (posAt c h r + c.runs[r]) % c.sections := by
  unfold posAt; rw [sum_take _ _ hr, Int.emod_add_emod, Int.add_assoc]
theorem posAt_h {c : Wk} {h r : Nat} (hr : ¬ r < c.runs.length) : posAt c (h + 1) 0 = posAt c h r := by
  unfold posAt
  have e : c.runs.take r = c.runs := List.take_of_length_le (by omega)
  rw [e]; simp [Int.add_mul]
theorem inStepTo_next {c : Wk} {j : Nat} {sec : Int} {h : Nat} : inStepTo c j sec (h + 1) = (inStepTo c j sec h || (posAt c h j == sec)) := by
  unfold inStepTo; rw [List.range_succ, List.any_append]; simp

set_option maxRecDepth 100000 in
set_option maxHeartbeats 2000000 in
theorem sInStep (c : Wk) (j : Nat) (sec : Int) (hok : worksOk c = true) (hj : j < c.runs.length) :
    SC Try.prog 65 [cWk c, I j, I sec] (B (rInStep c j sec)) := by
  obtain ⟨p1, p2, p3, p4, p5, p6, p7, p8, p9, p10, p11⟩ := worksOk_parts hok
  have i1 := inn_iff.1 p1
  have i2 := inn_iff.1 p2
  have i4 := inn_iff.1 p4
  have hruns : ∀ r (hr : r < c.runs.length), 1 ≤ c.runs[r] ∧ c.runs[r] ≤ c.sections := fun r hr => inn_iff.1 (List.all_eq_true.1 p5 _ (List.getElem_mem hr))
  clear p1 p2 p3 p4 p5 p6 p7 p8 p9 p10 p11 hok
  obtain ⟨K, hK⟩ := Int.eq_ofNat_of_zero_le (show 0 ≤ c.sections by omega)
  have hp : ∀ h r, 0 ≤ posAt c h r ∧ posAt c h r < c.sections := fun h r => ⟨Int.emod_nonneg _ (by omega), Int.emod_lt_of_pos _ (by omega)⟩
  have hs0 : ¬ c.sections = 0 := by omega
  have er : rInStep c j sec = inStepTo c j sec (K + 1) := by unfold rInStep; rw [hK]; rfl
  rw [er]
  refine law65 _ _ (by simp) ?_
  unfold cWk slI slP
  (repeat' (first | (refine buildP_own ?_; (simp -dsimp; (repeat (simp -dsimp (disch := (first | omega | assumption | (refine Bool.eq_false_iff.1 ?_; assumption))) only [wrap_in, if_pos, if_neg]; (try simp -dsimp))))) |  (with_reducible refine st_skip ?_; (try simp only [seqQ, blockQ, loopQ, forQ, whileQ, reduceIte, Nat.reduceEqDiff])) | (with_reducible refine st_exit ?_; (try simp only [seqQ, blockQ, loopQ, forQ, whileQ, reduceIte, Nat.reduceEqDiff])) | (with_reducible refine st_ret ?_; ((try simp only [seqQ, blockQ, loopQ, forQ, whileQ]); refine retQ_ret ?_; simp)) | refine st_seq ?_ | refine st_block ?_ | (refine st_reg follows ?_; (simp -dsimp; (repeat (simp -dsimp (disch := (first | omega | assumption | (refine Bool.eq_false_iff.1 ?_; assumption))) only [wrap_in, if_pos, if_neg]; (try simp -dsimp))))) | (refine guardP_of (fun hc => ?_) (fun hc => ?_) <;> (try simp only [decide_eq_true_eq, decide_eq_false_iff_not, Bool.true_eq_false, Bool.false_eq_true, bne_iff_ne, ne_eq, bne_eq_false_iff_eq, beq_iff_eq, beq_eq_false_iff_ne, Bool.not_eq_true, Bool.not_eq_false, Bool.not_eq_eq_eq_not, Bool.not_true, Bool.not_false, Decidable.not_not] at hc) <;> (try (exfalso; first | omega | exact bool_tf hc (by assumption) | exact bool_ft hc (by assumption) | exact absurd (by assumption) hc)) <;> (simp -dsimp [hc]; (repeat (simp -dsimp (disch := (first | omega | assumption | (refine Bool.eq_false_iff.1 ?_; assumption))) only [wrap_in, if_pos, if_neg]; (try simp -dsimp [hc]))))) | (refine st_cond rfl (fun hc => ?_) (fun hc => ?_) <;> (try simp only [decide_eq_true_eq, decide_eq_false_iff_not, Bool.true_eq_false, Bool.false_eq_true, bne_iff_ne, ne_eq, bne_eq_false_iff_eq, beq_iff_eq, beq_eq_false_iff_ne, Bool.not_eq_true, Bool.not_eq_false, Bool.not_eq_eq_eq_not, Bool.not_true, Bool.not_false, Decidable.not_not] at hc) <;> (try (exfalso; first | omega | exact bool_tf hc (by assumption) | exact bool_ft hc (by assumption) | exact absurd (by assumption) hc)))))
  refine st_for [3] (K + 1) (fun h T H => inStepTo c j sec h = false ∧ T = [(1, .c (I j)), (2, .c (I sec)), (3, .ptr 3 0), (7, .c (I (posAt c h 0))), (8, .c (I h))] ∧ H = [(3, boxW c)]) (by simp) ⟨by simp [inStepTo], by simp [posAt], by simp [boxW]⟩ ?_
  rintro h T H hh ⟨hno, rfl, rfl⟩
  simp only [boxW, slI, slP]
  by_cases hlt : h < K + 1
  · have hlt' : (h : Int) ≤ c.sections := by omega
    (repeat' (first | (refine buildP_own ?_; (simp -dsimp [hlt, hlt']; (repeat (simp -dsimp (disch := (first | omega | assumption | (refine Bool.eq_false_iff.1 ?_; assumption))) only [wrap_in, if_pos, if_neg]; (try simp -dsimp [hlt, hlt']))))) |  (with_reducible refine st_skip ?_; (try simp only [seqQ, blockQ, loopQ, forQ, whileQ, reduceIte, Nat.reduceEqDiff])) | (with_reducible refine st_exit ?_; (try simp only [seqQ, blockQ, loopQ, forQ, whileQ, reduceIte, Nat.reduceEqDiff])) | (with_reducible refine st_ret ?_; ((try simp only [seqQ, blockQ, loopQ, forQ, whileQ]); refine retQ_ret ?_; simp [hlt, hlt'])) | refine st_seq ?_ | refine st_block ?_ | (refine st_reg follows ?_; (simp -dsimp [hlt, hlt']; (repeat (simp -dsimp (disch := (first | omega | assumption | (refine Bool.eq_false_iff.1 ?_; assumption))) only [wrap_in, if_pos, if_neg]; (try simp -dsimp [hlt, hlt']))))) | (refine guardP_of (fun hc => ?_) (fun hc => ?_) <;> (try simp only [decide_eq_true_eq, decide_eq_false_iff_not, Bool.true_eq_false, Bool.false_eq_true, bne_iff_ne, ne_eq, bne_eq_false_iff_eq, beq_iff_eq, beq_eq_false_iff_ne, Bool.not_eq_true, Bool.not_eq_false, Bool.not_eq_eq_eq_not, Bool.not_true, Bool.not_false, Decidable.not_not] at hc) <;> (try (exfalso; first | omega | exact bool_tf hc (by assumption) | exact bool_ft hc (by assumption) | exact absurd (by assumption) hc)) <;> (simp -dsimp [hlt, hlt', hc]; (repeat (simp -dsimp (disch := (first | omega | assumption | (refine Bool.eq_false_iff.1 ?_; assumption))) only [wrap_in, if_pos, if_neg]; (try simp -dsimp [hlt, hlt', hc]))))) | (refine st_cond rfl (fun hc => ?_) (fun hc => ?_) <;> (try simp only [decide_eq_true_eq, decide_eq_false_iff_not, Bool.true_eq_false, Bool.false_eq_true, bne_iff_ne, ne_eq, bne_eq_false_iff_eq, beq_iff_eq, beq_eq_false_iff_ne, Bool.not_eq_true, Bool.not_eq_false, Bool.not_eq_eq_eq_not, Bool.not_true, Bool.not_false, Decidable.not_not] at hc) <;> (try (exfalso; first | omega | exact bool_tf hc (by assumption) | exact bool_ft hc (by assumption) | exact absurd (by assumption) hc)))))
    refine st_for [3] c.runs.length (fun r T H => (j < r → ¬ posAt c h j = sec) ∧ T = [(1, .c (I j)), (2, .c (I sec)), (3, .ptr 3 0), (7, .c (I (posAt c h r))), (8, .c (I h)), (9, .c (I r))] ∧ H = [(3, boxW c)]) (by simp) ⟨by omega, by simp, by simp [boxW]⟩ ?_
    rintro r T H hr ⟨hjr, rfl, rfl⟩
    simp only [boxW, slI, slP]
    have h1 := hp h r
    by_cases hlr : r < c.runs.length
    · have h2 := hruns r hlr
      have r1 : IntKind.i64.wrap (posAt c h r + c.runs[r]) = posAt c h r + c.runs[r] := wrap_in _ (by omega) (by omega)
      have r2 : (posAt c h r + c.runs[r]).tmod c.sections = (posAt c h r + c.runs[r]) % c.sections := Int.tmod_eq_emod_of_nonneg (by omega)
      have e1 : (IntKind.i64.wrap (posAt c h r + c.runs[r])).tmod c.sections = posAt c h (r + 1) := by rw [r1, r2, posAt_r hlr]
      by_cases hrj : r = j
      · subst hrj
        (repeat' (first | (refine buildP_own ?_; (simp -dsimp [hlt, hlr, e1, hs0]; (repeat (simp -dsimp (disch := (first | omega | assumption | (refine Bool.eq_false_iff.1 ?_; assumption))) only [wrap_in, if_pos, if_neg]; (try simp -dsimp [hlt, hlr, e1, hs0]))))) |  (with_reducible refine st_skip ?_; (try simp only [seqQ, blockQ, loopQ, forQ, whileQ, reduceIte, Nat.reduceEqDiff])) | (with_reducible refine st_exit ?_; (try simp only [seqQ, blockQ, loopQ, forQ, whileQ, reduceIte, Nat.reduceEqDiff])) | (with_reducible refine st_ret ?_; ((try simp only [seqQ, blockQ, loopQ, forQ, whileQ]); refine retQ_ret ?_; simp [hlt, hlr, e1, hs0])) | refine st_seq ?_ | refine st_block ?_ | (refine st_reg follows ?_; (simp -dsimp [hlt, hlr, e1, hs0]; (repeat (simp -dsimp (disch := (first | omega | assumption | (refine Bool.eq_false_iff.1 ?_; assumption))) only [wrap_in, if_pos, if_neg]; (try simp -dsimp [hlt, hlr, e1, hs0]))))) | (refine guardP_of (fun hc => ?_) (fun hc => ?_) <;> (try simp only [decide_eq_true_eq, decide_eq_false_iff_not, Bool.true_eq_false, Bool.false_eq_true, bne_iff_ne, ne_eq, bne_eq_false_iff_eq, beq_iff_eq, beq_eq_false_iff_ne, Bool.not_eq_true, Bool.not_eq_false, Bool.not_eq_eq_eq_not, Bool.not_true, Bool.not_false, Decidable.not_not] at hc) <;> (try (exfalso; first | omega | exact bool_tf hc (by assumption) | exact bool_ft hc (by assumption) | exact absurd (by assumption) hc)) <;> (simp -dsimp [hlt, hlr, e1, hs0, hc]; (repeat (simp -dsimp (disch := (first | omega | assumption | (refine Bool.eq_false_iff.1 ?_; assumption))) only [wrap_in, if_pos, if_neg]; (try simp -dsimp [hlt, hlr, e1, hs0, hc]))))) | (refine st_cond rfl (fun hc => ?_) (fun hc => ?_) <;> (try simp only [decide_eq_true_eq, decide_eq_false_iff_not, Bool.true_eq_false, Bool.false_eq_true, bne_iff_ne, ne_eq, bne_eq_false_iff_eq, beq_iff_eq, beq_eq_false_iff_ne, Bool.not_eq_true, Bool.not_eq_false, Bool.not_eq_eq_eq_not, Bool.not_true, Bool.not_false, Decidable.not_not] at hc) <;> (try (exfalso; first | omega | exact bool_tf hc (by assumption) | exact bool_ft hc (by assumption) | exact absurd (by assumption) hc)))))
        · exact CLe.bool (by unfold inStepTo; rw [eq_comm, List.any_eq_true]; exact ⟨h, by simp [hlt], by simp [hc]⟩)
        · exact ⟨hlr, by simp, fun _ => hc, by simp, rfl⟩
      · have hrj' : ¬ (r : Int) = (j : Int) := by omega
        (repeat' (first | (refine buildP_own ?_; (simp -dsimp [hlt, hlr, e1, hs0, hrj']; (repeat (simp -dsimp (disch := (first | omega | assumption | (refine Bool.eq_false_iff.1 ?_; assumption))) only [wrap_in, if_pos, if_neg]; (try simp -dsimp [hlt, hlr, e1, hs0, hrj']))))) |  (with_reducible refine st_skip ?_; (try simp only [seqQ, blockQ, loopQ, forQ, whileQ, reduceIte, Nat.reduceEqDiff])) | (with_reducible refine st_exit ?_; (try simp only [seqQ, blockQ, loopQ, forQ, whileQ, reduceIte, Nat.reduceEqDiff])) | (with_reducible refine st_ret ?_; ((try simp only [seqQ, blockQ, loopQ, forQ, whileQ]); refine retQ_ret ?_; simp [hlt, hlr, e1, hs0, hrj'])) | refine st_seq ?_ | refine st_block ?_ | (refine st_reg follows ?_; (simp -dsimp [hlt, hlr, e1, hs0, hrj']; (repeat (simp -dsimp (disch := (first | omega | assumption | (refine Bool.eq_false_iff.1 ?_; assumption))) only [wrap_in, if_pos, if_neg]; (try simp -dsimp [hlt, hlr, e1, hs0, hrj']))))) | (refine guardP_of (fun hc => ?_) (fun hc => ?_) <;> (try simp only [decide_eq_true_eq, decide_eq_false_iff_not, Bool.true_eq_false, Bool.false_eq_true, bne_iff_ne, ne_eq, bne_eq_false_iff_eq, beq_iff_eq, beq_eq_false_iff_ne, Bool.not_eq_true, Bool.not_eq_false, Bool.not_eq_eq_eq_not, Bool.not_true, Bool.not_false, Decidable.not_not] at hc) <;> (try (exfalso; first | omega | exact bool_tf hc (by assumption) | exact bool_ft hc (by assumption) | exact absurd (by assumption) hc)) <;> (simp -dsimp [hlt, hlr, e1, hs0, hrj', hc]; (repeat (simp -dsimp (disch := (first | omega | assumption | (refine Bool.eq_false_iff.1 ?_; assumption))) only [wrap_in, if_pos, if_neg]; (try simp -dsimp [hlt, hlr, e1, hs0, hrj', hc]))))) | (refine st_cond rfl (fun hc => ?_) (fun hc => ?_) <;> (try simp only [decide_eq_true_eq, decide_eq_false_iff_not, Bool.true_eq_false, Bool.false_eq_true, bne_iff_ne, ne_eq, bne_eq_false_iff_eq, beq_iff_eq, beq_eq_false_iff_ne, Bool.not_eq_true, Bool.not_eq_false, Bool.not_eq_eq_eq_not, Bool.not_true, Bool.not_false, Decidable.not_not] at hc) <;> (try (exfalso; first | omega | exact bool_tf hc (by assumption) | exact bool_ft hc (by assumption) | exact absurd (by assumption) hc)))))
        exact ⟨hlr, by simp, fun hjr' => hjr (by omega), by simp, rfl⟩
    · (repeat' (first | (refine buildP_own ?_; (simp -dsimp [hlt, hlr]; (repeat (simp -dsimp (disch := (first | omega | assumption | (refine Bool.eq_false_iff.1 ?_; assumption))) only [wrap_in, if_pos, if_neg]; (try simp -dsimp [hlt, hlr]))))) |  (with_reducible refine st_skip ?_; (try simp only [seqQ, blockQ, loopQ, forQ, whileQ, reduceIte, Nat.reduceEqDiff])) | (with_reducible refine st_exit ?_; (try simp only [seqQ, blockQ, loopQ, forQ, whileQ, reduceIte, Nat.reduceEqDiff])) | (with_reducible refine st_ret ?_; ((try simp only [seqQ, blockQ, loopQ, forQ, whileQ]); refine retQ_ret ?_; simp [hlt, hlr])) | refine st_seq ?_ | refine st_block ?_ | (refine st_reg follows ?_; (simp -dsimp [hlt, hlr]; (repeat (simp -dsimp (disch := (first | omega | assumption | (refine Bool.eq_false_iff.1 ?_; assumption))) only [wrap_in, if_pos, if_neg]; (try simp -dsimp [hlt, hlr]))))) | (refine guardP_of (fun hc => ?_) (fun hc => ?_) <;> (try simp only [decide_eq_true_eq, decide_eq_false_iff_not, Bool.true_eq_false, Bool.false_eq_true, bne_iff_ne, ne_eq, bne_eq_false_iff_eq, beq_iff_eq, beq_eq_false_iff_ne, Bool.not_eq_true, Bool.not_eq_false, Bool.not_eq_eq_eq_not, Bool.not_true, Bool.not_false, Decidable.not_not] at hc) <;> (try (exfalso; first | omega | exact bool_tf hc (by assumption) | exact bool_ft hc (by assumption) | exact absurd (by assumption) hc)) <;> (simp -dsimp [hlt, hlr, hc]; (repeat (simp -dsimp (disch := (first | omega | assumption | (refine Bool.eq_false_iff.1 ?_; assumption))) only [wrap_in, if_pos, if_neg]; (try simp -dsimp [hlt, hlr, hc]))))) | (refine st_cond rfl (fun hc => ?_) (fun hc => ?_) <;> (try simp only [decide_eq_true_eq, decide_eq_false_iff_not, Bool.true_eq_false, Bool.false_eq_true, bne_iff_ne, ne_eq, bne_eq_false_iff_eq, beq_iff_eq, beq_eq_false_iff_ne, Bool.not_eq_true, Bool.not_eq_false, Bool.not_eq_eq_eq_not, Bool.not_true, Bool.not_false, Decidable.not_not] at hc) <;> (try (exfalso; first | omega | exact bool_tf hc (by assumption) | exact bool_ft hc (by assumption) | exact absurd (by assumption) hc)))))
      exact ⟨hlt, by simp, by rw [inStepTo_next, hno]; simpa using hjr (by omega), by simp [posAt_h hlr], by simp [boxW]⟩
  · have hlt' : ¬ (h : Int) ≤ c.sections := by omega
    (repeat' (first | (refine buildP_own ?_; (simp -dsimp [hlt, hlt']; (repeat (simp -dsimp (disch := (first | omega | assumption | (refine Bool.eq_false_iff.1 ?_; assumption))) only [wrap_in, if_pos, if_neg]; (try simp -dsimp [hlt, hlt']))))) |  (with_reducible refine st_skip ?_; (try simp only [seqQ, blockQ, loopQ, forQ, whileQ, reduceIte, Nat.reduceEqDiff])) | (with_reducible refine st_exit ?_; (try simp only [seqQ, blockQ, loopQ, forQ, whileQ, reduceIte, Nat.reduceEqDiff])) | (with_reducible refine st_ret ?_; ((try simp only [seqQ, blockQ, loopQ, forQ, whileQ]); refine retQ_ret ?_; simp [hlt, hlt'])) | refine st_seq ?_ | refine st_block ?_ | (refine st_reg follows ?_; (simp -dsimp [hlt, hlt']; (repeat (simp -dsimp (disch := (first | omega | assumption | (refine Bool.eq_false_iff.1 ?_; assumption))) only [wrap_in, if_pos, if_neg]; (try simp -dsimp [hlt, hlt']))))) | (refine guardP_of (fun hc => ?_) (fun hc => ?_) <;> (try simp only [decide_eq_true_eq, decide_eq_false_iff_not, Bool.true_eq_false, Bool.false_eq_true, bne_iff_ne, ne_eq, bne_eq_false_iff_eq, beq_iff_eq, beq_eq_false_iff_ne, Bool.not_eq_true, Bool.not_eq_false, Bool.not_eq_eq_eq_not, Bool.not_true, Bool.not_false, Decidable.not_not] at hc) <;> (try (exfalso; first | omega | exact bool_tf hc (by assumption) | exact bool_ft hc (by assumption) | exact absurd (by assumption) hc)) <;> (simp -dsimp [hlt, hlt', hc]; (repeat (simp -dsimp (disch := (first | omega | assumption | (refine Bool.eq_false_iff.1 ?_; assumption))) only [wrap_in, if_pos, if_neg]; (try simp -dsimp [hlt, hlt', hc]))))) | (refine st_cond rfl (fun hc => ?_) (fun hc => ?_) <;> (try simp only [decide_eq_true_eq, decide_eq_false_iff_not, Bool.true_eq_false, Bool.false_eq_true, bne_iff_ne, ne_eq, bne_eq_false_iff_eq, beq_iff_eq, beq_eq_false_iff_ne, Bool.not_eq_true, Bool.not_eq_false, Bool.not_eq_eq_eq_not, Bool.not_true, Bool.not_false, Decidable.not_not] at hc) <;> (try (exfalso; first | omega | exact bool_tf hc (by assumption) | exact bool_ft hc (by assumption) | exact absurd (by assumption) hc)))))
    have : h = K + 1 := by omega
    subst this
    exact CLe.bool hno.symm

def rStep (c : Wk) (t : Int) (j : Nat) (s : Int) (acc : Int × Int) (k : Nat) : Int × Int :=
  if rInStep c j ((s + k) % c.sections) && (decide (acc.1 < 0) || decide (((rPlays c t k s).length : Int) < acc.2)) then ((k : Int), ((rPlays c t k s).length : Int)) else acc
def rBringTo (c : Wk) (t : Int) (j : Nat) (s : Int) (n : Nat) : Int × Int := (List.range n).foldl (rStep c t j s) (-1, 0)
def rBring (c : Wk) (t : Int) (j : Nat) (s : Int) : Int × Int := rBringTo c t j s c.sections.toNat
theorem rBringTo_next {c : Wk} {t : Int} {j : Nat} {s : Int} {n : Nat} : rBringTo c t j s (n + 1) = rStep c t j s (rBringTo c t j s n) n := by
  unfold rBringTo; rw [List.range_succ, List.foldl_append]; rfl

set_option maxRecDepth 100000 in
set_option maxHeartbeats 2000000 in
theorem sBring (c : Wk) (t : Int) (j : Nat) (s : Int) (hok : worksOk c = true) (ht : inn 0 (c.tunes - 1) t = true) (hj : j < c.runs.length) (hs : inn 0 (c.sections - 1) s = true) :
    SC Try.prog 25 [cWk c, I t, I j, I s] (.tup [I (rBring c t j s).1, I (rBring c t j s).2]) := by
  have hlen := fun k hm => rPlays_len (t := t) (m := k) (s := s) hok hm
  have hI := fun sec => sInStep c j sec hok hj
  have hP := fun k hm => sPlays c t k s hok ht hm hs
  obtain ⟨p1, p2, p3, p4, p5, p6, p7, p8, p9, p10, p11⟩ := worksOk_parts hok
  have i1 := inn_iff.1 p1
  have i2 := inn_iff.1 p2
  have is := inn_iff.1 hs
  clear p1 p2 p3 p4 p5 p6 p7 p8 p9 p10 p11 hok ht hs
  obtain ⟨K, hK⟩ := Int.eq_ofNat_of_zero_le (show 0 ≤ c.sections by omega)
  have hs0 : ¬ c.sections = 0 := by omega
  have er : rBring c t j s = rBringTo c t j s K := by unfold rBring; rw [hK]; rfl
  rw [er]
  refine law25 _ _ (by simp) ?_
  unfold cWk slI slP
  (repeat' (first | (refine buildP_own ?_; (simp -dsimp; (repeat (simp -dsimp (disch := (first | omega | assumption | (refine Bool.eq_false_iff.1 ?_; assumption))) only [wrap_in, if_pos, if_neg]; (try simp -dsimp))))) |  (with_reducible refine st_skip ?_; (try simp only [seqQ, blockQ, loopQ, forQ, whileQ, reduceIte, Nat.reduceEqDiff])) | (with_reducible refine st_exit ?_; (try simp only [seqQ, blockQ, loopQ, forQ, whileQ, reduceIte, Nat.reduceEqDiff])) | (with_reducible refine st_ret ?_; ((try simp only [seqQ, blockQ, loopQ, forQ, whileQ]); refine retQ_ret ?_; simp)) | refine st_seq ?_ | refine st_block ?_ | (refine st_reg follows ?_; (simp -dsimp; (repeat (simp -dsimp (disch := (first | omega | assumption | (refine Bool.eq_false_iff.1 ?_; assumption))) only [wrap_in, if_pos, if_neg]; (try simp -dsimp))))) | (refine guardP_of (fun hc => ?_) (fun hc => ?_) <;> (try simp only [decide_eq_true_eq, decide_eq_false_iff_not, Bool.true_eq_false, Bool.false_eq_true, bne_iff_ne, ne_eq, bne_eq_false_iff_eq, beq_iff_eq, beq_eq_false_iff_ne, Bool.not_eq_true, Bool.not_eq_false, Bool.not_eq_eq_eq_not, Bool.not_true, Bool.not_false, Decidable.not_not] at hc) <;> (try (exfalso; first | omega | exact bool_tf hc (by assumption) | exact bool_ft hc (by assumption) | exact absurd (by assumption) hc)) <;> (simp -dsimp [hc]; (repeat (simp -dsimp (disch := (first | omega | assumption | (refine Bool.eq_false_iff.1 ?_; assumption))) only [wrap_in, if_pos, if_neg]; (try simp -dsimp [hc]))))) | (refine st_cond rfl (fun hc => ?_) (fun hc => ?_) <;> (try simp only [decide_eq_true_eq, decide_eq_false_iff_not, Bool.true_eq_false, Bool.false_eq_true, bne_iff_ne, ne_eq, bne_eq_false_iff_eq, beq_iff_eq, beq_eq_false_iff_ne, Bool.not_eq_true, Bool.not_eq_false, Bool.not_eq_eq_eq_not, Bool.not_true, Bool.not_false, Decidable.not_not] at hc) <;> (try (exfalso; first | omega | exact bool_tf hc (by assumption) | exact bool_ft hc (by assumption) | exact absurd (by assumption) hc)))))
  refine st_for [4] K (fun k T H => T = [(1, .c (I t)), (2, .c (I j)), (3, .c (I s)), (4, .ptr 4 0), (10, .c (I (rBringTo c t j s k).1)), (11, .c (I (rBringTo c t j s k).2)), (12, .c (I k))] ∧ H = [(4, boxW c)]) (by simp) ⟨by simp [rBringTo], by simp [boxW]⟩ ?_
  rintro k T H hk ⟨rfl, rfl⟩
  simp only [boxW, slI, slP]
  by_cases hlt : k < K
  · have hlt' : (k : Int) < c.sections := by omega
    have r1 : IntKind.i64.wrap (s + (k : Int)) = s + (k : Int) := wrap_in _ (by omega) (by omega)
    have r2 : (s + (k : Int)).tmod c.sections = (s + (k : Int)) % c.sections := Int.tmod_eq_emod_of_nonneg (by omega)
    have hkm : inn 0 c.sections (k : Int) = true := inn_iff.2 ⟨by omega, by omega⟩
    have sP := hP k hkm
    have sI := hI ((s + (k : Int)) % c.sections)
    have e : rBringTo c t j s (k + 1) = rStep c t j s (rBringTo c t j s k) k := rBringTo_next
    obtain ⟨acc, hacc⟩ : ∃ acc, rBringTo c t j s k = acc := ⟨_, rfl⟩
    rw [hacc] at e ⊢
    unfold rStep at e
    obtain ⟨b, hb⟩ : ∃ b, rInStep c j ((s + (k : Int)) % c.sections) = b := ⟨_, rfl⟩
    obtain ⟨l, hl⟩ : ∃ l, rPlays c t k s = l := ⟨_, rfl⟩
    rw [hb] at e sI
    rw [hl] at e sP
    cases b with
    | true =>
      by_cases hneg : acc.1 < 0
      · (repeat' (first | (refine buildP_own ?_; (simp -dsimp [hlt, hlt', r1, r2, hs0, hneg]; (repeat (simp -dsimp (disch := (first | omega | assumption | (refine Bool.eq_false_iff.1 ?_; assumption))) only [wrap_in, if_pos, if_neg]; (try simp -dsimp [hlt, hlt', r1, r2, hs0, hneg]))))) | (refine callP_of (sP) (.inl rfl) ?_; (simp -dsimp [hlt, hlt', r1, r2, hs0, hneg]; (repeat (simp -dsimp (disch := (first | omega | assumption | (refine Bool.eq_false_iff.1 ?_; assumption))) only [wrap_in, if_pos, if_neg]; (try simp -dsimp [hlt, hlt', r1, r2, hs0, hneg]))))) | (refine callP_of (sI) (.inl rfl) ?_; (simp -dsimp [hlt, hlt', r1, r2, hs0, hneg]; (repeat (simp -dsimp (disch := (first | omega | assumption | (refine Bool.eq_false_iff.1 ?_; assumption))) only [wrap_in, if_pos, if_neg]; (try simp -dsimp [hlt, hlt', r1, r2, hs0, hneg]))))) |  (with_reducible refine st_skip ?_; (try simp only [seqQ, blockQ, loopQ, forQ, whileQ, reduceIte, Nat.reduceEqDiff])) | (with_reducible refine st_exit ?_; (try simp only [seqQ, blockQ, loopQ, forQ, whileQ, reduceIte, Nat.reduceEqDiff])) | (with_reducible refine st_ret ?_; ((try simp only [seqQ, blockQ, loopQ, forQ, whileQ]); refine retQ_ret ?_; simp [hlt, hlt', r1, r2, hs0, hneg])) | refine st_seq ?_ | refine st_block ?_ | (refine st_reg follows ?_; (simp -dsimp [hlt, hlt', r1, r2, hs0, hneg]; (repeat (simp -dsimp (disch := (first | omega | assumption | (refine Bool.eq_false_iff.1 ?_; assumption))) only [wrap_in, if_pos, if_neg]; (try simp -dsimp [hlt, hlt', r1, r2, hs0, hneg]))))) | (refine guardP_of (fun hc => ?_) (fun hc => ?_) <;> (try simp only [decide_eq_true_eq, decide_eq_false_iff_not, Bool.true_eq_false, Bool.false_eq_true, bne_iff_ne, ne_eq, bne_eq_false_iff_eq, beq_iff_eq, beq_eq_false_iff_ne, Bool.not_eq_true, Bool.not_eq_false, Bool.not_eq_eq_eq_not, Bool.not_true, Bool.not_false, Decidable.not_not] at hc) <;> (try (exfalso; first | omega | exact bool_tf hc (by assumption) | exact bool_ft hc (by assumption) | exact absurd (by assumption) hc)) <;> (simp -dsimp [hlt, hlt', r1, r2, hs0, hneg, hc]; (repeat (simp -dsimp (disch := (first | omega | assumption | (refine Bool.eq_false_iff.1 ?_; assumption))) only [wrap_in, if_pos, if_neg]; (try simp -dsimp [hlt, hlt', r1, r2, hs0, hneg, hc]))))) | (refine st_cond rfl (fun hc => ?_) (fun hc => ?_) <;> (try simp only [decide_eq_true_eq, decide_eq_false_iff_not, Bool.true_eq_false, Bool.false_eq_true, bne_iff_ne, ne_eq, bne_eq_false_iff_eq, beq_iff_eq, beq_eq_false_iff_ne, Bool.not_eq_true, Bool.not_eq_false, Bool.not_eq_eq_eq_not, Bool.not_true, Bool.not_false, Decidable.not_not] at hc) <;> (try (exfalso; first | omega | exact bool_tf hc (by assumption) | exact bool_ft hc (by assumption) | exact absurd (by assumption) hc)))))
        exact ⟨hlt, by simp, by simp [e, hneg], by simp [boxW]⟩
      · (repeat' (first | (refine buildP_own ?_; (simp -dsimp [hlt, hlt', r1, r2, hs0, hneg]; (repeat (simp -dsimp (disch := (first | omega | assumption | (refine Bool.eq_false_iff.1 ?_; assumption))) only [wrap_in, if_pos, if_neg]; (try simp -dsimp [hlt, hlt', r1, r2, hs0, hneg]))))) | (refine callP_of (sP) (.inl rfl) ?_; (simp -dsimp [hlt, hlt', r1, r2, hs0, hneg]; (repeat (simp -dsimp (disch := (first | omega | assumption | (refine Bool.eq_false_iff.1 ?_; assumption))) only [wrap_in, if_pos, if_neg]; (try simp -dsimp [hlt, hlt', r1, r2, hs0, hneg]))))) | (refine callP_of (sI) (.inl rfl) ?_; (simp -dsimp [hlt, hlt', r1, r2, hs0, hneg]; (repeat (simp -dsimp (disch := (first | omega | assumption | (refine Bool.eq_false_iff.1 ?_; assumption))) only [wrap_in, if_pos, if_neg]; (try simp -dsimp [hlt, hlt', r1, r2, hs0, hneg]))))) |  (with_reducible refine st_skip ?_; (try simp only [seqQ, blockQ, loopQ, forQ, whileQ, reduceIte, Nat.reduceEqDiff])) | (with_reducible refine st_exit ?_; (try simp only [seqQ, blockQ, loopQ, forQ, whileQ, reduceIte, Nat.reduceEqDiff])) | (with_reducible refine st_ret ?_; ((try simp only [seqQ, blockQ, loopQ, forQ, whileQ]); refine retQ_ret ?_; simp [hlt, hlt', r1, r2, hs0, hneg])) | refine st_seq ?_ | refine st_block ?_ | (refine st_reg follows ?_; (simp -dsimp [hlt, hlt', r1, r2, hs0, hneg]; (repeat (simp -dsimp (disch := (first | omega | assumption | (refine Bool.eq_false_iff.1 ?_; assumption))) only [wrap_in, if_pos, if_neg]; (try simp -dsimp [hlt, hlt', r1, r2, hs0, hneg]))))) | (refine guardP_of (fun hc => ?_) (fun hc => ?_) <;> (try simp only [decide_eq_true_eq, decide_eq_false_iff_not, Bool.true_eq_false, Bool.false_eq_true, bne_iff_ne, ne_eq, bne_eq_false_iff_eq, beq_iff_eq, beq_eq_false_iff_ne, Bool.not_eq_true, Bool.not_eq_false, Bool.not_eq_eq_eq_not, Bool.not_true, Bool.not_false, Decidable.not_not] at hc) <;> (try (exfalso; first | omega | exact bool_tf hc (by assumption) | exact bool_ft hc (by assumption) | exact absurd (by assumption) hc)) <;> (simp -dsimp [hlt, hlt', r1, r2, hs0, hneg, hc]; (repeat (simp -dsimp (disch := (first | omega | assumption | (refine Bool.eq_false_iff.1 ?_; assumption))) only [wrap_in, if_pos, if_neg]; (try simp -dsimp [hlt, hlt', r1, r2, hs0, hneg, hc]))))) | (refine st_cond rfl (fun hc => ?_) (fun hc => ?_) <;> (try simp only [decide_eq_true_eq, decide_eq_false_iff_not, Bool.true_eq_false, Bool.false_eq_true, bne_iff_ne, ne_eq, bne_eq_false_iff_eq, beq_iff_eq, beq_eq_false_iff_ne, Bool.not_eq_true, Bool.not_eq_false, Bool.not_eq_eq_eq_not, Bool.not_true, Bool.not_false, Decidable.not_not] at hc) <;> (try (exfalso; first | omega | exact bool_tf hc (by assumption) | exact bool_ft hc (by assumption) | exact absurd (by assumption) hc)))))
        · exact ⟨hlt, by simp, by simp [e, hneg, hc], by simp [boxW]⟩
        · exact ⟨hlt, by simp, by simp [e, hneg, hc], by simp [boxW]⟩
    | false =>
      (repeat' (first | (refine buildP_own ?_; (simp -dsimp [hlt, hlt', r1, r2, hs0]; (repeat (simp -dsimp (disch := (first | omega | assumption | (refine Bool.eq_false_iff.1 ?_; assumption))) only [wrap_in, if_pos, if_neg]; (try simp -dsimp [hlt, hlt', r1, r2, hs0]))))) | (refine callP_of (sP) (.inl rfl) ?_; (simp -dsimp [hlt, hlt', r1, r2, hs0]; (repeat (simp -dsimp (disch := (first | omega | assumption | (refine Bool.eq_false_iff.1 ?_; assumption))) only [wrap_in, if_pos, if_neg]; (try simp -dsimp [hlt, hlt', r1, r2, hs0]))))) | (refine callP_of (sI) (.inl rfl) ?_; (simp -dsimp [hlt, hlt', r1, r2, hs0]; (repeat (simp -dsimp (disch := (first | omega | assumption | (refine Bool.eq_false_iff.1 ?_; assumption))) only [wrap_in, if_pos, if_neg]; (try simp -dsimp [hlt, hlt', r1, r2, hs0]))))) |  (with_reducible refine st_skip ?_; (try simp only [seqQ, blockQ, loopQ, forQ, whileQ, reduceIte, Nat.reduceEqDiff])) | (with_reducible refine st_exit ?_; (try simp only [seqQ, blockQ, loopQ, forQ, whileQ, reduceIte, Nat.reduceEqDiff])) | (with_reducible refine st_ret ?_; ((try simp only [seqQ, blockQ, loopQ, forQ, whileQ]); refine retQ_ret ?_; simp [hlt, hlt', r1, r2, hs0])) | refine st_seq ?_ | refine st_block ?_ | (refine st_reg follows ?_; (simp -dsimp [hlt, hlt', r1, r2, hs0]; (repeat (simp -dsimp (disch := (first | omega | assumption | (refine Bool.eq_false_iff.1 ?_; assumption))) only [wrap_in, if_pos, if_neg]; (try simp -dsimp [hlt, hlt', r1, r2, hs0]))))) | (refine guardP_of (fun hc => ?_) (fun hc => ?_) <;> (try simp only [decide_eq_true_eq, decide_eq_false_iff_not, Bool.true_eq_false, Bool.false_eq_true, bne_iff_ne, ne_eq, bne_eq_false_iff_eq, beq_iff_eq, beq_eq_false_iff_ne, Bool.not_eq_true, Bool.not_eq_false, Bool.not_eq_eq_eq_not, Bool.not_true, Bool.not_false, Decidable.not_not] at hc) <;> (try (exfalso; first | omega | exact bool_tf hc (by assumption) | exact bool_ft hc (by assumption) | exact absurd (by assumption) hc)) <;> (simp -dsimp [hlt, hlt', r1, r2, hs0, hc]; (repeat (simp -dsimp (disch := (first | omega | assumption | (refine Bool.eq_false_iff.1 ?_; assumption))) only [wrap_in, if_pos, if_neg]; (try simp -dsimp [hlt, hlt', r1, r2, hs0, hc]))))) | (refine st_cond rfl (fun hc => ?_) (fun hc => ?_) <;> (try simp only [decide_eq_true_eq, decide_eq_false_iff_not, Bool.true_eq_false, Bool.false_eq_true, bne_iff_ne, ne_eq, bne_eq_false_iff_eq, beq_iff_eq, beq_eq_false_iff_ne, Bool.not_eq_true, Bool.not_eq_false, Bool.not_eq_eq_eq_not, Bool.not_true, Bool.not_false, Decidable.not_not] at hc) <;> (try (exfalso; first | omega | exact bool_tf hc (by assumption) | exact bool_ft hc (by assumption) | exact absurd (by assumption) hc)))))
      exact ⟨hlt, by simp, by simp [e], by simp [boxW]⟩
  · have hlt' : ¬ (k : Int) < c.sections := by omega
    (repeat' (first | (refine buildP_own ?_; (simp -dsimp [hlt, hlt']; (repeat (simp -dsimp (disch := (first | omega | assumption | (refine Bool.eq_false_iff.1 ?_; assumption))) only [wrap_in, if_pos, if_neg]; (try simp -dsimp [hlt, hlt']))))) |  (with_reducible refine st_skip ?_; (try simp only [seqQ, blockQ, loopQ, forQ, whileQ, reduceIte, Nat.reduceEqDiff])) | (with_reducible refine st_exit ?_; (try simp only [seqQ, blockQ, loopQ, forQ, whileQ, reduceIte, Nat.reduceEqDiff])) | (with_reducible refine st_ret ?_; ((try simp only [seqQ, blockQ, loopQ, forQ, whileQ]); refine retQ_ret ?_; simp [hlt, hlt'])) | refine st_seq ?_ | refine st_block ?_ | (refine st_reg follows ?_; (simp -dsimp [hlt, hlt']; (repeat (simp -dsimp (disch := (first | omega | assumption | (refine Bool.eq_false_iff.1 ?_; assumption))) only [wrap_in, if_pos, if_neg]; (try simp -dsimp [hlt, hlt']))))) | (refine guardP_of (fun hc => ?_) (fun hc => ?_) <;> (try simp only [decide_eq_true_eq, decide_eq_false_iff_not, Bool.true_eq_false, Bool.false_eq_true, bne_iff_ne, ne_eq, bne_eq_false_iff_eq, beq_iff_eq, beq_eq_false_iff_ne, Bool.not_eq_true, Bool.not_eq_false, Bool.not_eq_eq_eq_not, Bool.not_true, Bool.not_false, Decidable.not_not] at hc) <;> (try (exfalso; first | omega | exact bool_tf hc (by assumption) | exact bool_ft hc (by assumption) | exact absurd (by assumption) hc)) <;> (simp -dsimp [hlt, hlt', hc]; (repeat (simp -dsimp (disch := (first | omega | assumption | (refine Bool.eq_false_iff.1 ?_; assumption))) only [wrap_in, if_pos, if_neg]; (try simp -dsimp [hlt, hlt', hc]))))) | (refine st_cond rfl (fun hc => ?_) (fun hc => ?_) <;> (try simp only [decide_eq_true_eq, decide_eq_false_iff_not, Bool.true_eq_false, Bool.false_eq_true, bne_iff_ne, ne_eq, bne_eq_false_iff_eq, beq_iff_eq, beq_eq_false_iff_ne, Bool.not_eq_true, Bool.not_eq_false, Bool.not_eq_eq_eq_not, Bool.not_true, Bool.not_false, Decidable.not_not] at hc) <;> (try (exfalso; first | omega | exact bool_tf hc (by assumption) | exact bool_ft hc (by assumption) | exact absurd (by assumption) hc)))))
    have : k = K := by omega
    subst this
    exact .refl _

end Go.Proofs.Ytdgplebmlggmcaa
/- The contracts that were walked by hand, as contracts by value. -/
namespace Go.Proofs.Ytdgplebmlggmcaa
open Go.RowKit

def rowS (x : Int × Int × Int) : List CV := [I x.1, I x.2.1, I x.2.2]
attribute [simp] rowS
def slS (xs : List (Int × Int × Int)) : CV := .sl 3 (xs.map rowS)
attribute [simp] slS

theorem arr1 {vs : Array Value} (h : vs.size = 1) : ∃ a, vs = #[a] := by
  rcases vs with ⟨_ | ⟨a, _ | ⟨b, l⟩⟩⟩ <;> simp at h; exact ⟨a, rfl⟩
theorem arr2 {vs : Array Value} (h : vs.size = 2) : ∃ a b, vs = #[a, b] := by
  rcases vs with ⟨_ | ⟨a, _ | ⟨b, _ | ⟨c, l⟩⟩⟩⟩ <;> simp at h; exact ⟨a, b, rfl⟩
theorem arr3 {vs : Array Value} (h : vs.size = 3) : ∃ a b c, vs = #[a, b, c] := by
  rcases vs with ⟨_ | ⟨a, _ | ⟨b, _ | ⟨c, _ | ⟨d, l⟩⟩⟩⟩⟩ <;> simp at h; exact ⟨a, b, c, rfl⟩
theorem arr4 {vs : Array Value} (h : vs.size = 4) : ∃ a b c d, vs = #[a, b, c, d] := by
  rcases vs with ⟨_ | ⟨a, _ | ⟨b, _ | ⟨c, _ | ⟨d, _ | ⟨e, l⟩⟩⟩⟩⟩⟩ <;> simp at h; exact ⟨a, b, c, d, rfl⟩
theorem arr6 {vs : Array Value} (h : vs.size = 6) : ∃ a b c d e f, vs = #[a, b, c, d, e, f] := by
  rcases vs with ⟨_ | ⟨a, _ | ⟨b, _ | ⟨c, _ | ⟨d, _ | ⟨e, _ | ⟨f, _ | ⟨g, l⟩⟩⟩⟩⟩⟩⟩⟩ <;> simp at h; exact ⟨a, b, c, d, e, f, rfl⟩

theorem val_inv {w : World} {N : Nat → Prop} {u v : Value} (h : RepC w N (.val u) v) : v = u := by cases h; rfl

section
variable {α : Type} {k : Nat} {enc : α → List Value} {row : α → List CV} (hk : ∀ x, (enc x).length = k) (he : ∀ x, row x = (enc x).map CV.val)

theorem sl_row {w : World} {N : Nat → Prop} {xs : List α} {v : Value} (hk : ∀ x, (enc x).length = k) (he : ∀ x, row x = (enc x).map CV.val) (h : RepC w N (.sl k (xs.map row)) v) : ∃ a c, v = .slice a xs.length c ∧ Row k enc w a c xs := by
  obtain ⟨a, c, rfl, h1, h2, h3⟩ := h.sl_inv
  rw [List.length_map] at h1 ⊢
  refine ⟨a, c, rfl, h1, h2, fun j hj => ?_⟩
  rcases h3 with h3 | ⟨b, off, u, rfl, hb, _, _, hc, hr⟩
  · simp at h3; subst h3; exact absurd hj (Nat.not_lt_zero _)
  · refine ⟨b, off, rfl, hb, fun i hi => ?_⟩
    have hi' : i < (enc xs[j]).length := by rw [hk]; exact hi
    have e1 : (xs.map row)[j]? = some (row xs[j]) := by rw [List.getElem?_map, List.getElem?_eq_getElem hj]; rfl
    have e2 : (row xs[j])[i]? = some (.val (enc xs[j])[i]) := by rw [he, List.getElem?_map, List.getElem?_eq_getElem hi']; rfl
    rw [hc j _ i _ e1 e2, val_inv (hr j _ i _ e1 e2), List.getElem?_eq_getElem hi']

theorem row_sl {w : World} {N : Nat → Prop} {n : Nat} {xs : List α} {v : Value} (hk : ∀ x, (enc x).length = k) (he : ∀ x, row x = (enc x).map CV.val) (ho : ∀ x, ∀ u ∈ enc x, CV.one (.val u) = true) (h : Sl k enc w v xs) (hl : ∀ b, v.ownBlock = some b → n ≤ b) (hn : ∀ b, N b → b < n) : RepC w N (.sl k (xs.map row)) v := by
  obtain ⟨a, c, rfl, hr⟩ := h
  cases hxs : xs with
  | nil => exact .nil k a c hr.top
  | cons x0 xs0 =>
    rw [← hxs]
    have h0 : 0 < xs.length := by rw [hxs]; simp
    obtain ⟨b, off, rfl, hb, hc⟩ := hr.at' 0 h0
    have e := RepC.sl (w := w) (N := N) k (xs.map row) b off c (fun j i => ((xs[j]?).bind fun x => (enc x)[i]?).getD undef) (by rw [List.length_map]; exact hr.cap) hr.top hb (fun hN => Nat.lt_irrefl _ (Nat.lt_of_lt_of_le (hn b hN) (hl b rfl))) ?_ ?_ ?_
    · rw [List.length_map] at e; exact e
    · intro j r hj
      rw [List.getElem?_map] at hj
      obtain ⟨x, hx, rfl⟩ := Option.map_eq_some_iff.1 hj
      refine ⟨by rw [he, List.length_map, hk], ?_⟩
      rw [he, List.all_map, List.all_eq_true]
      exact fun u hu => ho x u hu
    · intro j r i y hj hi
      rw [List.getElem?_map] at hj
      obtain ⟨x, hx, rfl⟩ := Option.map_eq_some_iff.1 hj
      obtain ⟨hjl, rfl⟩ := List.getElem?_eq_some_iff.1 hx
      rw [he, List.getElem?_map] at hi
      obtain ⟨u, hu, rfl⟩ := Option.map_eq_some_iff.1 hi
      obtain ⟨b', off', e1, _, hc'⟩ := hr.at' j hjl
      cases e1
      obtain ⟨hil, _⟩ := List.getElem?_eq_some_iff.1 hu
      rw [hc' i (by rw [← hk xs[j]]; exact hil)]
      simp [hx, hu]
    · intro j r i y hj hi
      rw [List.getElem?_map] at hj
      obtain ⟨x, hx, rfl⟩ := Option.map_eq_some_iff.1 hj
      rw [he, List.getElem?_map] at hi
      obtain ⟨u, hu, rfl⟩ := Option.map_eq_some_iff.1 hi
      simp only [hx, Option.bind_some, hu, Option.getD_some]
      exact .val u
end

theorem oneI (x : Int) : ∀ u ∈ encI x, CV.one (.val u) = true := by intro u hu; simp [encI] at hu; subst hu; rfl
theorem oneP (x : Int × Int) : ∀ u ∈ encP x, CV.one (.val u) = true := by intro u hu; simp [encP] at hu; rcases hu with rfl | rfl <;> rfl
theorem rowI_eq (x : Int) : rowI x = (encI x).map CV.val := rfl
theorem rowP_eq (x : Int × Int) : rowP x = (encP x).map CV.val := rfl
theorem rowS_eq (x : Int × Int × Int) : rowS x = (encS x).map CV.val := rfl
theorem lenI (x : Int) : (encI x).length = 1 := rfl
theorem lenP (x : Int × Int) : (encP x).length = 2 := rfl
theorem lenS (x : Int × Int × Int) : (encS x).length = 3 := rfl

theorem wk_inv {w : World} {N : Nat → Prop} {c : Wk} {v : Value} (h : RepC w N (cWk c) v) : ∃ a1 c1 a2 c2 a3 c3, v = (.agg #[.int .i64 c.steps, .int .i64 c.sections, .slice a1 c.runs.length c1, .int .i64 c.tunes, .slice a2 c.hammers.length c2, .slice a3 c.pins.length c3]) ∧ RdW w c a1 c1 a2 c2 a3 c3 := by
  unfold cWk at h
  cases h with
  | agg _ vs hs hv =>
    obtain ⟨v0, v1, v2, v3, v4, v5, rfl⟩ := arr6 hs
    obtain ⟨a1, c1, rfl, r1⟩ := sl_row lenI rowI_eq (hv 2 _ _ rfl rfl)
    obtain ⟨a2, c2, rfl, r2⟩ := sl_row lenP rowP_eq (hv 4 _ _ rfl rfl)
    obtain ⟨a3, c3, rfl, r3⟩ := sl_row lenP rowP_eq (hv 5 _ _ rfl rfl)
    have e0 := val_inv (hv 0 _ _ rfl rfl)
    have e1 := val_inv (hv 1 _ _ rfl rfl)
    have e3 := val_inv (hv 3 _ _ rfl rfl)
    subst e0 e1 e3
    exact ⟨a1, c1, a2, c2, a3, c3, rfl, r1, r2, r3⟩

theorem rep_tup1 {w : World} {N : Nat → Prop} {x y : CV} {a b : Value} (h1 : RepC w N x a) (h2 : RepC w N y b) : RepC w N (.tup [x, y]) (.tuple #[a, b]) :=
  .tup _ _ rfl fun i x' v hx hv => by
    match i with
    | 0 => cases hx; cases hv; exact h1
    | 1 => cases hx; cases hv; exact h2
    | n + 2 => simp at hx
theorem rep_tup3 {w : World} {N : Nat → Prop} {x y z : CV} {a b c : Value} (h1 : RepC w N x a) (h2 : RepC w N y b) (h3 : RepC w N z c) : RepC w N (.tup [x, y, z]) (.tuple #[a, b, c]) :=
  .tup _ _ rfl fun i x' v hx hv => by
    match i with
    | 0 => cases hx; cases hv; exact h1
    | 1 => cases hx; cases hv; exact h2
    | 2 => cases hx; cases hv; exact h3
    | n + 3 => simp at hx

theorem ret2P {w w' : World} {N : Nat → Prop} {e : Ending} {xs : List (Int × Int)} {err : Int} (hn : ∀ b, N b → b < w.heap.size) (h : RetL2 2 encP xs err w e w') : ∃ v, e = .returned v ∧ RepC w' N (.tup [slP xs, I err]) v ∧ Ext w w' := by
  obtain ⟨v, rfl, hs, hl, hx⟩ := h
  exact ⟨_, rfl, rep_tup1 (row_sl lenP rowP_eq oneP hs hl hn) (.val _), hx⟩
theorem ret2I {w w' : World} {N : Nat → Prop} {e : Ending} {xs : List Int} {err : Int} (hn : ∀ b, N b → b < w.heap.size) (h : RetL2 1 encI xs err w e w') : ∃ v, e = .returned v ∧ RepC w' N (.tup [slI xs, I err]) v ∧ Ext w w' := by
  obtain ⟨v, rfl, hs, hl, hx⟩ := h
  exact ⟨_, rfl, rep_tup1 (row_sl lenI rowI_eq oneI hs hl hn) (.val _), hx⟩

theorem cCheck (c : Wk) : SC Try.prog 17 [cWk c] (I (if worksOk c then 0 else 2)) := by
  intro w NA vs hn hs hv
  obtain ⟨v0, rfl⟩ := arr1 hs
  obtain ⟨a1, c1, a2, c2, a3, c3, rfl, hw⟩ := wk_inv (hv 0 _ _ rfl rfl)
  exact (check_any c a1 c1 a2 c2 a3 c3 w hw).mono fun e w' ⟨h1, h2⟩ => ⟨_, h1, .val _, h2⟩

theorem cClash (c : Wk) : SC Try.prog 18 [cWk c] (.tup [slP (if worksOk c then clashL c else []), I (if worksOk c then 0 else 2)]) := by
  intro w NA vs hn hs hv
  obtain ⟨v0, rfl⟩ := arr1 hs
  obtain ⟨a1, c1, a2, c2, a3, c3, rfl, hw⟩ := wk_inv (hv 0 _ _ rfl rfl)
  exact (clash_any c a1 c1 a2 c2 a3 c3 w hw).mono fun e w' h => ret2P hn h

theorem cPlays (c : Wk) (t n s : Int) : SC Try.prog 22 [cWk c, I t, I n, I s] (.tup [slP (playsL c t n s), I (runErr c t n s)]) := by
  intro w NA vs hn hs hv
  obtain ⟨v0, v1, v2, v3, rfl⟩ := arr4 hs
  obtain ⟨a1, c1, a2, c2, a3, c3, rfl, hw⟩ := wk_inv (hv 0 _ _ rfl rfl)
  have e1 := val_inv (hv 1 _ _ rfl rfl)
  have e2 := val_inv (hv 2 _ _ rfl rfl)
  have e3 := val_inv (hv 3 _ _ rfl rfl)
  subst e1 e2 e3
  exact (plays_any c a1 c1 a2 c2 a3 c3 t n s w hw).mono fun e w' h => ret2P hn h

theorem cHeard (c : Wk) (t n : Int) (bells : List Int) : SC Try.prog 28 [cWk c, I t, I n, slI bells] (.tup [slI (heardL c t n bells), I (heardErr c t n bells)]) := by
  intro w NA vs hn hs hv
  obtain ⟨v0, v1, v2, v3, rfl⟩ := arr4 hs
  obtain ⟨a1, c1, a2, c2, a3, c3, rfl, hw⟩ := wk_inv (hv 0 _ _ rfl rfl)
  have e1 := val_inv (hv 1 _ _ rfl rfl)
  have e2 := val_inv (hv 2 _ _ rfl rfl)
  obtain ⟨ab, cb, rfl, hb⟩ := sl_row lenI rowI_eq (hv 3 _ _ rfl rfl)
  subst e1 e2
  exact (heard_any c a1 c1 a2 c2 a3 c3 t n bells ab cb w hw hb).mono fun e w' h => ret2I hn h

theorem cBring (c : Wk) (t n s : Int) : SC Try.prog 23 [cWk c, I t, I n, I s] (.tup [I (bringL c t n s).1, I (bringL c t n s).2, I (runErr c t n s)]) := by
  intro w NA vs hn hs hv
  obtain ⟨v0, v1, v2, v3, rfl⟩ := arr4 hs
  obtain ⟨a1, c1, a2, c2, a3, c3, rfl, hw⟩ := wk_inv (hv 0 _ _ rfl rfl)
  have e1 := val_inv (hv 1 _ _ rfl rfl)
  have e2 := val_inv (hv 2 _ _ rfl rfl)
  have e3 := val_inv (hv 3 _ _ rfl rfl)
  subst e1 e2 e3
  exact (bring_any c a1 c1 a2 c2 a3 c3 t n s w hw).mono fun e w' ⟨h1, h2⟩ => ⟨_, h1, rep_tup3 (.val _) (.val _) (.val _), h2⟩

theorem cMeet (l : List (Int × Int × Int)) (f : Int) : SC Try.prog 40 [slS l, I f] (.tup [I (meetR l f).1, I (meetR l f).2]) := by
  intro w NA vs hn hs hv
  obtain ⟨v0, v1, rfl⟩ := arr2 hs
  obtain ⟨a, c, rfl, hr⟩ := sl_row lenS rowS_eq (hv 0 _ _ rfl rfl)
  have e1 := val_inv (hv 1 _ _ rfl rfl)
  subst e1
  exact (meet_any l a c f w hr).mono fun e w' ⟨h1, h2⟩ => ⟨_, h1, rep_tup1 (.val _) (.val _), h2⟩

def cTune (s : Int) (bl : List (Int × Int)) : CV := .agg [I s, slP bl]
theorem tune_inv {w : World} {N : Nat → Prop} {s : Int} {bl : List (Int × Int)} {v : Value} (h : RepC w N (cTune s bl) v) : ∃ a c, v = .agg #[.int .i64 s, .slice a bl.length c] ∧ Row 2 encP w a c bl := by
  unfold cTune at h
  cases h with
  | agg _ vs hs hv =>
    obtain ⟨v0, v1, rfl⟩ := arr2 hs
    obtain ⟨a, c, rfl, r⟩ := sl_row lenP rowP_eq (hv 1 _ _ rfl rfl)
    have e0 := val_inv (hv 0 _ _ rfl rfl)
    subst e0
    exact ⟨a, c, rfl, r⟩

def hamsOf (s r : Int) (bl : List (Int × Int)) : List (Int × Int) := if tuneErr s bl r = 0 then hamsL (fun b => (needOf s r bl b : Int)) r 16 else []
def numsOf (s r : Int) (bl : List (Int × Int)) : List Int := if tuneErr s bl r = 0 then numsL s r bl bl.length else []
theorem cFewest (s r : Int) (bl : List (Int × Int)) : SC Try.prog 32 [cTune s bl, I r] (.tup [slP (hamsOf s r bl), slI (numsOf s r bl), I (tuneErr s bl r)]) := by
  intro w NA vs hn hs hv
  obtain ⟨v0, v1, rfl⟩ := arr2 hs
  obtain ⟨a, c, rfl, hr⟩ := tune_inv (hv 0 _ _ rfl rfl)
  have e1 := val_inv (hv 1 _ _ rfl rfl)
  subst e1
  exact (Fewest_any s r a c bl w hr).mono fun e w' ⟨v1, v2, h1, h2, h3, h4, h5, h6⟩ =>
    ⟨_, h1, rep_tup3 (row_sl lenP rowP_eq oneP h2 h4 hn) (row_sl lenI rowI_eq oneI h3 h5 hn) (.val _), h6⟩

theorem cWithin (lo hi : Int) (xs : List Int) : SC Try.prog 52 [I lo, I hi, slI xs] (B (xs.all (inn lo hi))) := by
  intro w NA vs hn hs hv
  obtain ⟨v0, v1, v2, rfl⟩ := arr3 hs
  have e0 := val_inv (hv 0 _ _ rfl rfl)
  have e1 := val_inv (hv 1 _ _ rfl rfl)
  obtain ⟨a, c, rfl, hr⟩ := sl_row lenI rowI_eq (hv 2 _ _ rfl rfl)
  subst e0 e1
  exact (within_any lo hi xs a c w hr).mono fun e w' ⟨h1, h2⟩ => ⟨_, h1, .val _, h2⟩

/-- An array of sixteen ints. -/
def arrC (f : Nat → Int) : List CV := (List.range 16).map fun b => I (f b)
theorem arrC_get (f : Nat → Int) (i : Nat) (h : i < 16) : (arrC f)[i]? = some (I (f i)) := by
  unfold arrC; rw [List.getElem?_map, List.getElem?_range h]; rfl
theorem arrC_len (f : Nat → Int) : (arrC f).length = 16 := by simp [arrC]
theorem rep_arr {w : World} {N : Nat → Prop} (f : Nat → Int) : RepC w N (.agg (arrC f)) (.agg (arr f)) :=
  .agg _ _ (by rw [arrC_len]; rfl) fun i x v hx hv => by
    have hi : i < 16 := by have := (List.getElem?_eq_some_iff.1 hx).1; rwa [arrC_len] at this
    rw [arrC_get f i hi] at hx
    rw [arr_get f i hi] at hv
    cases hx; cases hv; exact .val _
theorem arr_inv {w : World} {N : Nat → Prop} {f : Nat → Int} {v : Value} (h : RepC w N (.agg (arrC f)) v) : v = .agg (arr f) := by
  cases h with
  | agg _ vs hs hv =>
    rw [arrC_len] at hs
    congr 1
    apply Array.ext
    · rw [hs]; rfl
    · intro i h1 h2
      have hi : i < 16 := by omega
      have e := val_inv (hv i _ _ (arrC_get f i hi) (Array.getElem?_eq_getElem h1))
      have e2 := arr_get f i hi
      rw [Array.getElem?_eq_getElem h2] at e2
      rw [e]; exact (Option.some.inj e2).symm

def cPart (s : Int) (bl : List (Int × Int)) (r : Int) : CV := .agg [I s, slP bl, I r]
theorem part_inv {w : World} {N : Nat → Prop} {s r : Int} {bl : List (Int × Int)} {v : Value} (h : RepC w N (cPart s bl r) v) : ∃ a c, v = .agg #[.int .i64 s, .slice a bl.length c, .int .i64 r] ∧ Row 2 encP w a c bl := by
  unfold cPart at h
  cases h with
  | agg _ vs hs hv =>
    obtain ⟨v0, v1, v2, rfl⟩ := arr3 hs
    obtain ⟨a, c, rfl, hr⟩ := sl_row lenP rowP_eq (hv 1 _ _ rfl rfl)
    have e0 := val_inv (hv 0 _ _ rfl rfl)
    have e2 := val_inv (hv 2 _ _ rfl rfl)
    subst e0 e2
    exact ⟨a, c, rfl, hr⟩

theorem cTuneCheck (s r : Int) (bl : List (Int × Int)) : SC Try.prog 68 [cPart s bl r] (I (tuneErr s bl r)) := by
  intro w NA vs hn hs hv
  obtain ⟨v0, rfl⟩ := arr1 hs
  obtain ⟨a, c, rfl, hr⟩ := part_inv (hv 0 _ _ rfl rfl)
  exact (tuneCheck_any s r a c bl w hr).mono fun e w' ⟨h1, h2⟩ => ⟨_, h1, .val _, h2⟩

theorem cTuneFewest (s r : Int) (bl : List (Int × Int)) (hok : blowsOk s bl = true) (h8 : sameOk bl = true) : SC Try.prog 69 [cPart s bl r] (.tup [.agg (arrC fun b => (needOf s r bl b : Int)), slI (useL s r bl)]) := by
  intro w NA vs hn hs hv
  obtain ⟨v0, rfl⟩ := arr1 hs
  obtain ⟨a, c, rfl, hr⟩ := part_inv (hv 0 _ _ rfl rfl)
  exact (fewest_own s r a c bl w hr hok h8).mono fun e w' ⟨v, h1, h2, h3, h4⟩ => ⟨_, h1, rep_tup1 (rep_arr _) (row_sl lenI rowI_eq oneI (h2.sl encI_len) h3 hn), h4⟩

theorem cHammers (f : Nat → Int) (rest : Int) (hf : ∀ i, i < 16 → 0 ≤ f i ∧ f i ≤ 60) : SC Try.prog 71 [.agg (arrC f), I rest] (slP (hamsL f rest 16)) := by
  intro w NA vs hn hs hv
  obtain ⟨v0, v1, rfl⟩ := arr2 hs
  have e0 := arr_inv (hv 0 _ _ rfl rfl)
  have e1 := val_inv (hv 1 _ _ rfl rfl)
  subst e0 e1
  exact (hammers_any f rest w hf).mono fun e w' ⟨v, h1, h2, h3, h4⟩ => ⟨v, h1, row_sl lenP rowP_eq oneP (h2.sl encP_len) h3 hn, h4⟩

theorem cNumber (f : Nat → Int) (b : Nat) (h : Int) (hf : ∀ i, i < 16 → 0 ≤ f i ∧ f i ≤ 60) (hb : b < 16) (h0 : 0 ≤ h) (h1 : h ≤ 1000) : SC Try.prog 70 [.agg (arrC f), I b, I h] (I (((List.range b).map f).sum + h)) := by
  intro w NA vs hn hs hv
  obtain ⟨v0, v1, v2, rfl⟩ := arr3 hs
  have e0 := arr_inv (hv 0 _ _ rfl rfl)
  have e1 := val_inv (hv 1 _ _ rfl rfl)
  have e2 := val_inv (hv 2 _ _ rfl rfl)
  subst e0 e1 e2
  exact (number_any f b h w hf hb h0 h1).mono fun e w' ⟨h1, h2⟩ => ⟨_, h1, .val _, h2⟩

end Go.Proofs.Ytdgplebmlggmcaa
/- Arrays of sixteen ints in the shadow. -/
namespace Go.Proofs.Ytdgplebmlggmcaa
open Go.RowKit

def arrS (f : Nat → Int) : List SV := (arrC f).map .c
theorem arrS_eq (f : Nat → Int) : (arrC f).map SV.c = arrS f := rfl
theorem arrS_len (f : Nat → Int) : (arrS f).length = 16 := by simp [arrS, arrC]
theorem arrS_get (f : Nat → Int) (q : Nat) (h : q < 16) : (arrS f)[q]? = some (.c (I (f q))) := by
  unfold arrS; rw [List.getElem?_map, arrC_get f q h]; rfl
theorem arrS_drop (f : Nat → Int) : (arrS f).drop 0 = arrS f := rfl
theorem arrS_take (f : Nat → Int) : (arrS f).take 16 = arrS f := rfl
theorem take_drop_one {α : Type} {xs : List α} {q : Nat} {x : α} (h : xs[q]? = some x) : (xs.drop q).take 1 = [x] := by
  obtain ⟨hq, rfl⟩ := List.getElem?_eq_some_iff.1 h
  rw [List.drop_eq_getElem_cons hq]; rfl
theorem arrS_one (f : Nat → Int) (q : Nat) (h : q < 16) : ((arrS f).drop q).take 1 = [.c (I (f q))] := take_drop_one (arrS_get f q h)
theorem arrC_one (f : Nat → Int) (q : Nat) (h : q < 16) : ((arrC f).drop q).take 1 = [I (f q)] := take_drop_one (arrC_get f q h)
theorem arrS_set (f : Nat → Int) (q : Nat) (v : Int) : (arrS f).set q (.c (I v)) = arrS fun b => if b = q then v else f b := by
  apply List.ext_getElem?
  intro i
  rw [List.getElem?_set]
  by_cases hi : i < 16
  · rw [arrS_get _ _ hi, arrS_get _ _ hi, arrS_len]
    by_cases hq : q = i
    · subst hq; simp [hi]
    · rw [if_neg hq, if_neg (fun e => hq e.symm)]
  · have e1 : ∀ g, (arrS g)[i]? = none := fun g => by rw [List.getElem?_eq_none_iff, arrS_len]; omega
    rw [e1, e1, arrS_len]
    split
    · rename_i hq; subst hq; rw [if_neg hi]
    · rfl
theorem arrS_z (f : Nat → Int) : setMany [.c (I 0), .c (I 0), .c (I 0), .c (I 0), .c (I 0), .c (I 0), .c (I 0), .c (I 0), .c (I 0), .c (I 0), .c (I 0), .c (I 0), .c (I 0), .c (I 0), .c (I 0), .c (I 0)] 0 (arrS f) = arrS f := rfl
theorem arrS_one' (f : Nat → Int) : (arrS f).all SV.one = true := rfl
theorem arrS_isC (f : Nat → Int) : (arrS f).all SV.isC = true := rfl
theorem arrS_in (D : List Nat) (f : Nat → Int) : inDL D (arrS f) = true := rfl
theorem arrS_close (H : Nat → Option Blk) (f : Nat → Int) : closeL H (arrS f) = some (arrC f) := rfl
theorem arrS_allC (f : Nat → Int) : allC (arrS f) = some (arrC f) := rfl
theorem arrS_zero : [SV.c (I 0), .c (I 0), .c (I 0), .c (I 0), .c (I 0), .c (I 0), .c (I 0), .c (I 0), .c (I 0), .c (I 0), .c (I 0), .c (I 0), .c (I 0), .c (I 0), .c (I 0), .c (I 0)] = arrS fun _ => 0 := rfl

theorem arrS_refs (f : Nat → Int) : (arrS f).flatMap refs = [] := rfl

attribute [simp] arrS_refs arrS_len arrC_len arrS_eq arrS_take arrS_set arrS_z arrS_one' arrS_isC arrS_in arrS_close arrS_allC

end Go.Proofs.Ytdgplebmlggmcaa
/- Pin of package chime, by the shadow. -/
namespace Go.Proofs.Ytdgplebmlggmcaa
open Go.RowKit

abbrev Tn := Int × List (Int × Int)
def rowT (t : Tn) : List CV := [I t.1, slP t.2]
def slT (l : List Tn) : CV := .sl 2 (l.map rowT)
attribute [simp] rowT slT cPart

def headS (l : List Tn) : Int := match l with
  | [] => 0
  | t :: _ => t.1
def tnErr (l : List Tn) (r : Int) (t : Tn) : Option Int := if tuneErr t.1 t.2 r ≠ 0 then some (tuneErr t.1 t.2 r) else if t.1 ≠ headS l then some 4 else none
def mostTo (l : List Tn) (r : Int) (k : Nat) (b : Nat) : Int := (l.take k).foldl (fun m t => max m (needOf t.1 r t.2 (b : Int) : Int)) 0
def mostOf (l : List Tn) (r : Int) (b : Nat) : Int := l.foldl (fun m t => max m (needOf t.1 r t.2 (b : Int) : Int)) 0
def pinOf (l : List Tn) (r : Int) (k : Nat) (t : Tn) (i : Nat) : Int × Int := ((((List.range (bellOf t.2 i).toNat).map (mostOf l r)).sum + useOf t.1 r t.2 i) * l.length + k, (t.2.getD i (0, 0)).1)
def pinsTo (l : List Tn) (r : Int) (k : Nat) : List (Int × Int) := (List.range k).flatMap fun j => match l[j]? with
  | some t => (List.range t.2.length).map (pinOf l r j t)
  | none => []
def pinW (l : List Tn) (r : Int) : Wk := { steps := headS l, sections := 1, runs := [1], tunes := l.length, hammers := hamsL (mostOf l r) r 16, pins := pinsTo l r l.length }
def zeroW : Wk := { steps := 0, sections := 0, runs := [], tunes := 0, hammers := [], pins := [] }
def pinErr (l : List Tn) (r : Int) : Int := if l.length = 0 then 7 else if 8 < l.length then 5 else match l.findSome? (tnErr l r) with
  | some e => e
  | none => if !inn 1 40 (pinW l r).hammers.length || decide (400 < (pinW l r).pins.length) then 8 else 0
def pinC (l : List Tn) (r : Int) : Wk := if pinErr l r = 0 then pinW l r else zeroW

theorem tuneOk {s r : Int} {bl : List (Int × Int)} (he : tuneErr s bl r = 0) : blowsOk s bl = true ∧ sameOk bl = true := by
  unfold tuneErr at he
  cases h1 : blowsOk s bl
  · rw [h1] at he; simp at he
  · cases h2 : sameOk bl
    · rw [h1, h2] at he; simp at he
    · exact ⟨rfl, rfl⟩

theorem find_err {l : List Tn} {r e : Int} {k : Nat} (hk : k < l.length) (he : tnErr l r l[k] = some e) (h : ∀ j (hj : j < k), tnErr l r (l[j]'(by omega)) = none) : l.findSome? (tnErr l r) = some e := by
  have h1 : l = l.take k ++ l[k] :: l.drop (k + 1) := by rw [← List.drop_eq_getElem_cons hk, List.take_append_drop]
  have h2 : (l.take k).findSome? (tnErr l r) = none := by
    rw [List.findSome?_eq_none_iff]
    intro x hx
    obtain ⟨j, hj, rfl⟩ := List.getElem_of_mem hx
    rw [List.getElem_take]
    exact h j (by simp at hj; omega)
  have h3 : (l.take k ++ l[k] :: l.drop (k + 1)).findSome? (tnErr l r) = some e := by
    rw [List.findSome?_append, h2, List.findSome?_cons, he]; rfl
  rw [← h1] at h3
  exact h3

def NoErr (l : List Tn) (r : Int) (k : Nat) : Prop := ∀ j, j < k → ∀ h : j < l.length, tnErr l r l[j] = none
def usesTo (l : List Tn) (r : Int) (k : Nat) : List (List CV) := (l.take k).map fun t => [slI (useL t.1 r t.2)]
theorem mostTo_succ {l : List Tn} {r : Int} {k : Nat} (hk : k < l.length) (b : Nat) : mostTo l r (k + 1) b = max (mostTo l r k b) (needOf l[k].1 r l[k].2 (b : Int) : Int) := by
  unfold mostTo; rw [List.take_succ_eq_append_getElem hk, List.foldl_append]; rfl
theorem mostTo_all (l : List Tn) (r : Int) : mostTo l r l.length = mostOf l r := by funext b; unfold mostTo mostOf; rw [List.take_length]
theorem usesTo_succ {l : List Tn} {r : Int} {k : Nat} (hk : k < l.length) : usesTo l r (k + 1) = usesTo l r k ++ [[slI (useL l[k].1 r l[k].2)]] := by
  unfold usesTo; rw [List.take_succ_eq_append_getElem hk, List.map_append]; rfl
def midTo (l : List Tn) (r : Int) (k q : Nat) (b : Nat) : Int := if b < q then mostTo l r (k + 1) b else mostTo l r k b
theorem arrS_congr {f g : Nat → Int} (h : ∀ b, b < 16 → f b = g b) : arrS f = arrS g := by
  unfold arrS arrC
  congr 1
  exact List.map_congr_left fun b hb => by rw [h b (by simpa using hb)]
theorem headS_eq {l : List Tn} (h : 0 < l.length) : headS l = l[0].1 := by
  cases l with
  | nil => simp at h
  | cons t l => rfl
theorem NoErr.next {l : List Tn} {r : Int} {k : Nat} (h : NoErr l r k) (hk : ∀ h : k < l.length, tnErr l r l[k] = none) : NoErr l r (k + 1) := fun j hj hl => by
  by_cases hjk : j < k
  · exact h j hjk hl
  · have : j = k := by omega
    subst this; exact hk hl
theorem pinErr_at {l : List Tn} {r e : Int} {k : Nat} (h0 : 0 < l.length) (h8 : l.length ≤ 8) (hk : k < l.length) (he : tnErr l r l[k] = some e) (hn : NoErr l r k) : pinErr l r = e := by
  unfold pinErr; rw [if_neg (by omega), if_neg (by omega), find_err hk he (fun j hj => hn j hj (by omega))]

theorem mostTo_bound (l : List Tn) (r : Int) (b : Nat) : ∀ k, 0 ≤ mostTo l r k b ∧ mostTo l r k b ≤ 60
  | 0 => by simp [mostTo]
  | k + 1 => by
    have ih := mostTo_bound l r b k
    by_cases hk : k < l.length
    · rw [mostTo_succ hk]
      have := needOf_le l[k].1 r l[k].2 (b : Int)
      omega
    · have : mostTo l r (k + 1) b = mostTo l r k b := by unfold mostTo; rw [List.take_of_length_le (by omega), List.take_of_length_le (by omega)]
      rw [this]; exact ih
theorem mostOf_bound (l : List Tn) (r : Int) (b : Nat) : 0 ≤ mostOf l r b ∧ mostOf l r b ≤ 60 := by rw [← mostTo_all]; exact mostTo_bound l r b _
theorem sum_bound (f : Nat → Int) (hf : ∀ i, 0 ≤ f i ∧ f i ≤ 60) : ∀ n : Nat, 0 ≤ ((List.range n).map f).sum ∧ ((List.range n).map f).sum ≤ 60 * n
  | 0 => by simp
  | n + 1 => by
    have := sum_bound f hf n
    have := hf n
    rw [List.range_succ, List.map_append, List.sum_append]
    simp only [List.map_cons, List.map_nil, List.sum_cons, List.sum_nil]
    omega
def pinsAt (l : List Tn) (r : Int) (k i : Nat) : List (Int × Int) := pinsTo l r k ++ match l[k]? with
  | some t => (List.range i).map (pinOf l r k t)
  | none => []
theorem pinsAt_zero (l : List Tn) (r : Int) (k : Nat) : pinsAt l r k 0 = pinsTo l r k := by unfold pinsAt; split <;> simp
theorem pinsAt_i {l : List Tn} {r : Int} {k i : Nat} (hk : k < l.length) : pinsAt l r k (i + 1) = pinsAt l r k i ++ [pinOf l r k l[k] i] := by
  unfold pinsAt; simp only [List.getElem?_eq_getElem hk]; rw [List.range_succ, List.map_append, List.append_assoc]; rfl
theorem pinsAt_k {l : List Tn} {r : Int} {k i : Nat} (hk : k < l.length) (hi : i = l[k].2.length) : pinsTo l r (k + 1) = pinsAt l r k i := by
  subst hi; unfold pinsAt pinsTo; rw [List.range_succ, List.flatMap_append]; simp [List.getElem?_eq_getElem hk]
theorem pinsTo_len {l : List Tn} {r : Int} (h : ∀ t ∈ l, t.2.length ≤ 60) : ∀ k, (pinsTo l r k).length ≤ 60 * k
  | 0 => by simp [pinsTo]
  | k + 1 => by
    have ih := pinsTo_len (r := r) h k
    by_cases hk : k < l.length
    · rw [pinsAt_k hk rfl]; unfold pinsAt; rw [List.length_append]; simp only [List.getElem?_eq_getElem hk]
      have := h _ (List.getElem_mem hk)
      simp; omega
    · have : pinsTo l r (k + 1) = pinsTo l r k := by unfold pinsTo; rw [List.range_succ, List.flatMap_append]; simp [List.getElem?_eq_none_iff.2 (Nat.le_of_not_lt hk)]
      rw [this]; omega
theorem pinsAt_len {l : List Tn} {r : Int} (h : ∀ t ∈ l, t.2.length ≤ 60) (k i : Nat) : (pinsAt l r k i).length ≤ 60 * k + i := by
  unfold pinsAt; rw [List.length_append]
  have := pinsTo_len (r := r) h k
  split <;> simp <;> omega

def zeroB : Blk := .box 26 [.c (I 0), .c (I 0), .c (.val (.slice none 0 0)), .c (I 0), .c (.val (.slice none 0 0)), .c (.val (.slice none 0 0))]

theorem zero_le (e : Int) : CLe (.tup [.agg [I 0, I 0, .val (.slice none 0 0), I 0, .val (.slice none 0 0), .val (.slice none 0 0)], I e]) (.tup [cWk zeroW, I e]) := by
  show CLe (.tup [.agg [I 0, I 0, .val (.slice none 0 0), I 0, .val (.slice none 0 0), .val (.slice none 0 0)], I e]) (.tup [.agg [I 0, I 0, .sl 1 [], I 0, .sl 2 [], .sl 2 []], I e])
  repeat' (first | exact CLe.refl _ | exact CLe.nil _ | exact CLes.nil | constructor)

theorem err_le {l : List Tn} {r e : Int} (he : pinErr l r = e) (h0 : e ≠ 0) : CLe (.tup [.agg [I 0, I 0, .val (.slice none 0 0), I 0, .val (.slice none 0 0), .val (.slice none 0 0)], I e])
    (.tup [.agg [I (pinC l r).steps, I (pinC l r).sections, CV.sl 1 (List.map rowI (pinC l r).runs), I (pinC l r).tunes, CV.sl 2 (List.map rowP (pinC l r).hammers), CV.sl 2 (List.map rowP (pinC l r).pins)], I (pinErr l r)]) := by
  have : pinC l r = zeroW := by unfold pinC; rw [if_neg (by rw [he]; exact h0)]
  rw [he, this]; exact zero_le e

set_option maxRecDepth 100000 in
set_option maxHeartbeats 4000000 in
theorem cPin (l : List Tn) (r : Int) (hbl : ∀ t ∈ l, t.2.length ≤ 1000000) : SC Try.prog 38 [slT l, I r] (.tup [cWk (pinC l r), I (pinErr l r)]) := by
  refine law38 _ _ (by simp) ?_
  unfold slT
  (repeat' (first | (refine buildP_own ?_; (simp -dsimp; (repeat (simp -dsimp (disch := (first | omega | assumption | (refine Bool.eq_false_iff.1 ?_; assumption))) only [wrap_in, if_pos, if_neg]; (try simp -dsimp))))) |  (with_reducible refine st_skip ?_; (try simp only [seqQ, blockQ, loopQ, forQ, whileQ, reduceIte, Nat.reduceEqDiff])) | (with_reducible refine st_exit ?_; (try simp only [seqQ, blockQ, loopQ, forQ, whileQ, reduceIte, Nat.reduceEqDiff])) | (with_reducible refine st_ret ?_; ((try simp only [seqQ, blockQ, loopQ, forQ, whileQ]); refine retQ_ret ?_; simp)) | refine st_seq ?_ | refine st_block ?_ | (refine st_reg follows ?_; (simp -dsimp; (repeat (simp -dsimp (disch := (first | omega | assumption | (refine Bool.eq_false_iff.1 ?_; assumption))) only [wrap_in, if_pos, if_neg]; (try simp -dsimp))))) | (refine guardP_of (fun hc => ?_) (fun hc => ?_) <;> (try simp only [decide_eq_true_eq, decide_eq_false_iff_not, Bool.true_eq_false, Bool.false_eq_true, bne_iff_ne, ne_eq, bne_eq_false_iff_eq, beq_iff_eq, beq_eq_false_iff_ne, Bool.not_eq_true, Bool.not_eq_false, Bool.not_eq_eq_eq_not, Bool.not_true, Bool.not_false, Decidable.not_not] at hc) <;> (try (exfalso; first | omega | exact bool_tf hc (by assumption) | exact bool_ft hc (by assumption) | exact absurd (by assumption) hc)) <;> (simp -dsimp [hc]; (repeat (simp -dsimp (disch := (first | omega | assumption | (refine Bool.eq_false_iff.1 ?_; assumption))) only [wrap_in, if_pos, if_neg]; (try simp -dsimp [hc]))))) | (refine st_cond rfl (fun hc => ?_) (fun hc => ?_) <;> (try simp only [decide_eq_true_eq, decide_eq_false_iff_not, Bool.true_eq_false, Bool.false_eq_true, bne_iff_ne, ne_eq, bne_eq_false_iff_eq, beq_iff_eq, beq_eq_false_iff_ne, Bool.not_eq_true, Bool.not_eq_false, Bool.not_eq_eq_eq_not, Bool.not_true, Bool.not_false, Decidable.not_not] at hc) <;> (try (exfalso; first | omega | exact bool_tf hc (by assumption) | exact bool_ft hc (by assumption) | exact absurd (by assumption) hc)))))
  · exact err_le (by unfold pinErr; rw [if_pos (by omega)]) (by decide)
  · exact err_le (by unfold pinErr; rw [if_neg (by omega), if_pos (by omega)]) (by decide)
  have hl0 : 0 < l.length := by omega
  have hl8 : l.length ≤ 8 := by omega
  refine st_nil 7 200 22 1 (by simp) (by simp) ?_
  refine st_less [(0, .c (slT l)), (1, .c (I r)), (4, .ptr 4 0), (6, .ptr 6 0), (7, .own 200 0), (30, .c (slT l)), (31, .c (I l.length)), (32, .c (I 0))] [(4, zeroB), (6, .box 135 (arrS fun _ => 0)), (200, .arr 22 1 [])] (by simp [zeroB, arrS_zero]) ?_
  refine st_for [4, 6, 200] l.length (fun k T H => NoErr l r k ∧ T = [(0, .c (slT l)), (1, .c (I r)), (4, .ptr 4 0), (6, .ptr 6 0), (7, .own 200 (usesTo l r k).length), (30, .c (slT l)), (31, .c (I l.length)), (32, .c (I k))] ∧ H = [(4, zeroB), (6, .box 135 (arrS (mostTo l r k))), (200, .arr 22 1 (usesTo l r k))]) (by simp [zeroB]) ⟨fun j hj => absurd hj (by omega), by simp [usesTo], by simp [usesTo, zeroB]; rfl⟩ ?_
  rintro k T H hk ⟨hne, rfl, rfl⟩
  simp only [zeroB, slT]
  by_cases hlt : k < l.length
  · have hlen : (usesTo l r k).length = k := by simp [usesTo]; omega
    have g0 : l[0]? = some l[0] := List.getElem?_eq_getElem hl0
    (repeat' (first | (refine buildP_own ?_; (simp -dsimp [hlt, g0]; (repeat (simp -dsimp (disch := (first | omega | assumption | (refine Bool.eq_false_iff.1 ?_; assumption))) only [wrap_in, if_pos, if_neg]; (try simp -dsimp [hlt, g0]))))) | (refine callP_of (cTuneCheck _ _ _) (.inl rfl) ?_; (simp -dsimp [hlt, g0]; (repeat (simp -dsimp (disch := (first | omega | assumption | (refine Bool.eq_false_iff.1 ?_; assumption))) only [wrap_in, if_pos, if_neg]; (try simp -dsimp [hlt, g0]))))) |  (with_reducible refine st_skip ?_; (try simp only [seqQ, blockQ, loopQ, forQ, whileQ, reduceIte, Nat.reduceEqDiff])) | (with_reducible refine st_exit ?_; (try simp only [seqQ, blockQ, loopQ, forQ, whileQ, reduceIte, Nat.reduceEqDiff])) | (with_reducible refine st_ret ?_; ((try simp only [seqQ, blockQ, loopQ, forQ, whileQ]); refine retQ_ret ?_; simp [hlt, g0])) | refine st_seq ?_ | refine st_block ?_ | (refine st_reg follows ?_; (simp -dsimp [hlt, g0]; (repeat (simp -dsimp (disch := (first | omega | assumption | (refine Bool.eq_false_iff.1 ?_; assumption))) only [wrap_in, if_pos, if_neg]; (try simp -dsimp [hlt, g0]))))) | (refine guardP_of (fun hc => ?_) (fun hc => ?_) <;> (try simp only [decide_eq_true_eq, decide_eq_false_iff_not, Bool.true_eq_false, Bool.false_eq_true, bne_iff_ne, ne_eq, bne_eq_false_iff_eq, beq_iff_eq, beq_eq_false_iff_ne, Bool.not_eq_true, Bool.not_eq_false, Bool.not_eq_eq_eq_not, Bool.not_true, Bool.not_false, Decidable.not_not] at hc) <;> (try (exfalso; first | omega | exact bool_tf hc (by assumption) | exact bool_ft hc (by assumption) | exact absurd (by assumption) hc)) <;> (simp -dsimp [hlt, g0, hc]; (repeat (simp -dsimp (disch := (first | omega | assumption | (refine Bool.eq_false_iff.1 ?_; assumption))) only [wrap_in, if_pos, if_neg]; (try simp -dsimp [hlt, g0, hc]))))) | (refine st_cond rfl (fun hc => ?_) (fun hc => ?_) <;> (try simp only [decide_eq_true_eq, decide_eq_false_iff_not, Bool.true_eq_false, Bool.false_eq_true, bne_iff_ne, ne_eq, bne_eq_false_iff_eq, beq_iff_eq, beq_eq_false_iff_ne, Bool.not_eq_true, Bool.not_eq_false, Bool.not_eq_eq_eq_not, Bool.not_true, Bool.not_false, Decidable.not_not] at hc) <;> (try (exfalso; first | omega | exact bool_tf hc (by assumption) | exact bool_ft hc (by assumption) | exact absurd (by assumption) hc)))))
    · exact err_le (pinErr_at hl0 hl8 hlt (by simp [tnErr, hc]) hne) hc
    · exact err_le (pinErr_at hl0 hl8 hlt (by simp [tnErr, *, headS_eq hl0]) hne) (by decide)
    have hok := tuneOk ‹tuneErr l[k].fst l[k].snd r = 0›
    have hz1 := ‹tuneErr l[k].fst l[k].snd r = 0›
    have hz2 : l[k].1 = headS l := by rw [headS_eq hl0]; assumption
    have hne' : NoErr l r (k + 1) := hne.next fun _ => by unfold tnErr; rw [if_neg (not_not_intro hz1), if_neg (not_not_intro hz2)]
    refine callP_of (cTuneFewest l[k].1 r l[k].2 hok.1 hok.2) (.inl rfl) ?_
    (simp -dsimp [hlt]; (repeat (simp -dsimp (disch := (first | omega | assumption | (refine Bool.eq_false_iff.1 ?_; assumption))) only [wrap_in, if_pos, if_neg]; (try simp -dsimp [hlt]))))
    (repeat' (first | (refine buildP_own ?_; (simp -dsimp [hlt]; (repeat (simp -dsimp (disch := (first | omega | assumption | (refine Bool.eq_false_iff.1 ?_; assumption))) only [wrap_in, if_pos, if_neg]; (try simp -dsimp [hlt]))))) | (refine callP_of (cTuneCheck _ _ _) (.inl rfl) ?_; (simp -dsimp [hlt]; (repeat (simp -dsimp (disch := (first | omega | assumption | (refine Bool.eq_false_iff.1 ?_; assumption))) only [wrap_in, if_pos, if_neg]; (try simp -dsimp [hlt]))))) |  (with_reducible refine st_skip ?_; (try simp only [seqQ, blockQ, loopQ, forQ, whileQ, reduceIte, Nat.reduceEqDiff])) | (with_reducible refine st_exit ?_; (try simp only [seqQ, blockQ, loopQ, forQ, whileQ, reduceIte, Nat.reduceEqDiff])) | (with_reducible refine st_ret ?_; ((try simp only [seqQ, blockQ, loopQ, forQ, whileQ]); refine retQ_ret ?_; simp [hlt])) | refine st_seq ?_ | refine st_block ?_ | (refine st_reg follows ?_; (simp -dsimp [hlt]; (repeat (simp -dsimp (disch := (first | omega | assumption | (refine Bool.eq_false_iff.1 ?_; assumption))) only [wrap_in, if_pos, if_neg]; (try simp -dsimp [hlt]))))) | (refine guardP_of (fun hc => ?_) (fun hc => ?_) <;> (try simp only [decide_eq_true_eq, decide_eq_false_iff_not, Bool.true_eq_false, Bool.false_eq_true, bne_iff_ne, ne_eq, bne_eq_false_iff_eq, beq_iff_eq, beq_eq_false_iff_ne, Bool.not_eq_true, Bool.not_eq_false, Bool.not_eq_eq_eq_not, Bool.not_true, Bool.not_false, Decidable.not_not] at hc) <;> (try (exfalso; first | omega | exact bool_tf hc (by assumption) | exact bool_ft hc (by assumption) | exact absurd (by assumption) hc)) <;> (simp -dsimp [hlt, hc]; (repeat (simp -dsimp (disch := (first | omega | assumption | (refine Bool.eq_false_iff.1 ?_; assumption))) only [wrap_in, if_pos, if_neg]; (try simp -dsimp [hlt, hc]))))) | (refine st_cond rfl (fun hc => ?_) (fun hc => ?_) <;> (try simp only [decide_eq_true_eq, decide_eq_false_iff_not, Bool.true_eq_false, Bool.false_eq_true, bne_iff_ne, ne_eq, bne_eq_false_iff_eq, beq_iff_eq, beq_eq_false_iff_ne, Bool.not_eq_true, Bool.not_eq_false, Bool.not_eq_eq_eq_not, Bool.not_true, Bool.not_false, Decidable.not_not] at hc) <;> (try (exfalso; first | omega | exact bool_tf hc (by assumption) | exact bool_ft hc (by assumption) | exact absurd (by assumption) hc)))))
    refine st_for [4, 6, 200] 16 (fun q T H => T = [(0, .c (slT l)), (1, .c (I r)), (4, .ptr 4 0), (6, .ptr 6 0), (7, .own 200 (usesTo l r k).length), (13, .c (slI (useL l[k].1 r l[k].2))), (30, .c (slT l)), (31, .c (I l.length)), (32, .c (I k)), (60, .agg (arrS fun b => (needOf l[k].1 r l[k].2 (b : Int) : Int))), (61, .c (I q))] ∧ H = [(4, zeroB), (6, .box 135 (arrS (midTo l r k q))), (200, .arr 22 1 (usesTo l r k))]) (by simp [zeroB]) ⟨by simp, by simp [zeroB, midTo]; rfl⟩ ?_
    rintro q T H hq ⟨rfl, rfl⟩
    simp only [zeroB, slT, slI]
    by_cases hq16 : q < 16
    · have hq1 := arrS_one (midTo l r k q) q hq16
      have hq2 := arrS_one (fun b => (needOf l[k].1 r l[k].2 (b : Int) : Int)) q hq16
      have hq17 : (q : Int) < 16 := by omega
      have hq18 : q + 1 ≤ 16 := by omega
      (repeat' (first | (refine buildP_own ?_; (simp -dsimp [hlt, hq16, hq1, hq2, hq17, hq18]; (repeat (simp -dsimp (disch := (first | omega | assumption | (refine Bool.eq_false_iff.1 ?_; assumption))) only [wrap_in, if_pos, if_neg]; (try simp -dsimp [hlt, hq16, hq1, hq2, hq17, hq18]))))) |  (with_reducible refine st_skip ?_; (try simp only [seqQ, blockQ, loopQ, forQ, whileQ, reduceIte, Nat.reduceEqDiff])) | (with_reducible refine st_exit ?_; (try simp only [seqQ, blockQ, loopQ, forQ, whileQ, reduceIte, Nat.reduceEqDiff])) | (with_reducible refine st_ret ?_; ((try simp only [seqQ, blockQ, loopQ, forQ, whileQ]); refine retQ_ret ?_; simp [hlt, hq16, hq1, hq2, hq17, hq18])) | refine st_seq ?_ | refine st_block ?_ | (refine st_reg follows ?_; (simp -dsimp [hlt, hq16, hq1, hq2, hq17, hq18]; (repeat (simp -dsimp (disch := (first | omega | assumption | (refine Bool.eq_false_iff.1 ?_; assumption))) only [wrap_in, if_pos, if_neg]; (try simp -dsimp [hlt, hq16, hq1, hq2, hq17, hq18]))))) | (refine guardP_of (fun hc => ?_) (fun hc => ?_) <;> (try simp only [decide_eq_true_eq, decide_eq_false_iff_not, Bool.true_eq_false, Bool.false_eq_true, bne_iff_ne, ne_eq, bne_eq_false_iff_eq, beq_iff_eq, beq_eq_false_iff_ne, Bool.not_eq_true, Bool.not_eq_false, Bool.not_eq_eq_eq_not, Bool.not_true, Bool.not_false, Decidable.not_not] at hc) <;> (try (exfalso; first | omega | exact bool_tf hc (by assumption) | exact bool_ft hc (by assumption) | exact absurd (by assumption) hc)) <;> (simp -dsimp [hlt, hq16, hq1, hq2, hq17, hq18, hc]; (repeat (simp -dsimp (disch := (first | omega | assumption | (refine Bool.eq_false_iff.1 ?_; assumption))) only [wrap_in, if_pos, if_neg]; (try simp -dsimp [hlt, hq16, hq1, hq2, hq17, hq18, hc]))))) | (refine st_cond rfl (fun hc => ?_) (fun hc => ?_) <;> (try simp only [decide_eq_true_eq, decide_eq_false_iff_not, Bool.true_eq_false, Bool.false_eq_true, bne_iff_ne, ne_eq, bne_eq_false_iff_eq, beq_iff_eq, beq_eq_false_iff_ne, Bool.not_eq_true, Bool.not_eq_false, Bool.not_eq_eq_eq_not, Bool.not_true, Bool.not_false, Decidable.not_not] at hc) <;> (try (exfalso; first | omega | exact bool_tf hc (by assumption) | exact bool_ft hc (by assumption) | exact absurd (by assumption) hc)))))
      refine ⟨hq16, by simp, by simp, ?_⟩
      have e : (arrS fun b => if b = q then if midTo l r k q q < ↑(needOf l[k].fst r l[k].snd ↑q) then ↑(needOf l[k].fst r l[k].snd ↑q) else midTo l r k q q else midTo l r k q b) = arrS (midTo l r k (q + 1)) := by
        refine arrS_congr fun b hb => ?_
        unfold midTo
        simp only [mostTo_succ hlt]
        by_cases hbq : b = q
        · subst hbq; simp; omega
        · rw [if_neg hbq]
          by_cases hb1 : b < q
          · rw [if_pos hb1, if_pos (by omega)]
          · rw [if_neg hb1, if_neg (by omega)]
      simp [e]
    · have hq17 : ¬ (q : Int) < 16 := by omega
      have hA : (usesTo l r k).length ≤ 9223372036854775806 := by omega
      have hB : ((usesTo l r k).length + 1) * 24 ≤ 140737488355328 := by omega
      (repeat' (first | (refine buildP_own ?_; (simp -dsimp [hlt, hq16, hq17, hA, hB]; (repeat (simp -dsimp (disch := (first | omega | assumption | (refine Bool.eq_false_iff.1 ?_; assumption))) only [wrap_in, if_pos, if_neg]; (try simp -dsimp [hlt, hq16, hq17, hA, hB]))))) |  (with_reducible refine st_skip ?_; (try simp only [seqQ, blockQ, loopQ, forQ, whileQ, reduceIte, Nat.reduceEqDiff])) | (with_reducible refine st_exit ?_; (try simp only [seqQ, blockQ, loopQ, forQ, whileQ, reduceIte, Nat.reduceEqDiff])) | (with_reducible refine st_ret ?_; ((try simp only [seqQ, blockQ, loopQ, forQ, whileQ]); refine retQ_ret ?_; simp [hlt, hq16, hq17, hA, hB])) | refine st_seq ?_ | refine st_block ?_ | (refine st_reg follows ?_; (simp -dsimp [hlt, hq16, hq17, hA, hB]; (repeat (simp -dsimp (disch := (first | omega | assumption | (refine Bool.eq_false_iff.1 ?_; assumption))) only [wrap_in, if_pos, if_neg]; (try simp -dsimp [hlt, hq16, hq17, hA, hB]))))) | (refine guardP_of (fun hc => ?_) (fun hc => ?_) <;> (try simp only [decide_eq_true_eq, decide_eq_false_iff_not, Bool.true_eq_false, Bool.false_eq_true, bne_iff_ne, ne_eq, bne_eq_false_iff_eq, beq_iff_eq, beq_eq_false_iff_ne, Bool.not_eq_true, Bool.not_eq_false, Bool.not_eq_eq_eq_not, Bool.not_true, Bool.not_false, Decidable.not_not] at hc) <;> (try (exfalso; first | omega | exact bool_tf hc (by assumption) | exact bool_ft hc (by assumption) | exact absurd (by assumption) hc)) <;> (simp -dsimp [hlt, hq16, hq17, hA, hB, hc]; (repeat (simp -dsimp (disch := (first | omega | assumption | (refine Bool.eq_false_iff.1 ?_; assumption))) only [wrap_in, if_pos, if_neg]; (try simp -dsimp [hlt, hq16, hq17, hA, hB, hc]))))) | (refine st_cond rfl (fun hc => ?_) (fun hc => ?_) <;> (try simp only [decide_eq_true_eq, decide_eq_false_iff_not, Bool.true_eq_false, Bool.false_eq_true, bne_iff_ne, ne_eq, bne_eq_false_iff_eq, beq_iff_eq, beq_eq_false_iff_ne, Bool.not_eq_true, Bool.not_eq_false, Bool.not_eq_eq_eq_not, Bool.not_true, Bool.not_false, Decidable.not_not] at hc) <;> (try (exfalso; first | omega | exact bool_tf hc (by assumption) | exact bool_ft hc (by assumption) | exact absurd (by assumption) hc)))))
      have : q = 16 := by omega
      subst this
      have e : arrS (midTo l r k 16) = arrS (mostTo l r (k + 1)) := arrS_congr fun b hb => by unfold midTo; rw [if_pos hb]
      exact ⟨hlt, by simp, hne', by simp [usesTo_succ hlt], by simp [usesTo_succ hlt, e]⟩
  · have hkl : k = l.length := by omega
    subst hkl
    rw [mostTo_all]
    have g0 : l[0]? = some l[0] := List.getElem?_eq_getElem hl0
    (repeat' (first | (refine buildP_own ?_; (simp -dsimp [hlt, g0]; (repeat (simp -dsimp (disch := (first | omega | assumption | (refine Bool.eq_false_iff.1 ?_; assumption))) only [wrap_in, if_pos, if_neg]; (try simp -dsimp [hlt, g0]))))) | (refine callP_of (cHammers _ _ (fun i _ => mostOf_bound l r i)) (.inl rfl) ?_; (simp -dsimp [hlt, g0]; (repeat (simp -dsimp (disch := (first | omega | assumption | (refine Bool.eq_false_iff.1 ?_; assumption))) only [wrap_in, if_pos, if_neg]; (try simp -dsimp [hlt, g0]))))) |  (with_reducible refine st_skip ?_; (try simp only [seqQ, blockQ, loopQ, forQ, whileQ, reduceIte, Nat.reduceEqDiff])) | (with_reducible refine st_exit ?_; (try simp only [seqQ, blockQ, loopQ, forQ, whileQ, reduceIte, Nat.reduceEqDiff])) | (with_reducible refine st_ret ?_; ((try simp only [seqQ, blockQ, loopQ, forQ, whileQ]); refine retQ_ret ?_; simp [hlt, g0])) | refine st_seq ?_ | refine st_block ?_ | (refine st_reg follows ?_; (simp -dsimp [hlt, g0]; (repeat (simp -dsimp (disch := (first | omega | assumption | (refine Bool.eq_false_iff.1 ?_; assumption))) only [wrap_in, if_pos, if_neg]; (try simp -dsimp [hlt, g0]))))) | (refine guardP_of (fun hc => ?_) (fun hc => ?_) <;> (try simp only [decide_eq_true_eq, decide_eq_false_iff_not, Bool.true_eq_false, Bool.false_eq_true, bne_iff_ne, ne_eq, bne_eq_false_iff_eq, beq_iff_eq, beq_eq_false_iff_ne, Bool.not_eq_true, Bool.not_eq_false, Bool.not_eq_eq_eq_not, Bool.not_true, Bool.not_false, Decidable.not_not] at hc) <;> (try (exfalso; first | omega | exact bool_tf hc (by assumption) | exact bool_ft hc (by assumption) | exact absurd (by assumption) hc)) <;> (simp -dsimp [hlt, g0, hc]; (repeat (simp -dsimp (disch := (first | omega | assumption | (refine Bool.eq_false_iff.1 ?_; assumption))) only [wrap_in, if_pos, if_neg]; (try simp -dsimp [hlt, g0, hc]))))) | (refine st_cond rfl (fun hc => ?_) (fun hc => ?_) <;> (try simp only [decide_eq_true_eq, decide_eq_false_iff_not, Bool.true_eq_false, Bool.false_eq_true, bne_iff_ne, ne_eq, bne_eq_false_iff_eq, beq_iff_eq, beq_eq_false_iff_ne, Bool.not_eq_true, Bool.not_eq_false, Bool.not_eq_eq_eq_not, Bool.not_true, Bool.not_false, Decidable.not_not] at hc) <;> (try (exfalso; first | omega | exact bool_tf hc (by assumption) | exact bool_ft hc (by assumption) | exact absurd (by assumption) hc)))))
    have hnone : ∀ t ∈ l, tuneErr t.1 t.2 r = 0 ∧ blowsOk t.1 t.2 = true := fun t ht => by
      obtain ⟨j, hj, rfl⟩ := List.getElem_of_mem ht
      have h := hne j hj hj
      unfold tnErr at h
      by_cases he : tuneErr l[j].1 l[j].2 r = 0
      · exact ⟨he, (tuneOk he).1⟩
      · rw [if_pos he] at h; cases h
    have hb60 : ∀ t ∈ l, t.2.length ≤ 60 := fun t ht => (blowsOk_bounds (hnone t ht).2).2.2.1
    have hfind : l.findSome? (tnErr l r) = none := by
      rw [List.findSome?_eq_none_iff]
      intro x hx
      obtain ⟨j, hj, rfl⟩ := List.getElem_of_mem hx
      exact hne j hj hj
    refine st_nilB 4 5 201 89 2 rfl rfl rfl ?_
    refine st_less [(0, .c (slT l)), (4, .ptr 4 0), (6, .ptr 6 0), (7, .own 200 (usesTo l r l.length).length), (89, .c (slT l)), (90, .c (I l.length)), (91, .c (I 0))]
      [(4, .box 26 [.c (I l[0].1), .c (I 1), .own 82 1, .c (I l.length), .c (slP (hamsL (mostOf l r) r 16)), .own 201 0]), (6, .box 135 (arrS (mostOf l r))), (82, .arr 3 1 [[I 1]]), (200, .arr 22 1 (usesTo l r l.length)), (201, .arr 89 2 [])] (by simp [setL1]) ?_
    refine st_for [4, 6, 82, 200, 201] l.length (fun k T H => T = [(0, .c (slT l)), (4, .ptr 4 0), (6, .ptr 6 0), (7, .own 200 (usesTo l r l.length).length), (89, .c (slT l)), (90, .c (I l.length)), (91, .c (I k))] ∧
      H = [(4, .box 26 [.c (I l[0].1), .c (I 1), .own 82 1, .c (I l.length), .c (slP (hamsL (mostOf l r) r 16)), .own 201 (pinsTo l r k).length]), (6, .box 135 (arrS (mostOf l r))), (82, .arr 3 1 [[I 1]]), (200, .arr 22 1 (usesTo l r l.length)), (201, .arr 89 2 ((pinsTo l r k).map rowP))]) (by simp) ⟨by simp, by simp [pinsTo]⟩ ?_
    clear hk hlt hc
    rintro k T H hk ⟨rfl, rfl⟩
    simp only [slT, slP]
    by_cases hlt : k < l.length
    · (repeat' (first | (refine buildP_own ?_; (simp -dsimp [hlt]; (repeat (simp -dsimp (disch := (first | omega | assumption | (refine Bool.eq_false_iff.1 ?_; assumption))) only [wrap_in, if_pos, if_neg]; (try simp -dsimp [hlt]))))) |  (with_reducible refine st_skip ?_; (try simp only [seqQ, blockQ, loopQ, forQ, whileQ, reduceIte, Nat.reduceEqDiff])) | (with_reducible refine st_exit ?_; (try simp only [seqQ, blockQ, loopQ, forQ, whileQ, reduceIte, Nat.reduceEqDiff])) | (with_reducible refine st_ret ?_; ((try simp only [seqQ, blockQ, loopQ, forQ, whileQ]); refine retQ_ret ?_; simp [hlt])) | refine st_seq ?_ | refine st_block ?_ | (refine st_reg follows ?_; (simp -dsimp [hlt]; (repeat (simp -dsimp (disch := (first | omega | assumption | (refine Bool.eq_false_iff.1 ?_; assumption))) only [wrap_in, if_pos, if_neg]; (try simp -dsimp [hlt]))))) | (refine guardP_of (fun hc => ?_) (fun hc => ?_) <;> (try simp only [decide_eq_true_eq, decide_eq_false_iff_not, Bool.true_eq_false, Bool.false_eq_true, bne_iff_ne, ne_eq, bne_eq_false_iff_eq, beq_iff_eq, beq_eq_false_iff_ne, Bool.not_eq_true, Bool.not_eq_false, Bool.not_eq_eq_eq_not, Bool.not_true, Bool.not_false, Decidable.not_not] at hc) <;> (try (exfalso; first | omega | exact bool_tf hc (by assumption) | exact bool_ft hc (by assumption) | exact absurd (by assumption) hc)) <;> (simp -dsimp [hlt, hc]; (repeat (simp -dsimp (disch := (first | omega | assumption | (refine Bool.eq_false_iff.1 ?_; assumption))) only [wrap_in, if_pos, if_neg]; (try simp -dsimp [hlt, hc]))))) | (refine st_cond rfl (fun hc => ?_) (fun hc => ?_) <;> (try simp only [decide_eq_true_eq, decide_eq_false_iff_not, Bool.true_eq_false, Bool.false_eq_true, bne_iff_ne, ne_eq, bne_eq_false_iff_eq, beq_iff_eq, beq_eq_false_iff_ne, Bool.not_eq_true, Bool.not_eq_false, Bool.not_eq_eq_eq_not, Bool.not_true, Bool.not_false, Decidable.not_not] at hc) <;> (try (exfalso; first | omega | exact bool_tf hc (by assumption) | exact bool_ft hc (by assumption) | exact absurd (by assumption) hc)))))
      have hb := blowsOk_bounds (hnone _ (List.getElem_mem hlt)).2
      have gU : ∀ h : k < (usesTo l r l.length).length, (usesTo l r l.length)[k] = [CV.sl 1 (List.map rowI (useL l[k].1 r l[k].2))] := fun h => by simp [usesTo]
      have gUl : (usesTo l r l.length).length = l.length := by simp [usesTo]
      have gul : (useL l[k].1 r l[k].2).length = l[k].2.length := by simp [useL]
      refine st_for [4, 6, 82, 200, 201] l[k].2.length (fun i T H => T = [(0, .c (slT l)), (4, .ptr 4 0), (6, .ptr 6 0), (7, .own 200 (usesTo l r l.length).length), (16, .c (I k)), (89, .c (slT l)), (90, .c (I l.length)), (91, .c (I k)), (97, .c (slP l[k].2)), (98, .c (I l[k].2.length)), (99, .c (I i))] ∧
        H = [(4, .box 26 [.c (I l[0].1), .c (I 1), .own 82 1, .c (I l.length), .c (slP (hamsL (mostOf l r) r 16)), .own 201 (pinsAt l r k i).length]), (6, .box 135 (arrS (mostOf l r))), (82, .arr 3 1 [[I 1]]), (200, .arr 22 1 (usesTo l r l.length)), (201, .arr 89 2 ((pinsAt l r k i).map rowP))]) (by simp) ⟨by simp, by simp [pinsAt_zero]⟩ ?_
      rintro i T H hi ⟨rfl, rfl⟩
      simp only [slT, slP]
      have hpl := pinsAt_len (r := r) hb60 k i
      by_cases hli : i < l[k].2.length
      · have hbi := hb.2.2.2.1 _ (List.getElem_mem hli)
        obtain ⟨nb, hnb⟩ := Int.eq_ofNat_of_zero_le hbi.2.2.1
        have hub := useOf_bounds l[k].1 r l[k].2 i
        have gV : ∀ h : i < (useL l[k].1 r l[k].2).length, (useL l[k].1 r l[k].2)[i] = useOf l[k].1 r l[k].2 i := fun h => by simp [useL]
        have hbell : bellOf l[k].2 i = (nb : Int) := by unfold bellOf; rw [List.getD_eq_getElem?_getD, List.getElem?_eq_getElem hli]; exact hnb
        (repeat' (first | (refine buildP_own ?_; (simp -dsimp [hlt, hli, gU, gUl, gul, gV, hnb]; (repeat (simp -dsimp (disch := (first | omega | assumption | (refine Bool.eq_false_iff.1 ?_; assumption))) only [wrap_in, if_pos, if_neg]; (try simp -dsimp [hlt, hli, gU, gUl, gul, gV, hnb]))))) |  (with_reducible refine st_skip ?_; (try simp only [seqQ, blockQ, loopQ, forQ, whileQ, reduceIte, Nat.reduceEqDiff])) | (with_reducible refine st_exit ?_; (try simp only [seqQ, blockQ, loopQ, forQ, whileQ, reduceIte, Nat.reduceEqDiff])) | (with_reducible refine st_ret ?_; ((try simp only [seqQ, blockQ, loopQ, forQ, whileQ]); refine retQ_ret ?_; simp [hlt, hli, gU, gUl, gul, gV, hnb])) | refine st_seq ?_ | refine st_block ?_ | (refine st_reg follows ?_; (simp -dsimp [hlt, hli, gU, gUl, gul, gV, hnb]; (repeat (simp -dsimp (disch := (first | omega | assumption | (refine Bool.eq_false_iff.1 ?_; assumption))) only [wrap_in, if_pos, if_neg]; (try simp -dsimp [hlt, hli, gU, gUl, gul, gV, hnb]))))) | (refine guardP_of (fun hc => ?_) (fun hc => ?_) <;> (try simp only [decide_eq_true_eq, decide_eq_false_iff_not, Bool.true_eq_false, Bool.false_eq_true, bne_iff_ne, ne_eq, bne_eq_false_iff_eq, beq_iff_eq, beq_eq_false_iff_ne, Bool.not_eq_true, Bool.not_eq_false, Bool.not_eq_eq_eq_not, Bool.not_true, Bool.not_false, Decidable.not_not] at hc) <;> (try (exfalso; first | omega | exact bool_tf hc (by assumption) | exact bool_ft hc (by assumption) | exact absurd (by assumption) hc)) <;> (simp -dsimp [hlt, hli, gU, gUl, gul, gV, hnb, hc]; (repeat (simp -dsimp (disch := (first | omega | assumption | (refine Bool.eq_false_iff.1 ?_; assumption))) only [wrap_in, if_pos, if_neg]; (try simp -dsimp [hlt, hli, gU, gUl, gul, gV, hnb, hc]))))) | (refine st_cond rfl (fun hc => ?_) (fun hc => ?_) <;> (try simp only [decide_eq_true_eq, decide_eq_false_iff_not, Bool.true_eq_false, Bool.false_eq_true, bne_iff_ne, ne_eq, bne_eq_false_iff_eq, beq_iff_eq, beq_eq_false_iff_ne, Bool.not_eq_true, Bool.not_eq_false, Bool.not_eq_eq_eq_not, Bool.not_true, Bool.not_false, Decidable.not_not] at hc) <;> (try (exfalso; first | omega | exact bool_tf hc (by assumption) | exact bool_ft hc (by assumption) | exact absurd (by assumption) hc)))))
        refine callP_of (cNumber (mostOf l r) nb (useOf l[k].1 r l[k].2 i) (fun i _ => mostOf_bound l r i) (by omega) hub.1 (by omega)) (.inl rfl) ?_
        obtain ⟨sm, hsm⟩ : ∃ sm, ((List.range nb).map (mostOf l r)).sum = sm := ⟨_, rfl⟩
        have hsb := sum_bound (mostOf l r) (fun i => mostOf_bound l r i) nb
        rw [hsm] at hsb ⊢
        have hm0 : 0 ≤ (sm + useOf l[k].1 r l[k].2 i) * (l.length : Int) := Int.mul_nonneg (by omega) (by omega)
        have hm1 : (sm + useOf l[k].1 r l[k].2 i) * (l.length : Int) ≤ 2000 * 8 := Int.mul_le_mul (by omega) (by omega) (by omega) (by omega)
        have hw1 : IntKind.i64.wrap ((sm + useOf l[k].1 r l[k].2 i) * (l.length : Int)) = (sm + useOf l[k].1 r l[k].2 i) * (l.length : Int) := wrap_in _ (by omega) (by omega)
        have hw2 : IntKind.i64.wrap ((sm + useOf l[k].1 r l[k].2 i) * (l.length : Int) + (k : Int)) = (sm + useOf l[k].1 r l[k].2 i) * (l.length : Int) + (k : Int) := wrap_in _ (by omega) (by omega)
        have hA : (pinsAt l r k i).length ≤ 9223372036854775806 := by omega
        have hB : ((pinsAt l r k i).length + 1) * 16 ≤ 140737488355328 := by omega
        (simp -dsimp [hlt, hli, hw1, hw2, hA, hB]; (repeat (simp -dsimp (disch := (first | omega | assumption | (refine Bool.eq_false_iff.1 ?_; assumption))) only [wrap_in, if_pos, if_neg]; (try simp -dsimp [hlt, hli, hw1, hw2, hA, hB]))))
        (repeat' (first | (refine buildP_own ?_; (simp -dsimp [hlt, hli, hw1, hw2, hA, hB]; (repeat (simp -dsimp (disch := (first | omega | assumption | (refine Bool.eq_false_iff.1 ?_; assumption))) only [wrap_in, if_pos, if_neg]; (try simp -dsimp [hlt, hli, hw1, hw2, hA, hB]))))) |  (with_reducible refine st_skip ?_; (try simp only [seqQ, blockQ, loopQ, forQ, whileQ, reduceIte, Nat.reduceEqDiff])) | (with_reducible refine st_exit ?_; (try simp only [seqQ, blockQ, loopQ, forQ, whileQ, reduceIte, Nat.reduceEqDiff])) | (with_reducible refine st_ret ?_; ((try simp only [seqQ, blockQ, loopQ, forQ, whileQ]); refine retQ_ret ?_; simp [hlt, hli, hw1, hw2, hA, hB])) | refine st_seq ?_ | refine st_block ?_ | (refine st_reg follows ?_; (simp -dsimp [hlt, hli, hw1, hw2, hA, hB]; (repeat (simp -dsimp (disch := (first | omega | assumption | (refine Bool.eq_false_iff.1 ?_; assumption))) only [wrap_in, if_pos, if_neg]; (try simp -dsimp [hlt, hli, hw1, hw2, hA, hB]))))) | (refine guardP_of (fun hc => ?_) (fun hc => ?_) <;> (try simp only [decide_eq_true_eq, decide_eq_false_iff_not, Bool.true_eq_false, Bool.false_eq_true, bne_iff_ne, ne_eq, bne_eq_false_iff_eq, beq_iff_eq, beq_eq_false_iff_ne, Bool.not_eq_true, Bool.not_eq_false, Bool.not_eq_eq_eq_not, Bool.not_true, Bool.not_false, Decidable.not_not] at hc) <;> (try (exfalso; first | omega | exact bool_tf hc (by assumption) | exact bool_ft hc (by assumption) | exact absurd (by assumption) hc)) <;> (simp -dsimp [hlt, hli, hw1, hw2, hA, hB, hc]; (repeat (simp -dsimp (disch := (first | omega | assumption | (refine Bool.eq_false_iff.1 ?_; assumption))) only [wrap_in, if_pos, if_neg]; (try simp -dsimp [hlt, hli, hw1, hw2, hA, hB, hc]))))) | (refine st_cond rfl (fun hc => ?_) (fun hc => ?_) <;> (try simp only [decide_eq_true_eq, decide_eq_false_iff_not, Bool.true_eq_false, Bool.false_eq_true, bne_iff_ne, ne_eq, bne_eq_false_iff_eq, beq_iff_eq, beq_eq_false_iff_ne, Bool.not_eq_true, Bool.not_eq_false, Bool.not_eq_eq_eq_not, Bool.not_true, Bool.not_false, Decidable.not_not] at hc) <;> (try (exfalso; first | omega | exact bool_tf hc (by assumption) | exact bool_ft hc (by assumption) | exact absurd (by assumption) hc)))))
        have ep : pinOf l r k l[k] i = ((sm + useOf l[k].1 r l[k].2 i) * (l.length : Int) + (k : Int), l[k].2[i].1) := by
          unfold pinOf; rw [hbell]; simp only [Int.toNat_natCast, hsm, List.getD_eq_getElem?_getD, List.getElem?_eq_getElem hli, Option.getD_some]
        exact ⟨hli, by simp, by simp [gUl], by simp [pinsAt_i hlt, ep]⟩
      · (repeat' (first | (refine buildP_own ?_; (simp -dsimp [hlt, hli]; (repeat (simp -dsimp (disch := (first | omega | assumption | (refine Bool.eq_false_iff.1 ?_; assumption))) only [wrap_in, if_pos, if_neg]; (try simp -dsimp [hlt, hli]))))) |  (with_reducible refine st_skip ?_; (try simp only [seqQ, blockQ, loopQ, forQ, whileQ, reduceIte, Nat.reduceEqDiff])) | (with_reducible refine st_exit ?_; (try simp only [seqQ, blockQ, loopQ, forQ, whileQ, reduceIte, Nat.reduceEqDiff])) | (with_reducible refine st_ret ?_; ((try simp only [seqQ, blockQ, loopQ, forQ, whileQ]); refine retQ_ret ?_; simp [hlt, hli])) | refine st_seq ?_ | refine st_block ?_ | (refine st_reg follows ?_; (simp -dsimp [hlt, hli]; (repeat (simp -dsimp (disch := (first | omega | assumption | (refine Bool.eq_false_iff.1 ?_; assumption))) only [wrap_in, if_pos, if_neg]; (try simp -dsimp [hlt, hli]))))) | (refine guardP_of (fun hc => ?_) (fun hc => ?_) <;> (try simp only [decide_eq_true_eq, decide_eq_false_iff_not, Bool.true_eq_false, Bool.false_eq_true, bne_iff_ne, ne_eq, bne_eq_false_iff_eq, beq_iff_eq, beq_eq_false_iff_ne, Bool.not_eq_true, Bool.not_eq_false, Bool.not_eq_eq_eq_not, Bool.not_true, Bool.not_false, Decidable.not_not] at hc) <;> (try (exfalso; first | omega | exact bool_tf hc (by assumption) | exact bool_ft hc (by assumption) | exact absurd (by assumption) hc)) <;> (simp -dsimp [hlt, hli, hc]; (repeat (simp -dsimp (disch := (first | omega | assumption | (refine Bool.eq_false_iff.1 ?_; assumption))) only [wrap_in, if_pos, if_neg]; (try simp -dsimp [hlt, hli, hc]))))) | (refine st_cond rfl (fun hc => ?_) (fun hc => ?_) <;> (try simp only [decide_eq_true_eq, decide_eq_false_iff_not, Bool.true_eq_false, Bool.false_eq_true, bne_iff_ne, ne_eq, bne_eq_false_iff_eq, beq_iff_eq, beq_eq_false_iff_ne, Bool.not_eq_true, Bool.not_eq_false, Bool.not_eq_eq_eq_not, Bool.not_true, Bool.not_false, Decidable.not_not] at hc) <;> (try (exfalso; first | omega | exact bool_tf hc (by assumption) | exact bool_ft hc (by assumption) | exact absurd (by assumption) hc)))))
        have hil : i = l[k].2.length := by omega
        exact ⟨hlt, by simp, by simp, by simp [pinsAt_k hlt hil]⟩
    · have hkl : k = l.length := by omega
      subst hkl
      (repeat' (first | (refine buildP_own ?_; (simp -dsimp [hlt]; (repeat (simp -dsimp (disch := (first | omega | assumption | (refine Bool.eq_false_iff.1 ?_; assumption))) only [wrap_in, if_pos, if_neg]; (try simp -dsimp [hlt]))))) |  (with_reducible refine st_skip ?_; (try simp only [seqQ, blockQ, loopQ, forQ, whileQ, reduceIte, Nat.reduceEqDiff])) | (with_reducible refine st_exit ?_; (try simp only [seqQ, blockQ, loopQ, forQ, whileQ, reduceIte, Nat.reduceEqDiff])) | (with_reducible refine st_ret ?_; ((try simp only [seqQ, blockQ, loopQ, forQ, whileQ]); refine retQ_ret ?_; simp [hlt])) | refine st_seq ?_ | refine st_block ?_ | (refine st_reg follows ?_; (simp -dsimp [hlt]; (repeat (simp -dsimp (disch := (first | omega | assumption | (refine Bool.eq_false_iff.1 ?_; assumption))) only [wrap_in, if_pos, if_neg]; (try simp -dsimp [hlt]))))) | (refine guardP_of (fun hc => ?_) (fun hc => ?_) <;> (try simp only [decide_eq_true_eq, decide_eq_false_iff_not, Bool.true_eq_false, Bool.false_eq_true, bne_iff_ne, ne_eq, bne_eq_false_iff_eq, beq_iff_eq, beq_eq_false_iff_ne, Bool.not_eq_true, Bool.not_eq_false, Bool.not_eq_eq_eq_not, Bool.not_true, Bool.not_false, Decidable.not_not] at hc) <;> (try (exfalso; first | omega | exact bool_tf hc (by assumption) | exact bool_ft hc (by assumption) | exact absurd (by assumption) hc)) <;> (simp -dsimp [hlt, hc]; (repeat (simp -dsimp (disch := (first | omega | assumption | (refine Bool.eq_false_iff.1 ?_; assumption))) only [wrap_in, if_pos, if_neg]; (try simp -dsimp [hlt, hc]))))) | (refine st_cond rfl (fun hc => ?_) (fun hc => ?_) <;> (try simp only [decide_eq_true_eq, decide_eq_false_iff_not, Bool.true_eq_false, Bool.false_eq_true, bne_iff_ne, ne_eq, bne_eq_false_iff_eq, beq_iff_eq, beq_eq_false_iff_ne, Bool.not_eq_true, Bool.not_eq_false, Bool.not_eq_eq_eq_not, Bool.not_true, Bool.not_false, Decidable.not_not] at hc) <;> (try (exfalso; first | omega | exact bool_tf hc (by assumption) | exact bool_ft hc (by assumption) | exact absurd (by assumption) hc)))))
      refine callP_of (cWithin 1 40 [((hamsL (mostOf l r) r 16).length : Int)]) (.inr (.val _)) ?_
      (simp -dsimp [hlt]; (repeat (simp -dsimp (disch := (first | omega | assumption | (refine Bool.eq_false_iff.1 ?_; assumption))) only [wrap_in, if_pos, if_neg]; (try simp -dsimp [hlt]))))
      (repeat' (first | (refine buildP_own ?_; (simp -dsimp [hlt]; (repeat (simp -dsimp (disch := (first | omega | assumption | (refine Bool.eq_false_iff.1 ?_; assumption))) only [wrap_in, if_pos, if_neg]; (try simp -dsimp [hlt]))))) |  (with_reducible refine st_skip ?_; (try simp only [seqQ, blockQ, loopQ, forQ, whileQ, reduceIte, Nat.reduceEqDiff])) | (with_reducible refine st_exit ?_; (try simp only [seqQ, blockQ, loopQ, forQ, whileQ, reduceIte, Nat.reduceEqDiff])) | (with_reducible refine st_ret ?_; ((try simp only [seqQ, blockQ, loopQ, forQ, whileQ]); refine retQ_ret ?_; simp [hlt])) | refine st_seq ?_ | refine st_block ?_ | (refine st_reg follows ?_; (simp -dsimp [hlt]; (repeat (simp -dsimp (disch := (first | omega | assumption | (refine Bool.eq_false_iff.1 ?_; assumption))) only [wrap_in, if_pos, if_neg]; (try simp -dsimp [hlt]))))) | (refine guardP_of (fun hc => ?_) (fun hc => ?_) <;> (try simp only [decide_eq_true_eq, decide_eq_false_iff_not, Bool.true_eq_false, Bool.false_eq_true, bne_iff_ne, ne_eq, bne_eq_false_iff_eq, beq_iff_eq, beq_eq_false_iff_ne, Bool.not_eq_true, Bool.not_eq_false, Bool.not_eq_eq_eq_not, Bool.not_true, Bool.not_false, Decidable.not_not] at hc) <;> (try (exfalso; first | omega | exact bool_tf hc (by assumption) | exact bool_ft hc (by assumption) | exact absurd (by assumption) hc)) <;> (simp -dsimp [hlt, hc]; (repeat (simp -dsimp (disch := (first | omega | assumption | (refine Bool.eq_false_iff.1 ?_; assumption))) only [wrap_in, if_pos, if_neg]; (try simp -dsimp [hlt, hc]))))) | (refine st_cond rfl (fun hc => ?_) (fun hc => ?_) <;> (try simp only [decide_eq_true_eq, decide_eq_false_iff_not, Bool.true_eq_false, Bool.false_eq_true, bne_iff_ne, ne_eq, bne_eq_false_iff_eq, beq_iff_eq, beq_eq_false_iff_ne, Bool.not_eq_true, Bool.not_eq_false, Bool.not_eq_eq_eq_not, Bool.not_true, Bool.not_false, Decidable.not_not] at hc) <;> (try (exfalso; first | omega | exact bool_tf hc (by assumption) | exact bool_ft hc (by assumption) | exact absurd (by assumption) hc)))))
      · have h4 : 400 < (pinsTo l r l.length).length := by omega
        exact err_le (by unfold pinErr; rw [if_neg (by omega), if_neg (by omega), hfind]; simp [pinW, h4]) (by decide)
      · have h4 : ¬ 400 < (pinsTo l r l.length).length := by omega
        have h5 : inn 1 40 ((hamsL (mostOf l r) r 16).length : Int) = true := ‹_›
        have e0 : pinErr l r = 0 := by unfold pinErr; rw [if_neg (by omega), if_neg (by omega), hfind]; simp [pinW, h4, h5]
        refine CLe.of_eq ?_
        unfold pinC; rw [e0, if_pos rfl]; simp [pinW, headS_eq hl0]
      · exact err_le (by unfold pinErr; rw [if_neg (by omega), if_neg (by omega), hfind]; simp [pinW, *]) (by decide)

end Go.Proofs.Ytdgplebmlggmcaa
