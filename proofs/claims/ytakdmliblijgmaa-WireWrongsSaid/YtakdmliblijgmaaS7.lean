/- Part 7 of a proof: Pa, Pb, CodeWF, Na, Nb, Nc, Nd, Ne, Nf, Ng, Nh, Kf, Nk, Ni, Nm, Pc, Pd, Nn, No, Pe, Lift, OpenS, Gw0. -/
import Derived.Test.YtakdmliblijgmaaS6
import Derived.Test.YtakdmliblijgmaaS3
import Derived.ChangeSame
import Derived.JoinedOf
import Derived.JoinedAt
import Derived.RowKit3
import Derived.ReadAgain
import Derived.RowKit2
import Derived.ChangeSlices
import Derived.OpenShut
import Derived.Test.YtakdmliblijgmaaS4
set_option linter.unusedSimpArgs false
set_option linter.unusedVariables false
/- Wire, reference X: all sets of a size. -/
namespace Go.Proofs.Ytakdmliblijgmaa
open Go.RowKit
def frmN (first : List Int) : Nat := match first.getLast? with
  | some x => x.toNat + 1
  | none => 0
def okAt (first : List Int) (row : List Bool) (i : Nat) : Bool := first.any (fun x => decide (x = (i : Int))) || !(row.getD i false)
def okRow (many : Nat) (first : List Int) (row : List Bool) : Bool := (List.range many).all (okAt first row)
def setsR (al : List (List Bool)) (many : Nat) : Nat → List Int → List (List Int)
  | 0, first => if al.any (okRow many first) = true then [first] else []
  | s + 1, first => (List.range' (frmN first) (many - frmN first)).flatMap fun (i : Nat) => setsR al many s (first ++ [(i : Int)])
theorem setsR_len (al : List (List Bool)) {many : Nat} (hm : many ≤ 10) : ∀ (s : Nat) (first : List Int), (setsR al many s first).length ≤ 10 ^ s
  | 0, first => by unfold setsR; split <;> simp
  | s + 1, first => by
    unfold setsR
    have : ∀ (l : List Nat), (l.flatMap fun (i : Nat) => setsR al many s (first ++ [(i : Int)])).length ≤ l.length * 10 ^ s := by
      intro l
      induction l with
      | nil => simp
      | cons a l ih =>
        rw [List.flatMap_cons, List.length_append, List.length_cons, Nat.add_mul]
        have := setsR_len al hm s (first ++ [(a : Int)])
        omega
    refine Nat.le_trans (this _) ?_
    rw [List.length_range', Nat.pow_succ, Nat.mul_comm]
    exact Nat.mul_le_mul_left _ (by omega)
structure FstOK (many : Nat) (first : List Int) : Prop where
  h : ∀ x ∈ first, 0 ≤ x ∧ x < many
theorem frm_le {many : Nat} {first : List Int} (h : FstOK many first) : frmN first ≤ many := by
  unfold frmN
  cases e : first.getLast? with
  | none => simp
  | some x =>
    have := h.h x (List.mem_of_getLast? e)
    show x.toNat + 1 ≤ many
    omega
def NoOk (al : List (List Bool)) (many : Nat) (first : List Int) (n : Nat) : Prop := (al.take n).any (okRow many first) = false
def okTo (first : List Int) (row : List Bool) (i : Nat) : Bool := (List.range i).all (okAt first row)
theorem okTo_succ (first : List Int) (row : List Bool) (i : Nat) : okTo first row (i + 1) = (okTo first row i && okAt first row i) := by
  unfold okTo
  rw [List.range_succ, List.all_append]
  simp
def inTo (first : List Int) (i : Int) (k : Nat) : Bool := (first.take k).any fun x => decide (x = i)
theorem inTo_succ {first : List Int} (i : Int) {k : Nat} (h : k < first.length) : inTo first i (k + 1) = (inTo first i k || decide (first[k] = i)) := anyB_succ h
where
  anyB_succ {first : List Int} {i : Int} {k : Nat} (h : k < first.length) : (first.take (k + 1)).any (fun x => decide (x = i)) = ((first.take k).any (fun x => decide (x = i)) || decide (first[k] = i)) := by
    rw [List.take_succ_eq_append_getElem h, List.any_append]
    simp
set_option maxRecDepth 100000 in
set_option maxHeartbeats 2000000 in
theorem rSets0 (al : List (List Bool)) (many : Nat) (hm : many ≤ 10) (hal : al.length ≤ 20000) (hrow : ∀ r ∈ al, r.length = many) (first : List Int) (hl : first.length ≤ 20) : SC Try.prog 55 [slBB al, I many, I 0, slI first] (slL (setsR al many 0 first)) := by
  refine law_turretref08_Sets _ _ (by simp) ?_
  (repeat' (first | ((first | with_reducible refine st_skip ?_ | with_reducible refine st_exit ?_); (try simp only [seqQ, blockQ, loopQ, forQ, whileQ, reduceIte, Nat.reduceEqDiff])) | (with_reducible refine st_ret ?_; ((try simp only [seqQ, blockQ, loopQ, forQ, whileQ]); first | (with_reducible refine retM_ret ?_) | refine retQ_ret ?_; simp)) | refine st_seq ?_ | refine st_block ?_ | ((with_reducible show (STri _ _ _ _ _) ∧ (STri _ _ _ _ _)); refine And.intro ?_ ?_) | ((first | refine st_reg ?_ | refine buildP_own ?_ | refine appP_own ?_) <;> (simp -dsimp; (repeat (simp -dsimp (disch := (first | omega | assumption | (refine Bool.eq_false_iff.1 ?_; assumption))) only [wrap_in, if_pos, if_neg]; (try simp -dsimp))))) | ((first | refine guardP_of (fun hc => ?_) (fun hc => ?_) | refine st_cond rfl (fun hc => ?_) (fun hc => ?_)) <;> (try simp only [lqA, lqB, lqC, lqD, lqE, lqF, lqG, lqH, lqI, lqJ, lqK, lqL, lqM, lqN, lqO] at hc) <;> (try (exfalso; first | omega | exact bool_tf hc (by assumption) | exact bool_ft hc (by assumption) | exact absurd (by assumption) hc)) <;> (first | with_reducible show STri _ _ _ _ _ _ | (simp -dsimp [hc]; (repeat (simp -dsimp (disch := (first | omega | assumption | (refine Bool.eq_false_iff.1 ?_; assumption))) only [wrap_in, if_pos, if_neg]; (try simp -dsimp [hc]))))))))
  refine st_for [] al.length (fun n T H => NoOk al many first n ∧ T = [(0, .c (slBB al)), (1, .c (I many)), (3, .c (slI first)), (9, .c (I n))] ∧ H = []) (by simp) ⟨by simp [NoOk], by simp, by simp⟩ ?_
  rintro n T H hn ⟨hno, rfl, rfl⟩
  by_cases hlt : n < al.length
  case neg =>
    have hnn : n = al.length := by omega
    subst hnn
    have e : setsR al many 0 first = [] := by
      unfold NoOk at hno
      rw [List.take_length] at hno
      unfold setsR
      rw [hno]; rfl
    rw [e]
    (repeat' (first | ((first | with_reducible refine st_skip ?_ | with_reducible refine st_exit ?_); (try simp only [seqQ, blockQ, loopQ, forQ, whileQ, reduceIte, Nat.reduceEqDiff])) | (with_reducible refine st_ret ?_; ((try simp only [seqQ, blockQ, loopQ, forQ, whileQ]); first | (with_reducible refine retM_ret ?_) | refine retQ_ret ?_; simp [hlt])) | refine st_seq ?_ | refine st_block ?_ | ((with_reducible show (STri _ _ _ _ _) ∧ (STri _ _ _ _ _)); refine And.intro ?_ ?_) | ((first | refine st_reg ?_ | refine buildP_own ?_ | refine appP_own ?_) <;> (simp -dsimp [hlt]; (repeat (simp -dsimp (disch := (first | omega | assumption | (refine Bool.eq_false_iff.1 ?_; assumption))) only [wrap_in, if_pos, if_neg]; (try simp -dsimp [hlt]))))) | ((first | refine guardP_of (fun hc => ?_) (fun hc => ?_) | refine st_cond rfl (fun hc => ?_) (fun hc => ?_)) <;> (try simp only [lqA, lqB, lqC, lqD, lqE, lqF, lqG, lqH, lqI, lqJ, lqK, lqL, lqM, lqN, lqO] at hc) <;> (try (exfalso; first | omega | exact bool_tf hc (by assumption) | exact bool_ft hc (by assumption) | exact absurd (by assumption) hc)) <;> (first | with_reducible show STri _ _ _ _ _ _ | (simp -dsimp [hlt, hc]; (repeat (simp -dsimp (disch := (first | omega | assumption | (refine Bool.eq_false_iff.1 ?_; assumption))) only [wrap_in, if_pos, if_neg]; (try simp -dsimp [hlt, hc]))))))))
    exact .nil 1
  obtain ⟨row, hr⟩ : ∃ row, al[n] = row := ⟨_, rfl⟩
  have hgr : ∀ h : n < al.length, al[n]'h = row := fun _ => hr
  have hrl : row.length = many := hrow row (by rw [← hr]; exact List.getElem_mem hlt)
  have hs : (al.take (n + 1)).any (okRow many first) = ((al.take n).any (okRow many first) || okRow many first row) := by
    rw [List.take_succ_eq_append_getElem hlt, List.any_append, hr]
    simp
  have hend : okTo first row many = okRow many first row := rfl
  (repeat' (first | ((first | with_reducible refine st_skip ?_ | with_reducible refine st_exit ?_); (try simp only [seqQ, blockQ, loopQ, forQ, whileQ, reduceIte, Nat.reduceEqDiff])) | (with_reducible refine st_ret ?_; ((try simp only [seqQ, blockQ, loopQ, forQ, whileQ]); first | (with_reducible refine retM_ret ?_) | refine retQ_ret ?_; simp [hlt])) | refine st_seq ?_ | refine st_block ?_ | ((with_reducible show (STri _ _ _ _ _) ∧ (STri _ _ _ _ _)); refine And.intro ?_ ?_) | ((first | refine st_reg ?_ | refine buildP_own ?_ | refine appP_own ?_) <;> (simp -dsimp [hlt]; (repeat (simp -dsimp (disch := (first | omega | assumption | (refine Bool.eq_false_iff.1 ?_; assumption))) only [wrap_in, if_pos, if_neg]; (try simp -dsimp [hlt]))))) | ((first | refine guardP_of (fun hc => ?_) (fun hc => ?_) | refine st_cond rfl (fun hc => ?_) (fun hc => ?_)) <;> (try simp only [lqA, lqB, lqC, lqD, lqE, lqF, lqG, lqH, lqI, lqJ, lqK, lqL, lqM, lqN, lqO] at hc) <;> (try (exfalso; first | omega | exact bool_tf hc (by assumption) | exact bool_ft hc (by assumption) | exact absurd (by assumption) hc)) <;> (first | with_reducible show STri _ _ _ _ _ _ | (simp -dsimp [hlt, hc]; (repeat (simp -dsimp (disch := (first | omega | assumption | (refine Bool.eq_false_iff.1 ?_; assumption))) only [wrap_in, if_pos, if_neg]; (try simp -dsimp [hlt, hc]))))))))
  refine st_for [] many (fun i T H => T = [(0, .c (slBB al)), (1, .c (I many)), (3, .c (slI first)), (9, .c (I n)), (10, .c (B (okTo first row i))), (11, .c (I i))] ∧ H = []) (by simp) ⟨by simp [okTo], by simp⟩ ?_
  rintro i T H hi ⟨rfl, rfl⟩
  by_cases hlt2 : i < many
  case neg =>
    have hii : i = many := by omega
    rw [← hii] at hend hs hno
    subst hii
    rw [hend]
    cases hok : okRow i first row
    · rw [hok, Bool.or_false] at hs
      (repeat' (first | ((first | with_reducible refine st_skip ?_ | with_reducible refine st_exit ?_); (try simp only [seqQ, blockQ, loopQ, forQ, whileQ, reduceIte, Nat.reduceEqDiff])) | (with_reducible refine st_ret ?_; ((try simp only [seqQ, blockQ, loopQ, forQ, whileQ]); first | (with_reducible refine retM_ret ?_) | refine retQ_ret ?_; simp [hlt2, hlt])) | refine st_seq ?_ | refine st_block ?_ | ((with_reducible show (STri _ _ _ _ _) ∧ (STri _ _ _ _ _)); refine And.intro ?_ ?_) | ((first | refine st_reg ?_ | refine buildP_own ?_ | refine appP_own ?_) <;> (simp -dsimp [hlt2, hlt]; (repeat (simp -dsimp (disch := (first | omega | assumption | (refine Bool.eq_false_iff.1 ?_; assumption))) only [wrap_in, if_pos, if_neg]; (try simp -dsimp [hlt2, hlt]))))) | ((first | refine guardP_of (fun hc => ?_) (fun hc => ?_) | refine st_cond rfl (fun hc => ?_) (fun hc => ?_)) <;> (try simp only [lqA, lqB, lqC, lqD, lqE, lqF, lqG, lqH, lqI, lqJ, lqK, lqL, lqM, lqN, lqO] at hc) <;> (try (exfalso; first | omega | exact bool_tf hc (by assumption) | exact bool_ft hc (by assumption) | exact absurd (by assumption) hc)) <;> (first | with_reducible show STri _ _ _ _ _ _ | (simp -dsimp [hlt2, hlt, hc]; (repeat (simp -dsimp (disch := (first | omega | assumption | (refine Bool.eq_false_iff.1 ?_; assumption))) only [wrap_in, if_pos, if_neg]; (try simp -dsimp [hlt2, hlt, hc]))))))))
      all_goals exact ⟨hlt, by simp, by unfold NoOk at *; rw [hs]; exact hno, by simp, by simp⟩
    · have e : setsR al i 0 first = [first] := by
        unfold setsR
        rw [if_pos]
        rw [List.any_eq_true]
        exact ⟨row, by rw [← hr]; exact List.getElem_mem hlt, hok⟩
      rw [e]
      (repeat' (first | ((first | with_reducible refine st_skip ?_ | with_reducible refine st_exit ?_); (try simp only [seqQ, blockQ, loopQ, forQ, whileQ, reduceIte, Nat.reduceEqDiff])) | (with_reducible refine st_ret ?_; ((try simp only [seqQ, blockQ, loopQ, forQ, whileQ]); first | (with_reducible refine retM_ret ?_) | refine retQ_ret ?_; simp [hlt2, hlt])) | refine st_seq ?_ | refine st_block ?_ | ((with_reducible show (STri _ _ _ _ _) ∧ (STri _ _ _ _ _)); refine And.intro ?_ ?_) | ((first | refine st_reg ?_ | refine buildP_own ?_ | refine appP_own ?_) <;> (simp -dsimp [hlt2, hlt]; (repeat (simp -dsimp (disch := (first | omega | assumption | (refine Bool.eq_false_iff.1 ?_; assumption))) only [wrap_in, if_pos, if_neg]; (try simp -dsimp [hlt2, hlt]))))) | ((first | refine guardP_of (fun hc => ?_) (fun hc => ?_) | refine st_cond rfl (fun hc => ?_) (fun hc => ?_)) <;> (try simp only [lqA, lqB, lqC, lqD, lqE, lqF, lqG, lqH, lqI, lqJ, lqK, lqL, lqM, lqN, lqO] at hc) <;> (try (exfalso; first | omega | exact bool_tf hc (by assumption) | exact bool_ft hc (by assumption) | exact absurd (by assumption) hc)) <;> (first | with_reducible show STri _ _ _ _ _ _ | (simp -dsimp [hlt2, hlt, hc]; (repeat (simp -dsimp (disch := (first | omega | assumption | (refine Bool.eq_false_iff.1 ?_; assumption))) only [wrap_in, if_pos, if_neg]; (try simp -dsimp [hlt2, hlt, hc]))))))))
      all_goals exact .refl _
  have hos := okTo_succ first row i
  have hat : okAt first row i = (inTo first i first.length || !row[i]'(by omega)) := by
    unfold okAt inTo
    rw [List.take_length]
    congr 2
    simp [hrl, hlt2]
  obtain ⟨v, hv⟩ : ∃ v, row[i]'(by omega) = v := ⟨_, rfl⟩
  have hgi : ∀ h : i < row.length, row[i]'h = v := fun _ => hv
  rw [hv] at hat
  generalize okTo first row i = ok at *
  (repeat' (first | ((first | with_reducible refine st_skip ?_ | with_reducible refine st_exit ?_); (try simp only [seqQ, blockQ, loopQ, forQ, whileQ, reduceIte, Nat.reduceEqDiff])) | (with_reducible refine st_ret ?_; ((try simp only [seqQ, blockQ, loopQ, forQ, whileQ]); first | (with_reducible refine retM_ret ?_) | refine retQ_ret ?_; simp [hlt2])) | refine st_seq ?_ | refine st_block ?_ | ((with_reducible show (STri _ _ _ _ _) ∧ (STri _ _ _ _ _)); refine And.intro ?_ ?_) | ((first | refine st_reg ?_ | refine buildP_own ?_ | refine appP_own ?_) <;> (simp -dsimp [hlt2]; (repeat (simp -dsimp (disch := (first | omega | assumption | (refine Bool.eq_false_iff.1 ?_; assumption))) only [wrap_in, if_pos, if_neg]; (try simp -dsimp [hlt2]))))) | ((first | refine guardP_of (fun hc => ?_) (fun hc => ?_) | refine st_cond rfl (fun hc => ?_) (fun hc => ?_)) <;> (try simp only [lqA, lqB, lqC, lqD, lqE, lqF, lqG, lqH, lqI, lqJ, lqK, lqL, lqM, lqN, lqO] at hc) <;> (try (exfalso; first | omega | exact bool_tf hc (by assumption) | exact bool_ft hc (by assumption) | exact absurd (by assumption) hc)) <;> (first | with_reducible show STri _ _ _ _ _ _ | (simp -dsimp [hlt2, hc]; (repeat (simp -dsimp (disch := (first | omega | assumption | (refine Bool.eq_false_iff.1 ?_; assumption))) only [wrap_in, if_pos, if_neg]; (try simp -dsimp [hlt2, hc]))))))))
  refine st_for [] first.length (fun k T H => T = [(0, .c (slBB al)), (1, .c (I many)), (3, .c (slI first)), (9, .c (I n)), (10, .c (B ok)), (11, .c (I i)), (12, .c (B (inTo first i k))), (13, .c (I k))] ∧ H = []) (by simp) ⟨by simp [inTo], by simp⟩ ?_
  rintro k T H hk ⟨rfl, rfl⟩
  by_cases hlt3 : k < first.length
  · have hks := inTo_succ (i : Int) hlt3
    generalize inTo first i k = q at *
    cases q
    · by_cases h1 : first[k] = (i : Int)
      · (repeat' (first | ((first | with_reducible refine st_skip ?_ | with_reducible refine st_exit ?_); (try simp only [seqQ, blockQ, loopQ, forQ, whileQ, reduceIte, Nat.reduceEqDiff])) | (with_reducible refine st_ret ?_; ((try simp only [seqQ, blockQ, loopQ, forQ, whileQ]); first | (with_reducible refine retM_ret ?_) | refine retQ_ret ?_; simp [hlt3, h1])) | refine st_seq ?_ | refine st_block ?_ | ((with_reducible show (STri _ _ _ _ _) ∧ (STri _ _ _ _ _)); refine And.intro ?_ ?_) | ((first | refine st_reg ?_ | refine buildP_own ?_ | refine appP_own ?_) <;> (simp -dsimp [hlt3, h1]; (repeat (simp -dsimp (disch := (first | omega | assumption | (refine Bool.eq_false_iff.1 ?_; assumption))) only [wrap_in, if_pos, if_neg]; (try simp -dsimp [hlt3, h1]))))) | ((first | refine guardP_of (fun hc => ?_) (fun hc => ?_) | refine st_cond rfl (fun hc => ?_) (fun hc => ?_)) <;> (try simp only [lqA, lqB, lqC, lqD, lqE, lqF, lqG, lqH, lqI, lqJ, lqK, lqL, lqM, lqN, lqO] at hc) <;> (try (exfalso; first | omega | exact bool_tf hc (by assumption) | exact bool_ft hc (by assumption) | exact absurd (by assumption) hc)) <;> (first | with_reducible show STri _ _ _ _ _ _ | (simp -dsimp [hlt3, h1, hc]; (repeat (simp -dsimp (disch := (first | omega | assumption | (refine Bool.eq_false_iff.1 ?_; assumption))) only [wrap_in, if_pos, if_neg]; (try simp -dsimp [hlt3, h1, hc]))))))))
        all_goals exact ⟨hlt3, by simp, by simp [hks, h1], by simp⟩
      · (repeat' (first | ((first | with_reducible refine st_skip ?_ | with_reducible refine st_exit ?_); (try simp only [seqQ, blockQ, loopQ, forQ, whileQ, reduceIte, Nat.reduceEqDiff])) | (with_reducible refine st_ret ?_; ((try simp only [seqQ, blockQ, loopQ, forQ, whileQ]); first | (with_reducible refine retM_ret ?_) | refine retQ_ret ?_; simp [hlt3, h1])) | refine st_seq ?_ | refine st_block ?_ | ((with_reducible show (STri _ _ _ _ _) ∧ (STri _ _ _ _ _)); refine And.intro ?_ ?_) | ((first | refine st_reg ?_ | refine buildP_own ?_ | refine appP_own ?_) <;> (simp -dsimp [hlt3, h1]; (repeat (simp -dsimp (disch := (first | omega | assumption | (refine Bool.eq_false_iff.1 ?_; assumption))) only [wrap_in, if_pos, if_neg]; (try simp -dsimp [hlt3, h1]))))) | ((first | refine guardP_of (fun hc => ?_) (fun hc => ?_) | refine st_cond rfl (fun hc => ?_) (fun hc => ?_)) <;> (try simp only [lqA, lqB, lqC, lqD, lqE, lqF, lqG, lqH, lqI, lqJ, lqK, lqL, lqM, lqN, lqO] at hc) <;> (try (exfalso; first | omega | exact bool_tf hc (by assumption) | exact bool_ft hc (by assumption) | exact absurd (by assumption) hc)) <;> (first | with_reducible show STri _ _ _ _ _ _ | (simp -dsimp [hlt3, h1, hc]; (repeat (simp -dsimp (disch := (first | omega | assumption | (refine Bool.eq_false_iff.1 ?_; assumption))) only [wrap_in, if_pos, if_neg]; (try simp -dsimp [hlt3, h1, hc]))))))))
        all_goals exact ⟨hlt3, by simp, by simp [hks, h1], by simp⟩
    · (repeat' (first | ((first | with_reducible refine st_skip ?_ | with_reducible refine st_exit ?_); (try simp only [seqQ, blockQ, loopQ, forQ, whileQ, reduceIte, Nat.reduceEqDiff])) | (with_reducible refine st_ret ?_; ((try simp only [seqQ, blockQ, loopQ, forQ, whileQ]); first | (with_reducible refine retM_ret ?_) | refine retQ_ret ?_; simp [hlt3])) | refine st_seq ?_ | refine st_block ?_ | ((with_reducible show (STri _ _ _ _ _) ∧ (STri _ _ _ _ _)); refine And.intro ?_ ?_) | ((first | refine st_reg ?_ | refine buildP_own ?_ | refine appP_own ?_) <;> (simp -dsimp [hlt3]; (repeat (simp -dsimp (disch := (first | omega | assumption | (refine Bool.eq_false_iff.1 ?_; assumption))) only [wrap_in, if_pos, if_neg]; (try simp -dsimp [hlt3]))))) | ((first | refine guardP_of (fun hc => ?_) (fun hc => ?_) | refine st_cond rfl (fun hc => ?_) (fun hc => ?_)) <;> (try simp only [lqA, lqB, lqC, lqD, lqE, lqF, lqG, lqH, lqI, lqJ, lqK, lqL, lqM, lqN, lqO] at hc) <;> (try (exfalso; first | omega | exact bool_tf hc (by assumption) | exact bool_ft hc (by assumption) | exact absurd (by assumption) hc)) <;> (first | with_reducible show STri _ _ _ _ _ _ | (simp -dsimp [hlt3, hc]; (repeat (simp -dsimp (disch := (first | omega | assumption | (refine Bool.eq_false_iff.1 ?_; assumption))) only [wrap_in, if_pos, if_neg]; (try simp -dsimp [hlt3, hc]))))))))
      all_goals exact ⟨hlt3, by simp, by simp [hks], by simp⟩
  · have hkk : k = first.length := by omega
    subst hkk
    have hil : i < row.length := by omega
    generalize inTo first i first.length = q at *
    cases ok
    · (repeat' (first | ((first | with_reducible refine st_skip ?_ | with_reducible refine st_exit ?_); (try simp only [seqQ, blockQ, loopQ, forQ, whileQ, reduceIte, Nat.reduceEqDiff])) | (with_reducible refine st_ret ?_; ((try simp only [seqQ, blockQ, loopQ, forQ, whileQ]); first | (with_reducible refine retM_ret ?_) | refine retQ_ret ?_; simp [hlt3])) | refine st_seq ?_ | refine st_block ?_ | ((with_reducible show (STri _ _ _ _ _) ∧ (STri _ _ _ _ _)); refine And.intro ?_ ?_) | ((first | refine st_reg ?_ | refine buildP_own ?_ | refine appP_own ?_) <;> (simp -dsimp [hlt3]; (repeat (simp -dsimp (disch := (first | omega | assumption | (refine Bool.eq_false_iff.1 ?_; assumption))) only [wrap_in, if_pos, if_neg]; (try simp -dsimp [hlt3]))))) | ((first | refine guardP_of (fun hc => ?_) (fun hc => ?_) | refine st_cond rfl (fun hc => ?_) (fun hc => ?_)) <;> (try simp only [lqA, lqB, lqC, lqD, lqE, lqF, lqG, lqH, lqI, lqJ, lqK, lqL, lqM, lqN, lqO] at hc) <;> (try (exfalso; first | omega | exact bool_tf hc (by assumption) | exact bool_ft hc (by assumption) | exact absurd (by assumption) hc)) <;> (first | with_reducible show STri _ _ _ _ _ _ | (simp -dsimp [hlt3, hc]; (repeat (simp -dsimp (disch := (first | omega | assumption | (refine Bool.eq_false_iff.1 ?_; assumption))) only [wrap_in, if_pos, if_neg]; (try simp -dsimp [hlt3, hc]))))))))
      all_goals exact ⟨hlt2, by simp, by simp [hos], by simp⟩
    · cases q
      · cases v
        all_goals
          (repeat' (first | ((first | with_reducible refine st_skip ?_ | with_reducible refine st_exit ?_); (try simp only [seqQ, blockQ, loopQ, forQ, whileQ, reduceIte, Nat.reduceEqDiff])) | (with_reducible refine st_ret ?_; ((try simp only [seqQ, blockQ, loopQ, forQ, whileQ]); first | (with_reducible refine retM_ret ?_) | refine retQ_ret ?_; simp [hlt3, hlt, hgr, hil, hgi])) | refine st_seq ?_ | refine st_block ?_ | ((with_reducible show (STri _ _ _ _ _) ∧ (STri _ _ _ _ _)); refine And.intro ?_ ?_) | ((first | refine st_reg ?_ | refine buildP_own ?_ | refine appP_own ?_) <;> (simp -dsimp [hlt3, hlt, hgr, hil, hgi]; (repeat (simp -dsimp (disch := (first | omega | assumption | (refine Bool.eq_false_iff.1 ?_; assumption))) only [wrap_in, if_pos, if_neg]; (try simp -dsimp [hlt3, hlt, hgr, hil, hgi]))))) | ((first | refine guardP_of (fun hc => ?_) (fun hc => ?_) | refine st_cond rfl (fun hc => ?_) (fun hc => ?_)) <;> (try simp only [lqA, lqB, lqC, lqD, lqE, lqF, lqG, lqH, lqI, lqJ, lqK, lqL, lqM, lqN, lqO] at hc) <;> (try (exfalso; first | omega | exact bool_tf hc (by assumption) | exact bool_ft hc (by assumption) | exact absurd (by assumption) hc)) <;> (first | with_reducible show STri _ _ _ _ _ _ | (simp -dsimp [hlt3, hlt, hgr, hil, hgi, hc]; (repeat (simp -dsimp (disch := (first | omega | assumption | (refine Bool.eq_false_iff.1 ?_; assumption))) only [wrap_in, if_pos, if_neg]; (try simp -dsimp [hlt3, hlt, hgr, hil, hgi, hc]))))))))
          all_goals exact ⟨hlt2, by simp, by simp [hos, hat], by simp⟩
      · (repeat' (first | ((first | with_reducible refine st_skip ?_ | with_reducible refine st_exit ?_); (try simp only [seqQ, blockQ, loopQ, forQ, whileQ, reduceIte, Nat.reduceEqDiff])) | (with_reducible refine st_ret ?_; ((try simp only [seqQ, blockQ, loopQ, forQ, whileQ]); first | (with_reducible refine retM_ret ?_) | refine retQ_ret ?_; simp [hlt3])) | refine st_seq ?_ | refine st_block ?_ | ((with_reducible show (STri _ _ _ _ _) ∧ (STri _ _ _ _ _)); refine And.intro ?_ ?_) | ((first | refine st_reg ?_ | refine buildP_own ?_ | refine appP_own ?_) <;> (simp -dsimp [hlt3]; (repeat (simp -dsimp (disch := (first | omega | assumption | (refine Bool.eq_false_iff.1 ?_; assumption))) only [wrap_in, if_pos, if_neg]; (try simp -dsimp [hlt3]))))) | ((first | refine guardP_of (fun hc => ?_) (fun hc => ?_) | refine st_cond rfl (fun hc => ?_) (fun hc => ?_)) <;> (try simp only [lqA, lqB, lqC, lqD, lqE, lqF, lqG, lqH, lqI, lqJ, lqK, lqL, lqM, lqN, lqO] at hc) <;> (try (exfalso; first | omega | exact bool_tf hc (by assumption) | exact bool_ft hc (by assumption) | exact absurd (by assumption) hc)) <;> (first | with_reducible show STri _ _ _ _ _ _ | (simp -dsimp [hlt3, hc]; (repeat (simp -dsimp (disch := (first | omega | assumption | (refine Bool.eq_false_iff.1 ?_; assumption))) only [wrap_in, if_pos, if_neg]; (try simp -dsimp [hlt3, hc]))))))))
        all_goals exact ⟨hlt2, by simp, by simp [hos, hat], by simp⟩
end Go.Proofs.Ytakdmliblijgmaa
/- Wire, reference XI: all sets of any size. -/
namespace Go.Proofs.Ytakdmliblijgmaa
open Go.RowKit
def accS (al : List (List Bool)) (many s : Nat) (first : List Int) (c : Nat) : List (List Int) := (List.range' (frmN first) c).flatMap fun (i : Nat) => setsR al many s (first ++ [(i : Int)])
theorem accS_succ (al : List (List Bool)) (many s : Nat) (first : List Int) (c : Nat) : accS al many s first (c + 1) = accS al many s first c ++ setsR al many s (first ++ [((frmN first + c : Nat) : Int)]) := by
  unfold accS
  rw [List.range'_concat, List.flatMap_append]
  simp
theorem accS_len (al : List (List Bool)) {many : Nat} (hm : many ≤ 10) (s : Nat) (first : List Int) : ∀ c, (accS al many s first c).length ≤ c * 10 ^ s
  | 0 => by simp [accS]
  | c + 1 => by
    rw [accS_succ, List.length_append, Nat.add_mul]
    have := accS_len al hm s first c
    have := setsR_len al hm s (first ++ [((frmN first + c : Nat) : Int)])
    omega
set_option maxRecDepth 100000 in
set_option maxHeartbeats 2000000 in
theorem rSets (al : List (List Bool)) (many : Nat) (hm : many ≤ 10) (hal : al.length ≤ 20000) (hrow : ∀ r ∈ al, r.length = many) : ∀ (size : Nat) (first : List Int), size ≤ 10 → FstOK many first → first.length + size ≤ 20 →
    SC Try.prog 55 [slBB al, I many, I size, slI first] (slL (setsR al many size first))
  | 0, first, _, _, hl => rSets0 al many hm hal hrow first (by omega)
  | size + 1, first, h10, hf, hl => by
    refine law_turretref08_Sets _ _ (by simp) ?_
    have ih := rSets al many hm hal hrow size
    have hfr := frm_le hf
    have hp10 : 10 ^ size ≤ 1000000000 := Nat.pow_le_pow_right (by omega) (show size ≤ 9 by omega)
    have hsz : ¬ (size : Int) + 1 = 0 := by omega
    have hend : accS al many size first (many - frmN first) = setsR al many (size + 1) first := rfl
    have hbase : ∀ c, c < many - frmN first → SC Try.prog 55 [slBB al, I many, I size, .sl 1 (first.map rowI ++ [[I ((frmN first + c : Nat) : Int)]])] (slL (setsR al many size (first ++ [((frmN first + c : Nat) : Int)]))) := fun c hc => by
      have h := ih (first ++ [((frmN first + c : Nat) : Int)]) (by omega) ⟨fun x hx => by
        rcases List.mem_append.1 hx with hx | hx
        · exact hf.h x hx
        · rw [List.mem_singleton.1 hx]; omega⟩ (by rw [List.length_append]; simp; omega)
      unfold slI at h
      rw [List.map_append] at h
      exact h
    have hlen := accS_len al hm size first
    have hnew := fun c => setsR_len al hm size (first ++ [((frmN first + c : Nat) : Int)])
    have hsuc := accS_succ al many size first
    have h0 : accS al many size first 0 = [] := rfl
    obtain ⟨N, hN⟩ : ∃ N, many - frmN first = N := ⟨_, rfl⟩
    have hloop : STri (cfF Try.prog [] 93) k60_72 [(0, .c (slBB al)), (1, .c (I many)), (2, .c (I ((size : Int) + 1))), (3, .c (slI first)), (14, .own 62 0), (15, .c (I ((frmN first : Nat) : Int)))] [(62, .arr 55 1 [])] (retQ rs_turretref08_Sets (slL (setsR al many (size + 1) first))) := by
      rw [← hend, hN]
      generalize accS al many size first = acc at *
      generalize setsR al many size = sr at *
      (repeat' (first | ((first | with_reducible refine st_skip ?_ | with_reducible refine st_exit ?_); (try simp only [seqQ, blockQ, loopQ, forQ, whileQ, reduceIte, Nat.reduceEqDiff])) | (with_reducible refine st_ret ?_; ((try simp only [seqQ, blockQ, loopQ, forQ, whileQ]); first | (with_reducible refine retM_ret ?_) | refine retQ_ret ?_; simp)) | refine st_seq ?_ | refine st_block ?_ | ((with_reducible show (STri _ _ _ _ _) ∧ (STri _ _ _ _ _)); refine And.intro ?_ ?_) | ((first | refine st_reg ?_ | refine buildP_own ?_ | refine appP_own ?_) <;> (simp -dsimp; (repeat (simp -dsimp (disch := (first | omega | assumption | (refine Bool.eq_false_iff.1 ?_; assumption))) only [wrap_in, if_pos, if_neg]; (try simp -dsimp))))) | ((first | refine guardP_of (fun hc => ?_) (fun hc => ?_) | refine st_cond rfl (fun hc => ?_) (fun hc => ?_)) <;> (try simp only [lqA, lqB, lqC, lqD, lqE, lqF, lqG, lqH, lqI, lqJ, lqK, lqL, lqM, lqN, lqO] at hc) <;> (try (exfalso; first | omega | exact bool_tf hc (by assumption) | exact bool_ft hc (by assumption) | exact absurd (by assumption) hc)) <;> (first | with_reducible show STri _ _ _ _ _ _ | (simp -dsimp [hc]; (repeat (simp -dsimp (disch := (first | omega | assumption | (refine Bool.eq_false_iff.1 ?_; assumption))) only [wrap_in, if_pos, if_neg]; (try simp -dsimp [hc]))))))))
      refine st_for [62] N (fun c T H => T = [(0, .c (slBB al)), (1, .c (I many)), (2, .c (I ((size : Int) + 1))), (3, .c (slI first)), (14, .own 62 (acc c).length), (16, .c (I ((frmN first + c : Nat) : Int)))] ∧ H = [(62, .arr 55 1 ((acc c).map rowL1))]) (by simp) ⟨by simp [h0], by simp [h0]⟩ ?_
      rintro c T H hc ⟨rfl, rfl⟩
      have hfi : ((frmN first + c : Nat) : Int) = (frmN first : Int) + c := by omega
      by_cases hlt : c < N
      · have hcm : ((frmN first + c : Nat) : Int) < many := by omega
        have hb := hbase c (by omega)
        have hl1 := hlen c
        have hl2 := hnew c
        have hs := hsuc c
        have hcb : c * 10 ^ size ≤ 10 * 1000000000 := Nat.mul_le_mul (by omega) hp10
        have hin : (frmN first + c) + 1 = frmN first + (c + 1) := by omega
        generalize sr (first ++ [((frmN first + c : Nat) : Int)]) = nw at *
        generalize hac : acc c = ac at *
        generalize hac2 : acc (c + 1) = ac2 at *
        generalize hi : frmN first + c = i at *
        have hA : ac.length + nw.length ≤ 9223372036854775807 := by omega
        have hB : (ac.length + nw.length) * 24 ≤ 140737488355328 := by omega
        have hC : first.length ≤ 9223372036854775806 := by omega
        have hC2 : first.length ≤ 9223372036854775807 := by omega
        have hD : first.length * 8 ≤ 140737488355328 := by omega
        have hD2 : (first.length + 1) * 8 ≤ 140737488355328 := by omega
        (repeat' (first | ((with_reducible show appP (some (SV.own 84 (_ + 1), _)) _ _); refine appP_frz ?_; (simp -dsimp; (repeat (simp -dsimp (disch := omega) only [wrap_in, if_pos, if_neg]; (try simp -dsimp))))) | ((first | with_reducible refine st_skip ?_ | with_reducible refine st_exit ?_); (try simp only [seqQ, blockQ, loopQ, forQ, whileQ, reduceIte, Nat.reduceEqDiff])) | (with_reducible refine st_ret ?_; ((try simp only [seqQ, blockQ, loopQ, forQ, whileQ]); first | (with_reducible refine retM_ret ?_) | refine retQ_ret ?_; simp [hcm, hA, hB, hC, hC2, hD, hD2])) | refine st_seq ?_ | refine st_block ?_ | ((with_reducible show (STri _ _ _ _ _) ∧ (STri _ _ _ _ _)); refine And.intro ?_ ?_) | ((first | refine st_reg ?_ | refine buildP_own ?_ | refine appP_own ?_ | refine callP_b (hb) rfl ?_) <;> (simp -dsimp [hcm, hA, hB, hC, hC2, hD, hD2]; (repeat (simp -dsimp (disch := (first | omega | assumption | (refine Bool.eq_false_iff.1 ?_; assumption))) only [wrap_in, if_pos, if_neg]; (try simp -dsimp [hcm, hA, hB, hC, hC2, hD, hD2]))))) | ((first | refine guardP_of (fun hc => ?_) (fun hc => ?_) | refine st_cond rfl (fun hc => ?_) (fun hc => ?_)) <;> (try simp only [lqA, lqB, lqC, lqD, lqE, lqF, lqG, lqH, lqI, lqJ, lqK, lqL, lqM, lqN, lqO] at hc) <;> (try (exfalso; first | omega | exact bool_tf hc (by assumption) | exact bool_ft hc (by assumption) | exact absurd (by assumption) hc)) <;> (first | with_reducible show STri _ _ _ _ _ _ | (simp -dsimp [hcm, hA, hB, hC, hC2, hD, hD2, hc]; (repeat (simp -dsimp (disch := (first | omega | assumption | (refine Bool.eq_false_iff.1 ?_; assumption))) only [wrap_in, if_pos, if_neg]; (try simp -dsimp [hcm, hA, hB, hC, hC2, hD, hD2, hc]))))))))
        all_goals exact ⟨hlt, by simp, by simp [hac2, hs]; omega, by simp [hac2, hs]⟩
      · have hcm : ¬ ((frmN first + c : Nat) : Int) < many := by omega
        have hcN : c = N := by omega
        subst hcN
        (repeat' (first | ((first | with_reducible refine st_skip ?_ | with_reducible refine st_exit ?_); (try simp only [seqQ, blockQ, loopQ, forQ, whileQ, reduceIte, Nat.reduceEqDiff])) | (with_reducible refine st_ret ?_; ((try simp only [seqQ, blockQ, loopQ, forQ, whileQ]); first | (with_reducible refine retM_ret ?_) | refine retQ_ret ?_; simp [hcm])) | refine st_seq ?_ | refine st_block ?_ | ((with_reducible show (STri _ _ _ _ _) ∧ (STri _ _ _ _ _)); refine And.intro ?_ ?_) | ((first | refine st_reg ?_ | refine buildP_own ?_ | refine appP_own ?_) <;> (simp -dsimp [hcm]; (repeat (simp -dsimp (disch := (first | omega | assumption | (refine Bool.eq_false_iff.1 ?_; assumption))) only [wrap_in, if_pos, if_neg]; (try simp -dsimp [hcm]))))) | ((first | refine guardP_of (fun hc => ?_) (fun hc => ?_) | refine st_cond rfl (fun hc => ?_) (fun hc => ?_)) <;> (try simp only [lqA, lqB, lqC, lqD, lqE, lqF, lqG, lqH, lqI, lqJ, lqK, lqL, lqM, lqN, lqO] at hc) <;> (try (exfalso; first | omega | exact bool_tf hc (by assumption) | exact bool_ft hc (by assumption) | exact absurd (by assumption) hc)) <;> (first | with_reducible show STri _ _ _ _ _ _ | (simp -dsimp [hcm, hc]; (repeat (simp -dsimp (disch := (first | omega | assumption | (refine Bool.eq_false_iff.1 ?_; assumption))) only [wrap_in, if_pos, if_neg]; (try simp -dsimp [hcm, hc]))))))))
        all_goals exact .refl _
    by_cases hfn : first = []
    · subst hfn
      have hf0 : frmN [] = 0 := rfl
      rw [hf0] at hloop
      (repeat' (first | ((with_reducible show STri _ k60_72 _ _ _); refine st_less [(0, .c (slBB al)), (1, .c (I many)), (2, .c (I ((size : Int) + 1))), (3, .c (slI [])), (14, .own 62 0), (15, .c (I ((0 : Nat) : Int)))] [(62, .arr 55 1 [])] (by simp [Less, LessT, LessH, dropOK, dropK, SV.outD, Blk.outD]) ?_; exact hloop) | ((first | with_reducible refine st_skip ?_ | with_reducible refine st_exit ?_); (try simp only [seqQ, blockQ, loopQ, forQ, whileQ, reduceIte, Nat.reduceEqDiff])) | (with_reducible refine st_ret ?_; ((try simp only [seqQ, blockQ, loopQ, forQ, whileQ]); first | (with_reducible refine retM_ret ?_) | refine retQ_ret ?_; simp [hsz])) | refine st_seq ?_ | refine st_block ?_ | ((with_reducible show (STri _ _ _ _ _) ∧ (STri _ _ _ _ _)); refine And.intro ?_ ?_) | ((first | refine st_reg ?_ | refine buildP_own ?_ | refine appP_own ?_) <;> (simp -dsimp [hsz]; (repeat (simp -dsimp (disch := (first | omega | assumption | (refine Bool.eq_false_iff.1 ?_; assumption))) only [wrap_in, if_pos, if_neg]; (try simp -dsimp [hsz]))))) | ((first | refine guardP_of (fun hc => ?_) (fun hc => ?_) | refine st_cond rfl (fun hc => ?_) (fun hc => ?_)) <;> (try simp only [lqA, lqB, lqC, lqD, lqE, lqF, lqG, lqH, lqI, lqJ, lqK, lqL, lqM, lqN, lqO] at hc) <;> (try (exfalso; first | omega | exact bool_tf hc (by assumption) | exact bool_ft hc (by assumption) | exact absurd (by assumption) hc)) <;> (first | with_reducible show STri _ _ _ _ _ _ | (simp -dsimp [hsz, hc]; (repeat (simp -dsimp (disch := (first | omega | assumption | (refine Bool.eq_false_iff.1 ?_; assumption))) only [wrap_in, if_pos, if_neg]; (try simp -dsimp [hsz, hc]))))))))
    · have hpos : 0 < first.length := List.length_pos_iff.2 hfn
      have hposi : (0 : Int) < first.length := by omega
      have htn : ((first.length : Int) - 1).toNat = first.length - 1 := by omega
      have hle0 : (0 : Int) ≤ (first.length : Int) - 1 := by omega
      have hltl : (first.length : Int) - 1 < first.length := by omega
      have hltn : first.length - 1 < first.length := by omega
      have hg : ∀ h : first.length - 1 < first.length, first[first.length - 1]'h = ((frmN first : Nat) : Int) - 1 := fun h => by
        have hx := hf.h _ (List.getElem_mem h)
        have e : frmN first = (first[first.length - 1]).toNat + 1 := by
          unfold frmN
          rw [List.getLast?_eq_getElem?, List.getElem?_eq_getElem h]
        rw [e]; omega
      have hfm : (frmN first : Int) - 1 + 1 = frmN first := by omega
      (repeat' (first | ((with_reducible show STri _ k60_72 _ _ _); refine st_less [(0, .c (slBB al)), (1, .c (I many)), (2, .c (I ((size : Int) + 1))), (3, .c (slI first)), (14, .own 62 0), (15, .c (I ((frmN first : Nat) : Int)))] [(62, .arr 55 1 [])] (by simp [Less, LessT, LessH, dropOK, dropK, SV.outD, Blk.outD]) ?_; exact hloop) | ((first | with_reducible refine st_skip ?_ | with_reducible refine st_exit ?_); (try simp only [seqQ, blockQ, loopQ, forQ, whileQ, reduceIte, Nat.reduceEqDiff])) | (with_reducible refine st_ret ?_; ((try simp only [seqQ, blockQ, loopQ, forQ, whileQ]); first | (with_reducible refine retM_ret ?_) | refine retQ_ret ?_; simp [hsz, hposi, htn, hle0, hltl, hltn, hg, hfm])) | refine st_seq ?_ | refine st_block ?_ | ((with_reducible show (STri _ _ _ _ _) ∧ (STri _ _ _ _ _)); refine And.intro ?_ ?_) | ((first | refine st_reg ?_ | refine buildP_own ?_ | refine appP_own ?_) <;> (simp -dsimp [hsz, hposi, htn, hle0, hltl, hltn, hg, hfm]; (repeat (simp -dsimp (disch := (first | omega | assumption | (refine Bool.eq_false_iff.1 ?_; assumption))) only [wrap_in, if_pos, if_neg]; (try simp -dsimp [hsz, hposi, htn, hle0, hltl, hltn, hg, hfm]))))) | ((first | refine guardP_of (fun hc => ?_) (fun hc => ?_) | refine st_cond rfl (fun hc => ?_) (fun hc => ?_)) <;> (try simp only [lqA, lqB, lqC, lqD, lqE, lqF, lqG, lqH, lqI, lqJ, lqK, lqL, lqM, lqN, lqO] at hc) <;> (try (exfalso; first | omega | exact bool_tf hc (by assumption) | exact bool_ft hc (by assumption) | exact absurd (by assumption) hc)) <;> (first | with_reducible show STri _ _ _ _ _ _ | (simp -dsimp [hsz, hposi, htn, hle0, hltl, hltn, hg, hfm, hc]; (repeat (simp -dsimp (disch := (first | omega | assumption | (refine Bool.eq_false_iff.1 ?_; assumption))) only [wrap_in, if_pos, if_neg]; (try simp -dsimp [hsz, hposi, htn, hle0, hltl, hltn, hg, hfm, hc]))))))))
end Go.Proofs.Ytakdmliblijgmaa
/- The shadow code of functions, as the kit's translation has them. -/
namespace Go.Proofs.Ytakdmliblijgmaa
open Go.RowKit
def fresh : List FuncId := [1000000 + 36, 1000000 + 14]
end Go.Proofs.Ytakdmliblijgmaa
/- Wire's plain laws, I: an office made of bytes; its sources. -/
namespace Go.Proofs.Ytakdmliblijgmaa
open Go.RowKit
end Go.Proofs.Ytakdmliblijgmaa
/- Wire's plain laws, II: notes that were made truly. -/
namespace Go.Proofs.Ytakdmliblijgmaa
open Go.RowKit
/-! What a note says, and when -/
end Go.Proofs.Ytakdmliblijgmaa
/- Wire's plain laws, III: an office's notes, walked. -/
namespace Go.Proofs.Ytakdmliblijgmaa
open Go.RowKit
end Go.Proofs.Ytakdmliblijgmaa
/- Wire's plain laws, IV: spans in order, with gaps. -/
namespace Go.Proofs.Ytakdmliblijgmaa
open Go.RowKit
end Go.Proofs.Ytakdmliblijgmaa
/- Wire's plain laws, V: true notes are right. -/
namespace Go.Proofs.Ytakdmliblijgmaa
open Go.RowKit
end Go.Proofs.Ytakdmliblijgmaa
/- Wire's plain laws, VI: the truth is there. -/
namespace Go.Proofs.Ytakdmliblijgmaa
open Go.RowKit
/-! When some correction suits all -/
end Go.Proofs.Ytakdmliblijgmaa
/- Wire's plain laws, VII: shifted notes; later counters. -/
namespace Go.Proofs.Ytakdmliblijgmaa
open Go.RowKit
/-! All ticks are greater, and the corrections smaller -/
end Go.Proofs.Ytakdmliblijgmaa
/- Wire's plain laws, VIII: a later counter. -/
namespace Go.Proofs.Ytakdmliblijgmaa
open Go.RowKit
end Go.Proofs.Ytakdmliblijgmaa
/- Wire's laws, VII: WireStretches. -/
namespace Go.Proofs.Ytakdmliblijgmaa
open Go.RowKit
end Go.Proofs.Ytakdmliblijgmaa
/- Wire's plain laws, XI: stretched errors. -/
namespace Go.Proofs.Ytakdmliblijgmaa
open Go.RowKit
end Go.Proofs.Ytakdmliblijgmaa
/- Wire's plain laws, IX: one source lies. -/
namespace Go.Proofs.Ytakdmliblijgmaa
open Go.RowKit
theorem nums_pop : ∀ x : Nat, x < 1024 → (numsL x).length = popN x := by decide +kernel
theorem least_mem {b : Wbk} {s : List Int} : s ∈ leastL b ↔ ∃ x, x ∈ leastS b ∧ numsL x = s := by
  unfold leastL sortL
  rw [(List.mergeSort_perm _ _).mem_iff, List.mem_map]
theorem least_len {b : Wbk} (hb : BkOK b) {s : List Int} (h : s ∈ leastL b) : s.length = fewN b := by
  obtain ⟨x, hx, rfl⟩ := least_mem.1 h
  obtain ⟨h1, h2⟩ := List.mem_filter.1 hx
  rw [nums_pop x (set_lt hb h1)]
  simpa using h2
end Go.Proofs.Ytakdmliblijgmaa
/- Wire's plain laws, XIII: one note more. -/
namespace Go.Proofs.Ytakdmliblijgmaa
open Go.RowKit
/-! Without the notes of some sources -/
theorem nodup_sub : ∀ {l l' : List Int}, l.Nodup → (∀ x ∈ l, x ∈ l') → l.length ≤ l'.length
  | [], l', _, _ => Nat.zero_le _
  | a :: l, l', hn, hs => by
    rw [List.nodup_cons] at hn
    have ha : a ∈ l' := hs a (by simp)
    have h1 : l.length ≤ (l'.erase a).length := nodup_sub hn.2 fun x hx => by
      rw [List.mem_erase_of_ne (fun e => hn.1 (by rw [← e]; exact hx))]
      exact hs x (by simp [hx])
    rw [List.length_erase_of_mem ha] at h1
    have := List.length_pos_of_mem ha
    simp only [List.length_cons]
    omega
theorem pop_sub {x : Nat} {S : List Int} (h : ∀ i, x.testBit i = true → (i : Int) ∈ S) : popN x ≤ S.length := by
  have hn : (((List.range 10).filter fun i => x.testBit i).map fun (i : Nat) => (i : Int)).Nodup := by
    unfold List.Nodup
    rw [List.pairwise_map]
    refine List.Pairwise.imp ?_ (List.Pairwise.filter _ List.nodup_range)
    intro a b hab
    omega
  have := nodup_sub hn (l' := S) fun z hz => by
    obtain ⟨i, hi, rfl⟩ := List.mem_map.1 hz
    exact h i (List.mem_filter.1 hi).2
  rw [List.length_map] at this
  exact this
theorem nums_mem (x : Nat) (i : Nat) : (i : Int) ∈ numsL x → x.testBit i = true := fun h => by
  unfold numsL numsTo at h
  obtain ⟨k, hk, e⟩ := List.mem_map.1 h
  have : k = i := by omega
  subst this
  exact (List.mem_filter.1 hk).2
theorem mem_nums {x i : Nat} (hx : x < 1024) (h : x.testBit i = true) : (i : Int) ∈ numsL x := by
  have hi : i < lenN x := by
    have hx0 : x ≠ 0 := fun e => by rw [e, Nat.zero_testBit] at h; cases h
    unfold lenN
    rw [if_neg hx0]
    have := Nat.ge_two_pow_of_testBit h
    have := (Nat.le_log2 hx0).2 this
    omega
  unfold numsL numsTo
  exact List.mem_map.2 ⟨i, List.mem_filter.2 ⟨List.mem_range.2 hi, h⟩, rfl⟩
end Go.Proofs.Ytakdmliblijgmaa
/- Wire, reference XII: the smallest sets. -/
namespace Go.Proofs.Ytakdmliblijgmaa
open Go.RowKit
theorem rSetsN (al : List (List Bool)) (many : Nat) (hm : many ≤ 10) (hal : al.length ≤ 20000) (hrow : ∀ r ∈ al, r.length = many) (s : Nat) (h10 : s ≤ 10) : SC Try.prog 55 [slBB al, I many, I s, .val (.slice none 0 0)] (slL (setsR al many s [])) := by
  refine sc_cle (rSets al many hm hal hrow s [] h10 ⟨fun x hx => by cases hx⟩ (by simp; omega)) rfl (fun i x y hx hy => ?_)
  rcases i with _ | _ | _ | _ | i
  · simp at hx hy; subst hx; subst hy; exact .refl _
  · simp at hx hy; subst hx; subst hy; exact .refl _
  · simp at hx hy; subst hx; subst hy; exact .refl _
  · simp at hx hy; subst hx; subst hy; exact .nil 1
  · simp at hx
def wrI (al : List (List Bool)) (many F m : Nat) (T : TL) (H : HL) : Prop := ∃ k : Nat, k + m = F ∧ T = [(0, .c (slBB al)), (1, .c (I many)), (5, .c (I k))] ∧ H = []
set_option maxRecDepth 100000 in
theorem rWrong (al : List (List Bool)) (many : Nat) (hm : many ≤ 10) (hal : al.length ≤ 20000) (hrow : ∀ r ∈ al, r.length = many) (F : Nat) (hF : F ≤ 10) (h0 : ∀ s, s < F → setsR al many s [] = []) (h1 : setsR al many F [] ≠ []) :
    SC Try.prog 28 [slBB al, I many] (slL (setsR al many F [])) := by
  refine law_turretref08_Wrong _ _ (by simp) ?_
  (repeat' (first | ((first | with_reducible refine st_skip ?_ | with_reducible refine st_exit ?_); (try simp only [seqQ, blockQ, loopQ, forQ, whileQ, reduceIte, Nat.reduceEqDiff])) | (with_reducible refine st_ret ?_; ((try simp only [seqQ, blockQ, loopQ, forQ, whileQ]); first | (with_reducible refine retM_ret ?_) | refine retQ_ret ?_; simp)) | refine st_seq ?_ | refine st_block ?_ | ((with_reducible show (STri _ _ _ _ _) ∧ (STri _ _ _ _ _)); refine And.intro ?_ ?_) | ((first | refine st_reg ?_ | refine buildP_own ?_ | refine appP_own ?_) <;> (simp -dsimp; (repeat (simp -dsimp (disch := (first | omega | assumption | (refine Bool.eq_false_iff.1 ?_; assumption))) only [wrap_in, if_pos, if_neg]; (try simp -dsimp))))) | ((first | refine guardP_of (fun hc => ?_) (fun hc => ?_) | refine st_cond rfl (fun hc => ?_) (fun hc => ?_)) <;> (try simp only [lqA, lqB, lqC, lqD, lqE, lqF, lqG, lqH, lqI, lqJ, lqK, lqL, lqM, lqN, lqO] at hc) <;> (try (exfalso; first | omega | exact bool_tf hc (by assumption) | exact bool_ft hc (by assumption) | exact absurd (by assumption) hc)) <;> (first | with_reducible show STri _ _ _ _ _ _ | (simp -dsimp [hc]; (repeat (simp -dsimp (disch := (first | omega | assumption | (refine Bool.eq_false_iff.1 ?_; assumption))) only [wrap_in, if_pos, if_neg]; (try simp -dsimp [hc]))))))))
  refine st_while [] (wrI al many F) F (by simp) ⟨0, by omega, by simp, by simp⟩ ?_
  rintro m T H ⟨k, hk, rfl, rfl⟩
  have hs := rSetsN al many hm hal hrow k (by omega)
  by_cases hkF : k < F
  · rw [h0 k hkF] at hs
    (repeat' (first | ((first | with_reducible refine st_skip ?_ | with_reducible refine st_exit ?_); (try simp only [seqQ, blockQ, loopQ, forQ, whileQ, reduceIte, Nat.reduceEqDiff])) | (with_reducible refine st_ret ?_; ((try simp only [seqQ, blockQ, loopQ, forQ, whileQ]); first | (with_reducible refine retM_ret ?_) | refine retQ_ret ?_; simp)) | refine st_seq ?_ | refine st_block ?_ | ((with_reducible show (STri _ _ _ _ _) ∧ (STri _ _ _ _ _)); refine And.intro ?_ ?_) | ((first | refine st_reg ?_ | refine buildP_own ?_ | refine appP_own ?_ | refine callP_b (hs) rfl ?_) <;> (simp -dsimp; (repeat (simp -dsimp (disch := (first | omega | assumption | (refine Bool.eq_false_iff.1 ?_; assumption))) only [wrap_in, if_pos, if_neg]; (try simp -dsimp))))) | ((first | refine guardP_of (fun hc => ?_) (fun hc => ?_) | refine st_cond rfl (fun hc => ?_) (fun hc => ?_)) <;> (try simp only [lqA, lqB, lqC, lqD, lqE, lqF, lqG, lqH, lqI, lqJ, lqK, lqL, lqM, lqN, lqO] at hc) <;> (try (exfalso; first | omega | exact bool_tf hc (by assumption) | exact bool_ft hc (by assumption) | exact absurd (by assumption) hc)) <;> (first | with_reducible show STri _ _ _ _ _ _ | (simp -dsimp [hc]; (repeat (simp -dsimp (disch := (first | omega | assumption | (refine Bool.eq_false_iff.1 ?_; assumption))) only [wrap_in, if_pos, if_neg]; (try simp -dsimp [hc]))))))))
    all_goals exact ⟨m - 1, by omega, by simp, k + 1, by omega, by simp, by simp⟩
  · have e : k = F := by omega
    subst e
    have hpos : (0 : Int) < (setsR al many k []).length := by
      have := List.length_pos_iff.2 h1
      omega
    generalize setsR al many k [] = r at *
    (repeat' (first | ((first | with_reducible refine st_skip ?_ | with_reducible refine st_exit ?_); (try simp only [seqQ, blockQ, loopQ, forQ, whileQ, reduceIte, Nat.reduceEqDiff])) | (with_reducible refine st_ret ?_; ((try simp only [seqQ, blockQ, loopQ, forQ, whileQ]); first | (with_reducible refine retM_ret ?_) | refine retQ_ret ?_; simp [hpos])) | refine st_seq ?_ | refine st_block ?_ | ((with_reducible show (STri _ _ _ _ _) ∧ (STri _ _ _ _ _)); refine And.intro ?_ ?_) | ((first | refine st_reg ?_ | refine buildP_own ?_ | refine appP_own ?_ | refine callP_b (hs) rfl ?_) <;> (simp -dsimp [hpos]; (repeat (simp -dsimp (disch := (first | omega | assumption | (refine Bool.eq_false_iff.1 ?_; assumption))) only [wrap_in, if_pos, if_neg]; (try simp -dsimp [hpos]))))) | ((first | refine guardP_of (fun hc => ?_) (fun hc => ?_) | refine st_cond rfl (fun hc => ?_) (fun hc => ?_)) <;> (try simp only [lqA, lqB, lqC, lqD, lqE, lqF, lqG, lqH, lqI, lqJ, lqK, lqL, lqM, lqN, lqO] at hc) <;> (try (exfalso; first | omega | exact bool_tf hc (by assumption) | exact bool_ft hc (by assumption) | exact absurd (by assumption) hc)) <;> (first | with_reducible show STri _ _ _ _ _ _ | (simp -dsimp [hpos, hc]; (repeat (simp -dsimp (disch := (first | omega | assumption | (refine Bool.eq_false_iff.1 ?_; assumption))) only [wrap_in, if_pos, if_neg]; (try simp -dsimp [hpos, hc]))))))))
    all_goals exact .refl _
end Go.Proofs.Ytakdmliblijgmaa
/- Wire, reference XIII: the smallest sets are those of the program. -/
namespace Go.Proofs.Ytakdmliblijgmaa
open Go.RowKit
def IncF (f m : Nat) : List Int → Prop
  | [] => True
  | a :: t => ∃ i : Nat, a = i ∧ f ≤ i ∧ i < m ∧ IncF (i + 1) m t
theorem frm_snoc (first : List Int) (i : Nat) : frmN (first ++ [(i : Int)]) = i + 1 := by
  unfold frmN
  simp
theorem setsR_mem (al : List (List Bool)) (m : Nat) : ∀ (s : Nat) (first l : List Int), l ∈ setsR al m s first ↔ ∃ t, l = first ++ t ∧ t.length = s ∧ IncF (frmN first) m t ∧ al.any (okRow m l) = true
  | 0, first, l => by
    unfold setsR
    constructor
    · intro h
      split at h
      · rename_i hq
        rw [List.mem_singleton.1 h]
        exact ⟨[], by simp, rfl, trivial, hq⟩
      · cases h
    · rintro ⟨t, rfl, ht, _, hq⟩
      rw [List.length_eq_zero_iff.1 ht, List.append_nil] at hq ⊢
      rw [if_pos hq]; simp
  | s + 1, first, l => by
    unfold setsR
    rw [List.mem_flatMap]
    constructor
    · rintro ⟨i, hi, hl⟩
      obtain ⟨t, rfl, ht, hinc, hq⟩ := (setsR_mem al m s _ _).1 hl
      rw [frm_snoc] at hinc
      rw [List.mem_range'_1] at hi
      exact ⟨(i : Int) :: t, by simp, by simp [ht], ⟨i, rfl, hi.1, by omega, hinc⟩, hq⟩
    · rintro ⟨t, rfl, ht, hinc, hq⟩
      cases t with
      | nil => simp at ht
      | cons a t =>
        obtain ⟨i, rfl, h1, h2, h3⟩ := hinc
        refine ⟨i, List.mem_range'_1.2 ⟨h1, by omega⟩, (setsR_mem al m s _ _).2 ⟨t, by simp, by simpa using ht, ?_, hq⟩⟩
        rw [frm_snoc]; exact h3
theorem cmpZ_self (x : Int) : cmpZ x x = 0 := by unfold cmpZ; rw [if_neg (by omega), if_neg (by omega)]
theorem cmpL_app : ∀ (p a b : List Int), cmpL (p ++ a) (p ++ b) = cmpL a b
  | [], a, b => rfl
  | x :: p, a, b => by
    have e : cmpL (x :: (p ++ a)) (x :: (p ++ b)) = if cmpZ x x = 0 then cmpL (p ++ a) (p ++ b) else cmpZ x x := by
      conv => lhs; unfold cmpL
    rw [List.cons_append, List.cons_append, e, if_pos (cmpZ_self x), cmpL_app p]
theorem setsR_pair (al : List (List Bool)) (m : Nat) : ∀ (s : Nat) (first : List Int), (setsR al m s first).Pairwise fun x y => cmpL x y < 0
  | 0, first => by
    unfold setsR
    split
    · exact List.pairwise_singleton _ _
    · exact List.Pairwise.nil
  | s + 1, first => by
    unfold setsR
    rw [List.pairwise_flatMap]
    refine ⟨fun i _ => setsR_pair al m s _, ?_⟩
    refine List.Pairwise.imp ?_ (List.pairwise_lt_range' (s := frmN first) (n := m - frmN first))
    intro i j hij x hx y hy
    obtain ⟨t, rfl, _⟩ := (setsR_mem al m s _ _).1 hx
    obtain ⟨u, rfl, _⟩ := (setsR_mem al m s _ _).1 hy
    rw [List.append_assoc, List.append_assoc, cmpL_app]
    show cmpL ((i : Int) :: t) ((j : Int) :: u) < 0
    have hz : cmpZ (i : Int) (j : Int) = -1 := by unfold cmpZ; rw [if_pos (by omega)]
    unfold cmpL
    rw [hz]
    simp
theorem incF_lo {f m : Nat} : ∀ {l : List Int}, IncF f m l → ∀ a ∈ l, ∃ i : Nat, a = i ∧ f ≤ i ∧ i < m
  | [], _, a, ha => by cases ha
  | b :: t, h, a, ha => by
    obtain ⟨i, rfl, h1, h2, h3⟩ := h
    rcases List.mem_cons.1 ha with rfl | ha
    · exact ⟨i, rfl, h1, h2⟩
    · obtain ⟨k, e, k1, k2⟩ := incF_lo h3 a ha
      exact ⟨k, e, by omega, k2⟩
theorem incF_nodup {f m : Nat} : ∀ {l : List Int}, IncF f m l → l.Nodup
  | [], _ => List.nodup_nil
  | b :: t, h => by
    obtain ⟨i, rfl, h1, h2, h3⟩ := h
    rw [List.nodup_cons]
    refine ⟨fun hb => ?_, incF_nodup h3⟩
    obtain ⟨k, e, k1, _⟩ := incF_lo h3 _ hb
    omega
theorem incF_eq {m : Nat} : ∀ {f f' : Nat} {l l' : List Int}, IncF f m l → IncF f' m l' → (∀ a, a ∈ l ↔ a ∈ l') → l = l'
  | _, _, [], [], _, _, _ => rfl
  | _, _, [], b :: t, _, _, h => by have := (h b).2 (by simp); cases this
  | _, _, b :: t, [], _, _, h => by have := (h b).1 (by simp); cases this
  | f, f', b :: t, c :: u, h1, h2, h => by
    have n1 := incF_nodup h1
    have n2 := incF_nodup h2
    obtain ⟨i, rfl, i1, i2, i3⟩ := h1
    obtain ⟨k, rfl, k1, k2, k3⟩ := h2
    have hik : i = k := by
      have a1 := (h (i : Int)).1 (by simp)
      have a2 := (h (k : Int)).2 (by simp)
      rcases List.mem_cons.1 a1 with e | a1
      · omega
      · rcases List.mem_cons.1 a2 with e | a2
        · omega
        · obtain ⟨p, e1, p1, _⟩ := incF_lo k3 _ a1
          obtain ⟨q, e2, q1, _⟩ := incF_lo i3 _ a2
          omega
    subst hik
    rw [List.nodup_cons] at n1 n2
    rw [incF_eq i3 k3 fun a => ?_]
    constructor
    · intro ha
      rcases List.mem_cons.1 ((h a).1 (by simp [ha])) with e | h'
      · rw [e] at ha; exact absurd ha n1.1
      · exact h'
    · intro ha
      rcases List.mem_cons.1 ((h a).2 (by simp [ha])) with e | h'
      · rw [e] at ha; exact absurd ha n2.1
      · exact h'
theorem nums_inc (x m : Nat) (hx : x < 2 ^ m) : IncF 0 m (numsL x) := by
  have gen : ∀ (n s : Nat), s + n ≤ m → IncF s m (((List.range' s n).filter fun i => x.testBit i).map fun (i : Nat) => (i : Int)) := by
    intro n
    induction n with
    | zero => intro s _; exact trivial
    | succ n ih =>
      intro s hs
      rw [List.range'_succ]
      by_cases hb : x.testBit s = true
      · rw [List.filter_cons_of_pos hb, List.map_cons]
        exact ⟨s, rfl, Nat.le_refl _, by omega, ih (s + 1) (by omega)⟩
      · rw [List.filter_cons_of_neg hb]
        have h := ih (s + 1) (by omega)
        have weak : ∀ {l : List Int}, IncF (s + 1) m l → IncF s m l := fun {l} hl => by
          cases l with
          | nil => trivial
          | cons a t =>
            obtain ⟨i, e, h1, h2, h3⟩ := hl
            exact ⟨i, e, by omega, h2, h3⟩
        exact weak h
  have hl : lenN x ≤ m := by
    unfold lenN
    split
    · omega
    · rename_i hx0
      have := (Nat.log2_lt hx0).2 hx
      omega
  have := gen (lenN x) 0 (by omega)
  rw [← List.range_eq_range'] at this
  exact this
theorem any_ok {b : Wbk} (hb : BkOK b) (l : List Int) : (allB b).any (okRow b.srcs.length l) = true ↔ ∃ y, b.nlo ≤ y ∧ y ≤ b.nhi ∧ ∀ i, (wrongN b y).testBit i = true → (i : Int) ∈ l := by
  have key : ∀ y, okRow b.srcs.length l (badL b y) = true ↔ ∀ i, (wrongN b y).testBit i = true → (i : Int) ∈ l := fun y => by
    unfold okRow
    rw [List.all_eq_true]
    have hlt := wrongTo_lt hb y b.notes.length (Nat.le_refl _)
    change wrongN b y < _ at hlt
    constructor
    · intro h i hi
      have him : i < b.srcs.length := by
        rcases Nat.lt_or_ge i b.srcs.length with h' | h'
        · exact h'
        · rw [Nat.testBit_lt_two_pow (Nat.lt_of_lt_of_le hlt (Nat.pow_le_pow_right (by omega) h'))] at hi
          cases hi
      have := h i (List.mem_range.2 him)
      unfold okAt at this
      have hi2 : i < (badL b y).length := by rw [badL_len]; exact him
      have hg : (badL b y).getD i false = true := by
        rw [List.getD_eq_getElem?_getD, List.getElem?_eq_getElem hi2]
        show (badL b y)[i] = true
        rw [badL_at hi2, hi]
      rw [hg] at this
      simp only [Bool.not_true, Bool.or_false, List.any_eq_true, decide_eq_true_eq] at this
      obtain ⟨z, hz, rfl⟩ := this
      exact hz
    · intro h i hi
      have him := List.mem_range.1 hi
      have hi2 : i < (badL b y).length := by rw [badL_len]; exact him
      unfold okAt
      rw [Bool.or_eq_true]
      cases hbit : (wrongN b y).testBit i with
      | false =>
        right
        rw [List.getD_eq_getElem?_getD, List.getElem?_eq_getElem hi2]
        show (!(badL b y)[i]) = true
        rw [badL_at hi2, hbit]; rfl
      | true =>
        left
        rw [List.any_eq_true]
        exact ⟨_, h i hbit, by simp⟩
  rw [List.any_eq_true]
  have n1 := hb.n1
  constructor
  · rintro ⟨row, hr, h⟩
    unfold allB at hr
    obtain ⟨k, hk, rfl⟩ := List.mem_map.1 hr
    have hk := List.mem_range.1 hk
    unfold bookN at hk
    exact ⟨b.nlo + k, by omega, by omega, (key _).1 h⟩
  · rintro ⟨y, h1, h2, h⟩
    refine ⟨badL b y, ?_, (key y).2 h⟩
    unfold allB bookN
    rw [List.mem_map]
    refine ⟨(y - b.nlo).toNat, List.mem_range.2 (by omega), ?_⟩
    have e : b.nlo + ((y - b.nlo).toNat : Int) = y := by omega
    rw [e]
theorem few_at {b : Wbk} {y : Int} (h1 : b.nlo ≤ y) (h2 : y ≤ b.nhi) : fewN b ≤ popN (wrongN b y) :=
  (minU_le (setsL b) b.srcs.length).2 _ (mem_setsL.2 ⟨(y, _), mem_allL.2 ⟨h1, h2, rfl⟩, rfl⟩)
theorem sets_small {b : Wbk} (hb : BkOK b) {s : Nat} (hs : s < fewN b) : setsR (allB b) b.srcs.length s [] = [] := by
  cases h : setsR (allB b) b.srcs.length s [] with
  | nil => rfl
  | cons l r =>
    exfalso
    have hl : l ∈ setsR (allB b) b.srcs.length s [] := by rw [h]; simp
    obtain ⟨t, e, ht, _, hq⟩ := (setsR_mem _ _ _ _ _).1 hl
    rw [List.nil_append] at e
    subst e
    obtain ⟨y, h1, h2, h3⟩ := (any_ok hb _).1 hq
    have := pop_sub h3
    have := few_at h1 h2
    omega
theorem perm_of {l l' : List (List Int)} (h : l.Nodup) (h' : l'.Nodup) (hm : ∀ a, a ∈ l ↔ a ∈ l') : l.Perm l' := by
  induction l generalizing l' with
  | nil =>
    cases l' with
    | nil => exact .refl _
    | cons b t => have := (hm b).2 (by simp); cases this
  | cons a l ih =>
    rw [List.nodup_cons] at h
    have ha : a ∈ l' := (hm a).1 (by simp)
    have hp := List.perm_cons_erase ha
    refine List.Perm.trans (List.Perm.cons a (ih h.2 (h'.erase a) fun c => ?_)) hp.symm
    rw [h'.mem_erase_iff]
    constructor
    · intro hc
      exact ⟨fun e => h.1 (e ▸ hc), (hm c).1 (by simp [hc])⟩
    · rintro ⟨h1, h2⟩
      rcases List.mem_cons.1 ((hm c).2 h2) with e | h3
      · exact absurd e h1
      · exact h3
theorem sets_few {b : Wbk} (hb : BkOK b) : setsR (allB b) b.srcs.length (fewN b) [] = leastL b := by
  have hlt : ∀ x ∈ setsL b, x < 2 ^ b.srcs.length := fun x hx => by
    obtain ⟨z, hz, rfl⟩ := mem_setsL.1 hx
    obtain ⟨_, _, h3⟩ := mem_allL.1 hz
    rw [h3]
    exact wrongTo_lt hb z.1 b.notes.length (Nat.le_refl _)
  unfold leastL
  refine sortL_of ?_ ?_
  · refine perm_of ?_ ?_ fun l => ?_
    · refine List.Pairwise.imp ?_ (setsR_pair (allB b) b.srcs.length (fewN b) [])
      intro x y hxy e
      subst e
      rw [cmpL_refl] at hxy
      omega
    · unfold List.Nodup
      rw [List.pairwise_map]
      refine List.Pairwise.imp_of_mem ?_ (List.Pairwise.filter _ (setsL_nodup b))
      intro x y hx hy hxy e
      refine hxy (Nat.eq_of_testBit_eq fun i => ?_)
      have hx3 := set_lt hb (List.mem_filter.1 hx).1
      have hy3 := set_lt hb (List.mem_filter.1 hy).1
      rw [Bool.eq_iff_iff]
      constructor
      · intro h; exact nums_mem y i (by rw [← e]; exact mem_nums hx3 h)
      · intro h; exact nums_mem x i (by rw [e]; exact mem_nums hy3 h)
    · rw [setsR_mem]
      constructor
      · rintro ⟨t, e, ht, hinc, hq⟩
        rw [List.nil_append] at e
        subst e
        obtain ⟨y, h1, h2, h3⟩ := (any_ok hb _).1 hq
        have hp1 := pop_sub h3
        have hp2 := few_at h1 h2
        have hm : wrongN b y ∈ setsL b := mem_setsL.2 ⟨(y, _), mem_allL.2 ⟨h1, h2, rfl⟩, rfl⟩
        refine List.mem_map.2 ⟨wrongN b y, List.mem_filter.2 ⟨hm, by simp; omega⟩, ?_⟩
        have hx3 := set_lt hb hm
        have hnl := nums_pop _ hx3
        refine incF_eq (nums_inc _ _ (hlt _ hm)) hinc fun a => ⟨fun ha => ?_, fun ha => ?_⟩
        · obtain ⟨i, rfl, _⟩ := incF_lo (nums_inc _ _ (hlt _ hm)) a ha
          exact h3 i (nums_mem _ i ha)
        · by_cases hc : a ∈ numsL (wrongN b y)
          · exact hc
          · exfalso
            have h4 := nodup_sub (incF_nodup (nums_inc _ _ (hlt _ hm))) (l' := l.erase a) fun z hz => by
              rw [List.mem_erase_of_ne (fun e => hc (by rw [← e]; exact hz))]
              obtain ⟨i, rfl, _⟩ := incF_lo (nums_inc _ _ (hlt _ hm)) z hz
              exact h3 i (nums_mem _ i hz)
            rw [List.length_erase_of_mem ha] at h4
            have := List.length_pos_of_mem ha
            omega
      · intro hl
        obtain ⟨x, hx, rfl⟩ := List.mem_map.1 hl
        obtain ⟨hx1, hx2⟩ := List.mem_filter.1 hx
        have hx2 : popN x = fewN b := by simpa using hx2
        have hx3 := set_lt hb hx1
        refine ⟨numsL x, by simp, by rw [nums_pop _ hx3]; exact hx2, nums_inc _ _ (hlt _ hx1), ?_⟩
        rw [any_ok hb]
        obtain ⟨z, hz, rfl⟩ := mem_setsL.1 hx1
        obtain ⟨z1, z2, z3⟩ := mem_allL.1 hz
        exact ⟨z.1, z1, z2, fun i hi => mem_nums hx3 (by rw [z3]; exact hi)⟩
  · refine List.Pairwise.imp ?_ (setsR_pair (allB b) b.srcs.length (fewN b) [])
    intro x y hxy
    unfold ltL
    rw [cmpL_anti x y]
    simp; omega
theorem rWrongB (b : Wbk) (hb : BkOK b) : SC Try.prog 28 [slBB (allB b), I b.srcs.length] (slL (leastL b)) := by
  have hlen := allB_len b
  have n0 := hb.n0
  have n2 := hb.n2
  have hfl : fewN b ≤ b.srcs.length := few_le
  have hbl := hb.len
  have h := rWrong (allB b) b.srcs.length hbl (by rw [hlen]; unfold bookN; omega) (fun r hr => by
    unfold allB at hr
    obtain ⟨k, _, rfl⟩ := List.mem_map.1 hr
    exact badL_len b _) (fewN b) (by omega) (fun s hs => sets_small hb hs) (by
      rw [sets_few hb]
      obtain ⟨s, r, e⟩ := leastL_ne hb
      rw [e]; simp)
  rw [sets_few hb] at h
  exact h
end Go.Proofs.Ytakdmliblijgmaa
/- Wire's plain laws, XIV: one note more, walked. -/
namespace Go.Proofs.Ytakdmliblijgmaa
open Go.RowKit
end Go.Proofs.Ytakdmliblijgmaa
/- Wire's plain laws, XV: WireMore. -/
namespace Go.Proofs.Ytakdmliblijgmaa
open Go.RowKit
theorem least_bd {b : Wbk} : (leastL b).length ≤ bookN b := by
  have h1 := (List.mergeSort_perm ((leastS b).map numsL) fun x y => !ltL y x).length_eq
  have h2 : (leastS b).length ≤ (setsL b).length := List.length_filter_le _ _
  have h3 := setsTo_len b (allL b).length (Nat.le_refl _)
  have h4 : setsTo b (allL b).length = setsL b := by unfold setsTo setsL; rw [List.take_length]
  rw [h4, allL_len] at h3
  unfold leastL sortL
  rw [h1, List.length_map]
  omega
end Go.Proofs.Ytakdmliblijgmaa
/- Wire's laws, VIII: WireWrongs. -/
namespace Go.Proofs.Ytakdmliblijgmaa
open Go.RowKit
set_option maxRecDepth 100000 in
set_option maxHeartbeats 1000000 in
theorem lWrongs (w : List Wsrc) (l : List Wnt) (nlo nhi : Int) : SC Try.prog 4 [slSr w, slN l, .agg [I nlo, I nhi]] (B true) := by
  refine law_turretlaw08_WireWrongs _ _ (by simp) ?_
  have ll := lLarge w l nlo nhi new_span
  have kn := sKnown
  by_cases hlg : largeB w l nlo nhi = true
  case pos =>
    rw [hlg] at ll
    (repeat' (first | ((first | with_reducible refine st_skip ?_ | with_reducible refine st_exit ?_); (try simp only [seqQ, blockQ, loopQ, forQ, whileQ, reduceIte, Nat.reduceEqDiff])) | (with_reducible refine st_ret ?_; ((try simp only [seqQ, blockQ, loopQ, forQ, whileQ]); first | (with_reducible refine retM_ret ?_) | refine retQ_ret ?_; simp)) | refine st_seq ?_ | refine st_block ?_ | ((with_reducible show (STri _ _ _ _ _) ∧ (STri _ _ _ _ _)); refine And.intro ?_ ?_) | ((first | refine st_reg ?_ | refine buildP_own ?_ | refine appP_own ?_ | refine callP_b (ll) rfl ?_ | refine callP_b (kn) rfl ?_) <;> (simp -dsimp; (repeat (simp -dsimp (disch := (first | omega | assumption | (refine Bool.eq_false_iff.1 ?_; assumption))) only [wrap_in, if_pos, if_neg]; (try simp -dsimp))))) | ((first | refine guardP_of (fun hc => ?_) (fun hc => ?_) | refine st_cond rfl (fun hc => ?_) (fun hc => ?_)) <;> (try simp only [lqA, lqB, lqC, lqD, lqE, lqF, lqG, lqH, lqI, lqJ, lqK, lqL, lqM, lqN, lqO] at hc) <;> (try (exfalso; first | omega | exact bool_tf hc (by assumption) | exact bool_ft hc (by assumption) | exact absurd (by assumption) hc)) <;> (first | with_reducible show STri _ _ _ _ _ _ | (simp -dsimp [hc]; (repeat (simp -dsimp (disch := (first | omega | assumption | (refine Bool.eq_false_iff.1 ?_; assumption))) only [wrap_in, if_pos, if_neg]; (try simp -dsimp [hc]))))))))
    all_goals exact .refl _
  rw [Bool.not_eq_true] at hlg
  obtain ⟨hw, hwl, hll⟩ := large_no hlg
  rw [hlg] at ll
  have c0 := lSaid l (by omega)
  have c1 := lSources w hw (by omega)
  have c2 := sWrongs w hw l (by omega) nlo nhi
  have c3 := sConvict w hw l (by omega) nlo nhi
  have c4 := lUnchanged w hw (by omega) l (by omega)
  have c6 := rNotes w hw (by omega) l (by omega) nlo nhi
  by_cases her : newErr w l nlo nhi = 0
  case neg =>
    rw [if_neg her] at c2
    rw [if_neg her, if_neg her] at c3
    generalize newErr w l nlo nhi = er at *
    (repeat' (first | ((first | with_reducible refine st_skip ?_ | with_reducible refine st_exit ?_); (try simp only [seqQ, blockQ, loopQ, forQ, whileQ, reduceIte, Nat.reduceEqDiff])) | (with_reducible refine st_ret ?_; ((try simp only [seqQ, blockQ, loopQ, forQ, whileQ]); first | (with_reducible refine retM_ret ?_) | refine retQ_ret ?_; simp [her])) | refine st_seq ?_ | refine st_block ?_ | ((with_reducible show (STri _ _ _ _ _) ∧ (STri _ _ _ _ _)); refine And.intro ?_ ?_) | ((first | refine st_reg ?_ | refine buildP_own ?_ | refine appP_own ?_ | refine callP_b (ll) rfl ?_ | refine callP_b (kn) rfl ?_ | refine callP_b (c0) rfl ?_ | refine callP_b (c1) rfl ?_ | refine callP_b (c2) rfl ?_ | refine callP_b (c3) rfl ?_ | refine callP_b (c4) rfl ?_ | refine callP_b (c6) rfl ?_) <;> (simp -dsimp [her]; (repeat (simp -dsimp (disch := (first | omega | assumption | (refine Bool.eq_false_iff.1 ?_; assumption))) only [wrap_in, if_pos, if_neg]; (try simp -dsimp [her]))))) | ((first | refine guardP_of (fun hc => ?_) (fun hc => ?_) | refine st_cond rfl (fun hc => ?_) (fun hc => ?_)) <;> (try simp only [lqA, lqB, lqC, lqD, lqE, lqF, lqG, lqH, lqI, lqJ, lqK, lqL, lqM, lqN, lqO] at hc) <;> (try (exfalso; first | omega | exact bool_tf hc (by assumption) | exact bool_ft hc (by assumption) | exact absurd (by assumption) hc)) <;> (first | with_reducible show STri _ _ _ _ _ _ | (simp -dsimp [her, hc]; (repeat (simp -dsimp (disch := (first | omega | assumption | (refine Bool.eq_false_iff.1 ?_; assumption))) only [wrap_in, if_pos, if_neg]; (try simp -dsimp [her, hc]))))))))
    all_goals exact .refl _
  have hb := new_bk her
  have hr := new_ref her
  obtain ⟨e1, e2, e3, e4, e5⟩ := new_nz her
  have c7 := rAll _ hr
  have c8 := rWrongB _ hb
  rw [e1, e3, e4, e5] at c7
  rw [e1] at c8
  rw [her, if_pos rfl] at c2
  rw [if_pos her, if_pos her] at c3
  rw [her] at c6
  have hLb : (leastL (newBk w l nlo nhi)).length ≤ 20000 := by
    have := least_bd (b := newBk w l nlo nhi)
    have n0 := hb.n0
    have n2 := hb.n2
    unfold bookN at this
    omega
  have hSb : ∀ S ∈ leastL (newBk w l nlo nhi), S.length ≤ 1000000 := fun S hS => by
    rw [least_len hb hS]
    have := few_le (b := newBk w l nlo nhi)
    have := hb.len
    omega
  have c9 := rLists (leastL (newBk w l nlo nhi)) (by omega) hSb
  obtain ⟨s, r, hL⟩ := leastL_ne hb
  generalize allB (newBk w l nlo nhi) = al at *
  rw [hL] at c2 c3 c8 c9
  clear hLb hSb e1 e2 e3 e4 e5 hb hr
  rcases s with _ | ⟨x, _ | ⟨y, s⟩⟩
  · unfold convE at c3
    (repeat' (first | ((first | with_reducible refine st_skip ?_ | with_reducible refine st_exit ?_); (try simp only [seqQ, blockQ, loopQ, forQ, whileQ, reduceIte, Nat.reduceEqDiff])) | (with_reducible refine st_ret ?_; ((try simp only [seqQ, blockQ, loopQ, forQ, whileQ]); first | (with_reducible refine retM_ret ?_) | refine retQ_ret ?_; simp)) | refine st_seq ?_ | refine st_block ?_ | ((with_reducible show (STri _ _ _ _ _) ∧ (STri _ _ _ _ _)); refine And.intro ?_ ?_) | ((first | refine st_reg ?_ | refine buildP_own ?_ | refine appP_own ?_ | refine callP_b (ll) rfl ?_ | refine callP_b (kn) rfl ?_ | refine callP_b (c0) rfl ?_ | refine callP_b (c1) rfl ?_ | refine callP_b (c2) rfl ?_ | refine callP_b (c3) rfl ?_ | refine callP_b (c4) rfl ?_ | refine callP_b (c6) rfl ?_ | refine callP_b (c7) rfl ?_ | refine callP_b (c8) rfl ?_ | refine callP_b (c9) rfl ?_) <;> (simp -dsimp; (repeat (simp -dsimp (disch := (first | omega | assumption | (refine Bool.eq_false_iff.1 ?_; assumption))) only [wrap_in, if_pos, if_neg]; (try simp -dsimp))))) | ((first | refine guardP_of (fun hc => ?_) (fun hc => ?_) | refine st_cond rfl (fun hc => ?_) (fun hc => ?_)) <;> (try simp only [lqA, lqB, lqC, lqD, lqE, lqF, lqG, lqH, lqI, lqJ, lqK, lqL, lqM, lqN, lqO] at hc) <;> (try (exfalso; first | omega | exact bool_tf hc (by assumption) | exact bool_ft hc (by assumption) | exact absurd (by assumption) hc)) <;> (first | with_reducible show STri _ _ _ _ _ _ | (simp -dsimp [hc]; (repeat (simp -dsimp (disch := (first | omega | assumption | (refine Bool.eq_false_iff.1 ?_; assumption))) only [wrap_in, if_pos, if_neg]; (try simp -dsimp [hc]))))))))
    all_goals exact .refl _
  · rcases r with _ | ⟨t, r⟩
    · unfold convE at c3
      (repeat' (first | ((first | with_reducible refine st_skip ?_ | with_reducible refine st_exit ?_); (try simp only [seqQ, blockQ, loopQ, forQ, whileQ, reduceIte, Nat.reduceEqDiff])) | (with_reducible refine st_ret ?_; ((try simp only [seqQ, blockQ, loopQ, forQ, whileQ]); first | (with_reducible refine retM_ret ?_) | refine retQ_ret ?_; simp)) | refine st_seq ?_ | refine st_block ?_ | ((with_reducible show (STri _ _ _ _ _) ∧ (STri _ _ _ _ _)); refine And.intro ?_ ?_) | ((first | refine st_reg ?_ | refine buildP_own ?_ | refine appP_own ?_ | refine callP_b (ll) rfl ?_ | refine callP_b (kn) rfl ?_ | refine callP_b (c0) rfl ?_ | refine callP_b (c1) rfl ?_ | refine callP_b (c2) rfl ?_ | refine callP_b (c3) rfl ?_ | refine callP_b (c4) rfl ?_ | refine callP_b (c6) rfl ?_ | refine callP_b (c7) rfl ?_ | refine callP_b (c8) rfl ?_ | refine callP_b (c9) rfl ?_) <;> (simp -dsimp; (repeat (simp -dsimp (disch := (first | omega | assumption | (refine Bool.eq_false_iff.1 ?_; assumption))) only [wrap_in, if_pos, if_neg]; (try simp -dsimp))))) | ((first | refine guardP_of (fun hc => ?_) (fun hc => ?_) | refine st_cond rfl (fun hc => ?_) (fun hc => ?_)) <;> (try simp only [lqA, lqB, lqC, lqD, lqE, lqF, lqG, lqH, lqI, lqJ, lqK, lqL, lqM, lqN, lqO] at hc) <;> (try (exfalso; first | omega | exact bool_tf hc (by assumption) | exact bool_ft hc (by assumption) | exact absurd (by assumption) hc)) <;> (first | with_reducible show STri _ _ _ _ _ _ | (simp -dsimp [hc]; (repeat (simp -dsimp (disch := (first | omega | assumption | (refine Bool.eq_false_iff.1 ?_; assumption))) only [wrap_in, if_pos, if_neg]; (try simp -dsimp [hc]))))))))
      all_goals exact .refl _
    · unfold convE at c3
      have h1 : (1 : Int) < (r.length : Int) + 1 + 1 := by omega
      (repeat' (first | ((first | with_reducible refine st_skip ?_ | with_reducible refine st_exit ?_); (try simp only [seqQ, blockQ, loopQ, forQ, whileQ, reduceIte, Nat.reduceEqDiff])) | (with_reducible refine st_ret ?_; ((try simp only [seqQ, blockQ, loopQ, forQ, whileQ]); first | (with_reducible refine retM_ret ?_) | refine retQ_ret ?_; simp [h1])) | refine st_seq ?_ | refine st_block ?_ | ((with_reducible show (STri _ _ _ _ _) ∧ (STri _ _ _ _ _)); refine And.intro ?_ ?_) | ((first | refine st_reg ?_ | refine buildP_own ?_ | refine appP_own ?_ | refine callP_b (ll) rfl ?_ | refine callP_b (kn) rfl ?_ | refine callP_b (c0) rfl ?_ | refine callP_b (c1) rfl ?_ | refine callP_b (c2) rfl ?_ | refine callP_b (c3) rfl ?_ | refine callP_b (c4) rfl ?_ | refine callP_b (c6) rfl ?_ | refine callP_b (c7) rfl ?_ | refine callP_b (c8) rfl ?_ | refine callP_b (c9) rfl ?_) <;> (simp -dsimp [h1]; (repeat (simp -dsimp (disch := (first | omega | assumption | (refine Bool.eq_false_iff.1 ?_; assumption))) only [wrap_in, if_pos, if_neg]; (try simp -dsimp [h1]))))) | ((first | refine guardP_of (fun hc => ?_) (fun hc => ?_) | refine st_cond rfl (fun hc => ?_) (fun hc => ?_)) <;> (try simp only [lqA, lqB, lqC, lqD, lqE, lqF, lqG, lqH, lqI, lqJ, lqK, lqL, lqM, lqN, lqO] at hc) <;> (try (exfalso; first | omega | exact bool_tf hc (by assumption) | exact bool_ft hc (by assumption) | exact absurd (by assumption) hc)) <;> (first | with_reducible show STri _ _ _ _ _ _ | (simp -dsimp [h1, hc]; (repeat (simp -dsimp (disch := (first | omega | assumption | (refine Bool.eq_false_iff.1 ?_; assumption))) only [wrap_in, if_pos, if_neg]; (try simp -dsimp [h1, hc]))))))))
      all_goals exact .refl _
  · unfold convE at c3
    have h1 : (1 : Int) < (s.length : Int) + 1 + 1 := by omega
    have h2 : ¬ (s.length : Int) + 1 + 1 = 0 := by omega
    (repeat' (first | ((first | with_reducible refine st_skip ?_ | with_reducible refine st_exit ?_); (try simp only [seqQ, blockQ, loopQ, forQ, whileQ, reduceIte, Nat.reduceEqDiff])) | (with_reducible refine st_ret ?_; ((try simp only [seqQ, blockQ, loopQ, forQ, whileQ]); first | (with_reducible refine retM_ret ?_) | refine retQ_ret ?_; simp [h1, h2])) | refine st_seq ?_ | refine st_block ?_ | ((with_reducible show (STri _ _ _ _ _) ∧ (STri _ _ _ _ _)); refine And.intro ?_ ?_) | ((first | refine st_reg ?_ | refine buildP_own ?_ | refine appP_own ?_ | refine callP_b (ll) rfl ?_ | refine callP_b (kn) rfl ?_ | refine callP_b (c0) rfl ?_ | refine callP_b (c1) rfl ?_ | refine callP_b (c2) rfl ?_ | refine callP_b (c3) rfl ?_ | refine callP_b (c4) rfl ?_ | refine callP_b (c6) rfl ?_ | refine callP_b (c7) rfl ?_ | refine callP_b (c8) rfl ?_ | refine callP_b (c9) rfl ?_) <;> (simp -dsimp [h1, h2]; (repeat (simp -dsimp (disch := (first | omega | assumption | (refine Bool.eq_false_iff.1 ?_; assumption))) only [wrap_in, if_pos, if_neg]; (try simp -dsimp [h1, h2]))))) | ((first | refine guardP_of (fun hc => ?_) (fun hc => ?_) | refine st_cond rfl (fun hc => ?_) (fun hc => ?_)) <;> (try simp only [lqA, lqB, lqC, lqD, lqE, lqF, lqG, lqH, lqI, lqJ, lqK, lqL, lqM, lqN, lqO] at hc) <;> (try (exfalso; first | omega | exact bool_tf hc (by assumption) | exact bool_ft hc (by assumption) | exact absurd (by assumption) hc)) <;> (first | with_reducible show STri _ _ _ _ _ _ | (simp -dsimp [h1, h2, hc]; (repeat (simp -dsimp (disch := (first | omega | assumption | (refine Bool.eq_false_iff.1 ?_; assumption))) only [wrap_in, if_pos, if_neg]; (try simp -dsimp [h1, h2, hc]))))))))
    all_goals exact .refl _
end Go.Proofs.Ytakdmliblijgmaa
/- From a contract by value to a given statement: arguments of plain types are opened, and read again behind the call. -/
namespace Go.Proofs.Ytakdmliblijgmaa
open Go.RowKit Go.ChangeShapes Go.WideShapes
section
variable {P : Program}
def tyF (P : Program) (r : TypeId → List CV → Prop) : List Field → List CV → Prop
  | [], cs => cs = []
  | f :: fs, cs => ∃ c1 c2, cs = c1 ++ c2 ∧ r f.type c1 ∧ tyF P r fs c2
def tyA (r : List CV → Prop) : Nat → List CV → Prop
  | 0, cs => cs = []
  | n + 1, cs => ∃ c1 c2, cs = c1 ++ c2 ∧ r c1 ∧ tyA r n c2
def tyC (P : Program) : Nat → TypeId → List CV → Prop
  | 0, _, _ => False
  | d + 1, t, cs => match P.underlying t with
    | some .bool => ∃ b, cs = [.val (.bool b)]
    | some (.int k) => ∃ n, cs = [.val (.int k n)] ∧ (Lit.int k n).wf = true
    | some (.slice e) => ∃ rows, cs = [.sl (P.cellsOf e) rows] ∧ rows.length ≤ maxLen ∧ ∀ row ∈ rows, tyC P d e row
    | some (.struct fs) => tyF P (tyC P d) fs.toList cs
    | some (.array n e) => tyA (tyC P d e) n cs
    | _ => False
theorem tyC_int {d : Nat} {t : TypeId} {k : IntKind} {cs : List CV} (hu : P.underlying t = some (.int k)) (h : tyC P d t cs) : ∃ n, cs = [.val (.int k n)] ∧ (Lit.int k n).wf = true := by
  cases d with
  | zero => exact h.elim
  | succ d => unfold tyC at h; rw [hu] at h; exact h
theorem tyC_slice {d : Nat} {t e : TypeId} {cs : List CV} (hu : P.underlying t = some (.slice e)) (h : tyC P d t cs) : ∃ d' rows, cs = [.sl (P.cellsOf e) rows] ∧ rows.length ≤ maxLen ∧ ∀ row ∈ rows, tyC P d' e row := by
  cases d with
  | zero => exact h.elim
  | succ d => unfold tyC at h; rw [hu] at h; exact ⟨d, h⟩
theorem tyC_struct {d : Nat} {t : TypeId} {fs : Array Field} {cs : List CV} (hu : P.underlying t = some (.struct fs)) (h : tyC P d t cs) : ∃ d', tyF P (tyC P d') fs.toList cs := by
  cases d with
  | zero => exact h.elim
  | succ d => unfold tyC at h; rw [hu] at h; exact ⟨d, h⟩
theorem rows_map {α : Type} {f : α → List CV} : ∀ {rows : List (List CV)}, (∀ row ∈ rows, ∃ x, row = f x) → ∃ xs : List α, rows = xs.map f
  | [], _ => ⟨[], rfl⟩
  | r :: rs, h => by
    obtain ⟨x, rfl⟩ := h r (by simp)
    obtain ⟨xs, rfl⟩ := rows_map (rows := rs) (fun r hr => h r (by simp [hr]))
    exact ⟨x :: xs, rfl⟩
theorem agg_cells {v : Value} (h : v.cells.size ≠ 1) : v = .agg v.cells := by
  cases v <;> first | rfl | (exact absurd rfl h)
def tileB (P : Program) : List Field → Nat → Nat → Bool
  | [], acc, n => acc == n
  | f :: fs, acc, n => f.offset == acc && tileB P fs (acc + P.cellsOf f.type) n
def plainB (P : Program) : Nat → TypeId → Bool
  | 0, _ => false
  | d + 1, t => match P.underlying t with
    | some .bool => P.cellsOf t == 1
    | some (.int _) => P.cellsOf t == 1
    | some (.slice e) => P.cellsOf t == 1 && decide (0 < P.cellsOf e) && plainB P d e
    | some (.struct fs) => tileB P fs.toList 0 (P.cellsOf t) && fs.toList.all fun f => plainB P d f.type
    | some (.array n e) => P.cellsOf t == n * P.cellsOf e && plainB P d e
    | _ => false
theorem tile_le : ∀ {fs : List Field} {acc n : Nat}, tileB P fs acc n = true → acc ≤ n
  | [], _, _, h => by simp [tileB] at h; omega
  | f :: fs, acc, n, h => by
    simp only [tileB, Bool.and_eq_true] at h
    have := tile_le h.2
    omega
theorem tyF_len {fs : List Field} {r : TypeId → List CV → Prop} (hr : ∀ (f : Field) c, f ∈ fs → r f.type c → c.length = P.cellsOf f.type ∧ c.all CV.one = true) : ∀ {fs' : List Field}, (∀ f ∈ fs', f ∈ fs) → ∀ {acc n : Nat} {cs : List CV}, tileB P fs' acc n = true → tyF P r fs' cs → acc + cs.length = n ∧ cs.all CV.one = true
  | [], _, acc, n, cs, ht, h => by simp [tileB] at ht; simp [tyF] at h; subst h; simp [ht]
  | f :: fs', hm, acc, n, cs, ht, h => by
    simp only [tileB, Bool.and_eq_true] at ht
    obtain ⟨c1, c2, rfl, h1, h2⟩ := h
    obtain ⟨l1, o1⟩ := hr f c1 (hm f (by simp)) h1
    obtain ⟨l2, o2⟩ := tyF_len hr (fun g hg => hm g (by simp [hg])) ht.2 h2
    rw [List.length_append, List.all_append, o1, o2]
    exact ⟨by omega, rfl⟩
theorem tyA_len {r : List CV → Prop} {k : Nat} (hr : ∀ c, r c → c.length = k ∧ c.all CV.one = true) : ∀ {n : Nat} {cs : List CV}, tyA r n cs → cs.length = n * k ∧ cs.all CV.one = true
  | 0, cs, h => by simp [tyA] at h; subst h; simp
  | n + 1, cs, h => by
    obtain ⟨c1, c2, rfl, h1, h2⟩ := h
    obtain ⟨l1, o1⟩ := hr c1 h1
    obtain ⟨l2, o2⟩ := tyA_len hr h2
    rw [List.length_append, List.all_append, o1, o2, l1, l2, Nat.succ_mul]
    exact ⟨by omega, rfl⟩
theorem tyC_len : ∀ {d : Nat} {t : TypeId} {cs : List CV}, plainB P d t = true → tyC P d t cs → cs.length = P.cellsOf t ∧ cs.all CV.one = true
  | 0, _, _, hp, _ => by simp [plainB] at hp
  | d + 1, t, cs, hp, h => by
    unfold plainB at hp
    unfold tyC at h
    split at hp <;> rename_i hu
    · rw [hu] at h; obtain ⟨b, rfl⟩ := h; simp at hp; simp [hp, CV.one]
    · rw [hu] at h; obtain ⟨n, rfl, _⟩ := h; simp at hp; simp [hp, CV.one]
    · rw [hu] at h; obtain ⟨rows, rfl, _⟩ := h; simp at hp; simp [hp.1.1, CV.one]
    · rw [hu] at h
      simp only [Bool.and_eq_true, List.all_eq_true] at hp
      obtain ⟨l, o⟩ := tyF_len (P := P) (fun f c hf hc => tyC_len (hp.2 f hf) hc) (fun f hf => hf) hp.1 h
      exact ⟨by omega, o⟩
    · rw [hu] at h
      simp only [Bool.and_eq_true, beq_iff_eq] at hp
      obtain ⟨l, o⟩ := tyA_len (fun c hc => tyC_len hp.2 hc) h
      exact ⟨by rw [l, hp.1], o⟩
    · simp at hp
def RCs (w : World) (cs : List CV) (vs : List Value) : Prop := cs.length = vs.length ∧ ∀ (i : Nat) x v, cs[i]? = some x → vs[i]? = some v → RepC w (fun _ => False) x v
theorem RCs.append {w : World} {a b : List CV} {c d : List Value} (h : RCs w a c) (k : RCs w b d) : RCs w (a ++ b) (c ++ d) := by
  refine ⟨by rw [List.length_append, List.length_append, h.1, k.1], fun i x v hx hv => ?_⟩
  rw [List.getElem?_append] at hx hv
  rw [← h.1] at hv
  split at hx
  · rename_i hi; rw [if_pos hi] at hv; exact h.2 i x v hx hv
  · rename_i hi; rw [if_neg hi] at hv; exact k.2 _ x v hx hv
theorem RCs.one {w : World} {x : CV} {v : Value} (h : RepC w (fun _ => False) x v) : RCs w [x] [v] := ⟨rfl, fun i y u hx hv => by
  cases i with
  | zero => cases hx; cases hv; exact h
  | succ i => simp at hx⟩
section
variable {H : Type} {enc : TypeId × Value → H} {w : World} {spare : Nat → Bool} {held : Bool}
theorem cell_at {w : World} {a : Addr} {k len i j : Nat} {vr : List Value} (ha : a.spot = none) (h : w.cells? 0 (a.add (i * k)) k = some vr) (hj : j < k) : w.cell? ⟨a.block, a.off + i * k + j, none⟩ = vr[j]? := by
  obtain ⟨_, _, h3⟩ := World.cells?_some h
  rw [← h3 j hj]
  have e : ∀ m : Nat, a.add m = ⟨a.block, a.off + m, none⟩ := fun m => by
    unfold Addr.add
    split
    · rename_i h0; subst h0; cases a; simp at ha; simp [ha]
    · rfl
  rw [e]
  unfold Addr.add
  split
  · rename_i h0; subst h0; rfl
  · rfl
theorem open_tyC : ∀ {d n : Nat} {t : TypeId} {vs : List Value} {x : DataW H × List MemPlace}, plainB P d t = true → DataW.trod enc P w 0 spare held n t vs = some x → ∃ cs, tyC P d t cs ∧ RCs w cs vs
  | 0, _, _, _, _, hp, _ => by simp [plainB] at hp
  | d + 1, n, t, vs, x, hp, h => by
    unfold plainB at hp
    split at hp <;> rename_i hu
    · obtain ⟨b, rfl, _⟩ := DataW.trod_bool hu h
      exact ⟨[.val (.bool b)], by unfold tyC; rw [hu]; exact ⟨b, rfl⟩, .one (.val _)⟩
    · rename_i k
      obtain ⟨m, rfl, _, hw⟩ := DataW.trod_int hu h
      exact ⟨[.val (.int k m)], by unfold tyC; rw [hu]; exact ⟨m, rfl, hw⟩, .one (.val _)⟩
    · rename_i e
      simp only [Bool.and_eq_true, beq_iff_eq, decide_eq_true_eq] at hp
      obtain ⟨⟨_, hk⟩, hpe⟩ := hp
      rcases DataW.trod_slice hu h with ⟨rfl, _⟩ | ⟨a, len, cap, elems, rest, m, _, rfl, _, _, hl, hm, hlen, hel, _⟩
      · exact ⟨[.sl (P.cellsOf e) []], by unfold tyC; rw [hu]; exact ⟨[], rfl, Nat.zero_le _, by simp⟩, .one (.nil _ none 0 (Nat.zero_le _))⟩
      · have hrow : ∀ i, i < len → ∃ vr cr, w.cells? 0 (a.add (i * P.cellsOf e)) (P.cellsOf e) = some vr ∧ tyC P d e cr ∧ RCs w cr vr := fun i hi => by
          have h1 := hel i hi
          rw [List.getElem?_eq_getElem (by omega)] at h1
          obtain ⟨vr, h2, h3⟩ := Option.bind_eq_some_iff.1 h1
          obtain ⟨cr, h4, h5⟩ := open_tyC hpe h3
          exact ⟨vr, cr, h2, h4, h5⟩
        by_cases h0 : len = 0
        · subst h0
          exact ⟨[.sl (P.cellsOf e) []], by unfold tyC; rw [hu]; exact ⟨[], rfl, Nat.zero_le _, by simp⟩, .one (.nil _ (some a) cap hm)⟩
        have hch : ∃ (V : Nat → List Value) (C : Nat → List CV), ∀ i, i < len → w.cells? 0 (a.add (i * P.cellsOf e)) (P.cellsOf e) = some (V i) ∧ tyC P d e (C i) ∧ RCs w (C i) (V i) := by
          refine ⟨fun i => if h : i < len then Classical.choose (hrow i h) else [], fun i => if h : i < len then Classical.choose (Classical.choose_spec (hrow i h)) else [], fun i hi => ?_⟩
          simp only [dif_pos hi]
          exact Classical.choose_spec (Classical.choose_spec (hrow i hi))
        obtain ⟨V, C, hVC⟩ := hch
        have hfirst := hVC 0 (by omega)
        have hsp : a.spot = none := by
          obtain ⟨_, l1, h3⟩ := World.cells?_some hfirst.1
          have h4 := h3 0 hk
          rw [List.getElem?_eq_getElem (by omega)] at h4
          simp only [Nat.zero_mul, Addr.add, if_true] at h4
          unfold World.cell? at h4
          split at h4
          · split at h4
            · cases h4
            · rename_i hs; simpa using hs
          · cases h4
        have hblk : a.block < w.heap.size := by
          have := World.cells?_block hfirst.1 hk
          simpa [Addr.add] using this
        have hlenC : ∀ i, i < len → (C i).length = P.cellsOf e ∧ (C i).all CV.one = true := fun i hi => tyC_len hpe (hVC i hi).2.1
        have hget : ∀ (j : Nat) row, ((List.range len).map C)[j]? = some row → j < len ∧ row = C j := fun j row hj => by
          rw [List.getElem?_map] at hj
          obtain ⟨i, hi, rfl⟩ := Option.map_eq_some_iff.1 hj
          obtain ⟨h1, h2⟩ := List.getElem?_eq_some_iff.1 hi
          simp at h1 h2; subst h2; exact ⟨h1, rfl⟩
        have hsl := RepC.sl (w := w) (N := fun _ => False) (P.cellsOf e) ((List.range len).map C) a.block a.off cap (fun j i => ((V j)[i]?).getD undef) (by simpa using hl) hm hblk (fun h => h) (fun j row hj => by obtain ⟨h1, rfl⟩ := hget j row hj; exact hlenC j h1) (fun j row i y hj hy => by
            obtain ⟨h1, rfl⟩ := hget j row hj
            obtain ⟨q1, q2, q3⟩ := hVC j h1
            have hik : i < P.cellsOf e := by rw [← (hlenC j h1).1]; exact (List.getElem?_eq_some_iff.1 hy).1
            rw [cell_at (len := len) hsp q1 hik]
            have : i < (V j).length := by rw [← q3.1, (hlenC j h1).1]; exact hik
            rw [List.getElem?_eq_getElem this]; rfl) (fun j row i y hj hy => by
            obtain ⟨h1, rfl⟩ := hget j row hj
            obtain ⟨q1, q2, q3⟩ := hVC j h1
            have hik : i < P.cellsOf e := by rw [← (hlenC j h1).1]; exact (List.getElem?_eq_some_iff.1 hy).1
            have : i < (V j).length := by rw [← q3.1, (hlenC j h1).1]; exact hik
            refine q3.2 i y _ hy ?_
            rw [List.getElem?_eq_getElem this]; rfl)
        have ea : a = ⟨a.block, a.off, none⟩ := by cases a; simp at hsp; simp [hsp]
        rw [List.length_map, List.length_range, ← ea] at hsl
        have hrows : ∀ row ∈ (List.range len).map C, tyC P d e row := fun row hr => by
          obtain ⟨i, hi, rfl⟩ := List.mem_map.1 hr
          exact (hVC i (by simpa using hi)).2.1
        exact ⟨[.sl (P.cellsOf e) ((List.range len).map C)], by unfold tyC; rw [hu]; exact ⟨_, rfl, by simp; omega, hrows⟩, .one hsl⟩
    · rename_i fs
      simp only [Bool.and_eq_true, List.all_eq_true] at hp
      obtain ⟨xs, m, _, _, hlen, _, hf⟩ := DataW.trod_struct hu h
      have key : ∀ (fs' : List Field) (acc : Nat), (∀ f ∈ fs', plainB P d f.type = true ∧ ∃ y, DataW.trod enc P w 0 spare held m f.type ((vs.drop f.offset).take (P.cellsOf f.type)) = some y) → tileB P fs' acc (P.cellsOf t) = true → acc ≤ P.cellsOf t → ∃ cs, tyF P (tyC P d) fs' cs ∧ RCs w cs (vs.drop acc) := by
        intro fs'
        induction fs' with
        | nil =>
          intro acc _ ht _
          simp [tileB] at ht
          exact ⟨[], by simp [tyF], by constructor <;> simp [← hlen, ht] <;> omega⟩
        | cons f fs' ih =>
          intro acc hall ht hacc
          simp only [tileB, Bool.and_eq_true, beq_iff_eq] at ht
          obtain ⟨hpf, y, hy⟩ := hall f (by simp)
          obtain ⟨c1, t1, r1⟩ := open_tyC hpf hy
          have hlt := tile_le ht.2
          obtain ⟨c2, t2, r2⟩ := ih (acc + P.cellsOf f.type) (fun g hg => hall g (by simp [hg])) ht.2 hlt
          refine ⟨c1 ++ c2, ⟨c1, c2, rfl, t1, t2⟩, ?_⟩
          rw [ht.1] at r1
          have e : vs.drop acc = (vs.drop acc).take (P.cellsOf f.type) ++ vs.drop (acc + P.cellsOf f.type) := by rw [← List.drop_drop, List.take_append_drop]
          rw [e]; exact r1.append r2
      obtain ⟨cs, h1, h2⟩ := key fs.toList 0 (fun f hf' => by
        refine ⟨hp.2 f hf', ?_⟩
        obtain ⟨i, hi, he⟩ := List.getElem_of_mem hf'
        have := hf i f (by simp at hi; simp at he; simp [← he, hi])
        have hxl : i < xs.length := by simp at hi; omega
        rw [List.getElem?_eq_getElem hxl] at this
        exact ⟨_, this⟩) hp.1 (Nat.zero_le _)
      exact ⟨cs, by unfold tyC; rw [hu]; exact h1, by simpa using h2⟩
    · rename_i k e
      simp only [Bool.and_eq_true, beq_iff_eq] at hp
      obtain ⟨xs, m, _, _, hlen, hxs, hf⟩ := DataW.trod_array hu h
      have key : ∀ (r i : Nat), i + r = k → ∃ cs, tyA (tyC P d e) r cs ∧ RCs w cs (vs.drop (i * P.cellsOf e)) := by
        intro r
        induction r with
        | zero =>
          intro i hi
          have : vs.length ≤ i * P.cellsOf e := by rw [hlen, hp.1]; have : i = k := by omega
                                                   subst this; exact Nat.le_refl _
          exact ⟨[], by simp [tyA], by rw [List.drop_of_length_le this]; constructor <;> simp⟩
        | succ r ih =>
          intro i hi
          have h1 := hf i (by omega)
          rw [List.getElem?_eq_getElem (by omega)] at h1
          obtain ⟨c1, t1, r1⟩ := open_tyC hp.2 h1
          obtain ⟨c2, t2, r2⟩ := ih (i + 1) (by omega)
          refine ⟨c1 ++ c2, ⟨c1, c2, rfl, t1, t2⟩, ?_⟩
          have e' : vs.drop (i * P.cellsOf e) = (vs.drop (i * P.cellsOf e)).take (P.cellsOf e) ++ vs.drop ((i + 1) * P.cellsOf e) := by rw [Nat.succ_mul, ← List.drop_drop, List.take_append_drop]
          rw [e']; exact r1.append r2
      obtain ⟨cs, h1, h2⟩ := key k 0 (by omega)
      exact ⟨cs, by unfold tyC; rw [hu]; exact h1, by simpa using h2⟩
    · simp at hp
theorem trodAll_carry {w w' : World} {base : Nat} {spare : Nat → Bool} {held : Bool} : ∀ {ts : List TypeId} {vs : List Value} {ds : List (DataW H)} {ps : List MemPlace}, DataW.TrodAll enc P w base spare held ts vs ds ps → (∀ p ∈ ps, w.sameAt w' p) → DataW.TrodAll enc P w' base spare held ts vs ds ps
  | [], [], [], _, h, _ => h
  | _ :: _, _ :: _, _ :: _, _, ⟨p, q, ⟨n, h1⟩, h2, e⟩, hs =>
    ⟨p, q, ⟨n, DataW.trod_carry n _ _ _ h1 (fun x hx => hs x (by rw [e]; exact List.mem_append_left _ hx))⟩, trodAll_carry h2 (fun x hx => hs x (by rw [e]; exact List.mem_append_right _ hx)), e⟩
theorem post_ext {T : TypeId → Prop} (K : Kids P T) (hz : ∀ t e, T t → P.underlying t = some (.slice e) → 0 < P.cellsOf e) {f : Func} {s : ChangeSpec} {apart fresh handsOn again : Bool} {W W' : World} {args : Array Value} {v : Value} {ds gs : List (DataW H)} {before : List MemPlace}
    (hT : ∀ t ∈ f.params.toList, T t) (hsv : s.vars = []) (hW : DataW.Whole enc P f.params.toList s.vars apart W args.toList ds gs before)
    (hres : ∀ (b : Nat) (sp : Nat → Bool) (hd : Bool), DataW.TrodAll enc P W' b sp hd f.resultTypes.toList (v.resultList f.resultTypes.size) (s.fn H (ds ++ gs)).results [])
    (hargs : (s.fn H (ds ++ gs)).args = ds) (hvars : (s.fn H (ds ++ gs)).vars = []) (hx : Ext W W')
    (hok : ∀ (j : Nat) (t : TypeId) (r : Value), f.resultTypes[j]? = some t → (v.resultList f.resultTypes.size)[j]? = some r → Value.okWide P W' .any 0 t r) :
    s.post enc P f apart fresh handsOn again W args v W' := by
  have hlt := hW.lt
  have hold : ∀ p ∈ before, (fun b => decide (b < W.heap.size)) p.block = true := fun p hp => by simpa using hlt p hp
  have hW0 := hW
  obtain ⟨p, q, hA, hV, e, hfz, hn⟩ := hW
  rw [hsv] at hV
  obtain ⟨hg, hq⟩ := trodVars_none hV
  subst hq
  rw [List.append_nil] at e
  subst e
  have ha : ∀ sp : Nat → Bool, (∀ p ∈ before, sp p.block = true) → DataW.TrodAll enc P W' 0 sp true f.params.toList args.toList (s.fn H (ds ++ gs)).args before := fun sp hsp => by
    rw [hargs]
    exact trodAll_carry (DataW.TrodAll.respare K hz hT hA hsp) (fun p hp => hx.same (hlt p hp))
  have hv : ∀ sp : Nat → Bool, DataW.TrodVars enc P W' sp s.vars (s.fn H (ds ++ gs)).vars [] := fun sp => by rw [hvars, hsv]; exact rfl
  refine ⟨ds, gs, before, [], before, [], hW0, hres _ _ _, ha _ hold, hv _, World.keptBut_mono (fun p hp => ⟨hp, Or.inr (Or.inl hp)⟩) (hx.frame (· ∈ before)), fun _ => ?_⟩
  refine ⟨hok, _, _, ([] ++ before) ++ [], ⟨[] ++ before, [], trodAll_append (ha _ (fun _ _ => rfl)) (hres _ _ _), hv _, rfl, ?_, ?_⟩, ?_⟩
  · intro b off hp
    simp at hp
    rw [Below.frozen hx (p := ⟨b, off, none⟩) (hlt _ hp)]
    exact hfz b off hp
  · intro h
    simpa using hn h
  · intro p hp _
    simpa using hp
end
end
end Go.Proofs.Ytakdmliblijgmaa
/- Arguments opened: slices and integers. -/
namespace Go.Proofs.Ytakdmliblijgmaa
open Go.RowKit Go.ChangeShapes Go.WideShapes Go.ChangeAt
section
variable {H : Type} {enc : TypeId × Value → H} {P : Program} {w : World} {base b0 : Nat} {spare : Nat → Bool} {held : Bool} {v : Value} {x : DataW H} {ps : List MemPlace} {t : TypeId} {r : Reach}
theorem open_slice {e : TypeId} {d : Nat} (ht : P.underlying t = some (.slice e)) (hp : plainB P d t = true) (hval : Value.okWide P w r b0 t v) (h : DataW.Trod enc P w 0 spare held t v x ps) :
    ∃ d' rows, RepC w (fun _ => False) (.sl (P.cellsOf e) rows) v ∧ rows.length ≤ maxLen ∧ ∀ row ∈ rows, tyC P d' e row := by
  obtain ⟨a, len, cap, rfl⟩ := okWide_slice ht hval
  obtain ⟨n, h⟩ := h
  obtain ⟨cs, h1, h2⟩ := open_tyC hp h
  obtain ⟨d', rows, rfl, h3, h4⟩ := tyC_slice ht h1
  exact ⟨d', rows, h2.2 0 _ _ rfl rfl, h3, h4⟩
end
end Go.Proofs.Ytakdmliblijgmaa
/- Wire's types opened. -/
namespace Go.Proofs.Ytakdmliblijgmaa
open Go.RowKit Go.ChangeShapes Go.WideShapes Go.ChangeAt
theorem Try.own : ownKnob Try.prog.godebug = none := by kernel_rfl
theorem Try.kids : Kids Try.prog (· < Try.prog.types.size) := kids_rows (by kernel_rfl) (by kernel_rfl)
theorem Try.full : ∀ t e, t < Try.prog.types.size → Try.prog.underlying t = some (.slice e) → 0 < Try.prog.cellsOf e := slices_full_of Try.prog (by kernel_rfl)
theorem Try.cellsI : Try.prog.cellsOf 3 = 1 := by kernel_rfl
theorem Try.cellsSr : Try.prog.cellsOf 79 = 8 := by kernel_rfl
theorem Try.cellsNt : Try.prog.cellsOf 73 = 3 := by kernel_rfl
theorem Try.plainSs : plainB Try.prog 8 22 = true := by kernel_rfl
theorem Try.plainNs : plainB Try.prog 8 23 = true := by kernel_rfl
theorem Try.plainS : plainB Try.prog 8 25 = true := by kernel_rfl
theorem val_inv {w : World} {N : Nat → Prop} {u v : Value} (h : RepC w N (.val u) v) : v = u := by cases h; rfl
theorem ty_I {d : Nat} {cs : List CV} (h : tyC Try.prog d 3 cs) : ∃ n, cs = [I n] := by
  obtain ⟨n, h, _⟩ := tyC_int Try.underlying3 h; exact ⟨n, h⟩
theorem ty_kind {d : Nat} {cs : List CV} (h : tyC Try.prog d 77 cs) : ∃ n, cs = [I n] := by
  obtain ⟨n, h, _⟩ := tyC_int Try.underlying77 h; exact ⟨n, h⟩
theorem ty_span {d : Nat} {cs : List CV} (h : tyC Try.prog d 25 cs) : ∃ a b, cs = [I a, I b] := by
  obtain ⟨d', c1, c2, rfl, h1, c3, c4, rfl, h2, h3⟩ := tyC_struct Try.underlying25 h
  obtain ⟨a, rfl⟩ := ty_I h1
  obtain ⟨b, rfl⟩ := ty_I h2
  have h3 : c4 = [] := h3
  subst h3
  exact ⟨a, b, rfl⟩
theorem ty_ints {d : Nat} {cs : List CV} (h : tyC Try.prog d 55 cs) : ∃ xs : List Int, cs = [.sl 1 (xs.map rowI)] := by
  obtain ⟨d', rows, h, hl, h2⟩ := tyC_slice Try.underlying55 h
  rw [Try.cellsI] at h
  obtain ⟨xs, rfl⟩ := rows_map (f := rowI) (fun row hr => ty_I (h2 row hr))
  exact ⟨xs, h⟩
theorem ty_src {d : Nat} {cs : List CV} (h : tyC Try.prog d 79 cs) : ∃ s, cs = rowSr s := by
  obtain ⟨d', c1, r1, rfl, h1, c2, r2, rfl, h2, c3, r3, rfl, h3, c4, r4, rfl, h4, c5, r5, rfl, h5, c6, r6, rfl, h6, h7⟩ := tyC_struct Try.underlying79 h
  obtain ⟨k, rfl⟩ := ty_kind h1
  obtain ⟨a, b, rfl⟩ := ty_span h2
  obtain ⟨c, rfl⟩ := ty_I h3
  obtain ⟨e, f, rfl⟩ := ty_span h4
  obtain ⟨g, rfl⟩ := ty_I h5
  obtain ⟨l, rfl⟩ := ty_ints h6
  have h7 : r6 = [] := h7
  subst h7
  exact ⟨⟨k, a, b, c, e, f, g, l⟩, rfl⟩
theorem ty_note {d : Nat} {cs : List CV} (h : tyC Try.prog d 73 cs) : ∃ n, cs = rowN n := by
  obtain ⟨d', c1, r1, rfl, h1, c2, r2, rfl, h2, c3, r3, rfl, h3, h4⟩ := tyC_struct Try.underlying73 h
  obtain ⟨a, rfl⟩ := ty_I h1
  obtain ⟨b, rfl⟩ := ty_I h2
  obtain ⟨c, rfl⟩ := ty_I h3
  have h4 : r3 = [] := h4
  subst h4
  exact ⟨⟨a, b, c⟩, rfl⟩
section
variable {H : Type} {enc : TypeId × Value → H} {w : World} {b0 : Nat} {spare : Nat → Bool} {held : Bool} {v : Value} {x : DataW H} {ps : List MemPlace} {r : Reach}
set_option maxRecDepth 100000 in
theorem open_srcs (hval : Value.okWide Try.prog w r b0 22 v) (h : DataW.Trod enc Try.prog w 0 spare held 22 v x ps) : ∃ l : List Wsrc, RepC w (fun _ => False) (slSr l) v := by
  obtain ⟨d', rows, h1, _, h2⟩ := open_slice Try.underlying22 Try.plainSs hval h
  rw [Try.cellsSr] at h1
  obtain ⟨xs, rfl⟩ := rows_map (f := rowSr) (fun row hr => ty_src (h2 row hr))
  exact ⟨xs, h1⟩
set_option maxRecDepth 100000 in
theorem open_notes (hval : Value.okWide Try.prog w r b0 23 v) (h : DataW.Trod enc Try.prog w 0 spare held 23 v x ps) : ∃ l : List Wnt, RepC w (fun _ => False) (slN l) v := by
  obtain ⟨d', rows, h1, _, h2⟩ := open_slice Try.underlying23 Try.plainNs hval h
  rw [Try.cellsNt] at h1
  obtain ⟨xs, rfl⟩ := rows_map (f := rowN) (fun row hr => ty_note (h2 row hr))
  exact ⟨xs, h1⟩
end
set_option maxRecDepth 100000 in
theorem open_span {H : Type} {enc : TypeId × Value → H} {w : World} {spare : Nat → Bool} {held : Bool} {v : Value} {x : DataW H} {ps : List MemPlace} (h : DataW.Trod enc Try.prog w 0 spare held 25 v x ps) : ∃ a b : Int, RepC w (fun _ => False) (.agg [I a, I b]) v := by
  obtain ⟨n, h⟩ := h
  obtain ⟨cs, h1, h2⟩ := open_tyC Try.plainS h
  obtain ⟨a, b, rfl⟩ := ty_span h1
  have hs : v.cells.size = 2 := by have := h2.1; simp at this; omega
  have hv := agg_cells (v := v) (by omega)
  refine ⟨a, b, ?_⟩
  rw [hv]
  exact .agg _ _ (by simpa using hs) (fun i x u hx hu => h2.2 i x u hx (by simpa using hu))
end Go.Proofs.Ytakdmliblijgmaa
