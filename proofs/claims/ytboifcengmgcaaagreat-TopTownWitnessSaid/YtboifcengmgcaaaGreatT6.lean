/- Part 6 of a proof: Wp, Wt, Wu, Wv, Rt, Zg, Lift, Gs0, OpenS. -/
import Derived.Test.YtboifcengmgcaaaGreatT5
import Derived.Test.YtboifcengmgcaaaGreatT3
import Derived.ChangeSame
import Derived.JoinedOf
import Derived.JoinedAt
import Derived.RowKit3
import Derived.ReadAgain
import Derived.RowKit2
import Derived.ChangeSlices
import Derived.OpenShut
set_option linter.unusedSimpArgs false
set_option linter.unusedVariables false
/- Wire, XVI: who is wrong. -/
namespace Go.Proofs.YtboifcengmgcaaaGreat
open Go.RowKit
theorem pop_two : ∀ x : Nat, x < 1024 → ∀ n : Nat, n < 11 → x < 2 ^ n → popN x ≤ n := by decide +kernel
theorem set_pop {b : Wbk} (hb : BkOK b) {x : Nat} (hx : x ∈ setsL b) : popN x ≤ b.srcs.length := by
  obtain ⟨y, hy, rfl⟩ := mem_setsL.1 hx
  obtain ⟨k, hk, rfl⟩ := List.mem_map.1 hy
  have h1 := wrongTo_lt hb (b.nlo + k) b.notes.length (Nat.le_refl _)
  exact pop_two _ (set_lt hb hx) _ (by have := hb.len; omega) h1
theorem sets_ne {b : Wbk} (hb : BkOK b) : ∃ x, x ∈ setsL b := by
  have n1 := hb.n1
  refine ⟨wrongN b b.nlo, mem_setsL.2 ⟨(b.nlo, wrongN b b.nlo), ?_, rfl⟩⟩
  unfold allL bookN
  exact List.mem_map.2 ⟨0, List.mem_range.2 (by omega), by simp⟩
theorem least_ne {b : Wbk} (hb : BkOK b) : ∃ x, x ∈ leastS b := by
  obtain ⟨x, hx⟩ := sets_ne hb
  have h1 := minU_le (setsL b) b.srcs.length
  rcases minU_at (setsL b) b.srcs.length with h | ⟨y, hy, h⟩
  · have h2 := h1.2 x hx
    have h3 := set_pop hb hx
    exact ⟨x, List.mem_filter.2 ⟨hx, by simp only [decide_eq_true_eq]; unfold fewN; omega⟩⟩
  · exact ⟨y, List.mem_filter.2 ⟨hy, by simp only [decide_eq_true_eq]; unfold fewN; omega⟩⟩
theorem leastL_ne {b : Wbk} (hb : BkOK b) : ∃ s r, leastL b = s :: r := by
  obtain ⟨x, hx⟩ := least_ne hb
  have h : numsL x ∈ leastL b := (List.mergeSort_perm _ _).mem_iff.2 (List.mem_map.2 ⟨x, hx, rfl⟩)
  cases e : leastL b with
  | nil => rw [e] at h; cases h
  | cons s r => exact ⟨s, r, rfl⟩
def convE : List (List Int) → Int × Int
  | [] :: _ => (0, 7)
  | (_ :: _ :: _) :: _ => (0, 9)
  | [_] :: _ :: _ => (0, 6)
  | [[x]] => (x, 0)
  | [] => (0, 0)
theorem sConvict (w : List Wsrc) (hw : WLen w) (l : List Wnt) (hl : l.length ≤ 1000000) (nlo nhi : Int) : SC Tryz.prog 16 [slSr w, slN l, .agg [I nlo, I nhi]]
    (.tup [I (if newErr w l nlo nhi = 0 then (convE (leastL (newBk w l nlo nhi))).1 else 0), I (if newErr w l nlo nhi = 0 then (convE (leastL (newBk w l nlo nhi))).2 else newErr w l nlo nhi)]) := by
  refine law_wire_Convict _ _ (by simp) ?_
  have sb := sNewBook w hw l hl nlo nhi
  by_cases h : newErr w l nlo nhi = 0
  · have hb := new_bk h
    have sf := sLeast _ hb
    obtain ⟨s, r, hsr⟩ := leastL_ne hb
    rw [if_pos h, if_pos h]
    rw [h] at sb
    generalize newBk w l nlo nhi = b at *
    rw [hsr] at sf ⊢
    rcases s with _ | ⟨x, _ | ⟨y, s⟩⟩
    · (repeat' (first | ((first | with_reducible refine st_skip ?_ | with_reducible refine st_exit ?_); (try simp only [seqQ, blockQ, loopQ, forQ, whileQ, reduceIte, Nat.reduceEqDiff])) | (with_reducible refine st_ret ?_; ((try simp only [seqQ, blockQ, loopQ, forQ, whileQ]); first | (with_reducible refine retM_ret ?_) | refine retQ_ret ?_; simp)) | refine st_seq ?_ | refine st_block ?_ | ((with_reducible show (STri _ _ _ _ _) ∧ (STri _ _ _ _ _)); refine And.intro ?_ ?_) | ((first | refine st_reg ?_ | refine buildP_own ?_ | refine appP_own ?_ | refine callP_b (sb) rfl ?_ | refine callP_b (sf) rfl ?_) <;> (simp -dsimp; (repeat (simp -dsimp (disch := (first | omega | assumption | (refine Bool.eq_false_iff.1 ?_; assumption))) only [wrap_in, if_pos, if_neg]; (try simp -dsimp))))) | ((first | refine guardP_of (fun hc => ?_) (fun hc => ?_) | refine st_cond rfl (fun hc => ?_) (fun hc => ?_)) <;> (try simp only [lqA, lqB, lqC, lqD, lqE, lqF, lqG, lqH, lqI, lqJ, lqK, lqL, lqM, lqN, lqO] at hc) <;> (try (exfalso; first | omega | exact bool_tf hc (by assumption) | exact bool_ft hc (by assumption) | exact absurd (by assumption) hc)) <;> (first | with_reducible show STri _ _ _ _ _ _ | (simp -dsimp [hc]; (repeat (simp -dsimp (disch := (first | omega | assumption | (refine Bool.eq_false_iff.1 ?_; assumption))) only [wrap_in, if_pos, if_neg]; (try simp -dsimp [hc]))))))))
      all_goals exact .refl _
    · rcases r with _ | ⟨t, r⟩
      · (repeat' (first | ((first | with_reducible refine st_skip ?_ | with_reducible refine st_exit ?_); (try simp only [seqQ, blockQ, loopQ, forQ, whileQ, reduceIte, Nat.reduceEqDiff])) | (with_reducible refine st_ret ?_; ((try simp only [seqQ, blockQ, loopQ, forQ, whileQ]); first | (with_reducible refine retM_ret ?_) | refine retQ_ret ?_; simp)) | refine st_seq ?_ | refine st_block ?_ | ((with_reducible show (STri _ _ _ _ _) ∧ (STri _ _ _ _ _)); refine And.intro ?_ ?_) | ((first | refine st_reg ?_ | refine buildP_own ?_ | refine appP_own ?_ | refine callP_b (sb) rfl ?_ | refine callP_b (sf) rfl ?_) <;> (simp -dsimp; (repeat (simp -dsimp (disch := (first | omega | assumption | (refine Bool.eq_false_iff.1 ?_; assumption))) only [wrap_in, if_pos, if_neg]; (try simp -dsimp))))) | ((first | refine guardP_of (fun hc => ?_) (fun hc => ?_) | refine st_cond rfl (fun hc => ?_) (fun hc => ?_)) <;> (try simp only [lqA, lqB, lqC, lqD, lqE, lqF, lqG, lqH, lqI, lqJ, lqK, lqL, lqM, lqN, lqO] at hc) <;> (try (exfalso; first | omega | exact bool_tf hc (by assumption) | exact bool_ft hc (by assumption) | exact absurd (by assumption) hc)) <;> (first | with_reducible show STri _ _ _ _ _ _ | (simp -dsimp [hc]; (repeat (simp -dsimp (disch := (first | omega | assumption | (refine Bool.eq_false_iff.1 ?_; assumption))) only [wrap_in, if_pos, if_neg]; (try simp -dsimp [hc]))))))))
        all_goals exact .refl _
      · have h1 : (1 : Int) < (r.length : Int) + 1 + 1 := by omega
        (repeat' (first | ((first | with_reducible refine st_skip ?_ | with_reducible refine st_exit ?_); (try simp only [seqQ, blockQ, loopQ, forQ, whileQ, reduceIte, Nat.reduceEqDiff])) | (with_reducible refine st_ret ?_; ((try simp only [seqQ, blockQ, loopQ, forQ, whileQ]); first | (with_reducible refine retM_ret ?_) | refine retQ_ret ?_; simp [h1])) | refine st_seq ?_ | refine st_block ?_ | ((with_reducible show (STri _ _ _ _ _) ∧ (STri _ _ _ _ _)); refine And.intro ?_ ?_) | ((first | refine st_reg ?_ | refine buildP_own ?_ | refine appP_own ?_ | refine callP_b (sb) rfl ?_ | refine callP_b (sf) rfl ?_) <;> (simp -dsimp [h1]; (repeat (simp -dsimp (disch := (first | omega | assumption | (refine Bool.eq_false_iff.1 ?_; assumption))) only [wrap_in, if_pos, if_neg]; (try simp -dsimp [h1]))))) | ((first | refine guardP_of (fun hc => ?_) (fun hc => ?_) | refine st_cond rfl (fun hc => ?_) (fun hc => ?_)) <;> (try simp only [lqA, lqB, lqC, lqD, lqE, lqF, lqG, lqH, lqI, lqJ, lqK, lqL, lqM, lqN, lqO] at hc) <;> (try (exfalso; first | omega | exact bool_tf hc (by assumption) | exact bool_ft hc (by assumption) | exact absurd (by assumption) hc)) <;> (first | with_reducible show STri _ _ _ _ _ _ | (simp -dsimp [h1, hc]; (repeat (simp -dsimp (disch := (first | omega | assumption | (refine Bool.eq_false_iff.1 ?_; assumption))) only [wrap_in, if_pos, if_neg]; (try simp -dsimp [h1, hc]))))))))
        all_goals exact .refl _
    · have h1 : (1 : Int) < (s.length : Int) + 1 + 1 := by omega
      have h2 : ¬ (s.length : Int) + 1 + 1 = 0 := by omega
      (repeat' (first | ((first | with_reducible refine st_skip ?_ | with_reducible refine st_exit ?_); (try simp only [seqQ, blockQ, loopQ, forQ, whileQ, reduceIte, Nat.reduceEqDiff])) | (with_reducible refine st_ret ?_; ((try simp only [seqQ, blockQ, loopQ, forQ, whileQ]); first | (with_reducible refine retM_ret ?_) | refine retQ_ret ?_; simp [h1, h2])) | refine st_seq ?_ | refine st_block ?_ | ((with_reducible show (STri _ _ _ _ _) ∧ (STri _ _ _ _ _)); refine And.intro ?_ ?_) | ((first | refine st_reg ?_ | refine buildP_own ?_ | refine appP_own ?_ | refine callP_b (sb) rfl ?_ | refine callP_b (sf) rfl ?_) <;> (simp -dsimp [h1, h2]; (repeat (simp -dsimp (disch := (first | omega | assumption | (refine Bool.eq_false_iff.1 ?_; assumption))) only [wrap_in, if_pos, if_neg]; (try simp -dsimp [h1, h2]))))) | ((first | refine guardP_of (fun hc => ?_) (fun hc => ?_) | refine st_cond rfl (fun hc => ?_) (fun hc => ?_)) <;> (try simp only [lqA, lqB, lqC, lqD, lqE, lqF, lqG, lqH, lqI, lqJ, lqK, lqL, lqM, lqN, lqO] at hc) <;> (try (exfalso; first | omega | exact bool_tf hc (by assumption) | exact bool_ft hc (by assumption) | exact absurd (by assumption) hc)) <;> (first | with_reducible show STri _ _ _ _ _ _ | (simp -dsimp [h1, h2, hc]; (repeat (simp -dsimp (disch := (first | omega | assumption | (refine Bool.eq_false_iff.1 ?_; assumption))) only [wrap_in, if_pos, if_neg]; (try simp -dsimp [h1, h2, hc]))))))))
      all_goals exact .refl _
  · rw [if_neg h, if_neg h]
    generalize newErr w l nlo nhi = e at *
    generalize newBk w l nlo nhi = b at *
    (repeat' (first | ((first | with_reducible refine st_skip ?_ | with_reducible refine st_exit ?_); (try simp only [seqQ, blockQ, loopQ, forQ, whileQ, reduceIte, Nat.reduceEqDiff])) | (with_reducible refine st_ret ?_; ((try simp only [seqQ, blockQ, loopQ, forQ, whileQ]); first | (with_reducible refine retM_ret ?_) | refine retQ_ret ?_; simp [h])) | refine st_seq ?_ | refine st_block ?_ | ((with_reducible show (STri _ _ _ _ _) ∧ (STri _ _ _ _ _)); refine And.intro ?_ ?_) | ((first | refine st_reg ?_ | refine buildP_own ?_ | refine appP_own ?_ | refine callP_b (sb) rfl ?_) <;> (simp -dsimp [h]; (repeat (simp -dsimp (disch := (first | omega | assumption | (refine Bool.eq_false_iff.1 ?_; assumption))) only [wrap_in, if_pos, if_neg]; (try simp -dsimp [h]))))) | ((first | refine guardP_of (fun hc => ?_) (fun hc => ?_) | refine st_cond rfl (fun hc => ?_) (fun hc => ?_)) <;> (try simp only [lqA, lqB, lqC, lqD, lqE, lqF, lqG, lqH, lqI, lqJ, lqK, lqL, lqM, lqN, lqO] at hc) <;> (try (exfalso; first | omega | exact bool_tf hc (by assumption) | exact bool_ft hc (by assumption) | exact absurd (by assumption) hc)) <;> (first | with_reducible show STri _ _ _ _ _ _ | (simp -dsimp [h, hc]; (repeat (simp -dsimp (disch := (first | omega | assumption | (refine Bool.eq_false_iff.1 ?_; assumption))) only [wrap_in, if_pos, if_neg]; (try simp -dsimp [h, hc]))))))))
    all_goals exact .refl _
end Go.Proofs.YtboifcengmgcaaaGreat
/- Declarations picked out of other texts. -/
namespace Go.Proofs.YtboifcengmgcaaaGreat
open Go.RowKit
theorem mem_allL {b : Wbk} {x : Int × Nat} : x ∈ allL b ↔ b.nlo ≤ x.1 ∧ x.1 ≤ b.nhi ∧ x.2 = wrongN b x.1 := by
  unfold allL bookN
  rw [List.mem_map]
  constructor
  · rintro ⟨k, hk, rfl⟩
    have := List.mem_range.1 hk
    exact ⟨by omega, by omega, rfl⟩
  · rintro ⟨h1, h2, h3⟩
    refine ⟨(x.1 - b.nlo).toNat, List.mem_range.2 (by omega), ?_⟩
    have e : b.nlo + ((x.1 - b.nlo).toNat : Int) = x.1 := by omega
    rw [e, ← h3]
theorem pop_zero : ∀ x : Nat, x < 1024 → popN x = 0 → x = 0 := by decide +kernel
theorem pop_zero2 : popN 0 = 0 := by decide
def GapsP (l : List (Int × Int)) : Prop := (∀ e ∈ l, e.1 ≤ e.2) ∧ l.Pairwise fun a b => a.2 + 1 < b.1
def insB (n : Int) (l : List (Int × Int)) : Bool := l.any fun e => decide (e.1 ≤ n) && decide (n ≤ e.2)
structure SpInv (b : Wbk) (p : Nat → Bool) (k : Nat) (l : List (Int × Int)) : Prop where
  gap : GapsP l
  lo : ∀ e ∈ l, b.nlo ≤ e.1 ∧ e.2 < b.nlo + k
  cov : ∀ y, insB y l = true ↔ b.nlo ≤ y ∧ y < b.nlo + k ∧ p (wrongN b y) = true
theorem insB_app (y : Int) (l m : List (Int × Int)) : insB y (l ++ m) = (insB y l || insB y m) := by unfold insB; exact List.any_append
theorem insB_one (y : Int) (e : Int × Int) : insB y [e] = true ↔ e.1 ≤ y ∧ y ≤ e.2 := by unfold insB; simp
theorem spInv (b : Wbk) (p : Nat → Bool) : ∀ k, k ≤ (allL b).length → SpInv b p k (spansTo b p k)
  | 0, _ => by
    have e0 : spansTo b p 0 = [] := rfl
    rw [e0]
    refine ⟨⟨fun e he => ?_, List.Pairwise.nil⟩, fun e he => ?_, fun y => ?_⟩
    · cases he
    · cases he
    · constructor
      · intro h
        simp [insB] at h
      · rintro ⟨h1, h2, _⟩
        omega
  | k + 1, hk => by
    have ih := spInv b p k (by omega)
    have hs := spansTo_succ (p := p) (show k < (allL b).length by omega)
    have hN : k < bookN b := by rw [← allL_len b]; omega
    have h3 : (allL b)[k]'(by omega) = (b.nlo + (k : Int), wrongN b (b.nlo + k)) := by
      have := allL_get hN
      rw [List.getElem?_eq_getElem (by omega)] at this
      exact Option.some.inj this
    rw [h3] at hs
    obtain ⟨⟨g1, g2⟩, i2, i3⟩ := ih
    rw [hs]
    unfold spanStep
    dsimp only
    generalize spansTo b p k = acc at *
    by_cases hp : p (wrongN b (b.nlo + k)) = true
    · rw [if_pos hp]
      have hnew : ∀ y, y = b.nlo + (k : Int) → p (wrongN b y) = true := fun y e => by rw [e]; exact hp
      rcases List.eq_nil_or_concat acc with rfl | ⟨ini, l, rfl⟩
      · simp only [List.getLast?_nil]
        refine ⟨⟨fun e he => ?_, List.pairwise_singleton _ _⟩, fun e he => ?_, fun y => ?_⟩
        · rw [List.mem_singleton.1 he]; exact Int.le_refl _
        · rw [List.mem_singleton.1 he]; dsimp only; omega
        · rw [insB_one]
          constructor
          · rintro ⟨h1, h2⟩
            dsimp only at h1 h2
            exact ⟨by omega, by omega, hnew y (by omega)⟩
          · rintro ⟨h1, h2, h4⟩
            dsimp only
            rcases (show y = b.nlo + (k : Int) ∨ y < b.nlo + (k : Int) by omega) with h | h
            · omega
            · have := (i3 y).2 ⟨h1, h, h4⟩
              simp [insB] at this
      · rw [List.concat_eq_append] at *
        simp only [List.getLast?_append, List.getLast?_singleton, Option.some_or, List.dropLast_concat]
        rw [List.pairwise_append] at g2
        obtain ⟨g2, _, g3⟩ := g2
        have hl := g1 l (by simp)
        have hl2 := i2 l (by simp)
        by_cases hq : l.2 = b.nlo + k - 1
        · rw [if_pos hq]
          refine ⟨⟨fun e he => ?_, ?_⟩, fun e he => ?_, fun y => ?_⟩
          · rcases List.mem_append.1 he with he | he
            · exact g1 e (by simp [he])
            · rw [List.mem_singleton.1 he]; dsimp only; omega
          · rw [List.pairwise_append]
            exact ⟨g2, List.pairwise_singleton _ _, fun a ha c hc => by rw [List.mem_singleton.1 hc]; exact g3 a ha l (by simp)⟩
          · rcases List.mem_append.1 he with he | he
            · have := i2 e (by simp [he]); omega
            · rw [List.mem_singleton.1 he]; dsimp only; omega
          · have h5 := i3 y
            rw [insB_app, Bool.or_eq_true, insB_one] at h5 ⊢
            dsimp only
            constructor
            · rintro (h | ⟨h1, h2⟩)
              · obtain ⟨h6, h7, h8⟩ := h5.1 (.inl h)
                exact ⟨h6, by omega, h8⟩
              · rcases (show y = b.nlo + (k : Int) ∨ y ≤ l.2 by omega) with h | h
                · exact ⟨by omega, by omega, hnew y h⟩
                · obtain ⟨h6, h7, h8⟩ := h5.1 (.inr ⟨h1, h⟩)
                  exact ⟨h6, by omega, h8⟩
            · rintro ⟨h1, h2, h4⟩
              rcases (show y = b.nlo + (k : Int) ∨ y < b.nlo + (k : Int) by omega) with h | h
              · exact .inr ⟨by omega, by omega⟩
              · rcases h5.2 ⟨h1, h, h4⟩ with h | h
                · exact .inl h
                · exact .inr ⟨h.1, by omega⟩
        · rw [if_neg hq]
          refine ⟨⟨fun e he => ?_, ?_⟩, fun e he => ?_, fun y => ?_⟩
          · rcases List.mem_append.1 he with he | he
            · exact g1 e he
            · rw [List.mem_singleton.1 he]; exact Int.le_refl _
          · rw [List.pairwise_append]
            refine ⟨?_, List.pairwise_singleton _ _, fun a ha c hc => ?_⟩
            · rw [List.pairwise_append]; exact ⟨g2, List.pairwise_singleton _ _, g3⟩
            · rw [List.mem_singleton.1 hc]
              dsimp only
              rcases List.mem_append.1 ha with ha | ha
              · have := g3 a ha l (by simp); omega
              · rw [List.mem_singleton.1 ha]; omega
          · rcases List.mem_append.1 he with he | he
            · have := i2 e he; omega
            · rw [List.mem_singleton.1 he]; dsimp only; omega
          · have h5 := i3 y
            rw [insB_app, Bool.or_eq_true, insB_one, h5]
            dsimp only
            constructor
            · rintro (⟨h6, h7, h8⟩ | ⟨h1, h2⟩)
              · exact ⟨h6, by omega, h8⟩
              · exact ⟨by omega, by omega, hnew y (by omega)⟩
            · rintro ⟨h1, h2, h4⟩
              rcases (show y = b.nlo + (k : Int) ∨ y < b.nlo + (k : Int) by omega) with h | h
              · exact .inr ⟨by omega, by omega⟩
              · exact .inl ⟨h1, h, h4⟩
    · rw [if_neg hp]
      refine ⟨⟨g1, g2⟩, fun e he => ?_, fun y => ?_⟩
      · have := i2 e he; omega
      · rw [i3 y]
        constructor
        · rintro ⟨h1, h2, h4⟩; exact ⟨h1, by omega, h4⟩
        · rintro ⟨h1, h2, h4⟩
          refine ⟨h1, ?_, h4⟩
          rcases (show y = b.nlo + (k : Int) ∨ y < b.nlo + (k : Int) by omega) with h | h
          · rw [h] at h4; exact absurd h4 hp
          · exact h
theorem spansInv {b : Wbk} (hb : BkOK b) (p : Nat → Bool) : GapsP (spansL b p) ∧ (∀ e ∈ spansL b p, b.nlo ≤ e.1 ∧ e.2 ≤ b.nhi) ∧ ∀ y, insB y (spansL b p) = true ↔ b.nlo ≤ y ∧ y ≤ b.nhi ∧ p (wrongN b y) = true := by
  have h := spInv b p (allL b).length (Nat.le_refl _)
  have e : spansTo b p (allL b).length = spansL b p := by unfold spansTo spansL; rw [List.take_length]
  rw [e] at h
  have hN : ((allL b).length : Int) = b.nhi + 1 - b.nlo := by
    rw [allL_len]; have := hb.n1; unfold bookN; omega
  refine ⟨h.gap, fun e he => ?_, fun y => ?_⟩
  · have := h.lo e he; omega
  · rw [h.cov y]
    constructor
    · rintro ⟨h1, h2, h3⟩; exact ⟨h1, by omega, h3⟩
    · rintro ⟨h1, h2, h3⟩; exact ⟨h1, by omega, h3⟩
theorem zero_in {b : Wbk} {y : Int} (h1 : b.nlo ≤ y) (h2 : y ≤ b.nhi) (h : wrongN b y = 0) : 0 ∈ setsL b := mem_setsL.2 ⟨(y, wrongN b y), mem_allL.2 ⟨h1, h2, rfl⟩, h⟩
theorem few_zero {b : Wbk} (h : 0 ∈ setsL b) : fewN b = 0 := by
  have := (minU_le (setsL b) b.srcs.length).2 0 h
  rw [pop_zero2] at this
  unfold fewN; omega
theorem filt_one : ∀ {l : List Nat}, l.Nodup → 0 ∈ l → l.filter (fun x => decide (x = 0)) = [0]
  | [], _, h => by cases h
  | a :: l, hn, h => by
    rw [List.nodup_cons] at hn
    by_cases ha : a = 0
    · subst ha
      rw [List.filter_cons_of_pos (by simp)]
      have : l.filter (fun x => decide (x = 0)) = [] := by
        rw [List.filter_eq_nil_iff]
        intro x hx
        simp only [decide_eq_true_eq]
        intro e; subst e; exact hn.1 hx
      rw [this]
    · rw [List.filter_cons_of_neg (by simpa using ha)]
      refine filt_one hn.2 ?_
      rcases List.mem_cons.1 h with h | h
      · exact absurd h.symm ha
      · exact h
theorem least_zero {b : Wbk} (hb : BkOK b) (h : 0 ∈ setsL b) : leastL b = [[]] := by
  have e : leastS b = [0] := by
    unfold leastS
    rw [few_zero h]
    have : (setsL b).filter (fun x => decide (popN x = 0)) = (setsL b).filter fun x => decide (x = 0) := List.filter_congr fun x hx => by
      rw [Bool.eq_iff_iff, decide_eq_true_eq, decide_eq_true_eq]
      exact ⟨pop_zero x (set_lt hb hx), fun e => by rw [e]; exact pop_zero2⟩
    rw [this, filt_one (setsL_nodup b) h]
  unfold leastL sortL
  rw [e]
  simp [numsL, numsTo, lenN]
theorem SC.ans {P : Program} {f : FuncId} {cs : List CV} {r r' : CV} (h : SC P f cs r) (hr : ∀ (w : World) (N : Nat → Prop) (v : Value), RepC w N r v → RepC w N r' v) : SC P f cs r' := fun w NA vs hn hs hv =>
  (h w NA vs hn hs hv).mono fun _ _ ⟨v, h1, h2, h3⟩ => ⟨v, h1, hr _ _ _ h2, h3⟩
theorem rep_rows {w : World} {N : Nat → Prop} {k : Nat} {rows rows' : List (List CV)} {v : Value} (hl : rows'.length = rows.length)
    (hr : ∀ (j : Nat) row row', rows[j]? = some row → rows'[j]? = some row' → row'.length = row.length ∧ row'.all CV.one = true ∧ ∀ (i : Nat) x y, row[i]? = some x → row'[i]? = some y → ∀ v, RepC w N x v → RepC w N y v)
    (h : RepC w N (.sl k rows) v) : RepC w N (.sl k rows') v := by
  have back : ∀ (j : Nat) row', rows'[j]? = some row' → ∃ row, rows[j]? = some row := fun j row' hj => by
    have hlt := (List.getElem?_eq_some_iff.1 hj).1
    exact ⟨rows[j]'(by omega), List.getElem?_eq_getElem _⟩
  cases h with
  | nil k a c h1 =>
    have : rows' = [] := List.length_eq_zero_iff.1 hl
    subst this
    exact .nil k a c h1
  | sl k rows b off c u h1 h2 h3 h4 h5 h6 h7 =>
    rw [← hl]
    refine .sl k rows' b off c u (by omega) h2 h3 h4 (fun j row' hj => ?_) (fun j row' i y hj hy => ?_) (fun j row' i y hj hy => ?_)
    · obtain ⟨row, hj0⟩ := back j row' hj
      obtain ⟨e1, e2, _⟩ := hr j row row' hj0 hj
      exact ⟨e1.trans (h5 j row hj0).1, e2⟩
    · obtain ⟨row, hj0⟩ := back j row' hj
      obtain ⟨e1, _, _⟩ := hr j row row' hj0 hj
      have hi := (List.getElem?_eq_some_iff.1 hy).1
      exact h6 j row i _ hj0 (List.getElem?_eq_getElem (by omega))
    · obtain ⟨row, hj0⟩ := back j row' hj
      obtain ⟨e1, _, e3⟩ := hr j row row' hj0 hj
      have hi := (List.getElem?_eq_some_iff.1 hy).1
      have hx := List.getElem?_eq_getElem (l := row) (i := i) (by omega)
      exact e3 i _ y hx hy _ (h7 j row i _ hj0 hx)
theorem rep_nil {w : World} {N : Nat → Prop} {v : Value} (k : Nat) (h : RepC w N (.val (.slice none 0 0)) v) : RepC w N (.sl k []) v := (CLe.nil k).rep h
def rowNil (s : Wsrc) : List CV := [I s.kind, I s.elo, I s.ehi, I s.at', I s.dlo, I s.dhi, I s.every, .val (.slice none 0 0)]
theorem rep_nils {w : World} {N : Nat → Prop} {l : List Wsrc} (hl : ∀ s ∈ l, s.table = []) {v : Value} (h : RepC w N (.sl 8 (l.map rowNil)) v) : RepC w N (slSr l) v := by
  unfold slSr
  refine rep_rows (by simp) (fun j row row' h1 h2 => ?_) h
  rw [List.getElem?_map, Option.map_eq_some_iff] at h1 h2
  obtain ⟨s, e1, rfl⟩ := h1
  obtain ⟨s', e2, rfl⟩ := h2
  rw [e1] at e2; cases e2
  have ht := hl s (List.mem_of_getElem? e1)
  refine ⟨rfl, by simp, fun i x y hx hy v hv => ?_⟩
  unfold rowNil at hx
  unfold rowSr at hy
  rw [ht] at hy
  rcases i with _ | _ | _ | _ | _ | _ | _ | _ | i
  · simp at hx hy; subst hx; subst hy; exact hv
  · simp at hx hy; subst hx; subst hy; exact hv
  · simp at hx hy; subst hx; subst hy; exact hv
  · simp at hx hy; subst hx; subst hy; exact hv
  · simp at hx hy; subst hx; subst hy; exact hv
  · simp at hx hy; subst hx; subst hy; exact hv
  · simp at hx hy; subst hx; subst hy; exact hv
  · simp at hx hy; subst hx; subst hy; exact rep_nil 1 hv
  · simp at hx
def threeW : List Wsrc := [⟨2, 0, 1, 3600, 0, 0, 86400, []⟩, ⟨4, 2, 5, 0, 0, 0, 0, []⟩, ⟨1, -1, 1, 0, 0, 2000, 0, []⟩]
def notesW (x : Int) : List Wnt := [⟨0, 3500, 0⟩, ⟨1, 7000, 7098⟩, ⟨2, 86300, x⟩]
def exB (l : List Wnt) : Wbk := ⟨threeW, threeW.map errOf, l, 0, 200⟩
theorem ex_two : newErr threeW (notesW 2) 0 200 = 0 := by decide +kernel
theorem ex_far : newErr threeW (notesW 40) 0 200 = 0 := by decide +kernel
theorem ex_bk {l : List Wnt} (h : newErr threeW l 0 200 = 0) : newBk threeW l 0 200 = exB l := (new_ok h).1
theorem ex_s2 : spansL (exB (notesW 2)) (fun m => decide (m = 0)) = [(100, 101)] := by decide +kernel
theorem ex_f : fewN (exB (notesW 40)) = 1 := by decide +kernel
theorem ex_l : (leastS (exB (notesW 40))).map numsL = [[2]] := by
  unfold leastS
  rw [ex_f]
  decide +kernel
theorem ex_ll : leastL (exB (notesW 40)) = [[2]] := by
  unfold leastL sortL
  rw [ex_l]
  simp
end Go.Proofs.YtboifcengmgcaaaGreat
/- A clock beside two signals. -/
namespace Go.Proofs.YtboifcengmgcaaaGreat
open Go.RowKit
def sigW : Wsrc := ⟨4, 0, 0, 0, 0, 0, 0, []⟩
def armW (s : Wsrc) : List Wsrc := [s, sigW, sigW]
def armN (ts sa by' g1 g2 : Int) : List Wnt := [⟨0, ts, sa⟩, ⟨1, g1 - by', g1⟩, ⟨2, g2 - by', g2⟩]
def armB (s : Wsrc) (l : List Wnt) (lo hi : Int) : Wbk := ⟨armW s, (armW s).map errOf, l, lo, hi⟩
theorem gaps_one {l : List (Int × Int)} {y : Int} (hg : GapsP l) (h : ∀ z, insB z l = true ↔ z = y) : l = [(y, y)] := by
  obtain ⟨h1, h2⟩ := hg
  have hin : ∀ e ∈ l, e = (y, y) := fun e he => by
    have a := h1 e he
    have q1 : insB e.1 l = true := List.any_eq_true.2 ⟨e, he, by simp; exact a⟩
    have q2 : insB e.2 l = true := List.any_eq_true.2 ⟨e, he, by simp; exact a⟩
    have := (h _).1 q1
    have := (h _).1 q2
    exact Prod.ext (by omega) (by omega)
  match l with
  | [] => have := (h y).2 rfl; simp [insB] at this
  | [e] => rw [hin e (by simp)]
  | e :: e' :: r =>
    have a := hin e (by simp)
    have b := hin e' (by simp)
    rw [List.pairwise_cons] at h2
    have := h2.1 e' (by simp)
    rw [a, b] at this
    simp only at this
    omega
theorem gaps_none {l : List (Int × Int)} (hg : GapsP l) (h : ∀ z, insB z l = false) : l = [] := by
  match l with
  | [] => rfl
  | e :: r =>
    have a := hg.1 e (by simp)
    have q1 : insB e.1 (e :: r) = true := List.any_eq_true.2 ⟨e, by simp, by simp; exact a⟩
    rw [h] at q1; cases q1
theorem arm_at (s : Wsrc) (ts sa by' g1 g2 lo hi y : Int) (h2 : g1 ≤ 3155700000) (h3 : 0 ≤ g1) (h4 : g2 ≤ 3155700000) (h5 : 0 ≤ g2) :
    wrongN (armB s (armN ts sa by' g1 g2) lo hi) y = if y = by' then (if rightN (armB s (armN ts sa by' g1 g2) lo hi) ⟨0, ts, sa⟩ y = true then 0 else 1) else (if rightN (armB s (armN ts sa by' g1 g2) lo hi) ⟨0, ts, sa⟩ y = true then 6 else 7) := by
  generalize hB : armB s (armN ts sa by' g1 g2) lo hi = b
  have e1 : rightN b ⟨1, g1 - by', g1⟩ y = decide (y = by') := by
    rw [← hB]
    unfold rightN armB armW rightB signalR within1 errOf sigW
    rw [Bool.eq_iff_iff]
    simp
    omega
  have e2 : rightN b ⟨2, g2 - by', g2⟩ y = decide (y = by') := by
    rw [← hB]
    unfold rightN armB armW rightB signalR within1 errOf sigW
    rw [Bool.eq_iff_iff]
    simp
    omega
  have e : wrongN b y = [(⟨0, ts, sa⟩ : Wnt), ⟨1, g1 - by', g1⟩, ⟨2, g2 - by', g2⟩].foldl (fun a n => if rightN b n y = true then a else a ||| 2 ^ n.src.toNat) 0 := by
    rw [← hB]; rfl
  rw [e]
  simp only [List.foldl_cons, List.foldl_nil, e1, e2, decide_eq_true_eq]
  by_cases hy : y = by' <;> by_cases hr : rightN b ⟨0, ts, sa⟩ y = true <;> simp [hy, hr]
structure ArmOk (s : Wsrc) (ts sa by' g1 g2 lo hi : Int) : Prop where
  err : newErr (armW s) (armN ts sa by' g1 g2) lo hi = 0
  g1 : 0 ≤ g1 ∧ g1 ≤ 3155700000
  g2 : 0 ≤ g2 ∧ g2 ≤ 3155700000
  at' : lo ≤ by' ∧ by' ≤ hi
theorem arm_bk {s : Wsrc} {ts sa by' g1 g2 lo hi : Int} (h : ArmOk s ts sa by' g1 g2 lo hi) : newBk (armW s) (armN ts sa by' g1 g2) lo hi = armB s (armN ts sa by' g1 g2) lo hi := (new_ok h.err).1
theorem arm_ok {s : Wsrc} {ts sa by' g1 g2 lo hi : Int} (h : ArmOk s ts sa by' g1 g2 lo hi) : BkOK (armB s (armN ts sa by' g1 g2) lo hi) := by rw [← arm_bk h]; exact new_bk h.err
theorem arm_right {s : Wsrc} {ts sa by' g1 g2 lo hi : Int} (h : ArmOk s ts sa by' g1 g2 lo hi) (hr : rightN (armB s (armN ts sa by' g1 g2) lo hi) ⟨0, ts, sa⟩ by' = true) :
    spansL (armB s (armN ts sa by' g1 g2) lo hi) (fun m => decide (m = 0)) = [(by', by')] ∧ leastL (armB s (armN ts sa by' g1 g2) lo hi) = [[]] := by
  have hb := arm_ok h
  have h1 := h.g1
  have h2 := h.g2
  have h3 := h.at'
  have hw : ∀ y, wrongN (armB s (armN ts sa by' g1 g2) lo hi) y = _ := fun y => arm_at s ts sa by' g1 g2 lo hi y h1.2 h1.1 h2.2 h2.1
  have h0 : wrongN (armB s (armN ts sa by' g1 g2) lo hi) by' = 0 := by rw [hw, if_pos rfl, if_pos hr]
  obtain ⟨p1, p2, p3⟩ := spansInv hb (fun m => decide (m = 0))
  refine ⟨gaps_one p1 fun z => ?_, least_zero hb (zero_in (y := by') h3.1 h3.2 h0)⟩
  rw [p3 z, decide_eq_true_eq]
  constructor
  · rintro ⟨_, _, hz⟩
    rw [hw] at hz
    by_cases hy : z = by'
    · exact hy
    · rw [if_neg hy] at hz
      split at hz <;> cases hz
  · rintro rfl
    exact ⟨h3.1, h3.2, h0⟩
theorem nodup_ones : ∀ {l : List Nat}, l.Nodup → (∀ x ∈ l, x = 1) → 1 ∈ l → l = [1]
  | [], _, _, h => by cases h
  | [a], _, h, _ => by rw [h a (by simp)]
  | a :: b :: r, hn, h, _ => by
    rw [h a (by simp), h b (by simp)] at hn
    simp at hn
theorem pop_6 : popN 6 = 2 := by decide
theorem pop_7 : popN 7 = 3 := by decide
theorem pop_1 : popN 1 = 1 := by decide
theorem nums_1 : numsL 1 = [0] := by decide +kernel
theorem arm_wrong {s : Wsrc} {ts sa by' g1 g2 lo hi : Int} (h : ArmOk s ts sa by' g1 g2 lo hi) (hr : rightN (armB s (armN ts sa by' g1 g2) lo hi) ⟨0, ts, sa⟩ by' = false) :
    spansL (armB s (armN ts sa by' g1 g2) lo hi) (fun m => decide (m = 0)) = [] ∧ leastL (armB s (armN ts sa by' g1 g2) lo hi) = [[0]] := by
  have hb := arm_ok h
  have h1 := h.g1
  have h2 := h.g2
  have h3 := h.at'
  have hw : ∀ y, wrongN (armB s (armN ts sa by' g1 g2) lo hi) y = _ := fun y => arm_at s ts sa by' g1 g2 lo hi y h1.2 h1.1 h2.2 h2.1
  have h0 : wrongN (armB s (armN ts sa by' g1 g2) lo hi) by' = 1 := by rw [hw, if_pos rfl, if_neg (by rw [hr]; decide)]
  have hc : ∀ y, wrongN (armB s (armN ts sa by' g1 g2) lo hi) y = 1 ∨ wrongN (armB s (armN ts sa by' g1 g2) lo hi) y = 6 ∨ wrongN (armB s (armN ts sa by' g1 g2) lo hi) y = 7 := fun y => by
    by_cases hy : y = by'
    · rw [hy]; exact .inl h0
    · rw [hw, if_neg hy]
      split
      · exact .inr (.inl rfl)
      · exact .inr (.inr rfl)
  have hs : 1 ∈ setsL (armB s (armN ts sa by' g1 g2) lo hi) := mem_setsL.2 ⟨(by', 1), mem_allL.2 ⟨h3.1, h3.2, h0.symm⟩, rfl⟩
  have hsc : ∀ x ∈ setsL (armB s (armN ts sa by' g1 g2) lo hi), x = 1 ∨ x = 6 ∨ x = 7 := fun x hx => by
    obtain ⟨y, hy, rfl⟩ := mem_setsL.1 hx
    have := (mem_allL.1 hy).2.2
    rw [this]
    exact hc y.1
  have hf : fewN (armB s (armN ts sa by' g1 g2) lo hi) = 1 := by
    have a := (minU_le (setsL (armB s (armN ts sa by' g1 g2) lo hi)) (armB s (armN ts sa by' g1 g2) lo hi).srcs.length).2 1 hs
    rw [pop_1] at a
    unfold fewN
    rcases minU_at (setsL (armB s (armN ts sa by' g1 g2) lo hi)) (armB s (armN ts sa by' g1 g2) lo hi).srcs.length with e | ⟨x, hx, e⟩
    · have : (armB s (armN ts sa by' g1 g2) lo hi).srcs.length = 3 := rfl
      omega
    · rcases hsc x hx with r | r | r <;> subst r
      · rw [pop_1] at e; omega
      · rw [pop_6] at e; omega
      · rw [pop_7] at e; omega
  have hl : leastS (armB s (armN ts sa by' g1 g2) lo hi) = [1] := by
    unfold leastS
    rw [hf]
    refine nodup_ones ((setsL_nodup _).sublist List.filter_sublist) (fun x hx => ?_) (List.mem_filter.2 ⟨hs, by rw [pop_1]; rfl⟩)
    obtain ⟨x1, x2⟩ := List.mem_filter.1 hx
    rw [decide_eq_true_eq] at x2
    rcases hsc x x1 with r | r | r <;> subst r
    · rfl
    · rw [pop_6] at x2; cases x2
    · rw [pop_7] at x2; cases x2
  obtain ⟨p1, p2, p3⟩ := spansInv hb (fun m => decide (m = 0))
  refine ⟨gaps_none p1 fun z => ?_, ?_⟩
  · rw [← Bool.not_eq_true]
    intro hz
    have := ((p3 z).1 hz).2.2
    rw [decide_eq_true_eq] at this
    rcases hc z with r | r | r <;> omega
  · unfold leastL sortL
    rw [hl]
    simp [nums_1]
end Go.Proofs.YtboifcengmgcaaaGreat
/- A clock beside two signals: what Fits and Convict answer. -/
namespace Go.Proofs.YtboifcengmgcaaaGreat
open Go.RowKit
theorem arm_len (s : Wsrc) (h : s.table.length ≤ 1000000) : WLen (armW s) := ⟨fun x hx => by
  unfold armW sigW at hx
  rcases List.mem_cons.1 hx with rfl | hx
  · exact h
  rcases List.mem_cons.1 hx with rfl | hx
  · simp
  rcases List.mem_cons.1 hx with rfl | hx
  · simp
  · cases hx⟩
section
variable {s : Wsrc} {ts sa by' g1 g2 lo hi : Int}
theorem arm_fits (h : ArmOk s ts sa by' g1 g2 lo hi) (hl : s.table.length ≤ 1000000) (hr : rightN (armB s (armN ts sa by' g1 g2) lo hi) ⟨0, ts, sa⟩ by' = true) :
    SC Tryz.prog 14 [slSr (armW s), slN (armN ts sa by' g1 g2), .agg [I lo, I hi]] (.tup [slE [(by', by')], I 0]) := by
  have q := sFits (armW s) (arm_len s hl) (armN ts sa by' g1 g2) (by simp [armN]) lo hi
  rw [if_pos h.err, if_pos h.err, arm_bk h, (arm_right h hr).1, if_neg (by simp)] at q
  exact q
theorem arm_convict (h : ArmOk s ts sa by' g1 g2 lo hi) (hl : s.table.length ≤ 1000000) (hr : rightN (armB s (armN ts sa by' g1 g2) lo hi) ⟨0, ts, sa⟩ by' = false) :
    SC Tryz.prog 16 [slSr (armW s), slN (armN ts sa by' g1 g2), .agg [I lo, I hi]] (.tup [I 0, I 0]) := by
  have q := sConvict (armW s) (arm_len s hl) (armN ts sa by' g1 g2) (by simp [armN]) lo hi
  rw [if_pos h.err, if_pos h.err, arm_bk h, (arm_wrong h hr).2] at q
  exact q
theorem arm_nobody (h : ArmOk s ts sa by' g1 g2 lo hi) (hl : s.table.length ≤ 1000000) (hr : rightN (armB s (armN ts sa by' g1 g2) lo hi) ⟨0, ts, sa⟩ by' = true) :
    SC Tryz.prog 16 [slSr (armW s), slN (armN ts sa by' g1 g2), .agg [I lo, I hi]] (.tup [I 0, I 7]) := by
  have q := sConvict (armW s) (arm_len s hl) (armN ts sa by' g1 g2) (by simp [armN]) lo hi
  rw [if_pos h.err, if_pos h.err, arm_bk h, (arm_right h hr).2] at q
  exact q
end
def clkW (el eh dl dh : Int) : Wsrc := ⟨1, el, eh, 0, dl, dh, 0, []⟩
theorem arm_err {el eh dl dh ts sa by' g1 g2 lo hi : Int} (e0 : -3600 ≤ el) (e1 : el ≤ eh) (e2 : eh ≤ 3600) (d0 : -100000 ≤ dl) (d1 : dl ≤ dh) (d2 : dh ≤ 100000) (t0 : 0 ≤ ts) (t1 : ts ≤ 3155700000) (s0 : 0 ≤ sa) (s1 : sa < 43200)
    (a0 : 0 ≤ g1 - by') (a1 : g1 - by' ≤ 3155700000) (b0 : 0 ≤ g2 - by') (b1 : g2 - by' ≤ 3155700000) (a2 : 0 ≤ g1) (a3 : g1 ≤ 3155700000) (b2 : 0 ≤ g2) (b3 : g2 ≤ 3155700000) (l0 : -7200 ≤ lo) (l1 : lo ≤ by') (l2 : by' ≤ hi) (l3 : hi ≤ 7200) :
    ArmOk (clkW el eh dl dh) ts sa by' g1 g2 lo hi := by
  refine ⟨?_, ⟨a2, a3⟩, ⟨b2, b3⟩, l1, l2⟩
  have v1 : validV (clkW el eh dl dh) = true := by
    unfold validV baseV useV clkW clockV kindOK spanW within1
    simp; omega
  have v2 : validV sigW = true := by decide
  have n1 : noteErr (armW (clkW el eh dl dh)) ⟨0, ts, sa⟩ = 0 := by
    unfold noteErr armW clkW sigW saidB within1
    simp; omega
  have n2 : noteErr (armW (clkW el eh dl dh)) ⟨1, g1 - by', g1⟩ = 0 := by
    unfold noteErr armW clkW sigW saidB within1
    simp; omega
  have n3 : noteErr (armW (clkW el eh dl dh)) ⟨2, g2 - by', g2⟩ = 0 := by
    unfold noteErr armW clkW sigW saidB within1
    simp; omega
  have hn : notesErr (armW (clkW el eh dl dh)) (armN ts sa by' g1 g2) = 0 := by
    unfold notesErr armN
    simp [n1, n2, n3]
  have ha : (armW (clkW el eh dl dh)).all validV = true := by
    unfold armW
    simp [v1, v2]
  have hz : sizeW (armW (clkW el eh dl dh)) = true := by
    unfold sizeW armW; simp [within1]
  have hsp : spanW lo hi 7200 = true := by unfold spanW; simp; omega
  unfold newErr
  rw [if_neg (by rw [hz]; simp), if_neg (by rw [ha]; simp), if_neg (by simp [armN]), if_neg (by simp [hn]), if_pos hsp]
theorem arm_clk {el eh ts sa by' g1 g2 lo hi : Int} : rightN (armB (clkW el eh 0 0) (armN ts sa by' g1 g2) lo hi) ⟨0, ts, sa⟩ by' = (within1 0 3155760000 (ts + by') && (decide (0 ≤ ts + by') && decide ((sa - (ts + by') - el) % 43200 ≤ eh - el))) := by
  unfold rightN armB armW rightB clkW errOf clockR clLo clHi upI
  simp
end Go.Proofs.YtboifcengmgcaaaGreat
/- Top's helpers: spans, offices, notes, and what chapter 8's examples say. -/
namespace Go.Proofs.YtboifcengmgcaaaGreat
open Go.RowKit
theorem sSpanT (lo hi : Int) : SC Tryz.prog 5 [I lo, I hi] (.agg [I lo, I hi]) := by
  refine law_turrettop_pubSpan _ _ (by simp) ?_
  (repeat' (first | ((first | with_reducible refine st_skip ?_ | with_reducible refine st_exit ?_); (try simp only [seqQ, blockQ, loopQ, forQ, whileQ, reduceIte, Nat.reduceEqDiff])) | (with_reducible refine st_ret ?_; ((try simp only [seqQ, blockQ, loopQ, forQ, whileQ]); first | (with_reducible refine retM_ret ?_) | refine retQ_ret ?_; simp)) | refine st_seq ?_ | refine st_block ?_ | ((with_reducible show (STri _ _ _ _ _) ∧ (STri _ _ _ _ _)); refine And.intro ?_ ?_) | ((first | refine st_reg ?_ | refine buildP_own ?_ | refine appP_own ?_) <;> (simp -dsimp; (repeat (simp -dsimp (disch := (first | omega | assumption | (refine Bool.eq_false_iff.1 ?_; assumption))) only [wrap_in, if_pos, if_neg]; (try simp -dsimp))))) | ((first | refine guardP_of (fun hc => ?_) (fun hc => ?_) | refine st_cond rfl (fun hc => ?_) (fun hc => ?_)) <;> (try simp only [lqA, lqB, lqC, lqD, lqE, lqF, lqG, lqH, lqI, lqJ, lqK, lqL, lqM, lqN, lqO] at hc) <;> (try (exfalso; first | omega | exact bool_tf hc (by assumption) | exact bool_ft hc (by assumption) | exact absurd (by assumption) hc)) <;> (first | with_reducible show STri _ _ _ _ _ _ | (simp -dsimp [hc]; (repeat (simp -dsimp (disch := (first | omega | assumption | (refine Bool.eq_false_iff.1 ?_; assumption))) only [wrap_in, if_pos, if_neg]; (try simp -dsimp [hc]))))))))
  all_goals exact .refl _
theorem sRestT (n b : Int) (h3 : 0 < b) (h4 : b ≤ 1000000000000) : SC Tryz.prog 33 [I n, I b] (I (n % b)) := by
  refine law_turrettop_pubRest _ _ (by simp) ?_
  have hne : ¬ b = 0 := by omega
  have hb : IntKind.i64.wrap (n.tmod b + b) = n.tmod b + b := by
    have := tmod_lt n b h3
    exact wrap_in _ (by omega) (by omega)
  have he := mod_eq n b h3
  (repeat' (first | ((first | with_reducible refine st_skip ?_ | with_reducible refine st_exit ?_); (try simp only [seqQ, blockQ, loopQ, forQ, whileQ, reduceIte, Nat.reduceEqDiff])) | (with_reducible refine st_ret ?_; ((try simp only [seqQ, blockQ, loopQ, forQ, whileQ]); first | (with_reducible refine retM_ret ?_) | refine retQ_ret ?_; simp [hne, hb, he])) | refine st_seq ?_ | refine st_block ?_ | ((with_reducible show (STri _ _ _ _ _) ∧ (STri _ _ _ _ _)); refine And.intro ?_ ?_) | ((first | refine st_reg ?_ | refine buildP_own ?_ | refine appP_own ?_) <;> (simp -dsimp [hne, hb, he]; (repeat (simp -dsimp (disch := (first | omega | assumption | (refine Bool.eq_false_iff.1 ?_; assumption))) only [wrap_in, if_pos, if_neg]; (try simp -dsimp [hne, hb, he]))))) | ((first | refine guardP_of (fun hc => ?_) (fun hc => ?_) | refine st_cond rfl (fun hc => ?_) (fun hc => ?_)) <;> (try simp only [lqA, lqB, lqC, lqD, lqE, lqF, lqG, lqH, lqI, lqJ, lqK, lqL, lqM, lqN, lqO] at hc) <;> (try (exfalso; first | omega | exact bool_tf hc (by assumption) | exact bool_ft hc (by assumption) | exact absurd (by assumption) hc)) <;> (first | with_reducible show STri _ _ _ _ _ _ | (simp -dsimp [hne, hb, he, hc]; (repeat (simp -dsimp (disch := (first | omega | assumption | (refine Bool.eq_false_iff.1 ?_; assumption))) only [wrap_in, if_pos, if_neg]; (try simp -dsimp [hne, hb, he, hc]))))))))
  exact .refl _
theorem sOffice (el eh dl dh : Int) : SC Tryz.prog 13 [.agg [I el, I eh], .agg [I dl, I dh]] (slSr (armW (clkW el eh dl dh))) := by
  refine SC.ans (r := .sl 8 ((armW (clkW el eh dl dh)).map rowNil)) ?_ (fun w N v h => rep_nils (by simp [armW, clkW, sigW]) h)
  refine law_turrettop_armOffice _ _ (by simp) ?_
  unfold armW rowNil clkW sigW
  (repeat' (first | ((first | with_reducible refine st_skip ?_ | with_reducible refine st_exit ?_); (try simp only [seqQ, blockQ, loopQ, forQ, whileQ, reduceIte, Nat.reduceEqDiff])) | (with_reducible refine st_ret ?_; ((try simp only [seqQ, blockQ, loopQ, forQ, whileQ]); first | (with_reducible refine retM_ret ?_) | refine retQ_ret ?_; simp)) | refine st_seq ?_ | refine st_block ?_ | ((with_reducible show (STri _ _ _ _ _) ∧ (STri _ _ _ _ _)); refine And.intro ?_ ?_) | ((first | refine st_reg ?_ | refine buildP_own ?_ | refine appP_own ?_) <;> (simp -dsimp; (repeat (simp -dsimp (disch := (first | omega | assumption | (refine Bool.eq_false_iff.1 ?_; assumption))) only [wrap_in, if_pos, if_neg]; (try simp -dsimp))))) | ((first | refine guardP_of (fun hc => ?_) (fun hc => ?_) | refine st_cond rfl (fun hc => ?_) (fun hc => ?_)) <;> (try simp only [lqA, lqB, lqC, lqD, lqE, lqF, lqG, lqH, lqI, lqJ, lqK, lqL, lqM, lqN, lqO] at hc) <;> (try (exfalso; first | omega | exact bool_tf hc (by assumption) | exact bool_ft hc (by assumption) | exact absurd (by assumption) hc)) <;> (first | with_reducible show STri _ _ _ _ _ _ | (simp -dsimp [hc]; (repeat (simp -dsimp (disch := (first | omega | assumption | (refine Bool.eq_false_iff.1 ?_; assumption))) only [wrap_in, if_pos, if_neg]; (try simp -dsimp [hc]))))))))
  all_goals exact .refl _
theorem sArmNotes (at' shown by' g1 g2 : Int) (a0 : 0 ≤ at') (a1 : at' ≤ 10000000000) (b0 : -1000000 ≤ by') (b1 : by' ≤ 1000000) (c0 : 0 ≤ g1) (c1 : g1 ≤ 10000000000) (d0 : 0 ≤ g2) (d1 : g2 ≤ 10000000000) :
    SC Tryz.prog 15 [I at', I shown, I by', .agg [I g1, I g2]] (slN (armN (at' - by') (shown % 43200) by' g1 g2)) := by
  refine law_turrettop_armNotes _ _ (by simp) ?_
  unfold armN
  (repeat' (first | ((first | with_reducible refine st_skip ?_ | with_reducible refine st_exit ?_); (try simp only [seqQ, blockQ, loopQ, forQ, whileQ, reduceIte, Nat.reduceEqDiff])) | (with_reducible refine st_ret ?_; ((try simp only [seqQ, blockQ, loopQ, forQ, whileQ]); first | (with_reducible refine retM_ret ?_) | refine retQ_ret ?_; simp)) | refine st_seq ?_ | refine st_block ?_ | ((with_reducible show (STri _ _ _ _ _) ∧ (STri _ _ _ _ _)); refine And.intro ?_ ?_) | ((first | refine st_reg ?_ | refine buildP_own ?_ | refine appP_own ?_ | refine callP_b (sRestT shown 43200 (by omega) (by omega)) rfl ?_) <;> (simp -dsimp; (repeat (simp -dsimp (disch := (first | omega | assumption | (refine Bool.eq_false_iff.1 ?_; assumption))) only [wrap_in, if_pos, if_neg]; (try simp -dsimp))))) | ((first | refine guardP_of (fun hc => ?_) (fun hc => ?_) | refine st_cond rfl (fun hc => ?_) (fun hc => ?_)) <;> (try simp only [lqA, lqB, lqC, lqD, lqE, lqF, lqG, lqH, lqI, lqJ, lqK, lqL, lqM, lqN, lqO] at hc) <;> (try (exfalso; first | omega | exact bool_tf hc (by assumption) | exact bool_ft hc (by assumption) | exact absurd (by assumption) hc)) <;> (first | with_reducible show STri _ _ _ _ _ _ | (simp -dsimp [hc]; (repeat (simp -dsimp (disch := (first | omega | assumption | (refine Bool.eq_false_iff.1 ?_; assumption))) only [wrap_in, if_pos, if_neg]; (try simp -dsimp [hc]))))))))
  all_goals exact .refl _
theorem sc_arg0 {P : Program} {f : FuncId} {c c' : CV} {cs : List CV} {r : CV} (h : SC P f (c :: cs) r) (hc : ∀ (w : World) (N : Nat → Prop) (v : Value), RepC w N c' v → RepC w N c v) : SC P f (c' :: cs) r := fun w NA vs hNA hs hv =>
  h w NA vs hNA hs fun i y v hy hv' => by
    cases i with
    | zero => cases hy; exact hc _ _ _ (hv 0 c' v rfl hv')
    | succ i => exact hv (i + 1) y v hy hv'
theorem three_len : WLen threeW := ⟨fun s hs => by
  unfold threeW at hs
  rcases List.mem_cons.1 hs with rfl | hs
  · simp
  rcases List.mem_cons.1 hs with rfl | hs
  · simp
  rcases List.mem_cons.1 hs with rfl | hs
  · simp
  · cases hs⟩
theorem k_fits : SC Tryz.prog 14 [.sl 8 (threeW.map rowNil), slN (notesW 2), .agg [I 0, I 200]] (.tup [slE [(100, 101)], I 0]) := by
  have h := sFits threeW three_len (notesW 2) (by decide) 0 200
  rw [if_pos ex_two, if_pos ex_two, ex_bk ex_two, ex_s2, if_neg (by simp)] at h
  exact sc_arg0 h fun w N v hv => rep_nils (by simp [threeW]) hv
theorem k_convict : SC Tryz.prog 16 [.sl 8 (threeW.map rowNil), slN (notesW 40), .agg [I 0, I 200]] (.tup [I 2, I 0]) := by
  have h := sConvict threeW three_len (notesW 40) (by decide) 0 200
  rw [ex_far, if_pos rfl, if_pos rfl, ex_bk ex_far, ex_ll] at h
  exact sc_arg0 h fun w N v hv => rep_nils (by simp [threeW]) hv
set_option maxRecDepth 100000 in
theorem sPubWire : SC Tryz.prog 7 [] (B true) := by
  refine law_turrettop_pubWire _ _ (by simp) ?_
  have a2 := k_fits
  have a7 := k_convict
  simp only [threeW, notesW, rowNil, slN, rowN, List.map_cons, List.map_nil] at a2 a7
  (repeat' (first | ((first | with_reducible refine st_skip ?_ | with_reducible refine st_exit ?_); (try simp only [seqQ, blockQ, loopQ, forQ, whileQ, reduceIte, Nat.reduceEqDiff])) | (with_reducible refine st_ret ?_; ((try simp only [seqQ, blockQ, loopQ, forQ, whileQ]); first | (with_reducible refine retM_ret ?_) | refine retQ_ret ?_; simp)) | refine st_seq ?_ | refine st_block ?_ | ((with_reducible show (STri _ _ _ _ _) ∧ (STri _ _ _ _ _)); refine And.intro ?_ ?_) | ((first | refine st_reg ?_ | refine buildP_frz ?_ | refine appP_own ?_ | refine callP_b (sSpanT 0 1) rfl ?_ | refine callP_b (sSpanT 2 5) rfl ?_ | refine callP_b (sSpanT (-1) 1) rfl ?_ | refine callP_b (sSpanT 0 2000) rfl ?_ | refine callP_b (sSpanT 0 200) rfl ?_ | refine callP_b (sSpanT 100 101) rfl ?_ | refine callP_b (a2) rfl ?_ | refine callP_b (a7) rfl ?_) <;> (simp -dsimp; (repeat (simp -dsimp (disch := (first | omega | assumption | (refine Bool.eq_false_iff.1 ?_; assumption))) only [wrap_in, if_pos, if_neg]; (try simp -dsimp))))) | ((first | refine guardP_of (fun hc => ?_) (fun hc => ?_) | refine st_cond rfl (fun hc => ?_) (fun hc => ?_)) <;> (try simp only [lqA, lqB, lqC, lqD, lqE, lqF, lqG, lqH, lqI, lqJ, lqK, lqL, lqM, lqN, lqO] at hc) <;> (try (exfalso; first | omega | exact bool_tf hc (by assumption) | exact bool_ft hc (by assumption) | exact absurd (by assumption) hc)) <;> (first | with_reducible show STri _ _ _ _ _ _ | (simp -dsimp [hc]; (repeat (simp -dsimp (disch := (first | omega | assumption | (refine Bool.eq_false_iff.1 ?_; assumption))) only [wrap_in, if_pos, if_neg]; (try simp -dsimp [hc]))))))))
  all_goals exact .refl _
end Go.Proofs.YtboifcengmgcaaaGreat
/- Top: a town as a witness. -/
namespace Go.Proofs.YtboifcengmgcaaaGreat
open Go.RowKit
structure TownOk (a b p q n : Int) : Prop where
  a0 : -32768 ≤ a
  a1 : a ≤ 32767
  b0 : -32768 ≤ b
  b1 : b ≤ 32767
  p0 : 0 ≤ p
  p1 : p ≤ 65535
  q0 : 0 ≤ q
  q1 : q ≤ 65535
  n0 : -128 ≤ n
  n1 : n ≤ 127
def cO2 (a b : Int) : CV := .agg [.val (.int .i16 a), .val (.int .i16 b)]
def cT2 (a b : Int) : CV := .agg [.val (.int .u16 a), .val (.int .u16 b)]
set_option maxRecDepth 100000 in
set_option maxHeartbeats 4000000 in
theorem lTown (a b p q y : Int) (h : TownOk a b p q y) : SC Tryz.prog 4 [cO2 a b, cT2 p q, .val (.int .i8 y)] (B true) := by
  refine law_turrettop_TopTownWitness _ _ (by simp) ?_
  obtain ⟨a0, a1, b0, b1, p0, p1, q0, q1, y0, y1⟩ := h
  unfold cO2 cT2
  have ho : -3601 < a.tmod 3601 ∧ a.tmod 3601 < 3601 := tmod_lt a 3601 (by omega)
  have hn : -3601 < b.tmod 3601 ∧ b.tmod 3601 < 3601 := tmod_lt b 3601 (by omega)
  generalize hao : a.tmod 3601 = o at *
  generalize hbn : b.tmod 3601 = n at *
  obtain ⟨o0, o1⟩ := ho
  obtain ⟨n0, n1⟩ := hn
  have hz := oneZ_ok (o := o) (at' := 1 + p) (n := n) (by omega) (by omega) (by omega) (by omega) (by omega) (by omega)
  have sat := sArmTown o (1 + p) n
  have sl := says_after hz (t := 1 + p + 200 + q) (by omega) (by omega) (by omega)
  have sw := sOffice o o 0 0
  have sv := sOffice n n 0 0
  have w1 := Int.emod_nonneg (1 + p + 200 + q + n) (show (86400 : Int) ≠ 0 by omega)
  have w2 := Int.emod_lt_of_pos (1 + p + 200 + q + n) (show (0 : Int) < 86400 by omega)
  have ok1 : ArmOk (clkW n n 0 0) (1 + p + 200 + q - y) ((1 + p + 200 + q + n) % 86400 % 43200) y (200 + q) (70000 + p) (y - 30) (y + 30) := arm_err (by omega) (by omega) (by omega) (by omega) (by omega) (by omega) (by omega) (by omega) (by omega) (by omega) (by omega) (by omega) (by omega) (by omega) (by omega) (by omega) (by omega) (by omega) (by omega) (by omega) (by omega) (by omega)
  have f1 := arm_fits ok1 (by simp [clkW]) (by rw [arm_clk]; unfold within1; simp; omega)
  have ok2 : ArmOk (clkW o o 0 0) (1 + p + 200 + q - y) ((1 + p + 200 + q + n) % 86400 % 43200) y (200 + q) (70000 + p) (y - 30) (y + 30) := arm_err (by omega) (by omega) (by omega) (by omega) (by omega) (by omega) (by omega) (by omega) (by omega) (by omega) (by omega) (by omega) (by omega) (by omega) (by omega) (by omega) (by omega) (by omega) (by omega) (by omega) (by omega) (by omega)
  have n1' := sArmNotes (1 + p + 200 + q) ((1 + p + 200 + q + n) % 86400) y (200 + q) (70000 + p) (by omega) (by omega) (by omega) (by omega) (by omega) (by omega) (by omega) (by omega)
  have p1' := sPubWire
  have p2' := sPubTowns
  have t1 := sSpanZ (y - 30) (y + 30)
  have t2 := sSpanZ o o
  have t3 := sSpanZ n n
  have t4 := sSpanZ y y
  by_cases hw : 1 + p ≤ 200
  · have hm : ¬ 1 < 1 + p - 200 := by omega
    have hm2 : p.tmod 1 = 0 := Int.tmod_one p
    by_cases hno : n = o
    · subst hno
      have f2 := arm_nobody ok2 (by simp [clkW]) (by rw [arm_clk]; unfold within1; simp; omega)
      simp only [slSr, slN, cZt] at *
      generalize (armW (clkW n n 0 0)).map rowSr = W at *
      generalize (armN (1 + p + 200 + q - y) ((1 + p + 200 + q + n) % 86400 % 43200) y (200 + q) (70000 + p)).map rowN = N1 at *
      generalize (oneZ n (1 + p) n).ch.map rowC = ch at *
      generalize (oneZ n (1 + p) n).off = zo at *
      (repeat' (first | ((first | with_reducible refine st_skip ?_ | with_reducible refine st_exit ?_); (try simp only [seqQ, blockQ, loopQ, forQ, whileQ, reduceIte, Nat.reduceEqDiff])) | (with_reducible refine st_ret ?_; ((try simp only [seqQ, blockQ, loopQ, forQ, whileQ]); first | (with_reducible refine retM_ret ?_) | refine retQ_ret ?_; simp [hao, hbn, hw, hm, hm2, maxF])) | refine st_seq ?_ | refine st_block ?_ | ((with_reducible show (STri _ _ _ _ _) ∧ (STri _ _ _ _ _)); refine And.intro ?_ ?_) | ((first | refine st_reg ?_ | refine buildP_own ?_ | refine appP_own ?_ | refine callP_b (sat) rfl ?_ | refine callP_b (t1) rfl ?_ | refine callP_b (sl) rfl ?_ | refine callP_b (t2) rfl ?_ | refine callP_b (sw) rfl ?_ | refine callP_b (t4) rfl ?_ | refine callP_b (n1') rfl ?_ | refine callP_b (f1) rfl ?_ | refine callP_b (f2) rfl ?_ | refine callP_b (p1') rfl ?_ | refine callP_b (p2') rfl ?_) <;> (simp -dsimp [hao, hbn, hw, hm, hm2, maxF]; (repeat (simp -dsimp (disch := (first | omega | assumption | (refine Bool.eq_false_iff.1 ?_; assumption))) only [wrap_in, if_pos, if_neg]; (try simp -dsimp [hao, hbn, hw, hm, hm2, maxF]))))) | ((first | refine guardP_of (fun hc => ?_) (fun hc => ?_) | refine st_cond rfl (fun hc => ?_) (fun hc => ?_)) <;> (try simp only [lqA, lqB, lqC, lqD, lqE, lqF, lqG, lqH, lqI, lqJ, lqK, lqL, lqM, lqN, lqO] at hc) <;> (try (exfalso; first | omega | exact bool_tf hc (by assumption) | exact bool_ft hc (by assumption) | exact absurd (by assumption) hc)) <;> (first | with_reducible show STri _ _ _ _ _ _ | (simp -dsimp [hao, hbn, hw, hm, hm2, maxF, hc]; (repeat (simp -dsimp (disch := (first | omega | assumption | (refine Bool.eq_false_iff.1 ?_; assumption))) only [wrap_in, if_pos, if_neg]; (try simp -dsimp [hao, hbn, hw, hm, hm2, maxF, hc]))))))))
      all_goals exact .refl _
    · have f2 := arm_convict ok2 (by simp [clkW]) (by rw [arm_clk]; unfold within1; simp; omega)
      simp only [slSr, slN, cZt] at *
      generalize (armW (clkW o o 0 0)).map rowSr = W at *
      generalize (armW (clkW n n 0 0)).map rowSr = W2 at *
      generalize (armN (1 + p + 200 + q - y) ((1 + p + 200 + q + n) % 86400 % 43200) y (200 + q) (70000 + p)).map rowN = N1 at *
      generalize (oneZ o (1 + p) n).ch.map rowC = ch at *
      generalize (oneZ o (1 + p) n).off = zo at *
      (repeat' (first | ((first | with_reducible refine st_skip ?_ | with_reducible refine st_exit ?_); (try simp only [seqQ, blockQ, loopQ, forQ, whileQ, reduceIte, Nat.reduceEqDiff])) | (with_reducible refine st_ret ?_; ((try simp only [seqQ, blockQ, loopQ, forQ, whileQ]); first | (with_reducible refine retM_ret ?_) | refine retQ_ret ?_; simp [hao, hbn, hw, hm, hm2, hno, maxF])) | refine st_seq ?_ | refine st_block ?_ | ((with_reducible show (STri _ _ _ _ _) ∧ (STri _ _ _ _ _)); refine And.intro ?_ ?_) | ((first | refine st_reg ?_ | refine buildP_own ?_ | refine appP_own ?_ | refine callP_b (sat) rfl ?_ | refine callP_b (t1) rfl ?_ | refine callP_b (sl) rfl ?_ | refine callP_b (t2) rfl ?_ | refine callP_b (sw) rfl ?_ | refine callP_b (t3) rfl ?_ | refine callP_b (sv) rfl ?_ | refine callP_b (t4) rfl ?_ | refine callP_b (n1') rfl ?_ | refine callP_b (f1) rfl ?_ | refine callP_b (f2) rfl ?_ | refine callP_b (p1') rfl ?_ | refine callP_b (p2') rfl ?_) <;> (simp -dsimp [hao, hbn, hw, hm, hm2, hno, maxF]; (repeat (simp -dsimp (disch := (first | omega | assumption | (refine Bool.eq_false_iff.1 ?_; assumption))) only [wrap_in, if_pos, if_neg]; (try simp -dsimp [hao, hbn, hw, hm, hm2, hno, maxF]))))) | ((first | refine guardP_of (fun hc => ?_) (fun hc => ?_) | refine st_cond rfl (fun hc => ?_) (fun hc => ?_)) <;> (try simp only [lqA, lqB, lqC, lqD, lqE, lqF, lqG, lqH, lqI, lqJ, lqK, lqL, lqM, lqN, lqO] at hc) <;> (try (exfalso; first | omega | exact bool_tf hc (by assumption) | exact bool_ft hc (by assumption) | exact absurd (by assumption) hc)) <;> (first | with_reducible show STri _ _ _ _ _ _ | (simp -dsimp [hao, hbn, hw, hm, hm2, hno, maxF, hc]; (repeat (simp -dsimp (disch := (first | omega | assumption | (refine Bool.eq_false_iff.1 ?_; assumption))) only [wrap_in, if_pos, if_neg]; (try simp -dsimp [hao, hbn, hw, hm, hm2, hno, maxF, hc]))))))))
      all_goals exact .refl _
  · obtain ⟨x, x0, x1, hx⟩ : ∃ x : Int, 0 ≤ x ∧ x < 1 + p - 200 ∧ ((1 < 1 + p - 200 ∧ p.tmod (1 + p - 200) = x) ∨ (¬ 1 < 1 + p - 200 ∧ p.tmod 1 = x)) := by
      by_cases hm : 1 < 1 + p - 200
      · refine ⟨p % (1 + p - 200), Int.emod_nonneg p (by omega), Int.emod_lt_of_pos p (by omega), .inl ⟨hm, Int.tmod_eq_emod_of_nonneg p0⟩⟩
      · exact ⟨0, by omega, by omega, .inr ⟨hm, Int.tmod_one p⟩⟩
    have sb := says_before hz (t := 200 + x) (by omega) (by omega) (by omega)
    have w3 := Int.emod_nonneg (200 + x + o) (show (86400 : Int) ≠ 0 by omega)
    have w4 := Int.emod_lt_of_pos (200 + x + o) (show (0 : Int) < 86400 by omega)
    have ok0 : ArmOk (clkW o o 0 0) (200 + x - y) ((200 + x + o) % 86400 % 43200) y (200 + q) (70000 + p) (y - 30) (y + 30) := arm_err (by omega) (by omega) (by omega) (by omega) (by omega) (by omega) (by omega) (by omega) (by omega) (by omega) (by omega) (by omega) (by omega) (by omega) (by omega) (by omega) (by omega) (by omega) (by omega) (by omega) (by omega) (by omega)
    have f0 := arm_fits ok0 (by simp [clkW]) (by rw [arm_clk]; unfold within1; simp; omega)
    have n0' := sArmNotes (200 + x) ((200 + x + o) % 86400) y (200 + q) (70000 + p) (by omega) (by omega) (by omega) (by omega) (by omega) (by omega) (by omega) (by omega)
    by_cases hno : n = o
    · subst hno
      have f2 := arm_nobody ok2 (by simp [clkW]) (by rw [arm_clk]; unfold within1; simp; omega)
      simp only [slSr, slN, cZt] at *
      generalize (armW (clkW n n 0 0)).map rowSr = W at *
      generalize (armN (1 + p + 200 + q - y) ((1 + p + 200 + q + n) % 86400 % 43200) y (200 + q) (70000 + p)).map rowN = N1 at *
      generalize (armN (200 + x - y) ((200 + x + n) % 86400 % 43200) y (200 + q) (70000 + p)).map rowN = N0 at *
      generalize (oneZ n (1 + p) n).ch.map rowC = ch at *
      generalize (oneZ n (1 + p) n).off = zo at *
      rcases hx with ⟨hm, hm2⟩ | ⟨hm, hm2⟩
      · (repeat' (first | ((first | with_reducible refine st_skip ?_ | with_reducible refine st_exit ?_); (try simp only [seqQ, blockQ, loopQ, forQ, whileQ, reduceIte, Nat.reduceEqDiff])) | (with_reducible refine st_ret ?_; ((try simp only [seqQ, blockQ, loopQ, forQ, whileQ]); first | (with_reducible refine retM_ret ?_) | refine retQ_ret ?_; simp [hao, hbn, hw, hm, hm2, maxF])) | refine st_seq ?_ | refine st_block ?_ | ((with_reducible show (STri _ _ _ _ _) ∧ (STri _ _ _ _ _)); refine And.intro ?_ ?_) | ((first | refine st_reg ?_ | refine buildP_own ?_ | refine appP_own ?_ | refine callP_b (sat) rfl ?_ | refine callP_b (t1) rfl ?_ | refine callP_b (sb) rfl ?_ | refine callP_b (sl) rfl ?_ | refine callP_b (t2) rfl ?_ | refine callP_b (sw) rfl ?_ | refine callP_b (t4) rfl ?_ | refine callP_b (n0') rfl ?_ | refine callP_b (n1') rfl ?_ | refine callP_b (f0) rfl ?_ | refine callP_b (f1) rfl ?_ | refine callP_b (f2) rfl ?_ | refine callP_b (p1') rfl ?_ | refine callP_b (p2') rfl ?_) <;> (simp -dsimp [hao, hbn, hw, hm, hm2, maxF]; (repeat (simp -dsimp (disch := (first | omega | assumption | (refine Bool.eq_false_iff.1 ?_; assumption))) only [wrap_in, if_pos, if_neg]; (try simp -dsimp [hao, hbn, hw, hm, hm2, maxF]))))) | ((first | refine guardP_of (fun hc => ?_) (fun hc => ?_) | refine st_cond rfl (fun hc => ?_) (fun hc => ?_)) <;> (try simp only [lqA, lqB, lqC, lqD, lqE, lqF, lqG, lqH, lqI, lqJ, lqK, lqL, lqM, lqN, lqO] at hc) <;> (try (exfalso; first | omega | exact bool_tf hc (by assumption) | exact bool_ft hc (by assumption) | exact absurd (by assumption) hc)) <;> (first | with_reducible show STri _ _ _ _ _ _ | (simp -dsimp [hao, hbn, hw, hm, hm2, maxF, hc]; (repeat (simp -dsimp (disch := (first | omega | assumption | (refine Bool.eq_false_iff.1 ?_; assumption))) only [wrap_in, if_pos, if_neg]; (try simp -dsimp [hao, hbn, hw, hm, hm2, maxF, hc]))))))))
        all_goals exact .refl _
      · (repeat' (first | ((first | with_reducible refine st_skip ?_ | with_reducible refine st_exit ?_); (try simp only [seqQ, blockQ, loopQ, forQ, whileQ, reduceIte, Nat.reduceEqDiff])) | (with_reducible refine st_ret ?_; ((try simp only [seqQ, blockQ, loopQ, forQ, whileQ]); first | (with_reducible refine retM_ret ?_) | refine retQ_ret ?_; simp [hao, hbn, hw, hm, hm2, maxF])) | refine st_seq ?_ | refine st_block ?_ | ((with_reducible show (STri _ _ _ _ _) ∧ (STri _ _ _ _ _)); refine And.intro ?_ ?_) | ((first | refine st_reg ?_ | refine buildP_own ?_ | refine appP_own ?_ | refine callP_b (sat) rfl ?_ | refine callP_b (t1) rfl ?_ | refine callP_b (sb) rfl ?_ | refine callP_b (sl) rfl ?_ | refine callP_b (t2) rfl ?_ | refine callP_b (sw) rfl ?_ | refine callP_b (t4) rfl ?_ | refine callP_b (n0') rfl ?_ | refine callP_b (n1') rfl ?_ | refine callP_b (f0) rfl ?_ | refine callP_b (f1) rfl ?_ | refine callP_b (f2) rfl ?_ | refine callP_b (p1') rfl ?_ | refine callP_b (p2') rfl ?_) <;> (simp -dsimp [hao, hbn, hw, hm, hm2, maxF]; (repeat (simp -dsimp (disch := (first | omega | assumption | (refine Bool.eq_false_iff.1 ?_; assumption))) only [wrap_in, if_pos, if_neg]; (try simp -dsimp [hao, hbn, hw, hm, hm2, maxF]))))) | ((first | refine guardP_of (fun hc => ?_) (fun hc => ?_) | refine st_cond rfl (fun hc => ?_) (fun hc => ?_)) <;> (try simp only [lqA, lqB, lqC, lqD, lqE, lqF, lqG, lqH, lqI, lqJ, lqK, lqL, lqM, lqN, lqO] at hc) <;> (try (exfalso; first | omega | exact bool_tf hc (by assumption) | exact bool_ft hc (by assumption) | exact absurd (by assumption) hc)) <;> (first | with_reducible show STri _ _ _ _ _ _ | (simp -dsimp [hao, hbn, hw, hm, hm2, maxF, hc]; (repeat (simp -dsimp (disch := (first | omega | assumption | (refine Bool.eq_false_iff.1 ?_; assumption))) only [wrap_in, if_pos, if_neg]; (try simp -dsimp [hao, hbn, hw, hm, hm2, maxF, hc]))))))))
        all_goals exact .refl _
    · have f2 := arm_convict ok2 (by simp [clkW]) (by rw [arm_clk]; unfold within1; simp; omega)
      simp only [slSr, slN, cZt] at *
      generalize (armW (clkW o o 0 0)).map rowSr = W at *
      generalize (armW (clkW n n 0 0)).map rowSr = W2 at *
      generalize (armN (1 + p + 200 + q - y) ((1 + p + 200 + q + n) % 86400 % 43200) y (200 + q) (70000 + p)).map rowN = N1 at *
      generalize (armN (200 + x - y) ((200 + x + o) % 86400 % 43200) y (200 + q) (70000 + p)).map rowN = N0 at *
      generalize (oneZ o (1 + p) n).ch.map rowC = ch at *
      generalize (oneZ o (1 + p) n).off = zo at *
      rcases hx with ⟨hm, hm2⟩ | ⟨hm, hm2⟩
      · (repeat' (first | ((first | with_reducible refine st_skip ?_ | with_reducible refine st_exit ?_); (try simp only [seqQ, blockQ, loopQ, forQ, whileQ, reduceIte, Nat.reduceEqDiff])) | (with_reducible refine st_ret ?_; ((try simp only [seqQ, blockQ, loopQ, forQ, whileQ]); first | (with_reducible refine retM_ret ?_) | refine retQ_ret ?_; simp [hao, hbn, hw, hm, hm2, hno, maxF])) | refine st_seq ?_ | refine st_block ?_ | ((with_reducible show (STri _ _ _ _ _) ∧ (STri _ _ _ _ _)); refine And.intro ?_ ?_) | ((first | refine st_reg ?_ | refine buildP_own ?_ | refine appP_own ?_ | refine callP_b (sat) rfl ?_ | refine callP_b (t1) rfl ?_ | refine callP_b (sb) rfl ?_ | refine callP_b (sl) rfl ?_ | refine callP_b (t2) rfl ?_ | refine callP_b (sw) rfl ?_ | refine callP_b (t3) rfl ?_ | refine callP_b (sv) rfl ?_ | refine callP_b (t4) rfl ?_ | refine callP_b (n0') rfl ?_ | refine callP_b (n1') rfl ?_ | refine callP_b (f0) rfl ?_ | refine callP_b (f1) rfl ?_ | refine callP_b (f2) rfl ?_ | refine callP_b (p1') rfl ?_ | refine callP_b (p2') rfl ?_) <;> (simp -dsimp [hao, hbn, hw, hm, hm2, hno, maxF]; (repeat (simp -dsimp (disch := (first | omega | assumption | (refine Bool.eq_false_iff.1 ?_; assumption))) only [wrap_in, if_pos, if_neg]; (try simp -dsimp [hao, hbn, hw, hm, hm2, hno, maxF]))))) | ((first | refine guardP_of (fun hc => ?_) (fun hc => ?_) | refine st_cond rfl (fun hc => ?_) (fun hc => ?_)) <;> (try simp only [lqA, lqB, lqC, lqD, lqE, lqF, lqG, lqH, lqI, lqJ, lqK, lqL, lqM, lqN, lqO] at hc) <;> (try (exfalso; first | omega | exact bool_tf hc (by assumption) | exact bool_ft hc (by assumption) | exact absurd (by assumption) hc)) <;> (first | with_reducible show STri _ _ _ _ _ _ | (simp -dsimp [hao, hbn, hw, hm, hm2, hno, maxF, hc]; (repeat (simp -dsimp (disch := (first | omega | assumption | (refine Bool.eq_false_iff.1 ?_; assumption))) only [wrap_in, if_pos, if_neg]; (try simp -dsimp [hao, hbn, hw, hm, hm2, hno, maxF, hc]))))))))
        all_goals exact .refl _
      · (repeat' (first | ((first | with_reducible refine st_skip ?_ | with_reducible refine st_exit ?_); (try simp only [seqQ, blockQ, loopQ, forQ, whileQ, reduceIte, Nat.reduceEqDiff])) | (with_reducible refine st_ret ?_; ((try simp only [seqQ, blockQ, loopQ, forQ, whileQ]); first | (with_reducible refine retM_ret ?_) | refine retQ_ret ?_; simp [hao, hbn, hw, hm, hm2, hno, maxF])) | refine st_seq ?_ | refine st_block ?_ | ((with_reducible show (STri _ _ _ _ _) ∧ (STri _ _ _ _ _)); refine And.intro ?_ ?_) | ((first | refine st_reg ?_ | refine buildP_own ?_ | refine appP_own ?_ | refine callP_b (sat) rfl ?_ | refine callP_b (t1) rfl ?_ | refine callP_b (sb) rfl ?_ | refine callP_b (sl) rfl ?_ | refine callP_b (t2) rfl ?_ | refine callP_b (sw) rfl ?_ | refine callP_b (t3) rfl ?_ | refine callP_b (sv) rfl ?_ | refine callP_b (t4) rfl ?_ | refine callP_b (n0') rfl ?_ | refine callP_b (n1') rfl ?_ | refine callP_b (f0) rfl ?_ | refine callP_b (f1) rfl ?_ | refine callP_b (f2) rfl ?_ | refine callP_b (p1') rfl ?_ | refine callP_b (p2') rfl ?_) <;> (simp -dsimp [hao, hbn, hw, hm, hm2, hno, maxF]; (repeat (simp -dsimp (disch := (first | omega | assumption | (refine Bool.eq_false_iff.1 ?_; assumption))) only [wrap_in, if_pos, if_neg]; (try simp -dsimp [hao, hbn, hw, hm, hm2, hno, maxF]))))) | ((first | refine guardP_of (fun hc => ?_) (fun hc => ?_) | refine st_cond rfl (fun hc => ?_) (fun hc => ?_)) <;> (try simp only [lqA, lqB, lqC, lqD, lqE, lqF, lqG, lqH, lqI, lqJ, lqK, lqL, lqM, lqN, lqO] at hc) <;> (try (exfalso; first | omega | exact bool_tf hc (by assumption) | exact bool_ft hc (by assumption) | exact absurd (by assumption) hc)) <;> (first | with_reducible show STri _ _ _ _ _ _ | (simp -dsimp [hao, hbn, hw, hm, hm2, hno, maxF, hc]; (repeat (simp -dsimp (disch := (first | omega | assumption | (refine Bool.eq_false_iff.1 ?_; assumption))) only [wrap_in, if_pos, if_neg]; (try simp -dsimp [hao, hbn, hw, hm, hm2, hno, maxF, hc]))))))))
        all_goals exact .refl _
end Go.Proofs.YtboifcengmgcaaaGreat
/- From a contract by value to a given statement: arguments of plain types are opened, and read again behind the call. -/
namespace Go.Proofs.YtboifcengmgcaaaGreat
open Go.RowKit Go.ChangeShapes Go.WideShapes
section
variable {P : Program}
def tyF (P : Program) (r : TypeId → List CV → Prop) : List Field → List CV → Prop
  | [], cs => cs = []
  | f :: fs, cs => ∃ c1 c2, cs = c1 ++ c2 ∧ r f.type c1 ∧ tyF P r fs c2
def tyA (r : List CV → Prop) : Nat → List CV → Prop
  | 0, cs => cs = []
  | n + 1, cs => ∃ c1 c2, cs = c1 ++ c2 ∧ r c1 ∧ tyA r n c2
def tyC (P : Program) : Nat → TypeId → List CV → Prop
  | 0, _, _ => False
  | d + 1, t, cs => match P.underlying t with
    | some .bool => ∃ b, cs = [.val (.bool b)]
    | some (.int k) => ∃ n, cs = [.val (.int k n)] ∧ (Lit.int k n).wf = true
    | some (.slice e) => ∃ rows, cs = [.sl (P.cellsOf e) rows] ∧ rows.length ≤ maxLen ∧ ∀ row ∈ rows, tyC P d e row
    | some (.struct fs) => tyF P (tyC P d) fs.toList cs
    | some (.array n e) => tyA (tyC P d e) n cs
    | _ => False
theorem tyC_int {d : Nat} {t : TypeId} {k : IntKind} {cs : List CV} (hu : P.underlying t = some (.int k)) (h : tyC P d t cs) : ∃ n, cs = [.val (.int k n)] ∧ (Lit.int k n).wf = true := by
  cases d with
  | zero => exact h.elim
  | succ d => unfold tyC at h; rw [hu] at h; exact h
theorem tyC_array {d : Nat} {t e : TypeId} {n : Nat} {cs : List CV} (hu : P.underlying t = some (.array n e)) (h : tyC P d t cs) : ∃ d', tyA (tyC P d' e) n cs := by
  cases d with
  | zero => exact h.elim
  | succ d => unfold tyC at h; rw [hu] at h; exact ⟨d, h⟩
theorem agg_cells {v : Value} (h : v.cells.size ≠ 1) : v = .agg v.cells := by
  cases v <;> first | rfl | (exact absurd rfl h)
def tileB (P : Program) : List Field → Nat → Nat → Bool
  | [], acc, n => acc == n
  | f :: fs, acc, n => f.offset == acc && tileB P fs (acc + P.cellsOf f.type) n
def plainB (P : Program) : Nat → TypeId → Bool
  | 0, _ => false
  | d + 1, t => match P.underlying t with
    | some .bool => P.cellsOf t == 1
    | some (.int _) => P.cellsOf t == 1
    | some (.slice e) => P.cellsOf t == 1 && decide (0 < P.cellsOf e) && plainB P d e
    | some (.struct fs) => tileB P fs.toList 0 (P.cellsOf t) && fs.toList.all fun f => plainB P d f.type
    | some (.array n e) => P.cellsOf t == n * P.cellsOf e && plainB P d e
    | _ => false
theorem tile_le : ∀ {fs : List Field} {acc n : Nat}, tileB P fs acc n = true → acc ≤ n
  | [], _, _, h => by simp [tileB] at h; omega
  | f :: fs, acc, n, h => by
    simp only [tileB, Bool.and_eq_true] at h
    have := tile_le h.2
    omega
theorem tyF_len {fs : List Field} {r : TypeId → List CV → Prop} (hr : ∀ (f : Field) c, f ∈ fs → r f.type c → c.length = P.cellsOf f.type ∧ c.all CV.one = true) : ∀ {fs' : List Field}, (∀ f ∈ fs', f ∈ fs) → ∀ {acc n : Nat} {cs : List CV}, tileB P fs' acc n = true → tyF P r fs' cs → acc + cs.length = n ∧ cs.all CV.one = true
  | [], _, acc, n, cs, ht, h => by simp [tileB] at ht; simp [tyF] at h; subst h; simp [ht]
  | f :: fs', hm, acc, n, cs, ht, h => by
    simp only [tileB, Bool.and_eq_true] at ht
    obtain ⟨c1, c2, rfl, h1, h2⟩ := h
    obtain ⟨l1, o1⟩ := hr f c1 (hm f (by simp)) h1
    obtain ⟨l2, o2⟩ := tyF_len hr (fun g hg => hm g (by simp [hg])) ht.2 h2
    rw [List.length_append, List.all_append, o1, o2]
    exact ⟨by omega, rfl⟩
theorem tyA_len {r : List CV → Prop} {k : Nat} (hr : ∀ c, r c → c.length = k ∧ c.all CV.one = true) : ∀ {n : Nat} {cs : List CV}, tyA r n cs → cs.length = n * k ∧ cs.all CV.one = true
  | 0, cs, h => by simp [tyA] at h; subst h; simp
  | n + 1, cs, h => by
    obtain ⟨c1, c2, rfl, h1, h2⟩ := h
    obtain ⟨l1, o1⟩ := hr c1 h1
    obtain ⟨l2, o2⟩ := tyA_len hr h2
    rw [List.length_append, List.all_append, o1, o2, l1, l2, Nat.succ_mul]
    exact ⟨by omega, rfl⟩
theorem tyC_len : ∀ {d : Nat} {t : TypeId} {cs : List CV}, plainB P d t = true → tyC P d t cs → cs.length = P.cellsOf t ∧ cs.all CV.one = true
  | 0, _, _, hp, _ => by simp [plainB] at hp
  | d + 1, t, cs, hp, h => by
    unfold plainB at hp
    unfold tyC at h
    split at hp <;> rename_i hu
    · rw [hu] at h; obtain ⟨b, rfl⟩ := h; simp at hp; simp [hp, CV.one]
    · rw [hu] at h; obtain ⟨n, rfl, _⟩ := h; simp at hp; simp [hp, CV.one]
    · rw [hu] at h; obtain ⟨rows, rfl, _⟩ := h; simp at hp; simp [hp.1.1, CV.one]
    · rw [hu] at h
      simp only [Bool.and_eq_true, List.all_eq_true] at hp
      obtain ⟨l, o⟩ := tyF_len (P := P) (fun f c hf hc => tyC_len (hp.2 f hf) hc) (fun f hf => hf) hp.1 h
      exact ⟨by omega, o⟩
    · rw [hu] at h
      simp only [Bool.and_eq_true, beq_iff_eq] at hp
      obtain ⟨l, o⟩ := tyA_len (fun c hc => tyC_len hp.2 hc) h
      exact ⟨by rw [l, hp.1], o⟩
    · simp at hp
def RCs (w : World) (cs : List CV) (vs : List Value) : Prop := cs.length = vs.length ∧ ∀ (i : Nat) x v, cs[i]? = some x → vs[i]? = some v → RepC w (fun _ => False) x v
theorem RCs.append {w : World} {a b : List CV} {c d : List Value} (h : RCs w a c) (k : RCs w b d) : RCs w (a ++ b) (c ++ d) := by
  refine ⟨by rw [List.length_append, List.length_append, h.1, k.1], fun i x v hx hv => ?_⟩
  rw [List.getElem?_append] at hx hv
  rw [← h.1] at hv
  split at hx
  · rename_i hi; rw [if_pos hi] at hv; exact h.2 i x v hx hv
  · rename_i hi; rw [if_neg hi] at hv; exact k.2 _ x v hx hv
theorem RCs.one {w : World} {x : CV} {v : Value} (h : RepC w (fun _ => False) x v) : RCs w [x] [v] := ⟨rfl, fun i y u hx hv => by
  cases i with
  | zero => cases hx; cases hv; exact h
  | succ i => simp at hx⟩
section
variable {H : Type} {enc : TypeId × Value → H} {w : World} {spare : Nat → Bool} {held : Bool}
theorem cell_at {w : World} {a : Addr} {k len i j : Nat} {vr : List Value} (ha : a.spot = none) (h : w.cells? 0 (a.add (i * k)) k = some vr) (hj : j < k) : w.cell? ⟨a.block, a.off + i * k + j, none⟩ = vr[j]? := by
  obtain ⟨_, _, h3⟩ := World.cells?_some h
  rw [← h3 j hj]
  have e : ∀ m : Nat, a.add m = ⟨a.block, a.off + m, none⟩ := fun m => by
    unfold Addr.add
    split
    · rename_i h0; subst h0; cases a; simp at ha; simp [ha]
    · rfl
  rw [e]
  unfold Addr.add
  split
  · rename_i h0; subst h0; rfl
  · rfl
theorem open_tyC : ∀ {d n : Nat} {t : TypeId} {vs : List Value} {x : DataW H × List MemPlace}, plainB P d t = true → DataW.trod enc P w 0 spare held n t vs = some x → ∃ cs, tyC P d t cs ∧ RCs w cs vs
  | 0, _, _, _, _, hp, _ => by simp [plainB] at hp
  | d + 1, n, t, vs, x, hp, h => by
    unfold plainB at hp
    split at hp <;> rename_i hu
    · obtain ⟨b, rfl, _⟩ := DataW.trod_bool hu h
      exact ⟨[.val (.bool b)], by unfold tyC; rw [hu]; exact ⟨b, rfl⟩, .one (.val _)⟩
    · rename_i k
      obtain ⟨m, rfl, _, hw⟩ := DataW.trod_int hu h
      exact ⟨[.val (.int k m)], by unfold tyC; rw [hu]; exact ⟨m, rfl, hw⟩, .one (.val _)⟩
    · rename_i e
      simp only [Bool.and_eq_true, beq_iff_eq, decide_eq_true_eq] at hp
      obtain ⟨⟨_, hk⟩, hpe⟩ := hp
      rcases DataW.trod_slice hu h with ⟨rfl, _⟩ | ⟨a, len, cap, elems, rest, m, _, rfl, _, _, hl, hm, hlen, hel, _⟩
      · exact ⟨[.sl (P.cellsOf e) []], by unfold tyC; rw [hu]; exact ⟨[], rfl, Nat.zero_le _, by simp⟩, .one (.nil _ none 0 (Nat.zero_le _))⟩
      · have hrow : ∀ i, i < len → ∃ vr cr, w.cells? 0 (a.add (i * P.cellsOf e)) (P.cellsOf e) = some vr ∧ tyC P d e cr ∧ RCs w cr vr := fun i hi => by
          have h1 := hel i hi
          rw [List.getElem?_eq_getElem (by omega)] at h1
          obtain ⟨vr, h2, h3⟩ := Option.bind_eq_some_iff.1 h1
          obtain ⟨cr, h4, h5⟩ := open_tyC hpe h3
          exact ⟨vr, cr, h2, h4, h5⟩
        by_cases h0 : len = 0
        · subst h0
          exact ⟨[.sl (P.cellsOf e) []], by unfold tyC; rw [hu]; exact ⟨[], rfl, Nat.zero_le _, by simp⟩, .one (.nil _ (some a) cap hm)⟩
        have hch : ∃ (V : Nat → List Value) (C : Nat → List CV), ∀ i, i < len → w.cells? 0 (a.add (i * P.cellsOf e)) (P.cellsOf e) = some (V i) ∧ tyC P d e (C i) ∧ RCs w (C i) (V i) := by
          refine ⟨fun i => if h : i < len then Classical.choose (hrow i h) else [], fun i => if h : i < len then Classical.choose (Classical.choose_spec (hrow i h)) else [], fun i hi => ?_⟩
          simp only [dif_pos hi]
          exact Classical.choose_spec (Classical.choose_spec (hrow i hi))
        obtain ⟨V, C, hVC⟩ := hch
        have hfirst := hVC 0 (by omega)
        have hsp : a.spot = none := by
          obtain ⟨_, l1, h3⟩ := World.cells?_some hfirst.1
          have h4 := h3 0 hk
          rw [List.getElem?_eq_getElem (by omega)] at h4
          simp only [Nat.zero_mul, Addr.add, if_true] at h4
          unfold World.cell? at h4
          split at h4
          · split at h4
            · cases h4
            · rename_i hs; simpa using hs
          · cases h4
        have hblk : a.block < w.heap.size := by
          have := World.cells?_block hfirst.1 hk
          simpa [Addr.add] using this
        have hlenC : ∀ i, i < len → (C i).length = P.cellsOf e ∧ (C i).all CV.one = true := fun i hi => tyC_len hpe (hVC i hi).2.1
        have hget : ∀ (j : Nat) row, ((List.range len).map C)[j]? = some row → j < len ∧ row = C j := fun j row hj => by
          rw [List.getElem?_map] at hj
          obtain ⟨i, hi, rfl⟩ := Option.map_eq_some_iff.1 hj
          obtain ⟨h1, h2⟩ := List.getElem?_eq_some_iff.1 hi
          simp at h1 h2; subst h2; exact ⟨h1, rfl⟩
        have hsl := RepC.sl (w := w) (N := fun _ => False) (P.cellsOf e) ((List.range len).map C) a.block a.off cap (fun j i => ((V j)[i]?).getD undef) (by simpa using hl) hm hblk (fun h => h) (fun j row hj => by obtain ⟨h1, rfl⟩ := hget j row hj; exact hlenC j h1) (fun j row i y hj hy => by
            obtain ⟨h1, rfl⟩ := hget j row hj
            obtain ⟨q1, q2, q3⟩ := hVC j h1
            have hik : i < P.cellsOf e := by rw [← (hlenC j h1).1]; exact (List.getElem?_eq_some_iff.1 hy).1
            rw [cell_at (len := len) hsp q1 hik]
            have : i < (V j).length := by rw [← q3.1, (hlenC j h1).1]; exact hik
            rw [List.getElem?_eq_getElem this]; rfl) (fun j row i y hj hy => by
            obtain ⟨h1, rfl⟩ := hget j row hj
            obtain ⟨q1, q2, q3⟩ := hVC j h1
            have hik : i < P.cellsOf e := by rw [← (hlenC j h1).1]; exact (List.getElem?_eq_some_iff.1 hy).1
            have : i < (V j).length := by rw [← q3.1, (hlenC j h1).1]; exact hik
            refine q3.2 i y _ hy ?_
            rw [List.getElem?_eq_getElem this]; rfl)
        have ea : a = ⟨a.block, a.off, none⟩ := by cases a; simp at hsp; simp [hsp]
        rw [List.length_map, List.length_range, ← ea] at hsl
        have hrows : ∀ row ∈ (List.range len).map C, tyC P d e row := fun row hr => by
          obtain ⟨i, hi, rfl⟩ := List.mem_map.1 hr
          exact (hVC i (by simpa using hi)).2.1
        exact ⟨[.sl (P.cellsOf e) ((List.range len).map C)], by unfold tyC; rw [hu]; exact ⟨_, rfl, by simp; omega, hrows⟩, .one hsl⟩
    · rename_i fs
      simp only [Bool.and_eq_true, List.all_eq_true] at hp
      obtain ⟨xs, m, _, _, hlen, _, hf⟩ := DataW.trod_struct hu h
      have key : ∀ (fs' : List Field) (acc : Nat), (∀ f ∈ fs', plainB P d f.type = true ∧ ∃ y, DataW.trod enc P w 0 spare held m f.type ((vs.drop f.offset).take (P.cellsOf f.type)) = some y) → tileB P fs' acc (P.cellsOf t) = true → acc ≤ P.cellsOf t → ∃ cs, tyF P (tyC P d) fs' cs ∧ RCs w cs (vs.drop acc) := by
        intro fs'
        induction fs' with
        | nil =>
          intro acc _ ht _
          simp [tileB] at ht
          exact ⟨[], by simp [tyF], by constructor <;> simp [← hlen, ht] <;> omega⟩
        | cons f fs' ih =>
          intro acc hall ht hacc
          simp only [tileB, Bool.and_eq_true, beq_iff_eq] at ht
          obtain ⟨hpf, y, hy⟩ := hall f (by simp)
          obtain ⟨c1, t1, r1⟩ := open_tyC hpf hy
          have hlt := tile_le ht.2
          obtain ⟨c2, t2, r2⟩ := ih (acc + P.cellsOf f.type) (fun g hg => hall g (by simp [hg])) ht.2 hlt
          refine ⟨c1 ++ c2, ⟨c1, c2, rfl, t1, t2⟩, ?_⟩
          rw [ht.1] at r1
          have e : vs.drop acc = (vs.drop acc).take (P.cellsOf f.type) ++ vs.drop (acc + P.cellsOf f.type) := by rw [← List.drop_drop, List.take_append_drop]
          rw [e]; exact r1.append r2
      obtain ⟨cs, h1, h2⟩ := key fs.toList 0 (fun f hf' => by
        refine ⟨hp.2 f hf', ?_⟩
        obtain ⟨i, hi, he⟩ := List.getElem_of_mem hf'
        have := hf i f (by simp at hi; simp at he; simp [← he, hi])
        have hxl : i < xs.length := by simp at hi; omega
        rw [List.getElem?_eq_getElem hxl] at this
        exact ⟨_, this⟩) hp.1 (Nat.zero_le _)
      exact ⟨cs, by unfold tyC; rw [hu]; exact h1, by simpa using h2⟩
    · rename_i k e
      simp only [Bool.and_eq_true, beq_iff_eq] at hp
      obtain ⟨xs, m, _, _, hlen, hxs, hf⟩ := DataW.trod_array hu h
      have key : ∀ (r i : Nat), i + r = k → ∃ cs, tyA (tyC P d e) r cs ∧ RCs w cs (vs.drop (i * P.cellsOf e)) := by
        intro r
        induction r with
        | zero =>
          intro i hi
          have : vs.length ≤ i * P.cellsOf e := by rw [hlen, hp.1]; have : i = k := by omega
                                                   subst this; exact Nat.le_refl _
          exact ⟨[], by simp [tyA], by rw [List.drop_of_length_le this]; constructor <;> simp⟩
        | succ r ih =>
          intro i hi
          have h1 := hf i (by omega)
          rw [List.getElem?_eq_getElem (by omega)] at h1
          obtain ⟨c1, t1, r1⟩ := open_tyC hp.2 h1
          obtain ⟨c2, t2, r2⟩ := ih (i + 1) (by omega)
          refine ⟨c1 ++ c2, ⟨c1, c2, rfl, t1, t2⟩, ?_⟩
          have e' : vs.drop (i * P.cellsOf e) = (vs.drop (i * P.cellsOf e)).take (P.cellsOf e) ++ vs.drop ((i + 1) * P.cellsOf e) := by rw [Nat.succ_mul, ← List.drop_drop, List.take_append_drop]
          rw [e']; exact r1.append r2
      obtain ⟨cs, h1, h2⟩ := key k 0 (by omega)
      exact ⟨cs, by unfold tyC; rw [hu]; exact h1, by simpa using h2⟩
    · simp at hp
theorem trodAll_carry {w w' : World} {base : Nat} {spare : Nat → Bool} {held : Bool} : ∀ {ts : List TypeId} {vs : List Value} {ds : List (DataW H)} {ps : List MemPlace}, DataW.TrodAll enc P w base spare held ts vs ds ps → (∀ p ∈ ps, w.sameAt w' p) → DataW.TrodAll enc P w' base spare held ts vs ds ps
  | [], [], [], _, h, _ => h
  | _ :: _, _ :: _, _ :: _, _, ⟨p, q, ⟨n, h1⟩, h2, e⟩, hs =>
    ⟨p, q, ⟨n, DataW.trod_carry n _ _ _ h1 (fun x hx => hs x (by rw [e]; exact List.mem_append_left _ hx))⟩, trodAll_carry h2 (fun x hx => hs x (by rw [e]; exact List.mem_append_right _ hx)), e⟩
theorem post_ext {T : TypeId → Prop} (K : Kids P T) (hz : ∀ t e, T t → P.underlying t = some (.slice e) → 0 < P.cellsOf e) {f : Func} {s : ChangeSpec} {apart fresh handsOn again : Bool} {W W' : World} {args : Array Value} {v : Value} {ds gs : List (DataW H)} {before : List MemPlace}
    (hT : ∀ t ∈ f.params.toList, T t) (hsv : s.vars = []) (hW : DataW.Whole enc P f.params.toList s.vars apart W args.toList ds gs before)
    (hres : ∀ (b : Nat) (sp : Nat → Bool) (hd : Bool), DataW.TrodAll enc P W' b sp hd f.resultTypes.toList (v.resultList f.resultTypes.size) (s.fn H (ds ++ gs)).results [])
    (hargs : (s.fn H (ds ++ gs)).args = ds) (hvars : (s.fn H (ds ++ gs)).vars = []) (hx : Ext W W')
    (hok : ∀ (j : Nat) (t : TypeId) (r : Value), f.resultTypes[j]? = some t → (v.resultList f.resultTypes.size)[j]? = some r → Value.okWide P W' .any 0 t r) :
    s.post enc P f apart fresh handsOn again W args v W' := by
  have hlt := hW.lt
  have hold : ∀ p ∈ before, (fun b => decide (b < W.heap.size)) p.block = true := fun p hp => by simpa using hlt p hp
  have hW0 := hW
  obtain ⟨p, q, hA, hV, e, hfz, hn⟩ := hW
  rw [hsv] at hV
  obtain ⟨hg, hq⟩ := trodVars_none hV
  subst hq
  rw [List.append_nil] at e
  subst e
  have ha : ∀ sp : Nat → Bool, (∀ p ∈ before, sp p.block = true) → DataW.TrodAll enc P W' 0 sp true f.params.toList args.toList (s.fn H (ds ++ gs)).args before := fun sp hsp => by
    rw [hargs]
    exact trodAll_carry (DataW.TrodAll.respare K hz hT hA hsp) (fun p hp => hx.same (hlt p hp))
  have hv : ∀ sp : Nat → Bool, DataW.TrodVars enc P W' sp s.vars (s.fn H (ds ++ gs)).vars [] := fun sp => by rw [hvars, hsv]; exact rfl
  refine ⟨ds, gs, before, [], before, [], hW0, hres _ _ _, ha _ hold, hv _, World.keptBut_mono (fun p hp => ⟨hp, Or.inr (Or.inl hp)⟩) (hx.frame (· ∈ before)), fun _ => ?_⟩
  refine ⟨hok, _, _, ([] ++ before) ++ [], ⟨[] ++ before, [], trodAll_append (ha _ (fun _ _ => rfl)) (hres _ _ _), hv _, rfl, ?_, ?_⟩, ?_⟩
  · intro b off hp
    simp at hp
    rw [Below.frozen hx (p := ⟨b, off, none⟩) (hlt _ hp)]
    exact hfz b off hp
  · intro h
    simpa using hn h
  · intro p hp _
    simpa using hp
end
end
end Go.Proofs.YtboifcengmgcaaaGreat
/- Arguments opened: arrays of two small integers. -/
namespace Go.Proofs.YtboifcengmgcaaaGreat
open Go.RowKit Go.ChangeShapes Go.WideShapes Go.ChangeAt
theorem Tryz.own : ownKnob Tryz.prog.godebug = none := by kernel_rfl
theorem Tryz.kids : Kids Tryz.prog (· < Tryz.prog.types.size) := kids_rows (by kernel_rfl) (by kernel_rfl)
theorem Tryz.full : ∀ t e, t < Tryz.prog.types.size → Tryz.prog.underlying t = some (.slice e) → 0 < Tryz.prog.cellsOf e := slices_full_of Tryz.prog (by kernel_rfl)
theorem val_inv {w : World} {N : Nat → Prop} {u v : Value} (h : RepC w N (.val u) v) : v = u := by cases h; rfl
theorem wf_i8 {n : Int} (h : (Lit.int .i8 n).wf = true) : -128 ≤ n ∧ n ≤ 127 := by
  simp only [Lit.wf, Bool.and_eq_true, decide_eq_true_eq] at h
  exact h
theorem wf_u16 {n : Int} (h : (Lit.int .u16 n).wf = true) : 0 ≤ n ∧ n ≤ 65535 := by
  simp only [Lit.wf, Bool.and_eq_true, decide_eq_true_eq] at h
  exact h
theorem ty16 {d : Nat} {cs : List CV} (h : tyC Tryz.prog d 48 cs) : ∃ n, cs = [.val (.int .u16 n)] ∧ 0 ≤ n ∧ n ≤ 65535 := by
  obtain ⟨n, h, hw⟩ := tyC_int Tryz.underlying48 h; exact ⟨n, h, wf_u16 hw⟩
set_option maxRecDepth 100000 in
theorem open_agg {H : Type} {enc : TypeId × Value → H} {w : World} {spare : Nat → Bool} {held : Bool} {v : Value} {x : DataW H} {ps : List MemPlace} {t : TypeId} (hp : plainB Tryz.prog 8 t = true) (h : DataW.Trod enc Tryz.prog w 0 spare held t v x ps) : ∃ d cs, tyC Tryz.prog d t cs ∧ (1 < cs.length → RepC w (fun _ => False) (.agg cs) v) := by
  obtain ⟨n, h⟩ := h
  obtain ⟨cs, h1, h2⟩ := open_tyC hp h
  refine ⟨_, cs, h1, fun hl => ?_⟩
  have hs : v.cells.size = cs.length := by have := h2.1; simp at this; omega
  have hv := agg_cells (v := v) (by omega)
  rw [hv]
  exact .agg _ _ (by simpa using hs) (fun i x u hx hu => h2.2 i x u hx (by simpa using hu))
end Go.Proofs.YtboifcengmgcaaaGreat
/- Arguments opened: slices and integers. -/
namespace Go.Proofs.YtboifcengmgcaaaGreat
open Go.RowKit Go.ChangeShapes Go.WideShapes Go.ChangeAt
section
variable {H : Type} {enc : TypeId × Value → H} {P : Program} {w : World} {base b0 : Nat} {spare : Nat → Bool} {held : Bool} {v : Value} {x : DataW H} {ps : List MemPlace} {t : TypeId} {r : Reach}
end
end Go.Proofs.YtboifcengmgcaaaGreat
