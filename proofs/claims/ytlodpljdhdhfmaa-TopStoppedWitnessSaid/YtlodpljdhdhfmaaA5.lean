/- Part 5 of a proof: Wi, Wj, Wk, WLay, Wl, Wm, Wn, CodeWG, Wo, Wp, Wt, Wu, Wv, CodeT, CodeTG, Rc, Rd, Lift, Gs0, OpenS. -/
import Derived.Test.YtlodpljdhdhfmaaA4
import Derived.Shelf.SlSortCmp.Whole1
import Derived.Shelf.SlSortCmp.NoneTotal
import Derived.Shelf.SlicesG.Cmp
import Derived.Test.YtlodpljdhdhfmaaProg
import Derived.StillTailTactics
import Derived.RegionTactic
import Derived.Laws.ResultCell
import Derived.Laws.Rows
import Derived.Test.YtlodpljdhdhfmaaA3
import Derived.ChangeSame
import Derived.JoinedOf
import Derived.JoinedAt
import Derived.RowKit3
import Derived.ReadAgain
import Derived.RowKit2
import Derived.ChangeSlices
import Derived.OpenShut
set_option linter.unusedSimpArgs false
set_option linter.unusedVariables false
/- Wire, IX: the sets of sources that are wrong. -/
namespace Go.Proofs.Ytlodpljdhdhfmaa
open Go.RowKit
def entU (w : Nat) : List Int × CV := ([(w : Int)], .val (.bool true))
attribute [simp] entU
def entsU (l : List Nat) : List (List Int × CV) := l.map entU
def addU (l : List Nat) (w : Nat) : List Nat := if w ∈ l then l else l ++ [w]
def setsTo (b : Wbk) (k : Nat) : List Nat := ((allL b).take k).foldl (fun l x => addU l x.2) []
def setsL (b : Wbk) : List Nat := (allL b).foldl (fun l x => addU l x.2) []
theorem putU (l : List Nat) (w : Nat) : putM (entsU l) [(w : Int)] (.val (.bool true)) = entsU (addU l w) := by
  have hany : (entsU l).any (fun p => p.1 == [(w : Int)]) = decide (w ∈ l) := by
    rw [Bool.eq_iff_iff]
    simp only [entsU, List.any_map, List.any_eq_true, Function.comp_def, entU, decide_eq_true_eq, beq_iff_eq, List.cons.injEq, and_true]
    constructor
    · rintro ⟨x, hx, h⟩
      have : x = w := by omega
      rw [← this]; exact hx
    · exact fun h => ⟨w, h, rfl⟩
  unfold putM addU
  rw [hany]
  by_cases h : w ∈ l
  · rw [if_pos h, if_pos (by simpa using h)]
    unfold entsU
    rw [List.map_map]
    refine List.map_congr_left fun x _ => ?_
    simp only [Function.comp_def, entU]
    exact ite_self _
  · rw [if_neg h, if_neg (by simpa using h)]
    simp [entsU, entU]
theorem setsTo_succ {b : Wbk} {k : Nat} (h : k < (allL b).length) : setsTo b (k + 1) = addU (setsTo b k) (allL b)[k].2 := by
  unfold setsTo
  rw [List.take_succ_eq_append_getElem h, List.foldl_append]
  rfl
theorem addU_len (l : List Nat) (w : Nat) : (addU l w).length ≤ l.length + 1 := by
  unfold addU; split <;> simp
theorem setsTo_len (b : Wbk) (k : Nat) (hk : k ≤ (allL b).length) : (setsTo b k).length ≤ k := by
  induction k with
  | zero => simp [setsTo]
  | succ k ih =>
    rw [setsTo_succ (by omega)]
    have := addU_len (setsTo b k) ((allL b)[k]'(by omega)).2
    have := ih (by omega)
    omega
theorem mem_addU {l : List Nat} {w x : Nat} : x ∈ addU l w ↔ x ∈ l ∨ x = w := by
  unfold addU
  split
  · rename_i h
    constructor
    · exact fun hx => .inl hx
    · rintro (hx | rfl)
      · exact hx
      · exact h
  · simp
theorem mem_fold : ∀ (xs : List (Int × Nat)) (l : List Nat) (x : Nat), x ∈ xs.foldl (fun l x => addU l x.2) l ↔ x ∈ l ∨ ∃ y ∈ xs, y.2 = x
  | [], l, x => by simp
  | y :: xs, l, x => by
    rw [List.foldl_cons, mem_fold xs, mem_addU]
    constructor
    · rintro ((h | h) | ⟨z, hz, h⟩)
      · exact .inl h
      · exact .inr ⟨y, by simp, h.symm⟩
      · exact .inr ⟨z, by simp [hz], h⟩
    · rintro (h | ⟨z, hz, h⟩)
      · exact .inl (.inl h)
      · rcases List.mem_cons.1 hz with rfl | hz
        · exact .inl (.inr h.symm)
        · exact .inr ⟨z, hz, h⟩
theorem nodup_addU {l : List Nat} (h : l.Nodup) (w : Nat) : (addU l w).Nodup := by
  unfold addU
  split
  · exact h
  · rename_i hw
    rw [List.nodup_append]
    exact ⟨h, by simp, fun a ha b hb => by simp at hb; subst hb; exact fun e => hw (e ▸ ha)⟩
theorem nodup_fold : ∀ (xs : List (Int × Nat)) (l : List Nat), l.Nodup → (xs.foldl (fun l x => addU l x.2) l).Nodup
  | [], _, h => h
  | y :: xs, l, h => by rw [List.foldl_cons]; exact nodup_fold xs _ (nodup_addU h _)
theorem mem_setsL {b : Wbk} {x : Nat} : x ∈ setsL b ↔ ∃ y ∈ allL b, y.2 = x := by
  unfold setsL
  rw [mem_fold]; simp
theorem setsL_nodup (b : Wbk) : (setsL b).Nodup := nodup_fold _ _ List.nodup_nil
theorem ents_perm {l : List Nat} {p : List Int × CV} {rest : List (List Int × CV)} (h : (entsU l).Perm (p :: rest)) : ∃ w R, p = entU w ∧ rest = entsU R ∧ l.Perm (w :: R) := by
  have inv : ∀ q ∈ entsU l, entU (q.1.headD 0).toNat = q := fun q hq => by
    obtain ⟨w, _, rfl⟩ := List.mem_map.1 hq
    simp [entU]
  have hl : (entsU l).map (fun q => (q.1.headD 0).toNat) = l := by
    unfold entsU
    rw [List.map_map]
    conv => rhs; rw [← List.map_id l]
    exact List.map_congr_left fun x _ => by simp [entU]
  refine ⟨(p.1.headD 0).toNat, rest.map (fun q => (q.1.headD 0).toNat), (inv p (h.mem_iff.2 (by simp))).symm, ?_, ?_⟩
  · unfold entsU
    rw [List.map_map]
    conv => lhs; rw [← List.map_id rest]
    exact List.map_congr_left fun q hq => (inv q (h.mem_iff.2 (by simp [hq]))).symm
  · have := h.map (fun q : List Int × CV => (q.1.headD 0).toNat)
    rw [hl] at this
    exact this
theorem sSets (b : Wbk) (hb : BkOK b) : SC Try.prog 32 [cBk b] (.map false .u64 (entsU (setsL b))) := by
  refine law_wire_book_sets _ _ (by simp) ?_
  have n0 := hb.n0
  have n2 := hb.n2
  have hlen := allL_len b
  have hN : bookN b ≤ 20000 := by unfold bookN; omega
  (repeat' (first | ((first | with_reducible refine st_skip ?_ | with_reducible refine st_exit ?_); (try simp only [seqQ, blockQ, loopQ, forQ, whileQ, reduceIte, Nat.reduceEqDiff])) | (with_reducible refine st_ret ?_; ((try simp only [seqQ, blockQ, loopQ, forQ, whileQ]); first | (with_reducible refine retM_ret ?_) | refine retQ_ret ?_; simp)) | refine st_seq ?_ | refine st_block ?_ | ((with_reducible show (STri _ _ _ _ _) ∧ (STri _ _ _ _ _)); refine And.intro ?_ ?_) | ((first | refine st_reg ?_ | refine buildP_own ?_ | refine appP_own ?_) <;> (simp -dsimp; (repeat (simp -dsimp (disch := (first | omega | assumption | (refine Bool.eq_false_iff.1 ?_; assumption))) only [wrap_in, if_pos, if_neg]; (try simp -dsimp))))) | ((first | refine guardP_of (fun hc => ?_) (fun hc => ?_) | refine st_cond rfl (fun hc => ?_) (fun hc => ?_)) <;> (try simp only [lqA, lqB, lqC, lqD, lqE, lqF, lqG, lqH, lqI, lqJ, lqK, lqL, lqM, lqN, lqO] at hc) <;> (try (exfalso; first | omega | exact bool_tf hc (by assumption) | exact bool_ft hc (by assumption) | exact absurd (by assumption) hc)) <;> (first | with_reducible show STri _ _ _ _ _ _ | (simp -dsimp [hc]; (repeat (simp -dsimp (disch := (first | omega | assumption | (refine Bool.eq_false_iff.1 ?_; assumption))) only [wrap_in, if_pos, if_neg]; (try simp -dsimp [hc]))))))))
  refine st_range (iAll b hb) [3, 6] [] (fun k R => R = [(3, .box 82 [.om 6]), (6, .map false .u64 (entsU (setsTo b k)))])
    rfl rfl rfl (by kernel_rfl) (by show (0 : Nat) + 1000 ≤ 1000; decide) (fun j hj => by cases hj) (fun row hrow => by obtain ⟨y, _, rfl⟩ := List.mem_map.1 hrow; rfl) (by simp) (by simp) (by simp [setsTo, entsU]) ?_ ?_
  · rintro k row R rfl hrow Iv1 G1 hGG hin
    obtain ⟨d, hdk, rfl⟩ : ∃ d, (allL b)[k]? = some d ∧ row = rowA d := by
      rw [List.getElem?_map, Option.map_eq_some_iff] at hrow
      obtain ⟨d, h1, h2⟩ := hrow
      exact ⟨d, h1, h2.symm⟩
    have hk : k < (allL b).length := (List.getElem?_eq_some_iff.1 hdk).1
    have hkd : (allL b)[k] = d := (List.getElem?_eq_some_iff.1 hdk).2
    have hs := setsTo_succ hk
    rw [hkd] at hs
    have hsl := setsTo_len b k (by omega)
    have hA : (entsU (setsTo b k)).length < 9223372036854775807 := by simp [entsU]; omega
    have hput := putU (setsTo b k) d.2
    rw [← hs] at hput
    unfold rowA
    generalize entsU (setsTo b k) = es at *
    (repeat' (first | ((first | with_reducible refine st_skip ?_ | with_reducible refine st_exit ?_); (try simp only [seqQ, blockQ, loopQ, forQ, whileQ, reduceIte, Nat.reduceEqDiff])) | (with_reducible refine st_ret ?_; ((try simp only [seqQ, blockQ, loopQ, forQ, whileQ]); first | (with_reducible refine retM_ret ?_) | refine retQ_ret ?_; simp)) | refine st_seq ?_ | refine st_block ?_ | ((with_reducible show (STri _ _ _ _ _) ∧ (STri _ _ _ _ _)); refine And.intro ?_ ?_) | ((first | refine st_reg ?_ | refine buildP_own ?_ | refine appP_own ?_) <;> (simp -dsimp; (repeat (simp -dsimp (disch := (first | omega | assumption | (refine Bool.eq_false_iff.1 ?_; assumption))) only [wrap_in, if_pos, if_neg]; (try simp -dsimp))))) | ((first | refine guardP_of (fun hc => ?_) (fun hc => ?_) | refine st_cond rfl (fun hc => ?_) (fun hc => ?_)) <;> (try simp only [lqA, lqB, lqC, lqD, lqE, lqF, lqG, lqH, lqI, lqJ, lqK, lqL, lqM, lqN, lqO] at hc) <;> (try (exfalso; first | omega | exact bool_tf hc (by assumption) | exact bool_ft hc (by assumption) | exact absurd (by assumption) hc)) <;> (first | with_reducible show STri _ _ _ _ _ _ | (simp -dsimp [hc]; (repeat (simp -dsimp (disch := (first | omega | assumption | (refine Bool.eq_false_iff.1 ?_; assumption))) only [wrap_in, if_pos, if_neg]; (try simp -dsimp [hc]))))))))
    refine ⟨rfl, fun Iv2 hin2 => ?_⟩
    (repeat' (first | ((first | with_reducible refine st_skip ?_ | with_reducible refine st_exit ?_); (try simp only [seqQ, blockQ, loopQ, forQ, whileQ, reduceIte, Nat.reduceEqDiff])) | (with_reducible refine st_ret ?_; ((try simp only [seqQ, blockQ, loopQ, forQ, whileQ]); first | (with_reducible refine retM_ret ?_) | refine retQ_ret ?_; simp [hput, hA])) | refine st_seq ?_ | refine st_block ?_ | ((with_reducible show (STri _ _ _ _ _) ∧ (STri _ _ _ _ _)); refine And.intro ?_ ?_) | ((first | refine st_reg ?_ | refine buildP_own ?_ | refine appP_own ?_) <;> (simp -dsimp [hput, hA]; (repeat (simp -dsimp (disch := (first | omega | assumption | (refine Bool.eq_false_iff.1 ?_; assumption))) only [wrap_in, if_pos, if_neg]; (try simp -dsimp [hput, hA]))))) | ((first | refine guardP_of (fun hc => ?_) (fun hc => ?_) | refine st_cond rfl (fun hc => ?_) (fun hc => ?_)) <;> (try simp only [lqA, lqB, lqC, lqD, lqE, lqF, lqG, lqH, lqI, lqJ, lqK, lqL, lqM, lqN, lqO] at hc) <;> (try (exfalso; first | omega | exact bool_tf hc (by assumption) | exact bool_ft hc (by assumption) | exact absurd (by assumption) hc)) <;> (first | with_reducible show STri _ _ _ _ _ _ | (simp -dsimp [hput, hA, hc]; (repeat (simp -dsimp (disch := (first | omega | assumption | (refine Bool.eq_false_iff.1 ?_; assumption))) only [wrap_in, if_pos, if_neg]; (try simp -dsimp [hput, hA, hc]))))))))
    simp only [putM, beq_iff_eq] at hput
    exact ⟨by simp, by simp, by simp [hput]⟩
  · rintro R rfl
    simp only [blockQ, seqQ]
    have e : setsTo b ((allL b).map rowA).length = setsL b := by unfold setsTo setsL; rw [List.length_map, List.take_length]
    rw [e]
    (repeat' (first | ((first | with_reducible refine st_skip ?_ | with_reducible refine st_exit ?_); (try simp only [seqQ, blockQ, loopQ, forQ, whileQ, reduceIte, Nat.reduceEqDiff])) | (with_reducible refine st_ret ?_; ((try simp only [seqQ, blockQ, loopQ, forQ, whileQ]); first | (with_reducible refine retM_ret ?_) | refine retQ_ret ?_; simp)) | refine st_seq ?_ | refine st_block ?_ | ((with_reducible show (STri _ _ _ _ _) ∧ (STri _ _ _ _ _)); refine And.intro ?_ ?_) | ((first | refine st_reg ?_ | refine buildP_own ?_ | refine appP_own ?_) <;> (simp -dsimp; (repeat (simp -dsimp (disch := (first | omega | assumption | (refine Bool.eq_false_iff.1 ?_; assumption))) only [wrap_in, if_pos, if_neg]; (try simp -dsimp))))) | ((first | refine guardP_of (fun hc => ?_) (fun hc => ?_) | refine st_cond rfl (fun hc => ?_) (fun hc => ?_)) <;> (try simp only [lqA, lqB, lqC, lqD, lqE, lqF, lqG, lqH, lqI, lqJ, lqK, lqL, lqM, lqN, lqO] at hc) <;> (try (exfalso; first | omega | exact bool_tf hc (by assumption) | exact bool_ft hc (by assumption) | exact absurd (by assumption) hc)) <;> (first | with_reducible show STri _ _ _ _ _ _ | (simp -dsimp [hc]; (repeat (simp -dsimp (disch := (first | omega | assumption | (refine Bool.eq_false_iff.1 ?_; assumption))) only [wrap_in, if_pos, if_neg]; (try simp -dsimp [hc]))))))))
    exact .refl _
def minU (best : Nat) (l : List Nat) : Nat := l.foldl (fun m x => min m (popN x)) best
def fewN (b : Wbk) : Nat := minU b.srcs.length (setsL b)
theorem minU_perm {l l' : List Nat} (h : l.Perm l') (m : Nat) : minU m l = minU m l' :=
  h.foldl_eq' (fun x _ y _ z => by show min (min z (popN x)) (popN y) = min (min z (popN y)) (popN x); omega) m
theorem minU_le : ∀ (l : List Nat) (m : Nat), minU m l ≤ m ∧ ∀ x ∈ l, minU m l ≤ popN x
  | [], m => ⟨Nat.le_refl _, fun x hx => by cases hx⟩
  | y :: l, m => by
    obtain ⟨h1, h2⟩ := minU_le l (min m (popN y))
    refine ⟨?_, fun x hx => ?_⟩
    · show minU (min m (popN y)) l ≤ m
      omega
    · show minU (min m (popN y)) l ≤ popN x
      rcases List.mem_cons.1 hx with rfl | hx
      · omega
      · exact h2 x hx
theorem minU_at : ∀ (l : List Nat) (m : Nat), minU m l = m ∨ ∃ x ∈ l, minU m l = popN x
  | [], m => .inl rfl
  | y :: l, m => by
    rcases minU_at l (min m (popN y)) with h | ⟨x, hx, h⟩
    · by_cases hm : m ≤ popN y
      · left; show minU (min m (popN y)) l = m; omega
      · right; exact ⟨y, by simp, by show minU (min m (popN y)) l = popN y; omega⟩
    · exact .inr ⟨x, by simp [hx], h⟩
theorem set_lt {b : Wbk} (hb : BkOK b) {x : Nat} (hx : x ∈ setsL b) : x < 1024 := by
  obtain ⟨y, hy, rfl⟩ := mem_setsL.1 hx
  obtain ⟨k, hk, rfl⟩ := List.mem_map.1 hy
  have h1 := wrongTo_lt hb (b.nlo + k) b.notes.length (Nat.le_refl _)
  have h2 : 2 ^ b.srcs.length ≤ 2 ^ 10 := Nat.pow_le_pow_right (by omega) hb.len
  show wrongTo b (b.nlo + k) b.notes.length < 1024
  omega
theorem pop_le (x : Nat) : popN x ≤ 10 := by
  unfold popN
  exact Nat.le_trans (List.length_filter_le _ _) (by simp)
def feI (b : Wbk) (m : Nat) (T : TL) (H : HL) : Prop := ∃ L cur best, m = L.length ∧ (∀ x ∈ L, x < 1024) ∧ best ≤ 10 ∧ minU best L = fewN b ∧ T = [(3, .c (I (best : Nat))), (10, .it 10)] ∧ H = [(10, .it false .u64 (entsU L) cur)]
theorem sFewest (b : Wbk) (hb : BkOK b) : SC Try.prog 31 [cBk b] (I (fewN b)) := by
  refine law_wire_book_fewest _ _ (by simp) ?_
  have ss := sSets b hb
  have hlen := hb.len
  (repeat' (first | ((first | with_reducible refine st_skip ?_ | with_reducible refine st_exit ?_); (try simp only [seqQ, blockQ, loopQ, forQ, whileQ, reduceIte, Nat.reduceEqDiff])) | (with_reducible refine st_ret ?_; ((try simp only [seqQ, blockQ, loopQ, forQ, whileQ]); first | (with_reducible refine retM_ret ?_) | refine retQ_ret ?_; simp)) | refine st_seq ?_ | refine st_block ?_ | ((with_reducible show (STri _ _ _ _ _) ∧ (STri _ _ _ _ _)); refine And.intro ?_ ?_) | ((first | refine st_reg ?_ | refine buildP_own ?_ | refine appP_own ?_ | refine callP_b (ss) rfl ?_) <;> (simp -dsimp; (repeat (simp -dsimp (disch := (first | omega | assumption | (refine Bool.eq_false_iff.1 ?_; assumption))) only [wrap_in, if_pos, if_neg]; (try simp -dsimp))))) | ((first | refine guardP_of (fun hc => ?_) (fun hc => ?_) | refine st_cond rfl (fun hc => ?_) (fun hc => ?_)) <;> (try simp only [lqA, lqB, lqC, lqD, lqE, lqF, lqG, lqH, lqI, lqJ, lqK, lqL, lqM, lqN, lqO] at hc) <;> (try (exfalso; first | omega | exact bool_tf hc (by assumption) | exact bool_ft hc (by assumption) | exact absurd (by assumption) hc)) <;> (first | with_reducible show STri _ _ _ _ _ _ | (simp -dsimp [hc]; (repeat (simp -dsimp (disch := (first | omega | assumption | (refine Bool.eq_false_iff.1 ?_; assumption))) only [wrap_in, if_pos, if_neg]; (try simp -dsimp [hc]))))))))
  refine st_while [10] (feI b) (setsL b).length (by simp) ⟨setsL b, none, b.srcs.length, rfl, fun x hx => set_lt hb hx, hlen, rfl, by simp, by simp⟩ ?_
  rintro m T H ⟨L, cur, best, rfl, hL, hbest, hmin, rfl, rfl⟩
  (repeat' (first | ((first | with_reducible refine st_skip ?_ | with_reducible refine st_exit ?_); (try simp only [seqQ, blockQ, loopQ, forQ, whileQ, reduceIte, Nat.reduceEqDiff])) | (with_reducible refine st_ret ?_; ((try simp only [seqQ, blockQ, loopQ, forQ, whileQ]); first | (with_reducible refine retM_ret ?_) | refine retQ_ret ?_; simp)) | refine st_seq ?_ | refine st_block ?_ | ((with_reducible show (STri _ _ _ _ _) ∧ (STri _ _ _ _ _)); refine And.intro ?_ ?_) | ((first | refine st_reg ?_ | refine buildP_own ?_ | refine appP_own ?_ | ((with_reducible show nextP _ _ _ _); refine next_of (by first | rfl | simp) (fun hl0 => ?_) (fun pe re hpm => ?_) <;> (first | (obtain ⟨wq, Rq, rfl, rfl, hpq⟩ := ents_perm hpm) | skip)) | refine callP_b (sOnes wq (hL wq (hpq.mem_iff.2 (by simp)))) rfl ?_) <;> (simp -dsimp; (repeat (simp -dsimp (disch := (first | omega | assumption | (refine Bool.eq_false_iff.1 ?_; assumption))) only [wrap_in, if_pos, if_neg]; (try simp -dsimp))))) | ((first | refine guardP_of (fun hc => ?_) (fun hc => ?_) | refine st_cond rfl (fun hc => ?_) (fun hc => ?_)) <;> (try simp only [lqA, lqB, lqC, lqD, lqE, lqF, lqG, lqH, lqI, lqJ, lqK, lqL, lqM, lqN, lqO] at hc) <;> (try (exfalso; first | omega | exact bool_tf hc (by assumption) | exact bool_ft hc (by assumption) | exact absurd (by assumption) hc)) <;> (first | with_reducible show STri _ _ _ _ _ _ | (simp -dsimp [hc]; (repeat (simp -dsimp (disch := (first | omega | assumption | (refine Bool.eq_false_iff.1 ?_; assumption))) only [wrap_in, if_pos, if_neg]; (try simp -dsimp [hc]))))))))
  · have : L = [] := by simpa [entsU] using hl0
    subst this
    refine CLe.int ?_
    rw [← hmin]; rfl
  · have hp := pop_le wq
    have h1 := minU_perm hpq best
    have h2 : minU best (wq :: Rq) = minU (min best (popN wq)) Rq := rfl
    have hl := hpq.length_eq
    refine ⟨Rq.length, by simp at hl; omega, by simp, Rq, some (entU wq), min best (popN wq), rfl, fun x hx => hL x (hpq.mem_iff.2 (by simp [hx])), by omega, by rw [← h2, ← h1]; exact hmin, ?_, by simp⟩
    simp
    omega
end Go.Proofs.Ytlodpljdhdhfmaa
/- Wire, X: the most that can be right; pairs. -/
namespace Go.Proofs.Ytlodpljdhdhfmaa
open Go.RowKit
end Go.Proofs.Ytlodpljdhdhfmaa
/- Wire, XI: pairs. -/
namespace Go.Proofs.Ytlodpljdhdhfmaa
open Go.RowKit
end Go.Proofs.Ytlodpljdhdhfmaa
/- The shelf's structure for slices.SortFunc at lists of integers, laid at this seat. -/
namespace Go.Proofs.Ytlodpljdhdhfmaa
open Go.Shelf
def Try.sortW_ren : Go.Shelf.Ren := ⟨fun | 6 => 35 | 15 => 46 | 14 => 47 | 28 => 55 | 29 => 56 | 20 => 57 | 21 => 58 | 22 => 59 | 23 => 60 | 24 => 61 | 25 => 62 | 26 => 63 | 27 => 64 | 46 => 66 | 47 => 67 | 48 => 68 | 49 => 69 | 50 => 70 | 57 => 71 | n => n, fun | 22 => 68 | 24 => 55 | 25 => 87 | 3 => 3 | 39 => 80 | 0 => 0 | 53 => 98 | 55 => 100 | 4 => 4 | 46 => 111 | 45 => 110 | 50 => 115 | 5 => 5 | 9 => 9 | 66 => 118 | 70 => 121 | 76 => 123 | 77 => 124 | n => n, fun | n => n⟩
theorem Try.sortW : Go.Proofs.SlLaysF.n6 Try.prog Try.sortW_ren := {
  mixed := by kernel_rfl
  f6 := ⟨Try.f35.name, by decide, Try.func35.trans (congrArg some (by kernel_rfl))⟩
  f14 := ⟨Try.f47.name, by decide, Try.func47.trans (congrArg some (by kernel_rfl))⟩
  f15 := Try.func46.trans (congrArg some (by kernel_rfl))
  f20 := ⟨Try.f57.name, by decide, Try.func57.trans (congrArg some (by kernel_rfl))⟩
  f21 := ⟨Try.f58.name, by decide, Try.func58.trans (congrArg some (by kernel_rfl))⟩
  f22 := ⟨Try.f59.name, by decide, Try.func59.trans (congrArg some (by kernel_rfl))⟩
  f23 := ⟨Try.f60.name, by decide, Try.func60.trans (congrArg some (by kernel_rfl))⟩
  f24 := ⟨Try.f61.name, by decide, Try.func61.trans (congrArg some (by kernel_rfl))⟩
  f25 := ⟨Try.f62.name, by decide, Try.func62.trans (congrArg some (by kernel_rfl))⟩
  f26 := ⟨Try.f63.name, by decide, Try.func63.trans (congrArg some (by kernel_rfl))⟩
  f27 := ⟨Try.f64.name, by decide, Try.func64.trans (congrArg some (by kernel_rfl))⟩
  f28 := Try.func55.trans (congrArg some (by kernel_rfl))
  f29 := Try.func56.trans (congrArg some (by kernel_rfl))
  f46 := ⟨Try.f66.name, by decide, Try.func66.trans (congrArg some (by kernel_rfl))⟩
  f47 := Try.func67.trans (congrArg some (by kernel_rfl))
  f48 := Try.func68.trans (congrArg some (by kernel_rfl))
  f49 := ⟨Try.f69.name, by decide, Try.func69.trans (congrArg some (by kernel_rfl))⟩
  f50 := ⟨Try.f70.name, by decide, Try.func70.trans (congrArg some (by kernel_rfl))⟩
  f57 := ⟨Try.f71.name, by decide, Try.func71.trans (congrArg some (by kernel_rfl))⟩
  t0 := Try.underlying0
  a0 := Try.isAgg0
  z0 := Try.sizeOf0
  v0 := Try.zeroValue0
  t3 := Try.underlying3
  a3 := Try.isAgg3
  z3 := Try.sizeOf3
  v3 := Try.zeroValue3
  t4 := Try.underlying4
  a4 := Try.isAgg4
  z4 := Try.sizeOf4
  v4 := Try.zeroValue4
  t5 := Try.underlying5
  a5 := Try.isAgg5
  z5 := Try.sizeOf5
  v5 := Try.zeroValue5
  t9 := Try.underlying9
  a9 := Try.isAgg9
  z9 := Try.sizeOf9
  v9 := Try.zeroValue9
  t22 := Try.underlying68
  a22 := Try.isAgg68
  z22 := Try.sizeOf68
  v22 := Try.zeroValue68
  a24 := Try.isAgg55
  z24 := Try.sizeOf55
  t25 := Try.underlying87
  a25 := Try.isAgg87
  z25 := Try.sizeOf87
  v25 := Try.zeroValue87
  t39 := Try.underlying80
  a39 := Try.isAgg80
  z39 := Try.sizeOf80
  v39 := Try.zeroValue80
  t45 := Try.underlying110
  a45 := Try.isAgg110
  z45 := Try.sizeOf110
  v45 := Try.zeroValue110
  t46 := Try.underlying111
  a46 := Try.isAgg111
  z46 := Try.sizeOf111
  v46 := Try.zeroValue111
  t50 := Try.underlying115
  a50 := Try.isAgg115
  z50 := Try.sizeOf115
  v50 := Try.zeroValue115
  t53 := Try.underlying98
  a53 := Try.isAgg98
  z53 := Try.sizeOf98
  v53 := Try.zeroValue98
  t55 := Try.underlying100
  a55 := Try.isAgg100
  z55 := Try.sizeOf100
  v55 := Try.zeroValue100
  t66 := Try.underlying118
  a66 := Try.isAgg118
  z66 := Try.sizeOf118
  v66 := Try.zeroValue118
  t70 := Try.underlying121
  a70 := Try.isAgg121
  z70 := Try.sizeOf121
  v70 := Try.zeroValue121
  t76 := Try.underlying123
  a76 := Try.isAgg123
  z76 := Try.sizeOf123
  v76 := Try.zeroValue123
  t77 := Try.underlying124
  a77 := Try.isAgg124
  z77 := Try.sizeOf124
  v77 := Try.zeroValue124 }
def Try.cmpInt_ren : Go.Shelf.Ren := ⟨fun | 5 => 48 | 7 => 65 | n => n, fun | 22 => 3 | 3 => 3 | 4 => 4 | n => n, fun | n => n⟩
theorem Try.cmpInt : Go.Proofs.SlLaysC2.n5 Try.prog Try.cmpInt_ren := {
  mixed := by kernel_rfl
  f5 := ⟨Try.f48.name, by decide, Try.func48.trans (congrArg some (by kernel_rfl))⟩
  f7 := ⟨Try.f65.name, by decide, Try.func65.trans (congrArg some (by kernel_rfl))⟩
  t3 := Try.underlying3
  a3 := Try.isAgg3
  z3 := Try.sizeOf3
  v3 := Try.zeroValue3
  t4 := Try.underlying4
  a4 := Try.isAgg4
  z4 := Try.sizeOf4
  v4 := Try.zeroValue4
  t22 := Try.underlying3
  a22 := Try.isAgg3
  z22 := Try.sizeOf3
  v22 := Try.zeroValue3 }
end Go.Proofs.Ytlodpljdhdhfmaa
/- Wire, XII: lists of integers are compared. -/
namespace Go.Proofs.Ytlodpljdhdhfmaa
open Go.RowKit Go.Sort Go.Shelf
def cmpZ (x y : Int) : Int := if x < y then -1 else if y < x then 1 else 0
def cmpL : List Int → List Int → Int
  | [], [] => 0
  | [], _ :: _ => -1
  | _ :: _, [] => 1
  | x :: xs, y :: ys => if cmpZ x y = 0 then cmpL xs ys else cmpZ x y
def SlI (w : World) (v : Value) (xs : List Int) : Prop := ∃ ad c, v = .slice ad xs.length c ∧ ∀ (j : Nat) (h : j < xs.length), ∃ b off, ad = some ⟨b, off, none⟩ ∧ b < w.heap.size ∧ w.cell? ⟨b, off + j, none⟩ = some (.int .i64 xs[j])
theorem cmpL_at {xs ys : List Int} {k : Nat} (h1 : k < xs.length) (h2 : k < ys.length) : cmpL (xs.drop k) (ys.drop k) = if cmpZ xs[k] ys[k] = 0 then cmpL (xs.drop (k + 1)) (ys.drop (k + 1)) else cmpZ xs[k] ys[k] := by
  rw [List.drop_eq_getElem_cons h1, List.drop_eq_getElem_cons h2]
  rfl
theorem compareInt_eq (x y : Int) : Lib.compareInt x y = cmpZ x y := by
  unfold Lib.compareInt cmpZ
  by_cases h1 : x < y
  · simp [h1]
  · by_cases h2 : y < x <;> simp [h1, h2]
set_option maxRecDepth 100000 in
set_option maxHeartbeats 1000000 in
theorem compare_any (xs ys : List Int) (v1 v2 : Value) (w : World) (hlx : xs.length ≤ 1000000000) (h1 : SlI w v1 xs) (h2 : SlI w v2 ys) :
    Calls Try.prog 36 #[v1, v2] w fun e w' => e = .returned (.int .i64 (cmpL xs ys)) ∧ w' = w := by
  obtain ⟨a1, c1, rfl, h1⟩ := h1
  obtain ⟨a2, c2, rfl, h2⟩ := h2
  have H1 := Lib.hid h1
  have H2 := Lib.hid h2
  have HC := fun x y W => Lib.hid (show Calls Try.prog 48 #[.int .i64 x, .int .i64 y] W _ from AnyG.cmp_Compare_int Try.cmpInt x y W)
  clear h1 h2
  go_enter Try.func36, Try.ntmps36
  go_wp2
  go_loopw [11] (fun i wr => ∃ k : Nat, k ≤ xs.length ∧ k ≤ ys.length ∧ i = .int .i64 k ∧ cmpL xs ys = cmpL (xs.drop k) (ys.drop k) ∧ wr = w) (fun i _ => xs.length - (intOf i).toNat)
  case atStart => exact ⟨0, Nat.zero_le _, Nat.zero_le _, rfl, by simp, rfl⟩
  case round =>
    obtain ⟨k, hk1, hk2, rfl, he, rfl⟩ := hrel
    have HE := Lib.hid he
    clear he
    by_cases hlt : k < xs.length
    · obtain ⟨b1, o1, rfl, hb1, g1⟩ := H1.out k hlt
      by_cases hlt2 : k < ys.length
      · obtain ⟨b2, o2, rfl, hb2, g2⟩ := H2.out k hlt2
        have HA := Lib.hid (cmpL_at hlt hlt2)
        have hge : ¬ ((k : Int) ≥ ys.length) := by omega
        generalize xs[k] = x at *
        generalize ys[k] = y at *
        by_cases hz : cmpZ x y = 0
        · have hz2 : (Lib.compareInt x y != 0) = false := by rw [compareInt_eq, hz]; rfl
          have HZ := Lib.hid hz
          clear hz
          go_wp2_with (go_at_call 48; refine (HC x y _).out.mono ?_; rintro e w2 ⟨rfl, rfl⟩)
          go_roundw
          case rel => exact ⟨k + 1, by omega, by omega, by go_num, by rw [HE.out, HA.out, if_pos HZ.out], trivial⟩
          case measure => simp [intOf]; omega
        · have hz2 : (Lib.compareInt x y != 0) = true := by rw [compareInt_eq]; simpa using hz
          have HZ := Lib.hid hz
          clear hz
          go_wp2_with (go_at_call 48; refine (HC x y _).out.mono ?_; rintro e w2 ⟨rfl, rfl⟩)
          go_ret
          (first | (rw [HE.out, HA.out, if_neg HZ.out, compareInt_eq]; first | done | rfl) | exact ⟨by rw [HE.out, HA.out, if_neg HZ.out, compareInt_eq]; first | done | rfl, rfl⟩)
      · have hge : ((k : Int) ≥ ys.length) := by omega
        have HV := Lib.hid (show cmpL (xs.drop k) (ys.drop k) = 1 from by rw [List.drop_eq_getElem_cons hlt, List.drop_eq_nil_of_le (by omega : ys.length ≤ k)]; rfl)
        generalize xs[k] = x at *
        go_wp2
        go_ret
        (first | (rw [HE.out, HV.out]; first | done | rfl) | exact ⟨by rw [HE.out, HV.out]; first | done | rfl, rfl⟩)
    · by_cases hlt2 : k < ys.length
      · have hll : (xs.length : Int) < ys.length := by omega
        have HV := Lib.hid (show cmpL (xs.drop k) (ys.drop k) = -1 from by rw [List.drop_eq_nil_of_le (by omega : xs.length ≤ k), List.drop_eq_getElem_cons hlt2]; rfl)
        go_wp2
        go_ret
        (first | (rw [HE.out, HV.out]; first | done | rfl) | exact ⟨by rw [HE.out, HV.out]; first | done | rfl, rfl⟩)
      · have hll : ¬ ((xs.length : Int) < ys.length) := by omega
        have HV := Lib.hid (show cmpL (xs.drop k) (ys.drop k) = 0 from by rw [List.drop_eq_nil_of_le (by omega : xs.length ≤ k), List.drop_eq_nil_of_le (by omega : ys.length ≤ k)]; rfl)
        go_wp2
        go_ret
        (first | (rw [HE.out, HV.out]; first | done | rfl) | exact ⟨by rw [HE.out, HV.out]; first | done | rfl, rfl⟩)
end Go.Proofs.Ytlodpljdhdhfmaa
/- Wire, XIII: lists of lists of integers are sorted. -/
namespace Go.Proofs.Ytlodpljdhdhfmaa
open Go.RowKit Go.Sort Go.Shelf
/-! The order of lists -/
theorem cmpZ_anti (x y : Int) : cmpZ y x = -cmpZ x y := by unfold cmpZ; split <;> split <;> (try split) <;> omega
theorem cmpL_anti : ∀ xs ys : List Int, cmpL ys xs = -cmpL xs ys
  | [], [] => rfl
  | [], _ :: _ => rfl
  | _ :: _, [] => rfl
  | x :: xs, y :: ys => by
    have h1 := cmpZ_anti x y
    have ih := cmpL_anti xs ys
    simp only [cmpL]
    by_cases h : cmpZ x y = 0
    · rw [if_pos h, if_pos (by omega)]; exact ih
    · rw [if_neg h, if_neg (by omega)]; exact h1
theorem cmpZ_eq {x y : Int} (h : cmpZ x y = 0) : x = y := by unfold cmpZ at h; split at h <;> (try split at h) <;> omega
theorem cmpL_eq : ∀ {xs ys : List Int}, cmpL xs ys = 0 → xs = ys
  | [], [], _ => rfl
  | [], _ :: _, h => by simp [cmpL] at h
  | _ :: _, [], h => by simp [cmpL] at h
  | x :: xs, y :: ys, h => by
    simp only [cmpL] at h
    by_cases h0 : cmpZ x y = 0
    · rw [if_pos h0] at h; rw [cmpZ_eq h0, cmpL_eq h]
    · rw [if_neg h0] at h; exact absurd h h0
theorem cmpL_refl : ∀ xs : List Int, cmpL xs xs = 0
  | [] => rfl
  | x :: xs => by
    have : cmpZ x x = 0 := by unfold cmpZ; simp
    simp only [cmpL, if_pos this]; exact cmpL_refl xs
theorem cmpL_trans : ∀ {xs ys zs : List Int}, cmpL xs ys ≤ 0 → cmpL ys zs ≤ 0 → cmpL xs zs ≤ 0 ∧ (cmpL xs ys < 0 ∨ cmpL ys zs < 0 → cmpL xs zs < 0)
  | [], [], [], _, _ => by simp [cmpL]
  | [], [], _ :: _, _, _ => by simp [cmpL]
  | [], _ :: _, [], _, h => by simp [cmpL] at h
  | [], _ :: _, _ :: _, _, _ => by simp [cmpL]
  | _ :: _, [], _, h, _ => by simp [cmpL] at h
  | _ :: _, _ :: _, [], _, h => by simp [cmpL] at h
  | x :: xs, y :: ys, z :: zs, h1, h2 => by
    have ih := @cmpL_trans xs ys zs
    simp only [cmpL] at h1 h2 ⊢
    have e1 : cmpZ x y = 0 ∧ x = y ∨ cmpZ x y = -1 ∧ x < y ∨ cmpZ x y = 1 ∧ y < x := by unfold cmpZ; split <;> (try split) <;> omega
    have e2 : cmpZ y z = 0 ∧ y = z ∨ cmpZ y z = -1 ∧ y < z ∨ cmpZ y z = 1 ∧ z < y := by unfold cmpZ; split <;> (try split) <;> omega
    have e3 : cmpZ x z = 0 ∧ x = z ∨ cmpZ x z = -1 ∧ x < z ∨ cmpZ x z = 1 ∧ z < x := by unfold cmpZ; split <;> (try split) <;> omega
    rcases e1 with ⟨c1, d1⟩ | ⟨c1, d1⟩ | ⟨c1, d1⟩ <;> rcases e2 with ⟨c2, d2⟩ | ⟨c2, d2⟩ | ⟨c2, d2⟩ <;> rcases e3 with ⟨c3, d3⟩ | ⟨c3, d3⟩ | ⟨c3, d3⟩ <;> simp only [c1, c2, c3, if_true, Int.reduceEq, if_false] at h1 h2 ⊢ <;> first
      | omega
      | exact ih h1 h2
def ltL (xs ys : List Int) : Bool := decide (cmpL xs ys < 0)
section
variable {ok : Value × List Int → Prop}
def cfW (x y : {x : Value × List Int // ok x}) : Int := cmpL x.1.2 y.1.2
def enW (x : {x : Value × List Int // ok x}) : Value := x.1.1
theorem swoW : SWO (ltOf (cfW (ok := ok))) where
  irrefl x := by unfold ltOf cfW; rw [cmpL_refl]; rfl
  trans x y z h1 h2 := by
    unfold ltOf cfW at *
    simp only [decide_eq_true_eq] at *
    exact (cmpL_trans (by omega) (by omega)).2 (.inl h1)
  ntrans x y z h1 h2 := by
    unfold ltOf cfW at *
    simp only [decide_eq_false_iff_not] at *
    have a1 := cmpL_anti x.1.2 y.1.2
    have a2 := cmpL_anti y.1.2 z.1.2
    have a3 := cmpL_anti x.1.2 z.1.2
    have := (cmpL_trans (xs := z.1.2) (ys := y.1.2) (zs := x.1.2) (by omega) (by omega)).1
    omega
end
/-! A closed list of integers lies in a world -/
theorem repC_sli {w : World} {N : Nat → Prop} {v : Value} {l : List Int} (h : RepC w N (slI l) v) {w' : World} (hw : ∀ b, b < w.heap.size → ¬ N b → w'.heap[b]? = w.heap[b]?) (hsz : w.heap.size ≤ w'.heap.size) : SlI w' v l := by
  unfold slI at h
  obtain ⟨ad, c, rfl, h1, h2, h3⟩ := h.sl_inv
  refine ⟨ad, c, by simp, fun j hj => ?_⟩
  rcases h3 with h3 | ⟨b, off, u, rfl, h4, h5, h6, h7, h8⟩
  · simp at h3; subst h3; simp at hj
  · refine ⟨b, off, rfl, by omega, ?_⟩
    have hr : (l.map rowI)[j]? = some (rowI l[j]) := by simp [hj]
    have e := h7 j _ 0 (I l[j]) hr rfl
    have r := h8 j _ 0 (I l[j]) hr rfl
    rw [World.cell?_of_block (w := w) (w' := w') (a := ⟨b, off + j, none⟩) (hw b h4 h5)]
    have e2 : off + j * 1 + 0 = off + j := by omega
    rw [e2] at e
    rw [e]
    generalize u j 0 = x at r
    cases r; rfl
def rowL1 (l : List Int) : List CV := [slI l]
attribute [simp] rowL1
def SortsL (ls : List (List Int)) (rows : List (List CV)) : Prop := ∃ ys : List (List Int), rows = ys.map rowL1 ∧ ys.Perm ls ∧ ys.Pairwise fun x y => ltL y x = false
theorem grow_none (W : World) : grow (W.drewN 0) #[] = W := by
  unfold grow World.drewN
  simp
end Go.Proofs.Ytlodpljdhdhfmaa
/- Wire, XIV: slices.SortFunc at lists of integers. -/
namespace Go.Proofs.Ytlodpljdhdhfmaa
open Go.RowKit Go.Sort Go.Shelf
theorem sw_old {α : Type} [Inhabited α] (en : α → Value) (w : World) (b m : Nat) (dk : Array α) (os : Array Obj) : (∀ q, q < w.heap.size → q ≠ b → (sortWorld en w b 0 m dk os).heap[q]? = w.heap[q]?) ∧ w.heap.size ≤ (sortWorld en w b 0 m dk os).heap.size := by
  have hs : (putRow en (Sort.ahead w m) b 0 dk).heap.size = w.heap.size := by simp [putRow, mapBlock, Sort.ahead]
  refine ⟨fun q hq hne => ?_, ?_⟩
  · unfold sortWorld
    rw [heap_grow_old _ _ (by rw [hs]; exact hq)]
    simp [putRow, mapBlock, Sort.ahead, Array.getElem?_modify, Ne.symm hne]
  · unfold sortWorld grow
    simp [hs]
theorem sw_at {α : Type} [Inhabited α] (en : α → Value) (w : World) (b m : Nat) (dk : Array α) (os : Array Obj) {cur : Array Value} {t : TypeId} {fr : Nat × Nat} (hb : w.heap[b]? = some (.cells cur t fr)) : (sortWorld en w b 0 m dk os).heap[b]? = some (.cells (putCells en 0 dk cur) t fr) := by
  have hs : (putRow en (Sort.ahead w m) b 0 dk).heap.size = w.heap.size := by simp [putRow, mapBlock, Sort.ahead]
  have hlt : b < w.heap.size := (Array.getElem?_eq_some_iff.1 hb).1
  unfold sortWorld
  rw [heap_grow_old _ _ (by rw [hs]; exact hlt)]
  simp [putRow, mapBlock, Sort.ahead, Array.getElem?_modify, hb, onCells]
theorem permIn_list {α : Type} [Inhabited α] {d d' : Array α} (h : PermIn 0 d.size d d') : d'.toList.Perm d.toList := by
  obtain ⟨h1, _, h3⟩ := h
  have e1 : d'.extract 0 d.size = d' := by rw [← h1]; simp
  have e2 : d.extract 0 d.size = d := by simp
  rw [e1, e2] at h3
  exact h3
theorem sortedIn_list {α : Type} [Inhabited α] {lt : α → α → Bool} {d' : Array α} (h : SortedIn lt 0 d'.size d') : d'.toList.Pairwise fun x y => lt y x = false := by
  rw [List.pairwise_iff_getElem]
  intro i j hi hj hij
  have hi' : i < d'.size := by simpa using hi
  have hj' : j < d'.size := by simpa using hj
  have := h i j (Nat.zero_le _) hij hj'
  simpa [getElem!_pos, hi', hj'] using this
theorem mSortL (ls : List (List Int)) (hl : ls.length ≤ 1000000000) (hll : ∀ l ∈ ls, l.length ≤ 1000000000) : MC Try.prog 35 55 1 (ls.map rowL1) [.fn 36 [] []] (SortsL ls) (some (.tup [])) := fun w NA p v0 vs hna hnp hB ho1 hov hs hv => by
  match vs, hs with
  | ⟨[v1]⟩, _ =>
  have h1 := hv 0 _ v1 rfl rfl
  cases h1 with
  | fn _ _ _ vf vc a1 a2 =>
  have e1 : vf = #[] := Array.size_eq_zero_iff.1 a1
  have e2 : vc = #[] := Array.size_eq_zero_iff.1 a2
  subst e1; subst e2
  change Calls _ _ #[v0, .func (.func 36) #[] #[]] w _
  clear hv
  rw [List.length_map] at hov
  rcases hov with ⟨hp, h0, rfl⟩ | ⟨b, cap, cur, t', hp, rfl, hg, hsz, hcap, hmax⟩
  · have : ls = [] := List.length_eq_zero_iff.1 h0
    subst this
    refine Calls.mono (show Calls Try.prog 35 #[.slice none 0 0, .func (.func 36) #[] #[]] w _ from AnyF.slices_SortFunc_none (P := Try.prog) (ρ := Try.sortW_ren) { Try.sortW with } none 0 _ w) ?_
    rintro e w' ⟨rfl, rfl⟩
    exact ⟨_, [], rfl, ⟨[], rfl, .refl _, .nil⟩, rfl, hB, fun b cs t' hb hc => ⟨cs, hc, rfl⟩, ⟨rfl, rfl, rfl, Nat.le_refl _, fun _ _ _ => rfl⟩, .tup [] #[] rfl (fun i x v hx => by simp at hx)⟩
  · subst hp
    obtain ⟨N, hN⟩ : ∃ N, N = Mut NA (fun _ => some b) (one1 55 1 (ls.map rowL1)) := ⟨_, rfl⟩
    have hNb : N b := by rw [hN]; exact mut_one.2 (.inr rfl)
    rcases hB with ⟨g1, _⟩ | ⟨b', cs', cap', g1, g2, g3, g4, g5, g6, g7⟩
    · cases g1
    have e3 : b = b' := Option.some.inj g1
    subst e3
    rw [hg] at g2; cases g2
    rw [← hN] at g7
    have hcell : ∀ (j : Nat) (hj : j < ls.length), ∃ v, cur[j]? = some v ∧ RepC w N (slI ls[j]) v := fun j hj => by
      obtain ⟨v, k1, k2⟩ := g7 j (rowL1 ls[j]) 0 (slI ls[j]) (by simp [hj]) rfl
      exact ⟨v, by simpa using k1, k2⟩
    -- the elements, each with what it reads as
    obtain ⟨ok, hok⟩ : ∃ ok : Value × List Int → Prop, ok = fun x => RepC w N (slI x.2) x.1 ∧ x.2.length ≤ 1000000000 := ⟨_, rfl⟩
    obtain ⟨ps, hps⟩ : ∃ ps : List (Value × List Int), ps = (List.range ls.length).map fun j => (cur.getD j undef, ls.getD j []) := ⟨_, rfl⟩
    have hpl : ps.length = ls.length := by rw [hps]; simp
    have hpj : ∀ (j : Nat) (hj : j < ls.length), ps[j]? = some (cur.getD j undef, ls[j]) := fun j hj => by rw [hps]; simp [hj]
    have hpo : ∀ x ∈ ps, ok x := fun x hx => by
      obtain ⟨j, hj, rfl⟩ := List.getElem_of_mem hx
      have hj2 : j < ls.length := by omega
      have e := hpj j hj2
      rw [List.getElem?_eq_getElem hj] at e
      have e := Option.some.inj e
      obtain ⟨v, k1, k2⟩ := hcell j hj2
      rw [e, hok]
      refine ⟨?_, hll _ (List.getElem_mem hj2)⟩
      have : cur.getD j undef = v := by simp [k1]
      rw [this]; exact k2
    have hp2 : ps.map (·.2) = ls := by
      apply List.ext_getElem?
      intro j
      rw [List.getElem?_map]
      by_cases hj : j < ls.length
      · rw [hpj j hj, List.getElem?_eq_getElem hj]; rfl
      · rw [List.getElem?_eq_none (by omega), List.getElem?_eq_none (by omega)]; rfl
    obtain ⟨zs, hz⟩ : ∃ zs : List {x : Value × List Int // ok x}, zs.map (·.1) = ps := ⟨ps.attachWith ok hpo, List.attachWith_map_subtype_val hpo⟩
    have hzl : zs.length = ls.length := by rw [← hpl, ← hz, List.length_map]
    have hok0 : ok (.slice none 0 0, []) := by
      rw [hok]
      exact ⟨.nil 1 none 0 (Nat.zero_le _), Nat.zero_le _⟩
    letI : Inhabited {x : Value × List Int // ok x} := ⟨⟨_, hok0⟩⟩
    have hokI : ∀ y, ok y → RepC w N (slI y.2) y.1 ∧ y.2.length ≤ 1000000000 := fun y hy => by
      rw [hok] at hy
      exact hy
    have hrep : ∀ x : {x : Value × List Int // ok x}, RepC w N (slI x.1.2) x.1.1 ∧ x.1.2.length ≤ 1000000000 := fun x => hokI _ x.2
    have hone : OneCell (enW (ok := ok)) := fun x => by
      obtain ⟨ad, c, e, _⟩ := (hrep x).1.sl_inv
      show x.1.1.oneCell' = true
      rw [e]; rfl
    have hcmp : CmpLays1 Try.prog 36 #[] (enW (ok := ok)) cfW b 0 zs.toArray.size w := fun m os dk hs x y => by
      obtain ⟨o1, o2⟩ := sw_old enW w b m dk os
      have hold : ∀ q, q < w.heap.size → ¬ N q → (sortWorld enW w b 0 m dk os).heap[q]? = w.heap[q]? := fun q hq hn => o1 q hq (fun e => hn (e ▸ hNb))
      refine Calls.mono (show Calls Try.prog 36 #[x.1.1, y.1.1] (sortWorld enW w b 0 m dk os) _ from compare_any x.1.2 y.1.2 x.1.1 y.1.1 _ (hrep x).2 (repC_sli (hrep x).1 hold o2) (repC_sli (hrep y).1 hold o2)) ?_
      rintro e w' ⟨rfl, rfl⟩
      exact ⟨rfl, 0, #[], (grow_none _).symm⟩
    have hblk : b < w.heap.size := (Array.getElem?_eq_some_iff.1 hg).1
    have hzj : ∀ (j : Nat) (hj : j < zs.length), enW zs[j] = cur.getD j undef ∧ zs[j].1.2 = ls[j]'(by omega) := fun j hj => by
      have hj2 : j < ls.length := by omega
      have e : (zs.map (·.1))[j]? = ps[j]? := by rw [hz]
      rw [List.getElem?_map, List.getElem?_eq_getElem hj, hpj j hj2] at e
      have e := Option.some.inj e
      exact ⟨congrArg Prod.fst e, congrArg Prod.snd e⟩
    have hH : Holds (enW (ok := ok)) w b 0 zs.toArray := fun j hj => by
      have hj1 : j < zs.length := by simpa using hj
      have hj2 : j < ls.length := by omega
      obtain ⟨v, k1, _⟩ := hcell j hj2
      have e0 : zs.toArray[j]! = zs[j] := by simp [hj1]
      rw [e0, (hzj j hj1).1]
      refine ⟨?_, by simp [World.frozen?, hg]⟩
      rw [Nat.zero_add, cell_of_row w b j cur _ (0, 0) hg, k1]
      simp [k1]
    have hmain := Any.slices_SortFunc (P := Try.prog) (ρ := Try.sortW_ren) Try.sortW enW hone cfW swoW 36 #[] b 0 cap zs.toArray w (enters_of Try.func36 (by kernel_rfl) rfl) hcmp hH hblk (by simp; omega)
    have hzs : zs.toArray.size = ls.length := by simpa using hzl
    rw [hzs] at hmain
    refine Calls.mono (show Calls Try.prog 35 #[.slice (some ⟨b, 0, none⟩) ls.length cap, .func (.func 36) #[] #[]] w _ from hmain) ?_
    rintro e w' ⟨rfl, d', n, os, hp, hs, rfl⟩
    rw [← hzs] at hp
    have hd : d'.size = ls.length := by rw [← hzs]; exact hp.1
    have hperm := permIn_list hp
    rw [← hd] at hs
    have hsort := sortedIn_list hs
    obtain ⟨o1, o2⟩ := sw_old enW w b n d' os
    have hat := sw_at enW w b n d' os hg
    have hsz2 : (putCells enW 0 d' cur).size = cur.size := by simp [putCells]
    have hys : (d'.toList.map fun x => x.1.2).length = ls.length := by simpa using hd
    refine ⟨_, (d'.toList.map fun x => x.1.2).map rowL1, rfl, ⟨_, rfl, ?_, ?_⟩, by simp [hd], ?_, fun b2 cs t2 hb2 hc2 => ?_, ⟨rfl, rfl, rfl, o2, fun q hq hne => o1 q hq (fun e => hne (by rw [e]))⟩, .tup [] #[] rfl (fun i x v hx => by simp at hx)⟩
    · have h2 := hperm.map fun x : {x : Value × List Int // ok x} => x.1.2
      have e : (zs.toArray.toList.map fun x : {x : Value × List Int // ok x} => x.1.2) = ls := by
        rw [← hp2, ← hz, List.map_map]
        rfl
      rw [e] at h2
      exact h2
    · rw [List.pairwise_map]
      exact hsort
    · have hcalm : Calm w N (sortWorld enW w b 0 n d' os) (Mut NA (fun _ => some b) (one1 55 1 ((d'.toList.map fun x => x.1.2).map rowL1))) := by
        refine ⟨o2, fun q hq hn => ⟨o1 q hq (fun e => hn (e ▸ hNb)), fun hm => hn ?_⟩⟩
        rw [hN]
        exact mut_one.2 (mut_one.1 hm)
      refine .inr ⟨b, _, cap, rfl, hat, by rw [hsz2]; exact hsz, by rw [List.length_map, hys]; exact hcap, hmax, fun j row hr => ?_, fun j row i x hr hx => ?_⟩
      · rw [List.getElem?_map, Option.map_eq_some_iff] at hr
        obtain ⟨l, _, rfl⟩ := hr
        exact ⟨rfl, rfl⟩
      · rw [List.getElem?_map, Option.map_eq_some_iff] at hr
        obtain ⟨l, hy, rfl⟩ := hr
        rw [List.getElem?_map, Option.map_eq_some_iff] at hy
        obtain ⟨y, hy, rfl⟩ := hy
        have hj : j < d'.toList.length := (List.getElem?_eq_some_iff.1 hy).1
        have hjd : j < d'.size := by simpa using hj
        have hjc : j < cur.size := by rw [hsz]; omega
        have hi : i = 0 := by
          have := (List.getElem?_eq_some_iff.1 hx).1
          simpa using this
        subst hi
        simp at hx
        subst hx
        refine ⟨enW y, ?_, ((hrep y).1).move hcalm⟩
        have ey : d'[j]! = y := by
          have := (List.getElem?_eq_some_iff.1 hy).2
          simpa [hjd] using this
        simp [putCells, hjd, hjc, ← ey]
    · have e4 : b = b2 := Option.some.inj hb2
      subst e4
      rw [hg] at hc2; cases hc2
      exact ⟨_, hat, hsz2⟩
end Go.Proofs.Ytlodpljdhdhfmaa
/- The shadow code of functions, as the kit's translation has them. -/
namespace Go.Proofs.Ytlodpljdhdhfmaa
open Go.RowKit
def markW : List FuncId := [35]
def k57_0 : SCode := .reg [⟨some 1, none, .box 60 (.tmp 0), [], false⟩, ⟨some 2, none, .mov (.const (.slice none 0 0)), [], false⟩] [1, 2]
def k57_1 : SCode := .reg [⟨some 5, none, .load true 5 (.tmp 1), [], false⟩, ⟨some 6, none, .call 31 [(.tmp 5)], [], false⟩, ⟨some 3, none, .mov (.tmp 6), [], false⟩] [1, 2, 3]
def k57_2 : SCode := .reg [⟨some 7, none, .load true 5 (.tmp 1), [], false⟩, ⟨some 8, none, .call 32 [(.tmp 7)], [], false⟩, ⟨some 9, none, .rng false .u64 (.tmp 8), [], false⟩] [2, 3, 9]
def k57_3 : SCode := .reg [⟨some 10, none, .nxt (.tmp 9), [], false⟩, ⟨some 11, none, .ext (.tmp 10) 0, [], false⟩] [2, 3, 9, 11]
def k57_4 : SCode := .cond (.tmp 11) .skip (.exit 0)
def k57_5 : SCode := .reg [⟨some 12, none, .ent (.tmp 9), [], false⟩, ⟨some 13, none, .ext (.tmp 12) 0, [], false⟩, ⟨some 4, none, .mov (.tmp 13), [], false⟩] [2, 3, 4, 9]
def k57_6 : SCode := .reg [⟨some 14, none, .mov (.tmp 4), [], false⟩, ⟨some 15, none, .call 33 [(.tmp 14)], [], false⟩, ⟨some 16, none, .mov (.tmp 3), [], false⟩, ⟨some 17, none, .bin .eql (.tmp 15) (.tmp 16), [], false⟩] [2, 3, 4, 9, 17]
def k57_7 : SCode := .reg [⟨some 18, none, .mov (.tmp 2), [], false⟩, ⟨some 19, none, .mov (.tmp 4), [], false⟩, ⟨some 20, none, .call 34 [(.tmp 19)], [], false⟩, ⟨some 21, none, .buildSl 55 1 [(.slice none 0 0)] 1 [(0, (.tmp 20))], [], false⟩, ⟨some 22, none, .append 55 1 24 (.tmp 18) (.tmp 21), [], false⟩, ⟨some 2, none, .mov (.tmp 22), [], false⟩] [2, 3, 9]
def k57_8 : SCode := .cond (.tmp 17) k57_7 .skip
def k57_9 : SCode := .seq k57_6 k57_8
def k57_10 : SCode := .seq k57_5 k57_9
def k57_11 : SCode := .block 1 k57_10
def k57_12 : SCode := .seq k57_4 k57_11
def k57_13 : SCode := .seq k57_3 k57_12
def k57_14 : SCode := .loop k57_13
def k57_15 : SCode := .block 0 k57_14
def k57_16 : SCode := .seq k57_2 k57_15
def k57_17 : SCode := .reg [⟨some 23, none, .mov (.tmp 2), [], false⟩, ⟨some 24, none, .callM 35 [(.tmp 23), (.func 36)], [], false⟩] [2]
def k57_18 : SCode := .reg [⟨some 25, none, .mov (.tmp 2), [], false⟩, ⟨some 2, none, .mov (.tmp 25), [], false⟩] [2]
def k57_19 : SCode := .seq k57_18 .ret
def k57_20 : SCode := .seq k57_17 k57_19
def k57_21 : SCode := .seq k57_16 k57_20
def k57_22 : SCode := .seq k57_1 k57_21
def k57_23 : SCode := .seq k57_0 k57_22
theorem glaw_wire_book_least (cs : List CV) (r : CV) (hl : cs.length ≤ 26) (h : STri (cfF Try.prog markW 26) k57_23 (initT 0 cs) [] (retQ rs_wire_book_least r)) : SC Try.prog 22 cs r :=
  sc_of markW follows Try.func22 rfl Try.ntmps22 (by decide) (by kernel_rfl) (by kernel_rfl) hl h
end Go.Proofs.Ytlodpljdhdhfmaa
/- Wire, XV: the smallest sets of sources that are wrong. -/
namespace Go.Proofs.Ytlodpljdhdhfmaa
open Go.RowKit
def numsTo (x k : Nat) : List Int := ((List.range k).filter fun i => x.testBit i).map fun (i : Nat) => (i : Int)
def numsL (x : Nat) : List Int := numsTo x (lenN x)
theorem numsTo_succ (x k : Nat) : numsTo x (k + 1) = if x.testBit k = true then numsTo x k ++ [(k : Int)] else numsTo x k := by
  unfold numsTo
  rw [List.range_succ, List.filter_append, List.map_append]
  by_cases h : x.testBit k = true <;> simp [h]
theorem numsTo_len (x k : Nat) : (numsTo x k).length ≤ k := by
  unfold numsTo
  rw [List.length_map]
  exact Nat.le_trans (List.length_filter_le _ _) (by simp)
theorem len_le : ∀ x : Nat, x < 1024 → lenN x ≤ 10 := by decide +kernel
theorem sNumbers (x : Nat) (hx : x < 1024) : SC Try.prog 34 [U x] (slI (numsL x)) := by
  refine law_wire_numbers _ _ (by simp) ?_
  have hl := len_le x hx
  (repeat' (first | ((first | with_reducible refine st_skip ?_ | with_reducible refine st_exit ?_); (try simp only [seqQ, blockQ, loopQ, forQ, whileQ, reduceIte, Nat.reduceEqDiff])) | (with_reducible refine st_ret ?_; ((try simp only [seqQ, blockQ, loopQ, forQ, whileQ]); first | (with_reducible refine retM_ret ?_) | refine retQ_ret ?_; simp)) | refine st_seq ?_ | refine st_block ?_ | ((with_reducible show (STri _ _ _ _ _) ∧ (STri _ _ _ _ _)); refine And.intro ?_ ?_) | ((first | refine st_reg ?_ | refine buildP_own ?_ | refine appP_own ?_ | refine callP_b (sLen x hx) rfl ?_) <;> (simp -dsimp; (repeat (simp -dsimp (disch := (first | omega | assumption | (refine Bool.eq_false_iff.1 ?_; assumption))) only [wrap_in, if_pos, if_neg]; (try simp -dsimp))))) | ((first | refine guardP_of (fun hc => ?_) (fun hc => ?_) | refine st_cond rfl (fun hc => ?_) (fun hc => ?_)) <;> (try simp only [lqA, lqB, lqC, lqD, lqE, lqF, lqG, lqH, lqI, lqJ, lqK, lqL, lqM, lqN, lqO] at hc) <;> (try (exfalso; first | omega | exact bool_tf hc (by assumption) | exact bool_ft hc (by assumption) | exact absurd (by assumption) hc)) <;> (first | with_reducible show STri _ _ _ _ _ _ | (simp -dsimp [hc]; (repeat (simp -dsimp (disch := (first | omega | assumption | (refine Bool.eq_false_iff.1 ?_; assumption))) only [wrap_in, if_pos, if_neg]; (try simp -dsimp [hc]))))))))
  refine st_nil 2 200 3 1 rfl (by simp [newOK]) ?_
  refine st_less [(0, .c (U x)), (2, .own 200 0), (5, .c (I (lenN x))), (6, .c (I 0))] [(200, .arr 3 1 [])] (by simp [Less, LessT, LessH, dropOK, dropK, SV.outD, Blk.outD]) ?_
  refine st_for [200] (lenN x) (fun k T H => T = [(0, .c (U x)), (2, .own 200 (numsTo x k).length), (5, .c (I (lenN x))), (6, .c (I k))] ∧ H = [(200, .arr 3 1 ((numsTo x k).map rowI))]) (by simp) ⟨by simp [numsTo], by simp [numsTo]⟩ ?_
  rintro k T H hk ⟨rfl, rfl⟩
  by_cases hlt : k < lenN x
  · have f1 := shr_nat x k (by omega)
    have hs := numsTo_succ x k
    have hlen := numsTo_len x k
    have e : ((x : Int) >>> k % 2 = 1) = (x.testBit k = true) := by
      have e0 : (x : Int) >>> k = ((x >>> k : Nat) : Int) := rfl
      rw [← bit_odd, e0]
      apply propext
      omega
    generalize numsTo x k = l at *
    (repeat' (first | ((first | with_reducible refine st_skip ?_ | with_reducible refine st_exit ?_); (try simp only [seqQ, blockQ, loopQ, forQ, whileQ, reduceIte, Nat.reduceEqDiff])) | (with_reducible refine st_ret ?_; ((try simp only [seqQ, blockQ, loopQ, forQ, whileQ]); first | (with_reducible refine retM_ret ?_) | refine retQ_ret ?_; simp [hlt, f1, and_one])) | refine st_seq ?_ | refine st_block ?_ | ((with_reducible show (STri _ _ _ _ _) ∧ (STri _ _ _ _ _)); refine And.intro ?_ ?_) | ((first | refine st_reg ?_ | refine buildP_own ?_ | refine appP_own ?_) <;> (simp -dsimp [hlt, f1, and_one]; (repeat (simp -dsimp (disch := (first | omega | assumption | (refine Bool.eq_false_iff.1 ?_; assumption))) only [wrap_in, if_pos, if_neg]; (try simp -dsimp [hlt, f1, and_one]))))) | ((first | refine guardP_of (fun hc => ?_) (fun hc => ?_) | refine st_cond rfl (fun hc => ?_) (fun hc => ?_)) <;> (try simp only [lqA, lqB, lqC, lqD, lqE, lqF, lqG, lqH, lqI, lqJ, lqK, lqL, lqM, lqN, lqO] at hc) <;> (try (exfalso; first | omega | exact bool_tf hc (by assumption) | exact bool_ft hc (by assumption) | exact absurd (by assumption) hc)) <;> (first | with_reducible show STri _ _ _ _ _ _ | (simp -dsimp [hlt, f1, and_one, hc]; (repeat (simp -dsimp (disch := (first | omega | assumption | (refine Bool.eq_false_iff.1 ?_; assumption))) only [wrap_in, if_pos, if_neg]; (try simp -dsimp [hlt, f1, and_one, hc]))))))))
    · rw [e] at hc
      rw [if_pos hc] at hs
      exact ⟨hlt, by simp, by simp [hs], by simp [hs]⟩
    · rw [e] at hc
      rw [if_neg hc] at hs
      exact ⟨hlt, by simp, by simp [hs], by simp [hs]⟩
  · have : k = lenN x := by omega
    subst this
    (repeat' (first | ((first | with_reducible refine st_skip ?_ | with_reducible refine st_exit ?_); (try simp only [seqQ, blockQ, loopQ, forQ, whileQ, reduceIte, Nat.reduceEqDiff])) | (with_reducible refine st_ret ?_; ((try simp only [seqQ, blockQ, loopQ, forQ, whileQ]); first | (with_reducible refine retM_ret ?_) | refine retQ_ret ?_; simp [hlt])) | refine st_seq ?_ | refine st_block ?_ | ((with_reducible show (STri _ _ _ _ _) ∧ (STri _ _ _ _ _)); refine And.intro ?_ ?_) | ((first | refine st_reg ?_ | refine buildP_own ?_ | refine appP_own ?_) <;> (simp -dsimp [hlt]; (repeat (simp -dsimp (disch := (first | omega | assumption | (refine Bool.eq_false_iff.1 ?_; assumption))) only [wrap_in, if_pos, if_neg]; (try simp -dsimp [hlt]))))) | ((first | refine guardP_of (fun hc => ?_) (fun hc => ?_) | refine st_cond rfl (fun hc => ?_) (fun hc => ?_)) <;> (try simp only [lqA, lqB, lqC, lqD, lqE, lqF, lqG, lqH, lqI, lqJ, lqK, lqL, lqM, lqN, lqO] at hc) <;> (try (exfalso; first | omega | exact bool_tf hc (by assumption) | exact bool_ft hc (by assumption) | exact absurd (by assumption) hc)) <;> (first | with_reducible show STri _ _ _ _ _ _ | (simp -dsimp [hlt, hc]; (repeat (simp -dsimp (disch := (first | omega | assumption | (refine Bool.eq_false_iff.1 ?_; assumption))) only [wrap_in, if_pos, if_neg]; (try simp -dsimp [hlt, hc]))))))))
    exact .refl _
def sortL (ls : List (List Int)) : List (List Int) := ls.mergeSort fun x y => !ltL y x
def leastS (b : Wbk) : List Nat := (setsL b).filter fun x => decide (popN x = fewN b)
def leastL (b : Wbk) : List (List Int) := sortL ((leastS b).map numsL)
def slL (ls : List (List Int)) : CV := .sl 1 (ls.map rowL1)
attribute [simp] slL
theorem sortL_pair (ls : List (List Int)) : (sortL ls).Pairwise fun x y => ltL y x = false := by
  have h1 : (sortL ls).Pairwise fun x y => (!ltL y x) = true := List.pairwise_mergeSort (le := fun x y => !ltL y x) (fun x y z h1 h2 => by
      unfold ltL at *
      simp only [Bool.not_eq_true', decide_eq_false_iff_not] at *
      have a1 := cmpL_anti x y
      have a2 := cmpL_anti y z
      have a3 := cmpL_anti x z
      have := (cmpL_trans (xs := x) (ys := y) (zs := z) (by omega) (by omega)).1
      omega) (fun x y => by
      unfold ltL
      have a1 := cmpL_anti x y
      simp only [Bool.or_eq_true, Bool.not_eq_true', decide_eq_false_iff_not]
      omega) ls
  exact h1.imp fun h => by simpa using h
theorem sortL_of {xs ys : List (List Int)} (hp : ys.Perm xs) (hs : ys.Pairwise fun x y => ltL y x = false) : ys = sortL xs := by
  refine List.Perm.eq_of_pairwise (le := fun x y => ltL y x = false) (fun x y _ _ h1 h2 => ?_) hs (sortL_pair xs) (hp.trans (List.mergeSort_perm xs _).symm)
  unfold ltL at h1 h2
  simp only [decide_eq_false_iff_not] at h1 h2
  have a1 := cmpL_anti x y
  exact cmpL_eq (by omega)
def rowsU (acc : List Nat) : List (List CV) := (acc.map numsL).map rowL1
@[simp] theorem rowsU_len (acc : List Nat) : (rowsU acc).length = acc.length := by simp [rowsU]
theorem rowsU_snoc (acc : List Nat) (x : Nat) : rowsU (acc ++ [x]) = rowsU acc ++ [[.sl 1 ((numsL x).map rowI)]] := by simp [rowsU]
def leI (b : Wbk) (m : Nat) (T : TL) (H : HL) : Prop := ∃ L cur acc, m = L.length ∧ (∀ x ∈ L, x < 1024) ∧ (acc ++ L.filter fun x => decide (popN x = fewN b)).Perm (leastS b) ∧ acc.length + L.length ≤ 20000 ∧
  T = [(2, .own 200 acc.length), (3, .c (I (fewN b : Nat))), (9, .it 9)] ∧ H = [(200, .arr 55 1 (rowsU acc)), (9, .it false .u64 (entsU L) cur)]
theorem nums_len (x : Nat) (hx : x < 1024) : (numsL x).length ≤ 1000000000 := by
  have := numsTo_len x (lenN x)
  have := len_le x hx
  unfold numsL; omega
theorem sLeast (b : Wbk) (hb : BkOK b) : SC Try.prog 22 [cBk b] (slL (leastL b)) := by
  refine glaw_wire_book_least _ _ (by simp) ?_
  have sf := sFewest b hb
  have ss := sSets b hb
  have hsl : (setsL b).length ≤ 20000 := by
    have h1 := setsTo_len b (allL b).length (Nat.le_refl _)
    have h2 : setsTo b (allL b).length = setsL b := by unfold setsTo setsL; rw [List.take_length]
    have h3 := allL_len b
    have n0 := hb.n0
    have n2 := hb.n2
    rw [h2] at h1
    unfold bookN at h3
    omega
  have hst : ∀ x ∈ leastS b, x < 1024 := fun x hx => set_lt hb (List.mem_filter.1 hx).1
  (repeat' (first | ((first | with_reducible refine st_skip ?_ | with_reducible refine st_exit ?_); (try simp only [seqQ, blockQ, loopQ, forQ, whileQ, reduceIte, Nat.reduceEqDiff])) | (with_reducible refine st_ret ?_; ((try simp only [seqQ, blockQ, loopQ, forQ, whileQ]); first | (with_reducible refine retM_ret ?_) | refine retQ_ret ?_; simp)) | refine st_seq ?_ | refine st_block ?_ | ((with_reducible show (STri _ _ _ _ _) ∧ (STri _ _ _ _ _)); refine And.intro ?_ ?_) | ((first | refine st_reg ?_ | refine buildP_own ?_ | refine appP_own ?_ | ((with_reducible show callGP _ _ _ _ _ _ _); refine callG_b (sf) ?hcc ?hpp ?_; (case hcc => (first | rfl | (simp <;> fail))); (case hpp => (first | rfl | (simp <;> fail)))) | ((with_reducible show callGP _ _ _ _ _ _ _); refine callG_b (ss) ?hcc ?hpp ?_; (case hcc => (first | rfl | (simp <;> fail))); (case hpp => (first | rfl | (simp <;> fail)))) | refine callP_b (sf) rfl ?_ | refine callP_b (ss) rfl ?_) <;> (simp -dsimp; (repeat (simp -dsimp (disch := (first | omega | assumption | (refine Bool.eq_false_iff.1 ?_; assumption))) only [wrap_in, if_pos, if_neg]; (try simp -dsimp))))) | ((first | refine guardP_of (fun hc => ?_) (fun hc => ?_) | refine st_cond rfl (fun hc => ?_) (fun hc => ?_)) <;> (try simp only [lqA, lqB, lqC, lqD, lqE, lqF, lqG, lqH, lqI, lqJ, lqK, lqL, lqM, lqN, lqO] at hc) <;> (try (exfalso; first | omega | exact bool_tf hc (by assumption) | exact bool_ft hc (by assumption) | exact absurd (by assumption) hc)) <;> (first | with_reducible show STri _ _ _ _ _ _ | (simp -dsimp [hc]; (repeat (simp -dsimp (disch := (first | omega | assumption | (refine Bool.eq_false_iff.1 ?_; assumption))) only [wrap_in, if_pos, if_neg]; (try simp -dsimp [hc]))))))))
  refine st_nil 2 200 55 1 rfl (by simp [newOK]) ?_
  refine st_less [(2, .own 200 0), (3, .c (I (fewN b : Nat))), (9, .it 9)] [(200, .arr 55 1 []), (9, .it false .u64 (entsU (setsL b)) none)] (by simp [Less, LessT, LessH, dropOK, dropK, SV.outD, Blk.outD]) ?_
  refine st_while [200, 9] (leI b) (setsL b).length (by simp) ⟨setsL b, none, [], rfl, fun x hx => set_lt hb hx, .refl _, by simpa using hsl, by simp, by simp [rowsU]⟩ ?_
  rintro m T H ⟨L, cur, acc, rfl, hL, hperm, hlen, rfl, rfl⟩
  have hA : acc.length ≤ 9223372036854775806 := by omega
  have hB : (acc.length + 1) * 24 ≤ 140737488355328 := by omega
  have ms := mSortL (acc.map numsL) (by simp; omega) (fun l hl => by
    obtain ⟨x, hx, rfl⟩ := List.mem_map.1 hl
    exact nums_len x (hst x (hperm.subset (by simp [hx]))))
  (repeat' (first | ((with_reducible show STri _ SCode.skip [(2, _), (3, _), (4, _), (9, _), (17, _)] _ _); refine st_less [(2, .own 200 acc.length), (3, .c (I (fewN b : Nat))), (9, .it 9)] [(200, .arr 55 1 (rowsU acc)), (9, .it false .u64 (entsU Rq) (some (entU wq)))] (by simp [Less, LessT, LessH, dropOK, dropK, SV.outD, Blk.outD]) ?_) | ((first | with_reducible refine st_skip ?_ | with_reducible refine st_exit ?_); (try simp only [seqQ, blockQ, loopQ, forQ, whileQ, reduceIte, Nat.reduceEqDiff])) | (with_reducible refine st_ret ?_; ((try simp only [seqQ, blockQ, loopQ, forQ, whileQ]); first | (with_reducible refine retM_ret ?_) | refine retQ_ret ?_; simp [hA, hB])) | refine st_seq ?_ | refine st_block ?_ | ((with_reducible show (STri _ _ _ _ _) ∧ (STri _ _ _ _ _)); refine And.intro ?_ ?_) | ((first | refine st_reg ?_ | ((with_reducible show callMP _ _ _ _ _ _); refine callM_of (ms ) (by decide) (by first | rfl | simp) (by first | rfl | simp) (by first | rfl | simp) (by first | rfl | simp) (fun rows2 hR2 hl2 => ?_);  obtain ⟨ys, rfl, q1, q2⟩ := hR2) | refine buildP_own ?_ | refine appP_own ?_ | ((with_reducible show callGP _ _ _ _ _ _ _); refine callG_b (sOnes wq (hL wq (hpq.mem_iff.2 (by simp)))) ?hcc ?hpp ?_; (case hcc => (first | rfl | (simp <;> fail))); (case hpp => (first | rfl | (simp <;> fail)))) | ((with_reducible show callGP _ _ _ _ _ _ _); refine callG_b (sNumbers wq (hL wq (hpq.mem_iff.2 (by simp)))) ?hcc ?hpp ?_; (case hcc => (first | rfl | (simp <;> fail))); (case hpp => (first | rfl | (simp <;> fail)))) | ((with_reducible show nextP _ _ _ _); refine next_of (by first | rfl | simp) (fun hl0 => ?_) (fun pe re hpm => ?_) <;> (first | (obtain ⟨wq, Rq, rfl, rfl, hpq⟩ := ents_perm hpm) | skip)) | refine callP_b (sOnes wq (hL wq (hpq.mem_iff.2 (by simp)))) rfl ?_ | refine callP_b (sNumbers wq (hL wq (hpq.mem_iff.2 (by simp)))) rfl ?_) <;> (simp -dsimp [hA, hB]; (repeat (simp -dsimp (disch := (first | omega | assumption | (refine Bool.eq_false_iff.1 ?_; assumption))) only [wrap_in, if_pos, if_neg]; (try simp -dsimp [hA, hB]))))) | ((first | refine guardP_of (fun hc => ?_) (fun hc => ?_) | refine st_cond rfl (fun hc => ?_) (fun hc => ?_)) <;> (try simp only [lqA, lqB, lqC, lqD, lqE, lqF, lqG, lqH, lqI, lqJ, lqK, lqL, lqM, lqN, lqO] at hc) <;> (try (exfalso; first | omega | exact bool_tf hc (by assumption) | exact bool_ft hc (by assumption) | exact absurd (by assumption) hc)) <;> (first | with_reducible show STri _ _ _ _ _ _ | (simp -dsimp [hA, hB, hc]; (repeat (simp -dsimp (disch := (first | omega | assumption | (refine Bool.eq_false_iff.1 ?_; assumption))) only [wrap_in, if_pos, if_neg]; (try simp -dsimp [hA, hB, hc]))))))))
  · have hL0 : L = [] := by simpa [entsU] using hl0
    subst hL0
    simp only [List.filter_nil, List.append_nil] at hperm
    have e : ys = leastL b := sortL_of (q1.trans (hperm.map numsL)) q2
    have hly := q1.length_eq
    have hly2 : ys.length = acc.length := by simpa using hly
    subst e
    rw [if_pos hly2.symm]
    exact ⟨_, rfl, .refl _⟩
  · have h1 : decide (popN wq = fewN b) = true := by simpa using (show popN wq = fewN b by omega)
    have hl2 := hpq.length_eq
    simp only [List.length_cons] at hl2
    refine ⟨Rq.length, by omega, by simp, Rq, some (entU wq), acc ++ [wq], rfl, fun x hx => hL x (hpq.mem_iff.2 (by simp [hx])), ?_, by simp; omega, by simp, by simp [rowsU_snoc]⟩
    refine List.Perm.trans ?_ hperm
    have := (hpq.filter fun x => decide (popN x = fewN b)).append_left acc
    rw [List.filter_cons_of_pos (p := fun x => decide (popN x = fewN b)) h1] at this
    rw [List.append_assoc]
    exact this.symm
  · have h1 : ¬ decide (popN wq = fewN b) = true := by simpa using (show ¬ popN wq = fewN b by omega)
    have hl2 := hpq.length_eq
    simp only [List.length_cons] at hl2
    refine ⟨Rq.length, by omega, by simp, Rq, some (entU wq), acc, rfl, fun x hx => hL x (hpq.mem_iff.2 (by simp [hx])), ?_, by omega, by simp, by simp⟩
    refine List.Perm.trans ?_ hperm
    have := (hpq.filter fun x => decide (popN x = fewN b)).append_left acc
    rw [List.filter_cons_of_neg (p := fun x => decide (popN x = fewN b)) h1] at this
    exact this.symm
end Go.Proofs.Ytlodpljdhdhfmaa
/- Wire, XVI: who is wrong. -/
namespace Go.Proofs.Ytlodpljdhdhfmaa
open Go.RowKit
theorem pop_two : ∀ x : Nat, x < 1024 → ∀ n : Nat, n < 11 → x < 2 ^ n → popN x ≤ n := by decide +kernel
theorem set_pop {b : Wbk} (hb : BkOK b) {x : Nat} (hx : x ∈ setsL b) : popN x ≤ b.srcs.length := by
  obtain ⟨y, hy, rfl⟩ := mem_setsL.1 hx
  obtain ⟨k, hk, rfl⟩ := List.mem_map.1 hy
  have h1 := wrongTo_lt hb (b.nlo + k) b.notes.length (Nat.le_refl _)
  exact pop_two _ (set_lt hb hx) _ (by have := hb.len; omega) h1
theorem sets_ne {b : Wbk} (hb : BkOK b) : ∃ x, x ∈ setsL b := by
  have n1 := hb.n1
  refine ⟨wrongN b b.nlo, mem_setsL.2 ⟨(b.nlo, wrongN b b.nlo), ?_, rfl⟩⟩
  unfold allL bookN
  exact List.mem_map.2 ⟨0, List.mem_range.2 (by omega), by simp⟩
theorem least_ne {b : Wbk} (hb : BkOK b) : ∃ x, x ∈ leastS b := by
  obtain ⟨x, hx⟩ := sets_ne hb
  have h1 := minU_le (setsL b) b.srcs.length
  rcases minU_at (setsL b) b.srcs.length with h | ⟨y, hy, h⟩
  · have h2 := h1.2 x hx
    have h3 := set_pop hb hx
    exact ⟨x, List.mem_filter.2 ⟨hx, by simp only [decide_eq_true_eq]; unfold fewN; omega⟩⟩
  · exact ⟨y, List.mem_filter.2 ⟨hy, by simp only [decide_eq_true_eq]; unfold fewN; omega⟩⟩
theorem leastL_ne {b : Wbk} (hb : BkOK b) : ∃ s r, leastL b = s :: r := by
  obtain ⟨x, hx⟩ := least_ne hb
  have h : numsL x ∈ leastL b := (List.mergeSort_perm _ _).mem_iff.2 (List.mem_map.2 ⟨x, hx, rfl⟩)
  cases e : leastL b with
  | nil => rw [e] at h; cases h
  | cons s r => exact ⟨s, r, rfl⟩
def convE : List (List Int) → Int × Int
  | [] :: _ => (0, 7)
  | (_ :: _ :: _) :: _ => (0, 9)
  | [_] :: _ :: _ => (0, 6)
  | [[x]] => (x, 0)
  | [] => (0, 0)
theorem sConvict (w : List Wsrc) (hw : WLen w) (l : List Wnt) (hl : l.length ≤ 1000000) (nlo nhi : Int) : SC Try.prog 10 [slSr w, slN l, .agg [I nlo, I nhi]]
    (.tup [I (if newErr w l nlo nhi = 0 then (convE (leastL (newBk w l nlo nhi))).1 else 0), I (if newErr w l nlo nhi = 0 then (convE (leastL (newBk w l nlo nhi))).2 else newErr w l nlo nhi)]) := by
  refine law_wire_Convict _ _ (by simp) ?_
  have sb := sNewBook w hw l hl nlo nhi
  by_cases h : newErr w l nlo nhi = 0
  · have hb := new_bk h
    have sf := sLeast _ hb
    obtain ⟨s, r, hsr⟩ := leastL_ne hb
    rw [if_pos h, if_pos h]
    rw [h] at sb
    generalize newBk w l nlo nhi = b at *
    rw [hsr] at sf ⊢
    rcases s with _ | ⟨x, _ | ⟨y, s⟩⟩
    · (repeat' (first | ((first | with_reducible refine st_skip ?_ | with_reducible refine st_exit ?_); (try simp only [seqQ, blockQ, loopQ, forQ, whileQ, reduceIte, Nat.reduceEqDiff])) | (with_reducible refine st_ret ?_; ((try simp only [seqQ, blockQ, loopQ, forQ, whileQ]); first | (with_reducible refine retM_ret ?_) | refine retQ_ret ?_; simp)) | refine st_seq ?_ | refine st_block ?_ | ((with_reducible show (STri _ _ _ _ _) ∧ (STri _ _ _ _ _)); refine And.intro ?_ ?_) | ((first | refine st_reg ?_ | refine buildP_own ?_ | refine appP_own ?_ | refine callP_b (sb) rfl ?_ | refine callP_b (sf) rfl ?_) <;> (simp -dsimp; (repeat (simp -dsimp (disch := (first | omega | assumption | (refine Bool.eq_false_iff.1 ?_; assumption))) only [wrap_in, if_pos, if_neg]; (try simp -dsimp))))) | ((first | refine guardP_of (fun hc => ?_) (fun hc => ?_) | refine st_cond rfl (fun hc => ?_) (fun hc => ?_)) <;> (try simp only [lqA, lqB, lqC, lqD, lqE, lqF, lqG, lqH, lqI, lqJ, lqK, lqL, lqM, lqN, lqO] at hc) <;> (try (exfalso; first | omega | exact bool_tf hc (by assumption) | exact bool_ft hc (by assumption) | exact absurd (by assumption) hc)) <;> (first | with_reducible show STri _ _ _ _ _ _ | (simp -dsimp [hc]; (repeat (simp -dsimp (disch := (first | omega | assumption | (refine Bool.eq_false_iff.1 ?_; assumption))) only [wrap_in, if_pos, if_neg]; (try simp -dsimp [hc]))))))))
      all_goals exact .refl _
    · rcases r with _ | ⟨t, r⟩
      · (repeat' (first | ((first | with_reducible refine st_skip ?_ | with_reducible refine st_exit ?_); (try simp only [seqQ, blockQ, loopQ, forQ, whileQ, reduceIte, Nat.reduceEqDiff])) | (with_reducible refine st_ret ?_; ((try simp only [seqQ, blockQ, loopQ, forQ, whileQ]); first | (with_reducible refine retM_ret ?_) | refine retQ_ret ?_; simp)) | refine st_seq ?_ | refine st_block ?_ | ((with_reducible show (STri _ _ _ _ _) ∧ (STri _ _ _ _ _)); refine And.intro ?_ ?_) | ((first | refine st_reg ?_ | refine buildP_own ?_ | refine appP_own ?_ | refine callP_b (sb) rfl ?_ | refine callP_b (sf) rfl ?_) <;> (simp -dsimp; (repeat (simp -dsimp (disch := (first | omega | assumption | (refine Bool.eq_false_iff.1 ?_; assumption))) only [wrap_in, if_pos, if_neg]; (try simp -dsimp))))) | ((first | refine guardP_of (fun hc => ?_) (fun hc => ?_) | refine st_cond rfl (fun hc => ?_) (fun hc => ?_)) <;> (try simp only [lqA, lqB, lqC, lqD, lqE, lqF, lqG, lqH, lqI, lqJ, lqK, lqL, lqM, lqN, lqO] at hc) <;> (try (exfalso; first | omega | exact bool_tf hc (by assumption) | exact bool_ft hc (by assumption) | exact absurd (by assumption) hc)) <;> (first | with_reducible show STri _ _ _ _ _ _ | (simp -dsimp [hc]; (repeat (simp -dsimp (disch := (first | omega | assumption | (refine Bool.eq_false_iff.1 ?_; assumption))) only [wrap_in, if_pos, if_neg]; (try simp -dsimp [hc]))))))))
        all_goals exact .refl _
      · have h1 : (1 : Int) < (r.length : Int) + 1 + 1 := by omega
        (repeat' (first | ((first | with_reducible refine st_skip ?_ | with_reducible refine st_exit ?_); (try simp only [seqQ, blockQ, loopQ, forQ, whileQ, reduceIte, Nat.reduceEqDiff])) | (with_reducible refine st_ret ?_; ((try simp only [seqQ, blockQ, loopQ, forQ, whileQ]); first | (with_reducible refine retM_ret ?_) | refine retQ_ret ?_; simp [h1])) | refine st_seq ?_ | refine st_block ?_ | ((with_reducible show (STri _ _ _ _ _) ∧ (STri _ _ _ _ _)); refine And.intro ?_ ?_) | ((first | refine st_reg ?_ | refine buildP_own ?_ | refine appP_own ?_ | refine callP_b (sb) rfl ?_ | refine callP_b (sf) rfl ?_) <;> (simp -dsimp [h1]; (repeat (simp -dsimp (disch := (first | omega | assumption | (refine Bool.eq_false_iff.1 ?_; assumption))) only [wrap_in, if_pos, if_neg]; (try simp -dsimp [h1]))))) | ((first | refine guardP_of (fun hc => ?_) (fun hc => ?_) | refine st_cond rfl (fun hc => ?_) (fun hc => ?_)) <;> (try simp only [lqA, lqB, lqC, lqD, lqE, lqF, lqG, lqH, lqI, lqJ, lqK, lqL, lqM, lqN, lqO] at hc) <;> (try (exfalso; first | omega | exact bool_tf hc (by assumption) | exact bool_ft hc (by assumption) | exact absurd (by assumption) hc)) <;> (first | with_reducible show STri _ _ _ _ _ _ | (simp -dsimp [h1, hc]; (repeat (simp -dsimp (disch := (first | omega | assumption | (refine Bool.eq_false_iff.1 ?_; assumption))) only [wrap_in, if_pos, if_neg]; (try simp -dsimp [h1, hc]))))))))
        all_goals exact .refl _
    · have h1 : (1 : Int) < (s.length : Int) + 1 + 1 := by omega
      have h2 : ¬ (s.length : Int) + 1 + 1 = 0 := by omega
      (repeat' (first | ((first | with_reducible refine st_skip ?_ | with_reducible refine st_exit ?_); (try simp only [seqQ, blockQ, loopQ, forQ, whileQ, reduceIte, Nat.reduceEqDiff])) | (with_reducible refine st_ret ?_; ((try simp only [seqQ, blockQ, loopQ, forQ, whileQ]); first | (with_reducible refine retM_ret ?_) | refine retQ_ret ?_; simp [h1, h2])) | refine st_seq ?_ | refine st_block ?_ | ((with_reducible show (STri _ _ _ _ _) ∧ (STri _ _ _ _ _)); refine And.intro ?_ ?_) | ((first | refine st_reg ?_ | refine buildP_own ?_ | refine appP_own ?_ | refine callP_b (sb) rfl ?_ | refine callP_b (sf) rfl ?_) <;> (simp -dsimp [h1, h2]; (repeat (simp -dsimp (disch := (first | omega | assumption | (refine Bool.eq_false_iff.1 ?_; assumption))) only [wrap_in, if_pos, if_neg]; (try simp -dsimp [h1, h2]))))) | ((first | refine guardP_of (fun hc => ?_) (fun hc => ?_) | refine st_cond rfl (fun hc => ?_) (fun hc => ?_)) <;> (try simp only [lqA, lqB, lqC, lqD, lqE, lqF, lqG, lqH, lqI, lqJ, lqK, lqL, lqM, lqN, lqO] at hc) <;> (try (exfalso; first | omega | exact bool_tf hc (by assumption) | exact bool_ft hc (by assumption) | exact absurd (by assumption) hc)) <;> (first | with_reducible show STri _ _ _ _ _ _ | (simp -dsimp [h1, h2, hc]; (repeat (simp -dsimp (disch := (first | omega | assumption | (refine Bool.eq_false_iff.1 ?_; assumption))) only [wrap_in, if_pos, if_neg]; (try simp -dsimp [h1, h2, hc]))))))))
      all_goals exact .refl _
  · rw [if_neg h, if_neg h]
    generalize newErr w l nlo nhi = e at *
    generalize newBk w l nlo nhi = b at *
    (repeat' (first | ((first | with_reducible refine st_skip ?_ | with_reducible refine st_exit ?_); (try simp only [seqQ, blockQ, loopQ, forQ, whileQ, reduceIte, Nat.reduceEqDiff])) | (with_reducible refine st_ret ?_; ((try simp only [seqQ, blockQ, loopQ, forQ, whileQ]); first | (with_reducible refine retM_ret ?_) | refine retQ_ret ?_; simp [h])) | refine st_seq ?_ | refine st_block ?_ | ((with_reducible show (STri _ _ _ _ _) ∧ (STri _ _ _ _ _)); refine And.intro ?_ ?_) | ((first | refine st_reg ?_ | refine buildP_own ?_ | refine appP_own ?_ | refine callP_b (sb) rfl ?_) <;> (simp -dsimp [h]; (repeat (simp -dsimp (disch := (first | omega | assumption | (refine Bool.eq_false_iff.1 ?_; assumption))) only [wrap_in, if_pos, if_neg]; (try simp -dsimp [h]))))) | ((first | refine guardP_of (fun hc => ?_) (fun hc => ?_) | refine st_cond rfl (fun hc => ?_) (fun hc => ?_)) <;> (try simp only [lqA, lqB, lqC, lqD, lqE, lqF, lqG, lqH, lqI, lqJ, lqK, lqL, lqM, lqN, lqO] at hc) <;> (try (exfalso; first | omega | exact bool_tf hc (by assumption) | exact bool_ft hc (by assumption) | exact absurd (by assumption) hc)) <;> (first | with_reducible show STri _ _ _ _ _ _ | (simp -dsimp [h, hc]; (repeat (simp -dsimp (disch := (first | omega | assumption | (refine Bool.eq_false_iff.1 ?_; assumption))) only [wrap_in, if_pos, if_neg]; (try simp -dsimp [h, hc]))))))))
    all_goals exact .refl _
end Go.Proofs.Ytlodpljdhdhfmaa
/- Declarations picked out of other texts. -/
namespace Go.Proofs.Ytlodpljdhdhfmaa
open Go.RowKit
theorem mem_allL {b : Wbk} {x : Int × Nat} : x ∈ allL b ↔ b.nlo ≤ x.1 ∧ x.1 ≤ b.nhi ∧ x.2 = wrongN b x.1 := by
  unfold allL bookN
  rw [List.mem_map]
  constructor
  · rintro ⟨k, hk, rfl⟩
    have := List.mem_range.1 hk
    exact ⟨by omega, by omega, rfl⟩
  · rintro ⟨h1, h2, h3⟩
    refine ⟨(x.1 - b.nlo).toNat, List.mem_range.2 (by omega), ?_⟩
    have e : b.nlo + ((x.1 - b.nlo).toNat : Int) = x.1 := by omega
    rw [e, ← h3]
theorem pop_zero : ∀ x : Nat, x < 1024 → popN x = 0 → x = 0 := by decide +kernel
theorem pop_zero2 : popN 0 = 0 := by decide
def GapsP (l : List (Int × Int)) : Prop := (∀ e ∈ l, e.1 ≤ e.2) ∧ l.Pairwise fun a b => a.2 + 1 < b.1
def insB (n : Int) (l : List (Int × Int)) : Bool := l.any fun e => decide (e.1 ≤ n) && decide (n ≤ e.2)
structure SpInv (b : Wbk) (p : Nat → Bool) (k : Nat) (l : List (Int × Int)) : Prop where
  gap : GapsP l
  lo : ∀ e ∈ l, b.nlo ≤ e.1 ∧ e.2 < b.nlo + k
  cov : ∀ y, insB y l = true ↔ b.nlo ≤ y ∧ y < b.nlo + k ∧ p (wrongN b y) = true
theorem insB_app (y : Int) (l m : List (Int × Int)) : insB y (l ++ m) = (insB y l || insB y m) := by unfold insB; exact List.any_append
theorem insB_one (y : Int) (e : Int × Int) : insB y [e] = true ↔ e.1 ≤ y ∧ y ≤ e.2 := by unfold insB; simp
theorem spInv (b : Wbk) (p : Nat → Bool) : ∀ k, k ≤ (allL b).length → SpInv b p k (spansTo b p k)
  | 0, _ => by
    have e0 : spansTo b p 0 = [] := rfl
    rw [e0]
    refine ⟨⟨fun e he => ?_, List.Pairwise.nil⟩, fun e he => ?_, fun y => ?_⟩
    · cases he
    · cases he
    · constructor
      · intro h
        simp [insB] at h
      · rintro ⟨h1, h2, _⟩
        omega
  | k + 1, hk => by
    have ih := spInv b p k (by omega)
    have hs := spansTo_succ (p := p) (show k < (allL b).length by omega)
    have hN : k < bookN b := by rw [← allL_len b]; omega
    have h3 : (allL b)[k]'(by omega) = (b.nlo + (k : Int), wrongN b (b.nlo + k)) := by
      have := allL_get hN
      rw [List.getElem?_eq_getElem (by omega)] at this
      exact Option.some.inj this
    rw [h3] at hs
    obtain ⟨⟨g1, g2⟩, i2, i3⟩ := ih
    rw [hs]
    unfold spanStep
    dsimp only
    generalize spansTo b p k = acc at *
    by_cases hp : p (wrongN b (b.nlo + k)) = true
    · rw [if_pos hp]
      have hnew : ∀ y, y = b.nlo + (k : Int) → p (wrongN b y) = true := fun y e => by rw [e]; exact hp
      rcases List.eq_nil_or_concat acc with rfl | ⟨ini, l, rfl⟩
      · simp only [List.getLast?_nil]
        refine ⟨⟨fun e he => ?_, List.pairwise_singleton _ _⟩, fun e he => ?_, fun y => ?_⟩
        · rw [List.mem_singleton.1 he]; exact Int.le_refl _
        · rw [List.mem_singleton.1 he]; dsimp only; omega
        · rw [insB_one]
          constructor
          · rintro ⟨h1, h2⟩
            dsimp only at h1 h2
            exact ⟨by omega, by omega, hnew y (by omega)⟩
          · rintro ⟨h1, h2, h4⟩
            dsimp only
            rcases (show y = b.nlo + (k : Int) ∨ y < b.nlo + (k : Int) by omega) with h | h
            · omega
            · have := (i3 y).2 ⟨h1, h, h4⟩
              simp [insB] at this
      · rw [List.concat_eq_append] at *
        simp only [List.getLast?_append, List.getLast?_singleton, Option.some_or, List.dropLast_concat]
        rw [List.pairwise_append] at g2
        obtain ⟨g2, _, g3⟩ := g2
        have hl := g1 l (by simp)
        have hl2 := i2 l (by simp)
        by_cases hq : l.2 = b.nlo + k - 1
        · rw [if_pos hq]
          refine ⟨⟨fun e he => ?_, ?_⟩, fun e he => ?_, fun y => ?_⟩
          · rcases List.mem_append.1 he with he | he
            · exact g1 e (by simp [he])
            · rw [List.mem_singleton.1 he]; dsimp only; omega
          · rw [List.pairwise_append]
            exact ⟨g2, List.pairwise_singleton _ _, fun a ha c hc => by rw [List.mem_singleton.1 hc]; exact g3 a ha l (by simp)⟩
          · rcases List.mem_append.1 he with he | he
            · have := i2 e (by simp [he]); omega
            · rw [List.mem_singleton.1 he]; dsimp only; omega
          · have h5 := i3 y
            rw [insB_app, Bool.or_eq_true, insB_one] at h5 ⊢
            dsimp only
            constructor
            · rintro (h | ⟨h1, h2⟩)
              · obtain ⟨h6, h7, h8⟩ := h5.1 (.inl h)
                exact ⟨h6, by omega, h8⟩
              · rcases (show y = b.nlo + (k : Int) ∨ y ≤ l.2 by omega) with h | h
                · exact ⟨by omega, by omega, hnew y h⟩
                · obtain ⟨h6, h7, h8⟩ := h5.1 (.inr ⟨h1, h⟩)
                  exact ⟨h6, by omega, h8⟩
            · rintro ⟨h1, h2, h4⟩
              rcases (show y = b.nlo + (k : Int) ∨ y < b.nlo + (k : Int) by omega) with h | h
              · exact .inr ⟨by omega, by omega⟩
              · rcases h5.2 ⟨h1, h, h4⟩ with h | h
                · exact .inl h
                · exact .inr ⟨h.1, by omega⟩
        · rw [if_neg hq]
          refine ⟨⟨fun e he => ?_, ?_⟩, fun e he => ?_, fun y => ?_⟩
          · rcases List.mem_append.1 he with he | he
            · exact g1 e he
            · rw [List.mem_singleton.1 he]; exact Int.le_refl _
          · rw [List.pairwise_append]
            refine ⟨?_, List.pairwise_singleton _ _, fun a ha c hc => ?_⟩
            · rw [List.pairwise_append]; exact ⟨g2, List.pairwise_singleton _ _, g3⟩
            · rw [List.mem_singleton.1 hc]
              dsimp only
              rcases List.mem_append.1 ha with ha | ha
              · have := g3 a ha l (by simp); omega
              · rw [List.mem_singleton.1 ha]; omega
          · rcases List.mem_append.1 he with he | he
            · have := i2 e he; omega
            · rw [List.mem_singleton.1 he]; dsimp only; omega
          · have h5 := i3 y
            rw [insB_app, Bool.or_eq_true, insB_one, h5]
            dsimp only
            constructor
            · rintro (⟨h6, h7, h8⟩ | ⟨h1, h2⟩)
              · exact ⟨h6, by omega, h8⟩
              · exact ⟨by omega, by omega, hnew y (by omega)⟩
            · rintro ⟨h1, h2, h4⟩
              rcases (show y = b.nlo + (k : Int) ∨ y < b.nlo + (k : Int) by omega) with h | h
              · exact .inr ⟨by omega, by omega⟩
              · exact .inl ⟨h1, h, h4⟩
    · rw [if_neg hp]
      refine ⟨⟨g1, g2⟩, fun e he => ?_, fun y => ?_⟩
      · have := i2 e he; omega
      · rw [i3 y]
        constructor
        · rintro ⟨h1, h2, h4⟩; exact ⟨h1, by omega, h4⟩
        · rintro ⟨h1, h2, h4⟩
          refine ⟨h1, ?_, h4⟩
          rcases (show y = b.nlo + (k : Int) ∨ y < b.nlo + (k : Int) by omega) with h | h
          · rw [h] at h4; exact absurd h4 hp
          · exact h
theorem spansInv {b : Wbk} (hb : BkOK b) (p : Nat → Bool) : GapsP (spansL b p) ∧ (∀ e ∈ spansL b p, b.nlo ≤ e.1 ∧ e.2 ≤ b.nhi) ∧ ∀ y, insB y (spansL b p) = true ↔ b.nlo ≤ y ∧ y ≤ b.nhi ∧ p (wrongN b y) = true := by
  have h := spInv b p (allL b).length (Nat.le_refl _)
  have e : spansTo b p (allL b).length = spansL b p := by unfold spansTo spansL; rw [List.take_length]
  rw [e] at h
  have hN : ((allL b).length : Int) = b.nhi + 1 - b.nlo := by
    rw [allL_len]; have := hb.n1; unfold bookN; omega
  refine ⟨h.gap, fun e he => ?_, fun y => ?_⟩
  · have := h.lo e he; omega
  · rw [h.cov y]
    constructor
    · rintro ⟨h1, h2, h3⟩; exact ⟨h1, by omega, h3⟩
    · rintro ⟨h1, h2, h3⟩; exact ⟨h1, by omega, h3⟩
theorem zero_in {b : Wbk} {y : Int} (h1 : b.nlo ≤ y) (h2 : y ≤ b.nhi) (h : wrongN b y = 0) : 0 ∈ setsL b := mem_setsL.2 ⟨(y, wrongN b y), mem_allL.2 ⟨h1, h2, rfl⟩, h⟩
theorem few_zero {b : Wbk} (h : 0 ∈ setsL b) : fewN b = 0 := by
  have := (minU_le (setsL b) b.srcs.length).2 0 h
  rw [pop_zero2] at this
  unfold fewN; omega
theorem filt_one : ∀ {l : List Nat}, l.Nodup → 0 ∈ l → l.filter (fun x => decide (x = 0)) = [0]
  | [], _, h => by cases h
  | a :: l, hn, h => by
    rw [List.nodup_cons] at hn
    by_cases ha : a = 0
    · subst ha
      rw [List.filter_cons_of_pos (by simp)]
      have : l.filter (fun x => decide (x = 0)) = [] := by
        rw [List.filter_eq_nil_iff]
        intro x hx
        simp only [decide_eq_true_eq]
        intro e; subst e; exact hn.1 hx
      rw [this]
    · rw [List.filter_cons_of_neg (by simpa using ha)]
      refine filt_one hn.2 ?_
      rcases List.mem_cons.1 h with h | h
      · exact absurd h.symm ha
      · exact h
theorem least_zero {b : Wbk} (hb : BkOK b) (h : 0 ∈ setsL b) : leastL b = [[]] := by
  have e : leastS b = [0] := by
    unfold leastS
    rw [few_zero h]
    have : (setsL b).filter (fun x => decide (popN x = 0)) = (setsL b).filter fun x => decide (x = 0) := List.filter_congr fun x hx => by
      rw [Bool.eq_iff_iff, decide_eq_true_eq, decide_eq_true_eq]
      exact ⟨pop_zero x (set_lt hb hx), fun e => by rw [e]; exact pop_zero2⟩
    rw [this, filt_one (setsL_nodup b) h]
  unfold leastL sortL
  rw [e]
  simp [numsL, numsTo, lenN]
theorem SC.ans {P : Program} {f : FuncId} {cs : List CV} {r r' : CV} (h : SC P f cs r) (hr : ∀ (w : World) (N : Nat → Prop) (v : Value), RepC w N r v → RepC w N r' v) : SC P f cs r' := fun w NA vs hn hs hv =>
  (h w NA vs hn hs hv).mono fun _ _ ⟨v, h1, h2, h3⟩ => ⟨v, h1, hr _ _ _ h2, h3⟩
theorem rep_rows {w : World} {N : Nat → Prop} {k : Nat} {rows rows' : List (List CV)} {v : Value} (hl : rows'.length = rows.length)
    (hr : ∀ (j : Nat) row row', rows[j]? = some row → rows'[j]? = some row' → row'.length = row.length ∧ row'.all CV.one = true ∧ ∀ (i : Nat) x y, row[i]? = some x → row'[i]? = some y → ∀ v, RepC w N x v → RepC w N y v)
    (h : RepC w N (.sl k rows) v) : RepC w N (.sl k rows') v := by
  have back : ∀ (j : Nat) row', rows'[j]? = some row' → ∃ row, rows[j]? = some row := fun j row' hj => by
    have hlt := (List.getElem?_eq_some_iff.1 hj).1
    exact ⟨rows[j]'(by omega), List.getElem?_eq_getElem _⟩
  cases h with
  | nil k a c h1 =>
    have : rows' = [] := List.length_eq_zero_iff.1 hl
    subst this
    exact .nil k a c h1
  | sl k rows b off c u h1 h2 h3 h4 h5 h6 h7 =>
    rw [← hl]
    refine .sl k rows' b off c u (by omega) h2 h3 h4 (fun j row' hj => ?_) (fun j row' i y hj hy => ?_) (fun j row' i y hj hy => ?_)
    · obtain ⟨row, hj0⟩ := back j row' hj
      obtain ⟨e1, e2, _⟩ := hr j row row' hj0 hj
      exact ⟨e1.trans (h5 j row hj0).1, e2⟩
    · obtain ⟨row, hj0⟩ := back j row' hj
      obtain ⟨e1, _, _⟩ := hr j row row' hj0 hj
      have hi := (List.getElem?_eq_some_iff.1 hy).1
      exact h6 j row i _ hj0 (List.getElem?_eq_getElem (by omega))
    · obtain ⟨row, hj0⟩ := back j row' hj
      obtain ⟨e1, _, e3⟩ := hr j row row' hj0 hj
      have hi := (List.getElem?_eq_some_iff.1 hy).1
      have hx := List.getElem?_eq_getElem (l := row) (i := i) (by omega)
      exact e3 i _ y hx hy _ (h7 j row i _ hj0 hx)
theorem rep_nil {w : World} {N : Nat → Prop} {v : Value} (k : Nat) (h : RepC w N (.val (.slice none 0 0)) v) : RepC w N (.sl k []) v := (CLe.nil k).rep h
def rowNil (s : Wsrc) : List CV := [I s.kind, I s.elo, I s.ehi, I s.at', I s.dlo, I s.dhi, I s.every, .val (.slice none 0 0)]
theorem rep_nils {w : World} {N : Nat → Prop} {l : List Wsrc} (hl : ∀ s ∈ l, s.table = []) {v : Value} (h : RepC w N (.sl 8 (l.map rowNil)) v) : RepC w N (slSr l) v := by
  unfold slSr
  refine rep_rows (by simp) (fun j row row' h1 h2 => ?_) h
  rw [List.getElem?_map, Option.map_eq_some_iff] at h1 h2
  obtain ⟨s, e1, rfl⟩ := h1
  obtain ⟨s', e2, rfl⟩ := h2
  rw [e1] at e2; cases e2
  have ht := hl s (List.mem_of_getElem? e1)
  refine ⟨rfl, by simp, fun i x y hx hy v hv => ?_⟩
  unfold rowNil at hx
  unfold rowSr at hy
  rw [ht] at hy
  rcases i with _ | _ | _ | _ | _ | _ | _ | _ | i
  · simp at hx hy; subst hx; subst hy; exact hv
  · simp at hx hy; subst hx; subst hy; exact hv
  · simp at hx hy; subst hx; subst hy; exact hv
  · simp at hx hy; subst hx; subst hy; exact hv
  · simp at hx hy; subst hx; subst hy; exact hv
  · simp at hx hy; subst hx; subst hy; exact hv
  · simp at hx hy; subst hx; subst hy; exact hv
  · simp at hx hy; subst hx; subst hy; exact rep_nil 1 hv
  · simp at hx
def threeW : List Wsrc := [⟨2, 0, 1, 3600, 0, 0, 86400, []⟩, ⟨4, 2, 5, 0, 0, 0, 0, []⟩, ⟨1, -1, 1, 0, 0, 2000, 0, []⟩]
def notesW (x : Int) : List Wnt := [⟨0, 3500, 0⟩, ⟨1, 7000, 7098⟩, ⟨2, 86300, x⟩]
def exB (l : List Wnt) : Wbk := ⟨threeW, threeW.map errOf, l, 0, 200⟩
theorem ex_two : newErr threeW (notesW 2) 0 200 = 0 := by decide +kernel
theorem ex_far : newErr threeW (notesW 40) 0 200 = 0 := by decide +kernel
theorem ex_bk {l : List Wnt} (h : newErr threeW l 0 200 = 0) : newBk threeW l 0 200 = exB l := (new_ok h).1
theorem ex_s2 : spansL (exB (notesW 2)) (fun m => decide (m = 0)) = [(100, 101)] := by decide +kernel
theorem ex_f : fewN (exB (notesW 40)) = 1 := by decide +kernel
theorem ex_l : (leastS (exB (notesW 40))).map numsL = [[2]] := by
  unfold leastS
  rw [ex_f]
  decide +kernel
theorem ex_ll : leastL (exB (notesW 40)) = [[2]] := by
  unfold leastL sortL
  rw [ex_l]
  simp
end Go.Proofs.Ytlodpljdhdhfmaa
/- A clock beside two signals. -/
namespace Go.Proofs.Ytlodpljdhdhfmaa
open Go.RowKit
def sigW : Wsrc := ⟨4, 0, 0, 0, 0, 0, 0, []⟩
def armW (s : Wsrc) : List Wsrc := [s, sigW, sigW]
def armN (ts sa by' g1 g2 : Int) : List Wnt := [⟨0, ts, sa⟩, ⟨1, g1 - by', g1⟩, ⟨2, g2 - by', g2⟩]
def armB (s : Wsrc) (l : List Wnt) (lo hi : Int) : Wbk := ⟨armW s, (armW s).map errOf, l, lo, hi⟩
theorem gaps_one {l : List (Int × Int)} {y : Int} (hg : GapsP l) (h : ∀ z, insB z l = true ↔ z = y) : l = [(y, y)] := by
  obtain ⟨h1, h2⟩ := hg
  have hin : ∀ e ∈ l, e = (y, y) := fun e he => by
    have a := h1 e he
    have q1 : insB e.1 l = true := List.any_eq_true.2 ⟨e, he, by simp; exact a⟩
    have q2 : insB e.2 l = true := List.any_eq_true.2 ⟨e, he, by simp; exact a⟩
    have := (h _).1 q1
    have := (h _).1 q2
    exact Prod.ext (by omega) (by omega)
  match l with
  | [] => have := (h y).2 rfl; simp [insB] at this
  | [e] => rw [hin e (by simp)]
  | e :: e' :: r =>
    have a := hin e (by simp)
    have b := hin e' (by simp)
    rw [List.pairwise_cons] at h2
    have := h2.1 e' (by simp)
    rw [a, b] at this
    simp only at this
    omega
theorem gaps_none {l : List (Int × Int)} (hg : GapsP l) (h : ∀ z, insB z l = false) : l = [] := by
  match l with
  | [] => rfl
  | e :: r =>
    have a := hg.1 e (by simp)
    have q1 : insB e.1 (e :: r) = true := List.any_eq_true.2 ⟨e, by simp, by simp; exact a⟩
    rw [h] at q1; cases q1
theorem arm_at (s : Wsrc) (ts sa by' g1 g2 lo hi y : Int) (h2 : g1 ≤ 3155700000) (h3 : 0 ≤ g1) (h4 : g2 ≤ 3155700000) (h5 : 0 ≤ g2) :
    wrongN (armB s (armN ts sa by' g1 g2) lo hi) y = if y = by' then (if rightN (armB s (armN ts sa by' g1 g2) lo hi) ⟨0, ts, sa⟩ y = true then 0 else 1) else (if rightN (armB s (armN ts sa by' g1 g2) lo hi) ⟨0, ts, sa⟩ y = true then 6 else 7) := by
  generalize hB : armB s (armN ts sa by' g1 g2) lo hi = b
  have e1 : rightN b ⟨1, g1 - by', g1⟩ y = decide (y = by') := by
    rw [← hB]
    unfold rightN armB armW rightB signalR within1 errOf sigW
    rw [Bool.eq_iff_iff]
    simp
    omega
  have e2 : rightN b ⟨2, g2 - by', g2⟩ y = decide (y = by') := by
    rw [← hB]
    unfold rightN armB armW rightB signalR within1 errOf sigW
    rw [Bool.eq_iff_iff]
    simp
    omega
  have e : wrongN b y = [(⟨0, ts, sa⟩ : Wnt), ⟨1, g1 - by', g1⟩, ⟨2, g2 - by', g2⟩].foldl (fun a n => if rightN b n y = true then a else a ||| 2 ^ n.src.toNat) 0 := by
    rw [← hB]; rfl
  rw [e]
  simp only [List.foldl_cons, List.foldl_nil, e1, e2, decide_eq_true_eq]
  by_cases hy : y = by' <;> by_cases hr : rightN b ⟨0, ts, sa⟩ y = true <;> simp [hy, hr]
structure ArmOk (s : Wsrc) (ts sa by' g1 g2 lo hi : Int) : Prop where
  err : newErr (armW s) (armN ts sa by' g1 g2) lo hi = 0
  g1 : 0 ≤ g1 ∧ g1 ≤ 3155700000
  g2 : 0 ≤ g2 ∧ g2 ≤ 3155700000
  at' : lo ≤ by' ∧ by' ≤ hi
theorem arm_bk {s : Wsrc} {ts sa by' g1 g2 lo hi : Int} (h : ArmOk s ts sa by' g1 g2 lo hi) : newBk (armW s) (armN ts sa by' g1 g2) lo hi = armB s (armN ts sa by' g1 g2) lo hi := (new_ok h.err).1
theorem arm_ok {s : Wsrc} {ts sa by' g1 g2 lo hi : Int} (h : ArmOk s ts sa by' g1 g2 lo hi) : BkOK (armB s (armN ts sa by' g1 g2) lo hi) := by rw [← arm_bk h]; exact new_bk h.err
theorem arm_right {s : Wsrc} {ts sa by' g1 g2 lo hi : Int} (h : ArmOk s ts sa by' g1 g2 lo hi) (hr : rightN (armB s (armN ts sa by' g1 g2) lo hi) ⟨0, ts, sa⟩ by' = true) :
    spansL (armB s (armN ts sa by' g1 g2) lo hi) (fun m => decide (m = 0)) = [(by', by')] ∧ leastL (armB s (armN ts sa by' g1 g2) lo hi) = [[]] := by
  have hb := arm_ok h
  have h1 := h.g1
  have h2 := h.g2
  have h3 := h.at'
  have hw : ∀ y, wrongN (armB s (armN ts sa by' g1 g2) lo hi) y = _ := fun y => arm_at s ts sa by' g1 g2 lo hi y h1.2 h1.1 h2.2 h2.1
  have h0 : wrongN (armB s (armN ts sa by' g1 g2) lo hi) by' = 0 := by rw [hw, if_pos rfl, if_pos hr]
  obtain ⟨p1, p2, p3⟩ := spansInv hb (fun m => decide (m = 0))
  refine ⟨gaps_one p1 fun z => ?_, least_zero hb (zero_in (y := by') h3.1 h3.2 h0)⟩
  rw [p3 z, decide_eq_true_eq]
  constructor
  · rintro ⟨_, _, hz⟩
    rw [hw] at hz
    by_cases hy : z = by'
    · exact hy
    · rw [if_neg hy] at hz
      split at hz <;> cases hz
  · rintro rfl
    exact ⟨h3.1, h3.2, h0⟩
theorem nodup_ones : ∀ {l : List Nat}, l.Nodup → (∀ x ∈ l, x = 1) → 1 ∈ l → l = [1]
  | [], _, _, h => by cases h
  | [a], _, h, _ => by rw [h a (by simp)]
  | a :: b :: r, hn, h, _ => by
    rw [h a (by simp), h b (by simp)] at hn
    simp at hn
theorem pop_6 : popN 6 = 2 := by decide
theorem pop_7 : popN 7 = 3 := by decide
theorem pop_1 : popN 1 = 1 := by decide
theorem nums_1 : numsL 1 = [0] := by decide +kernel
theorem arm_wrong {s : Wsrc} {ts sa by' g1 g2 lo hi : Int} (h : ArmOk s ts sa by' g1 g2 lo hi) (hr : rightN (armB s (armN ts sa by' g1 g2) lo hi) ⟨0, ts, sa⟩ by' = false) :
    spansL (armB s (armN ts sa by' g1 g2) lo hi) (fun m => decide (m = 0)) = [] ∧ leastL (armB s (armN ts sa by' g1 g2) lo hi) = [[0]] := by
  have hb := arm_ok h
  have h1 := h.g1
  have h2 := h.g2
  have h3 := h.at'
  have hw : ∀ y, wrongN (armB s (armN ts sa by' g1 g2) lo hi) y = _ := fun y => arm_at s ts sa by' g1 g2 lo hi y h1.2 h1.1 h2.2 h2.1
  have h0 : wrongN (armB s (armN ts sa by' g1 g2) lo hi) by' = 1 := by rw [hw, if_pos rfl, if_neg (by rw [hr]; decide)]
  have hc : ∀ y, wrongN (armB s (armN ts sa by' g1 g2) lo hi) y = 1 ∨ wrongN (armB s (armN ts sa by' g1 g2) lo hi) y = 6 ∨ wrongN (armB s (armN ts sa by' g1 g2) lo hi) y = 7 := fun y => by
    by_cases hy : y = by'
    · rw [hy]; exact .inl h0
    · rw [hw, if_neg hy]
      split
      · exact .inr (.inl rfl)
      · exact .inr (.inr rfl)
  have hs : 1 ∈ setsL (armB s (armN ts sa by' g1 g2) lo hi) := mem_setsL.2 ⟨(by', 1), mem_allL.2 ⟨h3.1, h3.2, h0.symm⟩, rfl⟩
  have hsc : ∀ x ∈ setsL (armB s (armN ts sa by' g1 g2) lo hi), x = 1 ∨ x = 6 ∨ x = 7 := fun x hx => by
    obtain ⟨y, hy, rfl⟩ := mem_setsL.1 hx
    have := (mem_allL.1 hy).2.2
    rw [this]
    exact hc y.1
  have hf : fewN (armB s (armN ts sa by' g1 g2) lo hi) = 1 := by
    have a := (minU_le (setsL (armB s (armN ts sa by' g1 g2) lo hi)) (armB s (armN ts sa by' g1 g2) lo hi).srcs.length).2 1 hs
    rw [pop_1] at a
    unfold fewN
    rcases minU_at (setsL (armB s (armN ts sa by' g1 g2) lo hi)) (armB s (armN ts sa by' g1 g2) lo hi).srcs.length with e | ⟨x, hx, e⟩
    · have : (armB s (armN ts sa by' g1 g2) lo hi).srcs.length = 3 := rfl
      omega
    · rcases hsc x hx with r | r | r <;> subst r
      · rw [pop_1] at e; omega
      · rw [pop_6] at e; omega
      · rw [pop_7] at e; omega
  have hl : leastS (armB s (armN ts sa by' g1 g2) lo hi) = [1] := by
    unfold leastS
    rw [hf]
    refine nodup_ones ((setsL_nodup _).sublist List.filter_sublist) (fun x hx => ?_) (List.mem_filter.2 ⟨hs, by rw [pop_1]; rfl⟩)
    obtain ⟨x1, x2⟩ := List.mem_filter.1 hx
    rw [decide_eq_true_eq] at x2
    rcases hsc x x1 with r | r | r <;> subst r
    · rfl
    · rw [pop_6] at x2; cases x2
    · rw [pop_7] at x2; cases x2
  obtain ⟨p1, p2, p3⟩ := spansInv hb (fun m => decide (m = 0))
  refine ⟨gaps_none p1 fun z => ?_, ?_⟩
  · rw [← Bool.not_eq_true]
    intro hz
    have := ((p3 z).1 hz).2.2
    rw [decide_eq_true_eq] at this
    rcases hc z with r | r | r <;> omega
  · unfold leastL sortL
    rw [hl]
    simp [nums_1]
end Go.Proofs.Ytlodpljdhdhfmaa
/- A clock beside two signals: what Fits and Convict answer. -/
namespace Go.Proofs.Ytlodpljdhdhfmaa
open Go.RowKit
theorem arm_len (s : Wsrc) (h : s.table.length ≤ 1000000) : WLen (armW s) := ⟨fun x hx => by
  unfold armW sigW at hx
  rcases List.mem_cons.1 hx with rfl | hx
  · exact h
  rcases List.mem_cons.1 hx with rfl | hx
  · simp
  rcases List.mem_cons.1 hx with rfl | hx
  · simp
  · cases hx⟩
section
variable {s : Wsrc} {ts sa by' g1 g2 lo hi : Int}
theorem arm_fits (h : ArmOk s ts sa by' g1 g2 lo hi) (hl : s.table.length ≤ 1000000) (hr : rightN (armB s (armN ts sa by' g1 g2) lo hi) ⟨0, ts, sa⟩ by' = true) :
    SC Try.prog 8 [slSr (armW s), slN (armN ts sa by' g1 g2), .agg [I lo, I hi]] (.tup [slE [(by', by')], I 0]) := by
  have q := sFits (armW s) (arm_len s hl) (armN ts sa by' g1 g2) (by simp [armN]) lo hi
  rw [if_pos h.err, if_pos h.err, arm_bk h, (arm_right h hr).1, if_neg (by simp)] at q
  exact q
theorem arm_nofit (h : ArmOk s ts sa by' g1 g2 lo hi) (hl : s.table.length ≤ 1000000) (hr : rightN (armB s (armN ts sa by' g1 g2) lo hi) ⟨0, ts, sa⟩ by' = false) :
    SC Try.prog 8 [slSr (armW s), slN (armN ts sa by' g1 g2), .agg [I lo, I hi]] (.tup [slE [], I 7]) := by
  have q := sFits (armW s) (arm_len s hl) (armN ts sa by' g1 g2) (by simp [armN]) lo hi
  rw [if_pos h.err, if_pos h.err, arm_bk h, (arm_wrong h hr).1, if_pos rfl] at q
  exact q
theorem arm_convict (h : ArmOk s ts sa by' g1 g2 lo hi) (hl : s.table.length ≤ 1000000) (hr : rightN (armB s (armN ts sa by' g1 g2) lo hi) ⟨0, ts, sa⟩ by' = false) :
    SC Try.prog 10 [slSr (armW s), slN (armN ts sa by' g1 g2), .agg [I lo, I hi]] (.tup [I 0, I 0]) := by
  have q := sConvict (armW s) (arm_len s hl) (armN ts sa by' g1 g2) (by simp [armN]) lo hi
  rw [if_pos h.err, if_pos h.err, arm_bk h, (arm_wrong h hr).2] at q
  exact q
end
def clkW (el eh dl dh : Int) : Wsrc := ⟨1, el, eh, 0, dl, dh, 0, []⟩
theorem arm_err {el eh dl dh ts sa by' g1 g2 lo hi : Int} (e0 : -3600 ≤ el) (e1 : el ≤ eh) (e2 : eh ≤ 3600) (d0 : -100000 ≤ dl) (d1 : dl ≤ dh) (d2 : dh ≤ 100000) (t0 : 0 ≤ ts) (t1 : ts ≤ 3155700000) (s0 : 0 ≤ sa) (s1 : sa < 43200)
    (a0 : 0 ≤ g1 - by') (a1 : g1 - by' ≤ 3155700000) (b0 : 0 ≤ g2 - by') (b1 : g2 - by' ≤ 3155700000) (a2 : 0 ≤ g1) (a3 : g1 ≤ 3155700000) (b2 : 0 ≤ g2) (b3 : g2 ≤ 3155700000) (l0 : -7200 ≤ lo) (l1 : lo ≤ by') (l2 : by' ≤ hi) (l3 : hi ≤ 7200) :
    ArmOk (clkW el eh dl dh) ts sa by' g1 g2 lo hi := by
  refine ⟨?_, ⟨a2, a3⟩, ⟨b2, b3⟩, l1, l2⟩
  have v1 : validV (clkW el eh dl dh) = true := by
    unfold validV baseV useV clkW clockV kindOK spanW within1
    simp; omega
  have v2 : validV sigW = true := by decide
  have n1 : noteErr (armW (clkW el eh dl dh)) ⟨0, ts, sa⟩ = 0 := by
    unfold noteErr armW clkW sigW saidB within1
    simp; omega
  have n2 : noteErr (armW (clkW el eh dl dh)) ⟨1, g1 - by', g1⟩ = 0 := by
    unfold noteErr armW clkW sigW saidB within1
    simp; omega
  have n3 : noteErr (armW (clkW el eh dl dh)) ⟨2, g2 - by', g2⟩ = 0 := by
    unfold noteErr armW clkW sigW saidB within1
    simp; omega
  have hn : notesErr (armW (clkW el eh dl dh)) (armN ts sa by' g1 g2) = 0 := by
    unfold notesErr armN
    simp [n1, n2, n3]
  have ha : (armW (clkW el eh dl dh)).all validV = true := by
    unfold armW
    simp [v1, v2]
  have hz : sizeW (armW (clkW el eh dl dh)) = true := by
    unfold sizeW armW; simp [within1]
  have hsp : spanW lo hi 7200 = true := by unfold spanW; simp; omega
  unfold newErr
  rw [if_neg (by rw [hz]; simp), if_neg (by rw [ha]; simp), if_neg (by simp [armN]), if_neg (by simp [hn]), if_pos hsp]
theorem arm_clk {el eh ts sa by' g1 g2 lo hi : Int} : rightN (armB (clkW el eh 0 0) (armN ts sa by' g1 g2) lo hi) ⟨0, ts, sa⟩ by' = (within1 0 3155760000 (ts + by') && (decide (0 ≤ ts + by') && decide ((sa - (ts + by') - el) % 43200 ≤ eh - el))) := by
  unfold rightN armB armW rightB clkW errOf clockR clLo clHi upI
  simp
end Go.Proofs.Ytlodpljdhdhfmaa
/- The shadow code of functions, as the kit's translation has them. -/
namespace Go.Proofs.Ytlodpljdhdhfmaa
open Go.RowKit
def k58_0 : SCode := .reg [⟨some 3, none, .box 22 (.tmp 0), [], false⟩, ⟨some 5, none, .box 25 (.tmp 2), [], false⟩, ⟨some 6, none, .mov (.const (.bool false)), [], false⟩] [1, 3, 5]
def k58_1 : SCode := .reg [⟨some 25, none, .idxA 2 1 (.tmp 3) (.const (.int .i64 1)), [], false⟩, ⟨some 26, none, .load false 1 (.tmp 25), [], false⟩, ⟨some 27, none, .conv .i64 (.tmp 26), [], false⟩, ⟨some 28, none, .bin .rem (.tmp 27) (.const (.int .i64 4)), [], false⟩, ⟨some 29, none, .bin .add (.const (.int .i64 1)) (.tmp 28), [], false⟩, ⟨some 30, none, .idxA 2 1 (.tmp 5) (.const (.int .i64 0)), [], false⟩, ⟨some 31, none, .load false 1 (.tmp 30), [], false⟩, ⟨some 32, none, .conv .i64 (.tmp 31), [], false⟩, ⟨some 33, none, .idxA 2 1 (.tmp 5) (.const (.int .i64 1)), [], false⟩, ⟨some 34, none, .load false 1 (.tmp 33), [], false⟩, ⟨some 35, none, .conv .i64 (.tmp 34), [], false⟩, ⟨some 7, none, .mov (.tmp 29), [], false⟩, ⟨some 8, none, .mov (.tmp 32), [], false⟩, ⟨some 9, none, .mov (.tmp 35), [], false⟩] [1, 3, 7, 8, 9]
def k58_2 : SCode := .reg [⟨some 36, none, .idxA 2 1 (.tmp 3) (.const (.int .i64 0)), [], true⟩, ⟨some 37, none, .load false 1 (.tmp 36), [], true⟩, ⟨some 38, none, .conv .i64 (.tmp 37), [], false⟩, ⟨some 39, none, .bin .add (.const (.int .i64 10)) (.tmp 38), [], false⟩, ⟨some 40, none, .mov (.tmp 7), [], false⟩, ⟨some 41, none, .mov (.tmp 7), [], false⟩, ⟨some 42, none, .call 5 [(.tmp 40), (.tmp 41)], [], true⟩, ⟨some 43, none, .call 4 [(.tmp 42)], [], true⟩, ⟨some 44, none, .build [(.int .i64 0), (.slice none 0 0)] [(0, 1, (.tmp 39)), (1, 1, (.tmp 43))], [], false⟩, ⟨some 10, none, .alloc 32 [(.int .i64 0), (.slice none 0 0)], [0, 1, 6, 7], false⟩, ⟨none, none, .store 2 (.tmp 10) (.tmp 44), [], false⟩] [1, 7, 8, 9, 10]
def k58_3 : SCode := .reg [⟨some 46, none, .load true 2 (.tmp 10), [], false⟩, ⟨some 47, none, .fld 0 (.tmp 10), [], false⟩, ⟨some 48, none, .load false 1 (.tmp 47), [], false⟩, ⟨some 49, none, .call 6 [(.tmp 46), (.tmp 48), (.const (.int .i64 0))], [], false⟩, ⟨some 45, none, .mov (.tmp 49), [], false⟩, ⟨some 50, none, .ext (.tmp 45) 0, [], false⟩, ⟨some 51, none, .ext (.tmp 45) 1, [], false⟩, ⟨some 11, none, .alloc 29 [(.int .i64 0), (.int .i64 0)], [], false⟩, ⟨none, none, .store 2 (.tmp 11) (.tmp 50), [], false⟩, ⟨some 12, none, .mov (.tmp 51), [], false⟩] [1, 7, 8, 9, 10, 11, 12]
def k58_4 : SCode := .reg [⟨some 52, none, .mov (.tmp 12), [], false⟩, ⟨some 53, none, .bin .neq (.tmp 52) (.const (.int .i64 0)), [], false⟩, ⟨some 54, none, .mov (.tmp 53), [], false⟩, ⟨some 55, (some (54, false)), .fld 0 (.tmp 11), [], false⟩, ⟨some 56, (some (54, false)), .load false 1 (.tmp 55), [], false⟩, ⟨some 57, (some (54, false)), .fld 1 (.tmp 11), [], false⟩, ⟨some 58, (some (54, false)), .load false 1 (.tmp 57), [], false⟩, ⟨some 59, (some (54, false)), .bin .neq (.tmp 56) (.tmp 58), [], false⟩, ⟨some 60, none, .pick (.tmp 54) (.const (.bool true)) (.tmp 59), [], false⟩, ⟨some 61, none, .mov (.tmp 60), [], false⟩, ⟨some 62, (some (61, false)), .fld 0 (.tmp 11), [], false⟩, ⟨some 63, (some (61, false)), .load false 1 (.tmp 62), [], false⟩, ⟨some 64, (some (61, false)), .fld 0 (.tmp 10), [], false⟩, ⟨some 65, (some (61, false)), .load false 1 (.tmp 64), [], false⟩, ⟨some 66, (some (61, false)), .mov (.tmp 7), [], false⟩, ⟨some 67, (some (61, false)), .bin .quo (.tmp 65) (.tmp 66), [], false⟩, ⟨some 68, (some (61, false)), .bin .neq (.tmp 63) (.tmp 67), [], false⟩, ⟨some 69, none, .pick (.tmp 61) (.const (.bool true)) (.tmp 68), [], false⟩] [1, 8, 9, 11, 69]
def k58_5 : SCode := .reg [⟨some 6, none, .mov (.const (.bool false)), [], false⟩] [6]
def k58_6 : SCode := .seq k58_5 .ret
def k58_7 : SCode := .cond (.tmp 69) k58_6 .skip
def k58_8 : SCode := .seq k58_4 k58_7
def k58_9 : SCode := .reg [⟨some 70, none, .fld 0 (.tmp 11), [], false⟩, ⟨some 71, none, .load false 1 (.tmp 70), [], false⟩, ⟨some 72, none, .bin .mul (.const (.int .i64 3600)) (.tmp 71), [], false⟩, ⟨some 73, none, .call 5 [(.const (.int .i64 (-1))), (.const (.int .i64 1))], [], false⟩, ⟨some 74, none, .build [(.int .i64 0), (.int .i64 0)] [], [], false⟩, ⟨some 75, none, .call 7 [(.tmp 73), (.tmp 74)], [], false⟩, ⟨some 13, none, .mov (.tmp 72), [], false⟩, ⟨some 14, none, .mov (.tmp 75), [], false⟩] [1, 8, 9, 13, 14]
def k58_10 : SCode := .reg [⟨some 76, none, .mov (.tmp 1), [], false⟩, ⟨some 77, none, .conv .i64 (.tmp 76), [], false⟩, ⟨some 78, none, .bin .sub (.tmp 77) (.const (.int .i64 20)), [], false⟩, ⟨some 79, none, .mov (.tmp 1), [], false⟩, ⟨some 80, none, .conv .i64 (.tmp 79), [], false⟩, ⟨some 81, none, .bin .add (.tmp 80) (.const (.int .i64 20)), [], false⟩, ⟨some 82, none, .call 5 [(.tmp 78), (.tmp 81)], [], false⟩, ⟨some 83, none, .mov (.tmp 9), [], false⟩, ⟨some 84, none, .bin .add (.const (.int .i64 500)) (.tmp 83), [], false⟩, ⟨some 85, none, .mov (.tmp 9), [], false⟩, ⟨some 86, none, .bin .add (.const (.int .i64 70000)) (.tmp 85), [], false⟩, ⟨some 87, none, .build [(.int .i64 0), (.int .i64 0)] [(0, 1, (.tmp 84)), (1, 1, (.tmp 86))], [], false⟩, ⟨some 15, none, .alloc 29 [(.int .i64 0), (.int .i64 0)], [], false⟩, ⟨some 16, none, .alloc 38 [(.int .i64 0), (.int .i64 0)], [], false⟩, ⟨none, none, .store 2 (.tmp 15) (.tmp 82), [], false⟩, ⟨none, none, .store 2 (.tmp 16) (.tmp 87), [], false⟩] [1, 8, 9, 13, 14, 15, 16]
def k58_11 : SCode := .reg [⟨some 88, none, .mov (.tmp 9), [], false⟩, ⟨some 89, none, .mov (.tmp 13), [], false⟩, ⟨some 90, none, .bin .sub (.tmp 89) (.const (.int .i64 200)), [], false⟩, ⟨some 91, none, .bin .rem (.tmp 88) (.tmp 90), [], false⟩, ⟨some 92, none, .bin .add (.const (.int .i64 200)) (.tmp 91), [], false⟩, ⟨some 93, none, .mov (.tmp 13), [], false⟩, ⟨some 94, none, .bin .add (.tmp 93) (.const (.int .i64 100)), [], false⟩, ⟨some 95, none, .mov (.tmp 8), [], false⟩, ⟨some 96, none, .bin .rem (.tmp 95) (.const (.int .i64 40000)), [], false⟩, ⟨some 97, none, .bin .add (.tmp 94) (.tmp 96), [], false⟩, ⟨some 17, none, .mov (.tmp 92), [], false⟩, ⟨some 18, none, .mov (.tmp 97), [], false⟩] [1, 13, 14, 15, 16, 17, 18]
def k58_12 : SCode := .reg [⟨some 99, none, .mov (.tmp 14), [], false⟩, ⟨some 100, none, .mov (.tmp 17), [], false⟩, ⟨some 101, none, .mov (.tmp 17), [], false⟩, ⟨some 102, none, .mov (.tmp 1), [], false⟩, ⟨some 103, none, .conv .i64 (.tmp 102), [], false⟩, ⟨some 104, none, .load true 2 (.tmp 16), [], false⟩, ⟨some 105, none, .call 9 [(.tmp 100), (.tmp 101), (.tmp 103), (.tmp 104)], [], false⟩, ⟨some 106, none, .load true 2 (.tmp 15), [], false⟩, ⟨some 107, none, .call 8 [(.tmp 99), (.tmp 105), (.tmp 106)], [], false⟩, ⟨some 98, none, .mov (.tmp 107), [], false⟩, ⟨some 108, none, .ext (.tmp 98) 0, [], false⟩, ⟨some 109, none, .ext (.tmp 98) 1, [], false⟩, ⟨some 19, none, .mov (.tmp 108), [], false⟩, ⟨some 20, none, .mov (.tmp 109), [], false⟩] [1, 13, 14, 15, 16, 18, 19, 20]
def k58_13 : SCode := .reg [⟨some 111, none, .mov (.tmp 14), [], false⟩, ⟨some 112, none, .mov (.tmp 18), [], false⟩, ⟨some 113, none, .mov (.tmp 13), [], false⟩, ⟨some 114, none, .mov (.tmp 1), [], false⟩, ⟨some 115, none, .conv .i64 (.tmp 114), [], false⟩, ⟨some 116, none, .load true 2 (.tmp 16), [], false⟩, ⟨some 117, none, .call 9 [(.tmp 112), (.tmp 113), (.tmp 115), (.tmp 116)], [], false⟩, ⟨some 118, none, .load true 2 (.tmp 15), [], false⟩, ⟨some 119, none, .call 10 [(.tmp 111), (.tmp 117), (.tmp 118)], [], false⟩, ⟨some 110, none, .mov (.tmp 119), [], false⟩, ⟨some 120, none, .ext (.tmp 110) 0, [], false⟩, ⟨some 121, none, .ext (.tmp 110) 1, [], false⟩, ⟨some 21, none, .mov (.tmp 120), [], false⟩, ⟨some 22, none, .mov (.tmp 121), [], false⟩] [1, 13, 14, 15, 16, 18, 19, 20, 21, 22]
def k58_14 : SCode := .reg [⟨some 123, none, .mov (.tmp 14), [], false⟩, ⟨some 124, none, .mov (.tmp 18), [], false⟩, ⟨some 125, none, .mov (.tmp 13), [], false⟩, ⟨some 126, none, .mov (.tmp 1), [], false⟩, ⟨some 127, none, .conv .i64 (.tmp 126), [], false⟩, ⟨some 128, none, .load true 2 (.tmp 16), [], false⟩, ⟨some 129, none, .call 9 [(.tmp 124), (.tmp 125), (.tmp 127), (.tmp 128)], [], false⟩, ⟨some 130, none, .load true 2 (.tmp 15), [], false⟩, ⟨some 131, none, .call 8 [(.tmp 123), (.tmp 129), (.tmp 130)], [], false⟩, ⟨some 122, none, .mov (.tmp 131), [], false⟩, ⟨some 132, none, .ext (.tmp 122) 0, [], false⟩, ⟨some 133, none, .ext (.tmp 122) 1, [], false⟩, ⟨some 23, none, .mov (.tmp 132), [], false⟩, ⟨some 24, none, .mov (.tmp 133), [], false⟩] [1, 19, 20, 21, 22, 23, 24]
def k58_15 : SCode := .reg [⟨some 134, none, .mov (.tmp 20), [], false⟩, ⟨some 135, none, .bin .eql (.tmp 134) (.const (.int .i64 0)), [], false⟩, ⟨some 136, none, .mov (.tmp 135), [], false⟩, ⟨some 137, (some (136, true)), .mov (.tmp 19), [], false⟩, ⟨some 138, (some (136, true)), .len (.tmp 137), [], false⟩, ⟨some 139, (some (136, true)), .bin .eql (.tmp 138) (.const (.int .i64 1)), [], false⟩, ⟨some 140, none, .pick (.tmp 136) (.tmp 139) (.const (.bool false)), [], false⟩, ⟨some 141, none, .mov (.tmp 140), [], false⟩, ⟨some 142, (some (141, true)), .mov (.tmp 19), [], false⟩, ⟨some 143, (some (141, true)), .idxS 2 (.tmp 142) (.const (.int .i64 0)), [], false⟩, ⟨some 144, (some (141, true)), .load true 2 (.tmp 143), [], false⟩, ⟨some 145, (some (141, true)), .mov (.tmp 1), [], false⟩, ⟨some 146, (some (141, true)), .conv .i64 (.tmp 145), [], false⟩, ⟨some 147, (some (141, true)), .mov (.tmp 1), [], false⟩, ⟨some 148, (some (141, true)), .conv .i64 (.tmp 147), [], false⟩, ⟨some 149, (some (141, true)), .call 5 [(.tmp 146), (.tmp 148)], [], false⟩, ⟨some 150, (some (141, true)), .eqC false [true, true] (.tmp 144) (.tmp 149), [], false⟩, ⟨some 151, none, .pick (.tmp 141) (.tmp 150) (.const (.bool false)), [], false⟩, ⟨some 152, none, .mov (.tmp 151), [], false⟩, ⟨some 153, (some (152, true)), .mov (.tmp 22), [], false⟩, ⟨some 154, (some (152, true)), .bin .eql (.tmp 153) (.const (.int .i64 0)), [], false⟩, ⟨some 155, none, .pick (.tmp 152) (.tmp 154) (.const (.bool false)), [], false⟩, ⟨some 156, none, .mov (.tmp 155), [], false⟩, ⟨some 157, (some (156, true)), .mov (.tmp 21), [], false⟩, ⟨some 158, (some (156, true)), .bin .eql (.tmp 157) (.const (.int .i64 0)), [], false⟩, ⟨some 159, none, .pick (.tmp 156) (.tmp 158) (.const (.bool false)), [], false⟩, ⟨some 160, none, .mov (.tmp 159), [], false⟩, ⟨some 161, (some (160, true)), .mov (.tmp 24), [], false⟩, ⟨some 162, (some (160, true)), .bin .eql (.tmp 161) (.const (.int .i64 7)), [], false⟩, ⟨some 163, none, .pick (.tmp 160) (.tmp 162) (.const (.bool false)), [], false⟩, ⟨some 164, none, .mov (.tmp 163), [], false⟩, ⟨some 165, (some (164, true)), .mov (.tmp 23), [], false⟩, ⟨some 166, (some (164, true)), .len (.tmp 165), [], false⟩, ⟨some 167, (some (164, true)), .bin .eql (.tmp 166) (.const (.int .i64 0)), [], false⟩, ⟨some 168, none, .pick (.tmp 164) (.tmp 167) (.const (.bool false)), [], false⟩, ⟨some 169, none, .mov (.tmp 168), [], false⟩, ⟨some 170, (some (169, true)), .call 11 [], [], false⟩, ⟨some 171, none, .pick (.tmp 169) (.tmp 170) (.const (.bool false)), [], false⟩, ⟨some 172, none, .mov (.tmp 171), [], false⟩, ⟨some 173, (some (172, true)), .call 12 [], [], false⟩, ⟨some 174, none, .pick (.tmp 172) (.tmp 173) (.const (.bool false)), [], false⟩, ⟨some 6, none, .mov (.tmp 174), [], false⟩] [6]
def k58_16 : SCode := .seq k58_15 .ret
def k58_17 : SCode := .seq k58_14 k58_16
def k58_18 : SCode := .seq k58_13 k58_17
def k58_19 : SCode := .seq k58_12 k58_18
def k58_20 : SCode := .seq k58_11 k58_19
def k58_21 : SCode := .seq k58_10 k58_20
def k58_22 : SCode := .seq k58_9 k58_21
def k58_23 : SCode := .seq k58_8 k58_22
def k58_24 : SCode := .seq k58_3 k58_23
def k58_25 : SCode := .seq k58_2 k58_24
def k58_26 : SCode := .seq k58_1 k58_25
def k58_27 : SCode := .seq k58_0 k58_26
@[simp] def rs_turrettop_TopStoppedWitness : List SRes := [.tmp 6]
theorem law_turrettop_TopStoppedWitness (cs : List CV) (r : CV) (hl : cs.length ≤ 175) (h : STri (cfF Try.prog [] 175) k58_27 (initT 0 cs) [] (retQ rs_turrettop_TopStoppedWitness r)) : SC Try.prog 3 cs r :=
  sc_of [] follows Try.func3 rfl Try.ntmps3 (by decide) (by kernel_rfl) (by kernel_rfl) hl h
def k59_0 : SCode := .reg [⟨some 1, none, .box 29 (.tmp 0), [], false⟩, ⟨some 2, none, .mov (.const (.slice none 0 0)), [], false⟩] [1]
def k59_1 : SCode := .reg [⟨some 5, none, .buildSl 29 2 [(.int .i64 0), (.int .i64 0)] 0 [], [], false⟩, ⟨some 3, none, .mov (.tmp 5), [], false⟩] [1, 3]
def k59_2 : SCode := .reg [⟨some 4, none, .mov (.const (.int .i64 0)), [], false⟩] [1, 3, 4]
def k59_3 : SCode := .reg [⟨some 6, none, .mov (.tmp 4), [], false⟩, ⟨some 7, none, .bin .lss (.tmp 6) (.const (.int .i64 24)), [], false⟩] [1, 3, 4, 7]
def k59_4 : SCode := .cond (.tmp 7) .skip (.exit 0)
def k59_5 : SCode := .seq k59_3 k59_4
def k59_6 : SCode := .reg [⟨some 10, none, .mov (.tmp 3), [], false⟩, ⟨some 11, none, .load true 2 (.tmp 1), [], false⟩, ⟨some 12, none, .buildSl 29 2 [(.int .i64 0), (.int .i64 0)] 1 [(0, (.tmp 11))], [], false⟩, ⟨some 13, none, .append 29 2 16 (.tmp 10) (.tmp 12), [], false⟩, ⟨some 3, none, .mov (.tmp 13), [], false⟩] [1, 3, 4]
def k59_7 : SCode := .block 1 k59_6
def k59_8 : SCode := .reg [⟨some 8, none, .mov (.tmp 4), [], false⟩, ⟨some 9, none, .bin .add (.tmp 8) (.const (.int .i64 1)), [], false⟩, ⟨some 4, none, .mov (.tmp 9), [], false⟩] [1, 3, 4]
def k59_9 : SCode := .seq k59_7 k59_8
def k59_10 : SCode := .seq k59_5 k59_9
def k59_11 : SCode := .loop k59_10
def k59_12 : SCode := .block 0 k59_11
def k59_13 : SCode := .seq k59_2 k59_12
def k59_14 : SCode := .reg [⟨some 14, none, .mov (.tmp 3), [], false⟩, ⟨some 2, none, .mov (.tmp 14), [], false⟩] [2]
def k59_15 : SCode := .seq k59_14 .ret
def k59_16 : SCode := .seq k59_13 k59_15
def k59_17 : SCode := .seq k59_1 k59_16
def k59_18 : SCode := .seq k59_0 k59_17
@[simp] def rs_turrettop_pubHours : List SRes := [.tmp 2]
theorem law_turrettop_pubHours (cs : List CV) (r : CV) (hl : cs.length ≤ 15) (h : STri (cfF Try.prog [] 15) k59_18 (initT 0 cs) [] (retQ rs_turrettop_pubHours r)) : SC Try.prog 4 cs r :=
  sc_of [] follows Try.func4 rfl Try.ntmps4 (by decide) (by kernel_rfl) (by kernel_rfl) hl h
def k60_0 : SCode := .reg [⟨some 4, none, .alloc 29 [(.int .i64 0), (.int .i64 0)], [], false⟩] [0, 1, 4]
def k60_1 : SCode := .reg [⟨some 5, none, .mov (.tmp 0), [], false⟩, ⟨some 6, none, .mov (.tmp 1), [], false⟩, ⟨some 7, none, .build [(.int .i64 0), (.int .i64 0)] [(0, 1, (.tmp 5)), (1, 1, (.tmp 6))], [], false⟩, ⟨none, none, .store 2 (.tmp 4) (.tmp 7), [], false⟩] [4]
def k60_2 : SCode := .seq k60_1 .ret
def k60_3 : SCode := .seq k60_0 k60_2
@[simp] def rs_turrettop_pubSpan : List SRes := [.cell 4 true 2]
theorem law_turrettop_pubSpan (cs : List CV) (r : CV) (hl : cs.length ≤ 8) (h : STri (cfF Try.prog [] 8) k60_3 (initT 0 cs) [] (retQ rs_turrettop_pubSpan r)) : SC Try.prog 5 cs r :=
  sc_of [] follows Try.func5 rfl Try.ntmps5 (by decide) (by kernel_rfl) (by kernel_rfl) hl h
def k61_0 : SCode := .reg [⟨some 2, none, .box 29 (.tmp 0), [], false⟩, ⟨some 3, none, .box 29 (.tmp 1), [], false⟩, ⟨some 4, none, .mov (.const (.slice none 0 0)), [], false⟩] [2, 3]
def k61_1 : SCode := .reg [⟨some 5, none, .load true 2 (.tmp 2), [], false⟩, ⟨some 6, none, .load true 2 (.tmp 3), [], false⟩, ⟨some 7, none, .build [(.int .i64 0), (.int .i64 0), (.int .i64 0), (.int .i64 0), (.int .i64 0), (.int .i64 0), (.int .i64 0), (.slice none 0 0)] [(0, 1, (.const (.int .i64 1))), (1, 2, (.tmp 5)), (4, 2, (.tmp 6))], [], false⟩, ⟨some 8, none, .build [(.int .i64 0), (.int .i64 0), (.int .i64 0), (.int .i64 0), (.int .i64 0), (.int .i64 0), (.int .i64 0), (.slice none 0 0)] [(0, 1, (.const (.int .i64 4)))], [], false⟩, ⟨some 9, none, .build [(.int .i64 0), (.int .i64 0), (.int .i64 0), (.int .i64 0), (.int .i64 0), (.int .i64 0), (.int .i64 0), (.slice none 0 0)] [(0, 1, (.const (.int .i64 4)))], [], false⟩, ⟨some 10, none, .buildSl 57 8 [(.int .i64 0), (.int .i64 0), (.int .i64 0), (.int .i64 0), (.int .i64 0), (.int .i64 0), (.int .i64 0), (.slice none 0 0)] 3 [(0, (.tmp 7)), (1, (.tmp 8)), (2, (.tmp 9))], [], false⟩, ⟨some 4, none, .mov (.tmp 10), [], false⟩] [4]
def k61_2 : SCode := .seq k61_1 .ret
def k61_3 : SCode := .seq k61_0 k61_2
@[simp] def rs_turrettop_armOffice : List SRes := [.tmp 4]
theorem law_turrettop_armOffice (cs : List CV) (r : CV) (hl : cs.length ≤ 11) (h : STri (cfF Try.prog [] 11) k61_3 (initT 0 cs) [] (retQ rs_turrettop_armOffice r)) : SC Try.prog 7 cs r :=
  sc_of [] follows Try.func7 rfl Try.ntmps7 (by decide) (by kernel_rfl) (by kernel_rfl) hl h
def k62_0 : SCode := .reg [⟨some 7, none, .box 38 (.tmp 3), [], false⟩, ⟨some 8, none, .mov (.const (.slice none 0 0)), [], false⟩] [0, 1, 2, 7]
def k62_1 : SCode := .reg [⟨some 9, none, .mov (.tmp 0), [], false⟩, ⟨some 10, none, .mov (.tmp 2), [], false⟩, ⟨some 11, none, .bin .sub (.tmp 9) (.tmp 10), [], false⟩, ⟨some 12, none, .mov (.tmp 1), [], false⟩, ⟨some 13, none, .call 21 [(.tmp 12), (.const (.int .i64 43200))], [], false⟩, ⟨some 14, none, .build [(.int .i64 0), (.int .i64 0), (.int .i64 0)] [(0, 1, (.const (.int .i64 0))), (1, 1, (.tmp 11)), (2, 1, (.tmp 13))], [], false⟩, ⟨some 15, none, .idxA 2 1 (.tmp 7) (.const (.int .i64 0)), [], false⟩, ⟨some 16, none, .load false 1 (.tmp 15), [], false⟩, ⟨some 17, none, .mov (.tmp 2), [], false⟩, ⟨some 18, none, .bin .sub (.tmp 16) (.tmp 17), [], false⟩, ⟨some 19, none, .idxA 2 1 (.tmp 7) (.const (.int .i64 0)), [], false⟩, ⟨some 20, none, .load false 1 (.tmp 19), [], false⟩, ⟨some 21, none, .build [(.int .i64 0), (.int .i64 0), (.int .i64 0)] [(0, 1, (.const (.int .i64 1))), (1, 1, (.tmp 18)), (2, 1, (.tmp 20))], [], false⟩, ⟨some 22, none, .idxA 2 1 (.tmp 7) (.const (.int .i64 1)), [], false⟩, ⟨some 23, none, .load false 1 (.tmp 22), [], false⟩, ⟨some 24, none, .mov (.tmp 2), [], false⟩, ⟨some 25, none, .bin .sub (.tmp 23) (.tmp 24), [], false⟩, ⟨some 26, none, .idxA 2 1 (.tmp 7) (.const (.int .i64 1)), [], false⟩, ⟨some 27, none, .load false 1 (.tmp 26), [], false⟩, ⟨some 28, none, .build [(.int .i64 0), (.int .i64 0), (.int .i64 0)] [(0, 1, (.const (.int .i64 2))), (1, 1, (.tmp 25)), (2, 1, (.tmp 27))], [], false⟩, ⟨some 29, none, .buildSl 67 3 [(.int .i64 0), (.int .i64 0), (.int .i64 0)] 3 [(0, (.tmp 14)), (1, (.tmp 21)), (2, (.tmp 28))], [], false⟩, ⟨some 8, none, .mov (.tmp 29), [], false⟩] [8]
def k62_2 : SCode := .seq k62_1 .ret
def k62_3 : SCode := .seq k62_0 k62_2
@[simp] def rs_turrettop_armNotes : List SRes := [.tmp 8]
theorem law_turrettop_armNotes (cs : List CV) (r : CV) (hl : cs.length ≤ 30) (h : STri (cfF Try.prog [] 30) k62_3 (initT 0 cs) [] (retQ rs_turrettop_armNotes r)) : SC Try.prog 9 cs r :=
  sc_of [] follows Try.func9 rfl Try.ntmps9 (by decide) (by kernel_rfl) (by kernel_rfl) hl h
@[simp] def rs_turrettop_pubDrop : List SRes := [.tmp 0]
def k63_0 : SCode := .reg [⟨some 0, none, .mov (.const (.bool false)), [], false⟩] []
def k63_1 : SCode := .reg [⟨some 6, none, .call 5 [(.const (.int .i64 0)), (.const (.int .i64 1))], [], false⟩, ⟨some 7, none, .build [(.int .i64 0), (.int .i64 0), (.int .i64 0), (.int .i64 0), (.int .i64 0), (.int .i64 0), (.int .i64 0), (.slice none 0 0)] [(0, 1, (.const (.int .i64 2))), (1, 2, (.tmp 6)), (3, 1, (.const (.int .i64 3600))), (6, 1, (.const (.int .i64 86400)))], [], false⟩, ⟨some 8, none, .call 5 [(.const (.int .i64 2)), (.const (.int .i64 5))], [], false⟩, ⟨some 9, none, .build [(.int .i64 0), (.int .i64 0), (.int .i64 0), (.int .i64 0), (.int .i64 0), (.int .i64 0), (.int .i64 0), (.slice none 0 0)] [(0, 1, (.const (.int .i64 4))), (1, 2, (.tmp 8))], [], false⟩, ⟨some 10, none, .call 5 [(.const (.int .i64 (-1))), (.const (.int .i64 1))], [], false⟩, ⟨some 11, none, .call 5 [(.const (.int .i64 0)), (.const (.int .i64 2000))], [], false⟩, ⟨some 12, none, .build [(.int .i64 0), (.int .i64 0), (.int .i64 0), (.int .i64 0), (.int .i64 0), (.int .i64 0), (.int .i64 0), (.slice none 0 0)] [(0, 1, (.const (.int .i64 1))), (1, 2, (.tmp 10)), (4, 2, (.tmp 11))], [], false⟩, ⟨some 13, none, .buildSl 57 8 [(.int .i64 0), (.int .i64 0), (.int .i64 0), (.int .i64 0), (.int .i64 0), (.int .i64 0), (.int .i64 0), (.slice none 0 0)] 3 [(0, (.tmp 7)), (1, (.tmp 9)), (2, (.tmp 12))], [], false⟩, ⟨some 1, none, .mov (.tmp 13), [], false⟩] [1]
def k63_2 : SCode := .reg [⟨some 15, none, .mov (.tmp 1), [], false⟩, ⟨some 16, none, .build [(.int .i64 0), (.int .i64 0), (.int .i64 0)] [(1, 1, (.const (.int .i64 3500)))], [], false⟩, ⟨some 17, none, .build [(.int .i64 0), (.int .i64 0), (.int .i64 0)] [(0, 1, (.const (.int .i64 1))), (1, 1, (.const (.int .i64 7000))), (2, 1, (.const (.int .i64 7098)))], [], false⟩, ⟨some 18, none, .build [(.int .i64 0), (.int .i64 0), (.int .i64 0)] [(0, 1, (.const (.int .i64 2))), (1, 1, (.const (.int .i64 86300))), (2, 1, (.const (.int .i64 2)))], [], false⟩, ⟨some 19, none, .buildSl 67 3 [(.int .i64 0), (.int .i64 0), (.int .i64 0)] 3 [(0, (.tmp 16)), (1, (.tmp 17)), (2, (.tmp 18))], [], false⟩, ⟨some 20, none, .call 5 [(.const (.int .i64 0)), (.const (.int .i64 200))], [], false⟩, ⟨some 21, none, .call 8 [(.tmp 15), (.tmp 19), (.tmp 20)], [], false⟩, ⟨some 14, none, .mov (.tmp 21), [], false⟩, ⟨some 22, none, .ext (.tmp 14) 0, [], false⟩, ⟨some 23, none, .ext (.tmp 14) 1, [], false⟩, ⟨some 2, none, .mov (.tmp 22), [], false⟩, ⟨some 3, none, .mov (.tmp 23), [], false⟩] [1, 2, 3]
def k63_3 : SCode := .reg [⟨some 25, none, .mov (.tmp 1), [], false⟩, ⟨some 26, none, .build [(.int .i64 0), (.int .i64 0), (.int .i64 0)] [(1, 1, (.const (.int .i64 3500)))], [], false⟩, ⟨some 27, none, .build [(.int .i64 0), (.int .i64 0), (.int .i64 0)] [(0, 1, (.const (.int .i64 1))), (1, 1, (.const (.int .i64 7000))), (2, 1, (.const (.int .i64 7098)))], [], false⟩, ⟨some 28, none, .build [(.int .i64 0), (.int .i64 0), (.int .i64 0)] [(0, 1, (.const (.int .i64 2))), (1, 1, (.const (.int .i64 86300))), (2, 1, (.const (.int .i64 40)))], [], false⟩, ⟨some 29, none, .buildSl 67 3 [(.int .i64 0), (.int .i64 0), (.int .i64 0)] 3 [(0, (.tmp 26)), (1, (.tmp 27)), (2, (.tmp 28))], [], false⟩, ⟨some 30, none, .call 5 [(.const (.int .i64 0)), (.const (.int .i64 200))], [], false⟩, ⟨some 31, none, .call 10 [(.tmp 25), (.tmp 29), (.tmp 30)], [], false⟩, ⟨some 24, none, .mov (.tmp 31), [], false⟩, ⟨some 32, none, .ext (.tmp 24) 0, [], false⟩, ⟨some 33, none, .ext (.tmp 24) 1, [], false⟩, ⟨some 4, none, .mov (.tmp 32), [], false⟩, ⟨some 5, none, .mov (.tmp 33), [], false⟩] [2, 3, 4, 5]
def k63_4 : SCode := .reg [⟨some 34, none, .mov (.tmp 3), [], false⟩, ⟨some 35, none, .bin .eql (.tmp 34) (.const (.int .i64 0)), [], false⟩, ⟨some 36, none, .mov (.tmp 35), [], false⟩, ⟨some 37, (some (36, true)), .mov (.tmp 5), [], false⟩, ⟨some 38, (some (36, true)), .bin .eql (.tmp 37) (.const (.int .i64 0)), [], false⟩, ⟨some 39, none, .pick (.tmp 36) (.tmp 38) (.const (.bool false)), [], false⟩, ⟨some 40, none, .mov (.tmp 39), [], false⟩, ⟨some 41, (some (40, true)), .mov (.tmp 2), [], false⟩, ⟨some 42, (some (40, true)), .len (.tmp 41), [], false⟩, ⟨some 43, (some (40, true)), .bin .eql (.tmp 42) (.const (.int .i64 1)), [], false⟩, ⟨some 44, none, .pick (.tmp 40) (.tmp 43) (.const (.bool false)), [], false⟩, ⟨some 45, none, .mov (.tmp 44), [], false⟩, ⟨some 46, (some (45, true)), .mov (.tmp 2), [], false⟩, ⟨some 47, (some (45, true)), .idxS 2 (.tmp 46) (.const (.int .i64 0)), [], false⟩, ⟨some 48, (some (45, true)), .load true 2 (.tmp 47), [], false⟩, ⟨some 49, (some (45, true)), .call 5 [(.const (.int .i64 100)), (.const (.int .i64 101))], [], false⟩, ⟨some 50, (some (45, true)), .eqC false [true, true] (.tmp 48) (.tmp 49), [], false⟩, ⟨some 51, none, .pick (.tmp 45) (.tmp 50) (.const (.bool false)), [], false⟩, ⟨some 52, none, .mov (.tmp 51), [], false⟩, ⟨some 53, (some (52, true)), .mov (.tmp 4), [], false⟩, ⟨some 54, (some (52, true)), .bin .eql (.tmp 53) (.const (.int .i64 2)), [], false⟩, ⟨some 55, none, .pick (.tmp 52) (.tmp 54) (.const (.bool false)), [], false⟩, ⟨some 0, none, .mov (.tmp 55), [], false⟩] [0]
def k63_5 : SCode := .seq k63_4 .ret
def k63_6 : SCode := .seq k63_3 k63_5
def k63_7 : SCode := .seq k63_2 k63_6
def k63_8 : SCode := .seq k63_1 k63_7
def k63_9 : SCode := .seq k63_0 k63_8
@[simp] def rs_turrettop_pubWire : List SRes := [.tmp 0]
theorem law_turrettop_pubWire (cs : List CV) (r : CV) (hl : cs.length ≤ 56) (h : STri (cfF Try.prog [] 56) k63_9 (initT 0 cs) [] (retQ rs_turrettop_pubWire r)) : SC Try.prog 12 cs r :=
  sc_of [] follows Try.func12 rfl Try.ntmps12 (by decide) (by kernel_rfl) (by kernel_rfl) hl h
def k64_0 : SCode := .reg [⟨some 4, none, .mov (.const (.int .i64 0)), [], false⟩] [0, 1]
def k64_1 : SCode := .reg [⟨some 5, none, .mov (.tmp 0), [], false⟩, ⟨some 6, none, .mov (.tmp 1), [], false⟩, ⟨some 7, none, .bin .rem (.tmp 5) (.tmp 6), [], false⟩, ⟨some 8, none, .mov (.tmp 1), [], false⟩, ⟨some 9, none, .bin .add (.tmp 7) (.tmp 8), [], false⟩, ⟨some 10, none, .mov (.tmp 1), [], false⟩, ⟨some 11, none, .bin .rem (.tmp 9) (.tmp 10), [], false⟩, ⟨some 4, none, .mov (.tmp 11), [], false⟩] [4]
def k64_2 : SCode := .seq k64_1 .ret
def k64_3 : SCode := .seq k64_0 k64_2
@[simp] def rs_turrettop_pubRest : List SRes := [.tmp 4]
theorem law_turrettop_pubRest (cs : List CV) (r : CV) (hl : cs.length ≤ 12) (h : STri (cfF Try.prog [] 12) k64_3 (initT 0 cs) [] (retQ rs_turrettop_pubRest r)) : SC Try.prog 21 cs r :=
  sc_of [] follows Try.func21 rfl Try.ntmps21 (by decide) (by kernel_rfl) (by kernel_rfl) hl h
end Go.Proofs.Ytlodpljdhdhfmaa
/- The shadow code of functions, as the kit's translation has them. -/
namespace Go.Proofs.Ytlodpljdhdhfmaa
open Go.RowKit
def markT : List FuncId := [1000000 + 4]
def k65_0 : SCode := .reg [⟨some 0, none, .mov (.const (.bool false)), [], false⟩] []
def k65_1 : SCode := .reg [⟨some 4, none, .call 5 [(.const (.int .i64 2)), (.const (.int .i64 2))], [], false⟩, ⟨some 5, none, .callG 4 [(.tmp 4)], [], false⟩, ⟨some 6, none, .build [(.int .i64 0), (.slice none 0 0)] [(0, 1, (.const (.int .i64 100))), (1, 1, (.tmp 5))], [], false⟩, ⟨some 1, none, .alloc 32 [(.int .i64 0), (.slice none 0 0)], [], false⟩, ⟨none, none, .store 2 (.tmp 1) (.tmp 6), [], false⟩] [1]
def k65_2 : SCode := .reg [⟨some 7, none, .fld 1 (.tmp 1), [], false⟩, ⟨some 8, none, .load false 1 (.tmp 7), [], false⟩, ⟨some 9, none, .idxS 2 (.tmp 8) (.const (.int .i64 0)), [], false⟩, ⟨some 10, none, .fld 1 (.tmp 9), [], false⟩, ⟨none, none, .store 1 (.tmp 10) (.const (.int .i64 3)), [], false⟩] [1]
def k65_3 : SCode := .reg [⟨some 12, none, .load true 2 (.tmp 1), [], false⟩, ⟨some 13, none, .call 6 [(.tmp 12), (.const (.int .i64 10)), (.const (.int .i64 0))], [], false⟩, ⟨some 11, none, .mov (.tmp 13), [], false⟩, ⟨some 14, none, .ext (.tmp 11) 0, [], false⟩, ⟨some 15, none, .ext (.tmp 11) 1, [], false⟩, ⟨some 2, none, .alloc 29 [(.int .i64 0), (.int .i64 0)], [], false⟩, ⟨none, none, .store 2 (.tmp 2) (.tmp 14), [], false⟩, ⟨some 3, none, .mov (.tmp 15), [], false⟩] [2, 3]
def k65_4 : SCode := .reg [⟨some 16, none, .mov (.tmp 3), [], false⟩, ⟨some 17, none, .bin .eql (.tmp 16) (.const (.int .i64 0)), [], false⟩, ⟨some 18, none, .mov (.tmp 17), [], false⟩, ⟨some 19, (some (18, true)), .load true 2 (.tmp 2), [], false⟩, ⟨some 20, (some (18, true)), .call 5 [(.const (.int .i64 4)), (.const (.int .i64 5))], [], false⟩, ⟨some 21, (some (18, true)), .eqC false [true, true] (.tmp 19) (.tmp 20), [], false⟩, ⟨some 22, none, .pick (.tmp 18) (.tmp 21) (.const (.bool false)), [], false⟩, ⟨some 0, none, .mov (.tmp 22), [], false⟩] [0]
def k65_5 : SCode := .seq k65_4 .ret
def k65_6 : SCode := .seq k65_3 k65_5
def k65_7 : SCode := .seq k65_2 k65_6
def k65_8 : SCode := .seq k65_1 k65_7
def k65_9 : SCode := .seq k65_0 k65_8
theorem glaw_turrettop_pubDrop (cs : List CV) (r : CV) (hl : cs.length ≤ 23) (h : STri (cfF Try.prog markT 23) k65_9 (initT 0 cs) [] (retQ rs_turrettop_pubDrop r)) : SC Try.prog 11 cs r :=
  sc_of markT follows Try.func11 rfl Try.ntmps11 (by decide) (by kernel_rfl) (by kernel_rfl) hl h
def k66_0 : SCode := .reg [⟨some 1, none, .box 29 (.tmp 0), [], false⟩, ⟨some 2, none, .mov (.const (.slice none 0 0)), [], false⟩] [1]
def k66_1 : SCode := .reg [⟨some 5, none, .buildSl 29 2 [(.int .i64 0), (.int .i64 0)] 0 [], [], false⟩, ⟨some 3, none, .mov (.tmp 5), [], false⟩] [1, 3]
def k66_2 : SCode := .reg [⟨some 4, none, .mov (.const (.int .i64 0)), [], false⟩] [1, 3, 4]
def k66_3 : SCode := .reg [⟨some 6, none, .mov (.tmp 4), [], false⟩, ⟨some 7, none, .bin .lss (.tmp 6) (.const (.int .i64 24)), [], false⟩] [1, 3, 4, 7]
def k66_4 : SCode := .cond (.tmp 7) .skip (.exit 0)
def k66_5 : SCode := .seq k66_3 k66_4
def k66_6 : SCode := .reg [⟨some 10, none, .mov (.tmp 3), [], false⟩, ⟨some 11, none, .load true 2 (.tmp 1), [], false⟩, ⟨some 12, none, .buildSl 29 2 [(.int .i64 0), (.int .i64 0)] 1 [(0, (.tmp 11))], [], false⟩, ⟨some 13, none, .append 29 2 16 (.tmp 10) (.tmp 12), [], false⟩, ⟨some 3, none, .mov (.tmp 13), [], false⟩] [1, 3, 4]
def k66_7 : SCode := .block 1 k66_6
def k66_8 : SCode := .reg [⟨some 8, none, .mov (.tmp 4), [], false⟩, ⟨some 9, none, .bin .add (.tmp 8) (.const (.int .i64 1)), [], false⟩, ⟨some 4, none, .mov (.tmp 9), [], false⟩] [1, 3, 4]
def k66_9 : SCode := .seq k66_7 k66_8
def k66_10 : SCode := .seq k66_5 k66_9
def k66_11 : SCode := .loop k66_10
def k66_12 : SCode := .block 0 k66_11
def k66_13 : SCode := .seq k66_2 k66_12
def k66_14 : SCode := .reg [⟨some 14, none, .mov (.tmp 3), [], false⟩, ⟨some 2, none, .mov (.tmp 14), [], false⟩] [2]
def k66_15 : SCode := .seq k66_14 .ret
def k66_16 : SCode := .seq k66_13 k66_15
def k66_17 : SCode := .seq k66_1 k66_16
def k66_18 : SCode := .seq k66_0 k66_17
theorem flaw_turrettop_pubHours (cs : List CV) (sh : FSh) (t : TypeId) (k : Nat) (rows : List (List CV)) (hl : cs.length ≤ 15) (h : STri (cfF Try.prog markT 15) k66_18 (initT 0 cs) [] (retF (.tmp 2) sh t k rows)) : FC Try.prog 4 cs sh t k rows :=
  fc_of markT follows Try.func4 rfl Try.ntmps4 (by decide) (by kernel_rfl) (by kernel_rfl) hl h
end Go.Proofs.Ytlodpljdhdhfmaa
/- Top's helpers: spans, hours, offices, notes. -/
namespace Go.Proofs.Ytlodpljdhdhfmaa
open Go.RowKit
theorem sSpanT (lo hi : Int) : SC Try.prog 5 [I lo, I hi] (.agg [I lo, I hi]) := by
  refine law_turrettop_pubSpan _ _ (by simp) ?_
  (repeat' (first | ((first | with_reducible refine st_skip ?_ | with_reducible refine st_exit ?_); (try simp only [seqQ, blockQ, loopQ, forQ, whileQ, reduceIte, Nat.reduceEqDiff])) | (with_reducible refine st_ret ?_; ((try simp only [seqQ, blockQ, loopQ, forQ, whileQ]); first | (with_reducible refine retM_ret ?_) | (with_reducible refine retF_ret ?_) | (with_reducible refine retO_ret ?_) | refine retQ_ret ?_; simp)) | refine st_seq ?_ | refine st_block ?_ | ((with_reducible show (STri _ _ _ _ _) ∧ (STri _ _ _ _ _)); refine And.intro ?_ ?_) | ((first | refine st_reg ?_ | refine buildP_own ?_ | refine appP_own ?_) <;> (simp -dsimp; (repeat (simp -dsimp (disch := (first | omega | assumption | (refine Bool.eq_false_iff.1 ?_; assumption))) only [wrap_in, if_pos, if_neg]; (try simp -dsimp))))) | ((first | refine guardP_of (fun hc => ?_) (fun hc => ?_) | refine st_cond rfl (fun hc => ?_) (fun hc => ?_)) <;> (try simp only [lqA, lqB, lqC, lqD, lqE, lqF, lqG, lqH, lqI, lqJ, lqK, lqL, lqM, lqN, lqO] at hc) <;> (try (exfalso; first | omega | exact bool_tf hc (by assumption) | exact bool_ft hc (by assumption) | exact absurd (by assumption) hc)) <;> (first | with_reducible show STri _ _ _ _ _ _ | (simp -dsimp [hc]; (repeat (simp -dsimp (disch := (first | omega | assumption | (refine Bool.eq_false_iff.1 ?_; assumption))) only [wrap_in, if_pos, if_neg]; (try simp -dsimp [hc]))))))))
  all_goals exact .refl _
theorem rep_succ {α : Type} (k : Nat) (x : α) : List.replicate (k + 1) x = List.replicate k x ++ [x] := by
  rw [List.replicate_succ']
theorem fHours (a b : Int) : FC Try.prog 4 [.agg [I a, I b]] none 29 2 ((List.replicate 24 (a, b)).map rowE) := by
  refine flaw_turrettop_pubHours _ _ _ _ _ (by simp) ?_
  (repeat' (first | ((first | with_reducible refine st_skip ?_ | with_reducible refine st_exit ?_); (try simp only [seqQ, blockQ, loopQ, forQ, whileQ, reduceIte, Nat.reduceEqDiff])) | (with_reducible refine st_ret ?_; ((try simp only [seqQ, blockQ, loopQ, forQ, whileQ]); first | (with_reducible refine retM_ret ?_) | (with_reducible refine retF_ret ?_) | (with_reducible refine retO_ret ?_) | refine retQ_ret ?_; simp)) | refine st_seq ?_ | refine st_block ?_ | ((with_reducible show (STri _ _ _ _ _) ∧ (STri _ _ _ _ _)); refine And.intro ?_ ?_) | ((first | refine st_reg ?_ | refine buildP_own ?_ | refine appP_own ?_) <;> (simp -dsimp; (repeat (simp -dsimp (disch := (first | omega | assumption | (refine Bool.eq_false_iff.1 ?_; assumption))) only [wrap_in, if_pos, if_neg]; (try simp -dsimp))))) | ((first | refine guardP_of (fun hc => ?_) (fun hc => ?_) | refine st_cond rfl (fun hc => ?_) (fun hc => ?_)) <;> (try simp only [lqA, lqB, lqC, lqD, lqE, lqF, lqG, lqH, lqI, lqJ, lqK, lqL, lqM, lqN, lqO] at hc) <;> (try (exfalso; first | omega | exact bool_tf hc (by assumption) | exact bool_ft hc (by assumption) | exact absurd (by assumption) hc)) <;> (first | with_reducible show STri _ _ _ _ _ _ | (simp -dsimp [hc]; (repeat (simp -dsimp (disch := (first | omega | assumption | (refine Bool.eq_false_iff.1 ?_; assumption))) only [wrap_in, if_pos, if_neg]; (try simp -dsimp [hc]))))))))
  refine st_for [1, 5] 24 (fun k T H => T = [(1, .ptr 1 0), (3, .own 5 k), (4, .c (I k))] ∧ H = [(1, .box 29 [.c (I a), .c (I b)]), (5, .arr 29 2 ((List.replicate k (a, b)).map rowE))]) (by simp) ⟨by simp, by simp⟩ ?_
  rintro k T H hk ⟨rfl, rfl⟩
  by_cases hlt : k < 24
  · have hA : k ≤ 9223372036854775806 := by omega
    have hB : (k + 1) * 16 ≤ 140737488355328 := by omega
    have hs := rep_succ k [I a, I b]
    (repeat' (first | ((first | with_reducible refine st_skip ?_ | with_reducible refine st_exit ?_); (try simp only [seqQ, blockQ, loopQ, forQ, whileQ, reduceIte, Nat.reduceEqDiff])) | (with_reducible refine st_ret ?_; ((try simp only [seqQ, blockQ, loopQ, forQ, whileQ]); first | (with_reducible refine retM_ret ?_) | (with_reducible refine retF_ret ?_) | (with_reducible refine retO_ret ?_) | refine retQ_ret ?_; simp [hlt, hA, hB])) | refine st_seq ?_ | refine st_block ?_ | ((with_reducible show (STri _ _ _ _ _) ∧ (STri _ _ _ _ _)); refine And.intro ?_ ?_) | ((first | refine st_reg ?_ | refine buildP_own ?_ | refine appP_own ?_) <;> (simp -dsimp [hlt, hA, hB]; (repeat (simp -dsimp (disch := (first | omega | assumption | (refine Bool.eq_false_iff.1 ?_; assumption))) only [wrap_in, if_pos, if_neg]; (try simp -dsimp [hlt, hA, hB]))))) | ((first | refine guardP_of (fun hc => ?_) (fun hc => ?_) | refine st_cond rfl (fun hc => ?_) (fun hc => ?_)) <;> (try simp only [lqA, lqB, lqC, lqD, lqE, lqF, lqG, lqH, lqI, lqJ, lqK, lqL, lqM, lqN, lqO] at hc) <;> (try (exfalso; first | omega | exact bool_tf hc (by assumption) | exact bool_ft hc (by assumption) | exact absurd (by assumption) hc)) <;> (first | with_reducible show STri _ _ _ _ _ _ | (simp -dsimp [hlt, hA, hB, hc]; (repeat (simp -dsimp (disch := (first | omega | assumption | (refine Bool.eq_false_iff.1 ?_; assumption))) only [wrap_in, if_pos, if_neg]; (try simp -dsimp [hlt, hA, hB, hc]))))))))
    exact ⟨hlt, by simp, by simp, by rw [hs]; simp⟩
  · have : k = 24 := by omega
    subst this
    (repeat' (first | ((first | with_reducible refine st_skip ?_ | with_reducible refine st_exit ?_); (try simp only [seqQ, blockQ, loopQ, forQ, whileQ, reduceIte, Nat.reduceEqDiff])) | (with_reducible refine st_ret ?_; ((try simp only [seqQ, blockQ, loopQ, forQ, whileQ]); first | (with_reducible refine retM_ret ?_) | (with_reducible refine retF_ret ?_) | (with_reducible refine retO_ret ?_) | refine retQ_ret ?_; simp)) | refine st_seq ?_ | refine st_block ?_ | ((with_reducible show (STri _ _ _ _ _) ∧ (STri _ _ _ _ _)); refine And.intro ?_ ?_) | ((first | refine st_reg ?_ | refine buildP_own ?_ | refine appP_own ?_) <;> (simp -dsimp; (repeat (simp -dsimp (disch := (first | omega | assumption | (refine Bool.eq_false_iff.1 ?_; assumption))) only [wrap_in, if_pos, if_neg]; (try simp -dsimp))))) | ((first | refine guardP_of (fun hc => ?_) (fun hc => ?_) | refine st_cond rfl (fun hc => ?_) (fun hc => ?_)) <;> (try simp only [lqA, lqB, lqC, lqD, lqE, lqF, lqG, lqH, lqI, lqJ, lqK, lqL, lqM, lqN, lqO] at hc) <;> (try (exfalso; first | omega | exact bool_tf hc (by assumption) | exact bool_ft hc (by assumption) | exact absurd (by assumption) hc)) <;> (first | with_reducible show STri _ _ _ _ _ _ | (simp -dsimp [hc]; (repeat (simp -dsimp (disch := (first | omega | assumption | (refine Bool.eq_false_iff.1 ?_; assumption))) only [wrap_in, if_pos, if_neg]; (try simp -dsimp [hc]))))))))
    exact ⟨5, by simp, rfl⟩
theorem sHoursT (a b : Int) : SC Try.prog 4 [.agg [I a, I b]] (slE (List.replicate 24 (a, b))) := by
  refine law_turrettop_pubHours _ _ (by simp) ?_
  (repeat' (first | ((first | with_reducible refine st_skip ?_ | with_reducible refine st_exit ?_); (try simp only [seqQ, blockQ, loopQ, forQ, whileQ, reduceIte, Nat.reduceEqDiff])) | (with_reducible refine st_ret ?_; ((try simp only [seqQ, blockQ, loopQ, forQ, whileQ]); first | (with_reducible refine retM_ret ?_) | (with_reducible refine retF_ret ?_) | (with_reducible refine retO_ret ?_) | refine retQ_ret ?_; simp)) | refine st_seq ?_ | refine st_block ?_ | ((with_reducible show (STri _ _ _ _ _) ∧ (STri _ _ _ _ _)); refine And.intro ?_ ?_) | ((first | refine st_reg ?_ | refine buildP_own ?_ | refine appP_own ?_) <;> (simp -dsimp; (repeat (simp -dsimp (disch := (first | omega | assumption | (refine Bool.eq_false_iff.1 ?_; assumption))) only [wrap_in, if_pos, if_neg]; (try simp -dsimp))))) | ((first | refine guardP_of (fun hc => ?_) (fun hc => ?_) | refine st_cond rfl (fun hc => ?_) (fun hc => ?_)) <;> (try simp only [lqA, lqB, lqC, lqD, lqE, lqF, lqG, lqH, lqI, lqJ, lqK, lqL, lqM, lqN, lqO] at hc) <;> (try (exfalso; first | omega | exact bool_tf hc (by assumption) | exact bool_ft hc (by assumption) | exact absurd (by assumption) hc)) <;> (first | with_reducible show STri _ _ _ _ _ _ | (simp -dsimp [hc]; (repeat (simp -dsimp (disch := (first | omega | assumption | (refine Bool.eq_false_iff.1 ?_; assumption))) only [wrap_in, if_pos, if_neg]; (try simp -dsimp [hc]))))))))
  refine st_for [1, 5] 24 (fun k T H => T = [(1, .ptr 1 0), (3, .own 5 k), (4, .c (I k))] ∧ H = [(1, .box 29 [.c (I a), .c (I b)]), (5, .arr 29 2 ((List.replicate k (a, b)).map rowE))]) (by simp) ⟨by simp, by simp⟩ ?_
  rintro k T H hk ⟨rfl, rfl⟩
  by_cases hlt : k < 24
  · have hA : k ≤ 9223372036854775806 := by omega
    have hB : (k + 1) * 16 ≤ 140737488355328 := by omega
    have hs := rep_succ k [I a, I b]
    (repeat' (first | ((first | with_reducible refine st_skip ?_ | with_reducible refine st_exit ?_); (try simp only [seqQ, blockQ, loopQ, forQ, whileQ, reduceIte, Nat.reduceEqDiff])) | (with_reducible refine st_ret ?_; ((try simp only [seqQ, blockQ, loopQ, forQ, whileQ]); first | (with_reducible refine retM_ret ?_) | (with_reducible refine retF_ret ?_) | (with_reducible refine retO_ret ?_) | refine retQ_ret ?_; simp [hlt, hA, hB])) | refine st_seq ?_ | refine st_block ?_ | ((with_reducible show (STri _ _ _ _ _) ∧ (STri _ _ _ _ _)); refine And.intro ?_ ?_) | ((first | refine st_reg ?_ | refine buildP_own ?_ | refine appP_own ?_) <;> (simp -dsimp [hlt, hA, hB]; (repeat (simp -dsimp (disch := (first | omega | assumption | (refine Bool.eq_false_iff.1 ?_; assumption))) only [wrap_in, if_pos, if_neg]; (try simp -dsimp [hlt, hA, hB]))))) | ((first | refine guardP_of (fun hc => ?_) (fun hc => ?_) | refine st_cond rfl (fun hc => ?_) (fun hc => ?_)) <;> (try simp only [lqA, lqB, lqC, lqD, lqE, lqF, lqG, lqH, lqI, lqJ, lqK, lqL, lqM, lqN, lqO] at hc) <;> (try (exfalso; first | omega | exact bool_tf hc (by assumption) | exact bool_ft hc (by assumption) | exact absurd (by assumption) hc)) <;> (first | with_reducible show STri _ _ _ _ _ _ | (simp -dsimp [hlt, hA, hB, hc]; (repeat (simp -dsimp (disch := (first | omega | assumption | (refine Bool.eq_false_iff.1 ?_; assumption))) only [wrap_in, if_pos, if_neg]; (try simp -dsimp [hlt, hA, hB, hc]))))))))
    exact ⟨hlt, by simp, by simp, by rw [hs]; simp⟩
  · have : k = 24 := by omega
    subst this
    (repeat' (first | ((first | with_reducible refine st_skip ?_ | with_reducible refine st_exit ?_); (try simp only [seqQ, blockQ, loopQ, forQ, whileQ, reduceIte, Nat.reduceEqDiff])) | (with_reducible refine st_ret ?_; ((try simp only [seqQ, blockQ, loopQ, forQ, whileQ]); first | (with_reducible refine retM_ret ?_) | (with_reducible refine retF_ret ?_) | (with_reducible refine retO_ret ?_) | refine retQ_ret ?_; simp)) | refine st_seq ?_ | refine st_block ?_ | ((with_reducible show (STri _ _ _ _ _) ∧ (STri _ _ _ _ _)); refine And.intro ?_ ?_) | ((first | refine st_reg ?_ | refine buildP_own ?_ | refine appP_own ?_) <;> (simp -dsimp; (repeat (simp -dsimp (disch := (first | omega | assumption | (refine Bool.eq_false_iff.1 ?_; assumption))) only [wrap_in, if_pos, if_neg]; (try simp -dsimp))))) | ((first | refine guardP_of (fun hc => ?_) (fun hc => ?_) | refine st_cond rfl (fun hc => ?_) (fun hc => ?_)) <;> (try simp only [lqA, lqB, lqC, lqD, lqE, lqF, lqG, lqH, lqI, lqJ, lqK, lqL, lqM, lqN, lqO] at hc) <;> (try (exfalso; first | omega | exact bool_tf hc (by assumption) | exact bool_ft hc (by assumption) | exact absurd (by assumption) hc)) <;> (first | with_reducible show STri _ _ _ _ _ _ | (simp -dsimp [hc]; (repeat (simp -dsimp (disch := (first | omega | assumption | (refine Bool.eq_false_iff.1 ?_; assumption))) only [wrap_in, if_pos, if_neg]; (try simp -dsimp [hc]))))))))
    exact .refl _
theorem sRestT (n b : Int) (h3 : 0 < b) (h4 : b ≤ 1000000000000) : SC Try.prog 21 [I n, I b] (I (n % b)) := by
  refine law_turrettop_pubRest _ _ (by simp) ?_
  have hne : ¬ b = 0 := by omega
  have hb : IntKind.i64.wrap (n.tmod b + b) = n.tmod b + b := by
    have := tmod_lt n b h3
    exact wrap_in _ (by omega) (by omega)
  have he := mod_eq n b h3
  (repeat' (first | ((first | with_reducible refine st_skip ?_ | with_reducible refine st_exit ?_); (try simp only [seqQ, blockQ, loopQ, forQ, whileQ, reduceIte, Nat.reduceEqDiff])) | (with_reducible refine st_ret ?_; ((try simp only [seqQ, blockQ, loopQ, forQ, whileQ]); first | (with_reducible refine retM_ret ?_) | (with_reducible refine retF_ret ?_) | (with_reducible refine retO_ret ?_) | refine retQ_ret ?_; simp [hne, hb, he])) | refine st_seq ?_ | refine st_block ?_ | ((with_reducible show (STri _ _ _ _ _) ∧ (STri _ _ _ _ _)); refine And.intro ?_ ?_) | ((first | refine st_reg ?_ | refine buildP_own ?_ | refine appP_own ?_) <;> (simp -dsimp [hne, hb, he]; (repeat (simp -dsimp (disch := (first | omega | assumption | (refine Bool.eq_false_iff.1 ?_; assumption))) only [wrap_in, if_pos, if_neg]; (try simp -dsimp [hne, hb, he]))))) | ((first | refine guardP_of (fun hc => ?_) (fun hc => ?_) | refine st_cond rfl (fun hc => ?_) (fun hc => ?_)) <;> (try simp only [lqA, lqB, lqC, lqD, lqE, lqF, lqG, lqH, lqI, lqJ, lqK, lqL, lqM, lqN, lqO] at hc) <;> (try (exfalso; first | omega | exact bool_tf hc (by assumption) | exact bool_ft hc (by assumption) | exact absurd (by assumption) hc)) <;> (first | with_reducible show STri _ _ _ _ _ _ | (simp -dsimp [hne, hb, he, hc]; (repeat (simp -dsimp (disch := (first | omega | assumption | (refine Bool.eq_false_iff.1 ?_; assumption))) only [wrap_in, if_pos, if_neg]; (try simp -dsimp [hne, hb, he, hc]))))))))
  exact .refl _
theorem sOffice (el eh dl dh : Int) : SC Try.prog 7 [.agg [I el, I eh], .agg [I dl, I dh]] (slSr (armW (clkW el eh dl dh))) := by
  refine SC.ans (r := .sl 8 ((armW (clkW el eh dl dh)).map rowNil)) ?_ (fun w N v h => rep_nils (by simp [armW, clkW, sigW]) h)
  refine law_turrettop_armOffice _ _ (by simp) ?_
  unfold armW rowNil clkW sigW
  (repeat' (first | ((first | with_reducible refine st_skip ?_ | with_reducible refine st_exit ?_); (try simp only [seqQ, blockQ, loopQ, forQ, whileQ, reduceIte, Nat.reduceEqDiff])) | (with_reducible refine st_ret ?_; ((try simp only [seqQ, blockQ, loopQ, forQ, whileQ]); first | (with_reducible refine retM_ret ?_) | (with_reducible refine retF_ret ?_) | (with_reducible refine retO_ret ?_) | refine retQ_ret ?_; simp)) | refine st_seq ?_ | refine st_block ?_ | ((with_reducible show (STri _ _ _ _ _) ∧ (STri _ _ _ _ _)); refine And.intro ?_ ?_) | ((first | refine st_reg ?_ | refine buildP_own ?_ | refine appP_own ?_) <;> (simp -dsimp; (repeat (simp -dsimp (disch := (first | omega | assumption | (refine Bool.eq_false_iff.1 ?_; assumption))) only [wrap_in, if_pos, if_neg]; (try simp -dsimp))))) | ((first | refine guardP_of (fun hc => ?_) (fun hc => ?_) | refine st_cond rfl (fun hc => ?_) (fun hc => ?_)) <;> (try simp only [lqA, lqB, lqC, lqD, lqE, lqF, lqG, lqH, lqI, lqJ, lqK, lqL, lqM, lqN, lqO] at hc) <;> (try (exfalso; first | omega | exact bool_tf hc (by assumption) | exact bool_ft hc (by assumption) | exact absurd (by assumption) hc)) <;> (first | with_reducible show STri _ _ _ _ _ _ | (simp -dsimp [hc]; (repeat (simp -dsimp (disch := (first | omega | assumption | (refine Bool.eq_false_iff.1 ?_; assumption))) only [wrap_in, if_pos, if_neg]; (try simp -dsimp [hc]))))))))
  all_goals exact .refl _
theorem sArmNotes (at' shown by' g1 g2 : Int) (a0 : 0 ≤ at') (a1 : at' ≤ 10000000000) (b0 : -1000000 ≤ by') (b1 : by' ≤ 1000000) (c0 : 0 ≤ g1) (c1 : g1 ≤ 10000000000) (d0 : 0 ≤ g2) (d1 : g2 ≤ 10000000000) :
    SC Try.prog 9 [I at', I shown, I by', .agg [I g1, I g2]] (slN (armN (at' - by') (shown % 43200) by' g1 g2)) := by
  refine law_turrettop_armNotes _ _ (by simp) ?_
  unfold armN
  (repeat' (first | ((first | with_reducible refine st_skip ?_ | with_reducible refine st_exit ?_); (try simp only [seqQ, blockQ, loopQ, forQ, whileQ, reduceIte, Nat.reduceEqDiff])) | (with_reducible refine st_ret ?_; ((try simp only [seqQ, blockQ, loopQ, forQ, whileQ]); first | (with_reducible refine retM_ret ?_) | (with_reducible refine retF_ret ?_) | (with_reducible refine retO_ret ?_) | refine retQ_ret ?_; simp)) | refine st_seq ?_ | refine st_block ?_ | ((with_reducible show (STri _ _ _ _ _) ∧ (STri _ _ _ _ _)); refine And.intro ?_ ?_) | ((first | refine st_reg ?_ | refine buildP_own ?_ | refine appP_own ?_ | refine callP_b (sRestT shown 43200 (by omega) (by omega)) rfl ?_) <;> (simp -dsimp; (repeat (simp -dsimp (disch := (first | omega | assumption | (refine Bool.eq_false_iff.1 ?_; assumption))) only [wrap_in, if_pos, if_neg]; (try simp -dsimp))))) | ((first | refine guardP_of (fun hc => ?_) (fun hc => ?_) | refine st_cond rfl (fun hc => ?_) (fun hc => ?_)) <;> (try simp only [lqA, lqB, lqC, lqD, lqE, lqF, lqG, lqH, lqI, lqJ, lqK, lqL, lqM, lqN, lqO] at hc) <;> (try (exfalso; first | omega | exact bool_tf hc (by assumption) | exact bool_ft hc (by assumption) | exact absurd (by assumption) hc)) <;> (first | with_reducible show STri _ _ _ _ _ _ | (simp -dsimp [hc]; (repeat (simp -dsimp (disch := (first | omega | assumption | (refine Bool.eq_false_iff.1 ?_; assumption))) only [wrap_in, if_pos, if_neg]; (try simp -dsimp [hc]))))))))
  all_goals exact .refl _
def exC : Dc := ⟨100, (2, 3) :: List.replicate 23 (2, 2)⟩
theorem exC_ok : dcOK exC = true := by decide +kernel
theorem exC_hi : goN exC.hours (fun s => s.2) 10 0 = 4 := by decide +kernel
theorem exC_lo : goN exC.hours (fun s => s.1) 10 0 = 5 := by decide +kernel
theorem flat2 (a b c : Int) : Flat (.tup [.agg [I a, I b], I c]) := .tup _ fun i x hx => by
  match i with
  | 0 => cases hx; exact flat_agg rfl
  | 1 => cases hx; exact .val _
  | i + 2 => simp at hx
theorem sPubDrop : SC Try.prog 11 [] (B true) := by
  refine glaw_turrettop_pubDrop _ _ (by simp) ?_
  have h : SC Try.prog 6 [cDc exC, I 10, I 0] _ := sDGoes exC exC_ok 10 0 (by omega) (by decide) (by omega)
  rw [exC_hi, exC_lo] at h
  have hf := fHours 2 2
  have hr : (List.replicate 24 ((2 : Int), (2 : Int))).map rowE = [I 2, I 2] :: (List.replicate 23 ((2 : Int), (2 : Int))).map rowE := rfl
  rw [hr] at hf
  have hx : exC.hours.map rowE = [I 2, I 3] :: (List.replicate 23 ((2 : Int), (2 : Int))).map rowE := rfl
  simp only [cDc] at h
  rw [hx] at h
  have hl : ((List.replicate 23 ((2 : Int), (2 : Int))).map rowE).length = 23 := by simp
  generalize (List.replicate 23 ((2 : Int), (2 : Int))).map rowE = rest at *
  (repeat' (first | ((first | with_reducible refine st_skip ?_ | with_reducible refine st_exit ?_); (try simp only [seqQ, blockQ, loopQ, forQ, whileQ, reduceIte, Nat.reduceEqDiff])) | (with_reducible refine st_ret ?_; ((try simp only [seqQ, blockQ, loopQ, forQ, whileQ]); first | (with_reducible refine retM_ret ?_) | (with_reducible refine retF_ret ?_) | (with_reducible refine retO_ret ?_) | refine retQ_ret ?_; simp [hl, exC])) | refine st_seq ?_ | refine st_block ?_ | ((with_reducible show (STri _ _ _ _ _) ∧ (STri _ _ _ _ _)); refine And.intro ?_ ?_) | ((first | refine st_reg ?_ | refine buildP_own ?_ | refine appP_own ?_ | ((with_reducible show callGP _ _ _ _ _ _ _); refine callG_n (hf ) ?hcc ?hpp ?hnn ?_; (case hcc => (first | rfl | (simp <;> fail) | (simp [ hl] <;> fail))); (case hpp => (first | rfl | (simp <;> fail) | (simp [ hl] <;> fail))); (case hnn => (first | rfl | (simp <;> fail) | (simp [ hl] <;> fail)))) | ((with_reducible show callGP _ _ _ _ _ _ _); refine callG_b (sSpanT 2 2) ?hcc ?hpp ?_; (case hcc => (first | rfl | (simp <;> fail))); (case hpp => (first | rfl | (simp <;> fail)))) | ((with_reducible show callGP _ _ _ _ _ _ _); refine callG_b (sSpanT 4 5) ?hcc ?hpp ?_; (case hcc => (first | rfl | (simp <;> fail))); (case hpp => (first | rfl | (simp <;> fail)))) | ((with_reducible show callGP _ _ _ _ _ _ _); refine callG_b (h) ?hcc ?hpp ?_; (case hcc => (first | rfl | (simp <;> fail))); (case hpp => (first | rfl | (simp <;> fail)))) | refine callP_b (sSpanT 2 2) rfl ?_ | refine callP_b (sSpanT 4 5) rfl ?_ | refine callP_b (h) rfl ?_) <;> (simp -dsimp [hl, exC]; (repeat (simp -dsimp (disch := (first | omega | assumption | (refine Bool.eq_false_iff.1 ?_; assumption))) only [wrap_in, if_pos, if_neg]; (try simp -dsimp [hl, exC]))))) | ((first | refine guardP_of (fun hc => ?_) (fun hc => ?_) | refine st_cond rfl (fun hc => ?_) (fun hc => ?_)) <;> (try simp only [lqA, lqB, lqC, lqD, lqE, lqF, lqG, lqH, lqI, lqJ, lqK, lqL, lqM, lqN, lqO] at hc) <;> (try (exfalso; first | omega | exact bool_tf hc (by assumption) | exact bool_ft hc (by assumption) | exact absurd (by assumption) hc)) <;> (first | with_reducible show STri _ _ _ _ _ _ | (simp -dsimp [hl, exC, hc]; (repeat (simp -dsimp (disch := (first | omega | assumption | (refine Bool.eq_false_iff.1 ?_; assumption))) only [wrap_in, if_pos, if_neg]; (try simp -dsimp [hl, exC, hc]))))))))
  refine callP_of h (.inr (flat2 _ _ _)) ?_
  (simp -dsimp; (repeat (simp -dsimp (disch := (first | omega | assumption | (refine Bool.eq_false_iff.1 ?_; assumption))) only [wrap_in, if_pos, if_neg]; (try simp -dsimp))))
  (repeat' (first | ((first | with_reducible refine st_skip ?_ | with_reducible refine st_exit ?_); (try simp only [seqQ, blockQ, loopQ, forQ, whileQ, reduceIte, Nat.reduceEqDiff])) | (with_reducible refine st_ret ?_; ((try simp only [seqQ, blockQ, loopQ, forQ, whileQ]); first | (with_reducible refine retM_ret ?_) | (with_reducible refine retF_ret ?_) | (with_reducible refine retO_ret ?_) | refine retQ_ret ?_; simp)) | refine st_seq ?_ | refine st_block ?_ | ((with_reducible show (STri _ _ _ _ _) ∧ (STri _ _ _ _ _)); refine And.intro ?_ ?_) | ((first | refine st_reg ?_ | refine buildP_own ?_ | refine appP_own ?_ | refine callP_b (sSpanT 4 5) rfl ?_) <;> (simp -dsimp; (repeat (simp -dsimp (disch := (first | omega | assumption | (refine Bool.eq_false_iff.1 ?_; assumption))) only [wrap_in, if_pos, if_neg]; (try simp -dsimp))))) | ((first | refine guardP_of (fun hc => ?_) (fun hc => ?_) | refine st_cond rfl (fun hc => ?_) (fun hc => ?_)) <;> (try simp only [lqA, lqB, lqC, lqD, lqE, lqF, lqG, lqH, lqI, lqJ, lqK, lqL, lqM, lqN, lqO] at hc) <;> (try (exfalso; first | omega | exact bool_tf hc (by assumption) | exact bool_ft hc (by assumption) | exact absurd (by assumption) hc)) <;> (first | with_reducible show STri _ _ _ _ _ _ | (simp -dsimp [hc]; (repeat (simp -dsimp (disch := (first | omega | assumption | (refine Bool.eq_false_iff.1 ?_; assumption))) only [wrap_in, if_pos, if_neg]; (try simp -dsimp [hc]))))))))
  all_goals exact .refl _
theorem sc_arg0 {P : Program} {f : FuncId} {c c' : CV} {cs : List CV} {r : CV} (h : SC P f (c :: cs) r) (hc : ∀ (w : World) (N : Nat → Prop) (v : Value), RepC w N c' v → RepC w N c v) : SC P f (c' :: cs) r := fun w NA vs hNA hs hv =>
  h w NA vs hNA hs fun i y v hy hv' => by
    cases i with
    | zero => cases hy; exact hc _ _ _ (hv 0 c' v rfl hv')
    | succ i => exact hv (i + 1) y v hy hv'
theorem three_len : WLen threeW := ⟨fun s hs => by
  unfold threeW at hs
  rcases List.mem_cons.1 hs with rfl | hs
  · simp
  rcases List.mem_cons.1 hs with rfl | hs
  · simp
  rcases List.mem_cons.1 hs with rfl | hs
  · simp
  · cases hs⟩
theorem k_fits : SC Try.prog 8 [.sl 8 (threeW.map rowNil), slN (notesW 2), .agg [I 0, I 200]] (.tup [slE [(100, 101)], I 0]) := by
  have h := sFits threeW three_len (notesW 2) (by decide) 0 200
  rw [if_pos ex_two, if_pos ex_two, ex_bk ex_two, ex_s2, if_neg (by simp)] at h
  exact sc_arg0 h fun w N v hv => rep_nils (by simp [threeW]) hv
theorem k_convict : SC Try.prog 10 [.sl 8 (threeW.map rowNil), slN (notesW 40), .agg [I 0, I 200]] (.tup [I 2, I 0]) := by
  have h := sConvict threeW three_len (notesW 40) (by decide) 0 200
  rw [ex_far, if_pos rfl, if_pos rfl, ex_bk ex_far, ex_ll] at h
  exact sc_arg0 h fun w N v hv => rep_nils (by simp [threeW]) hv
set_option maxRecDepth 100000 in
theorem sPubWire : SC Try.prog 12 [] (B true) := by
  refine law_turrettop_pubWire _ _ (by simp) ?_
  have a2 := k_fits
  have a7 := k_convict
  simp only [threeW, notesW, rowNil, slN, rowN, List.map_cons, List.map_nil] at a2 a7
  (repeat' (first | ((first | with_reducible refine st_skip ?_ | with_reducible refine st_exit ?_); (try simp only [seqQ, blockQ, loopQ, forQ, whileQ, reduceIte, Nat.reduceEqDiff])) | (with_reducible refine st_ret ?_; ((try simp only [seqQ, blockQ, loopQ, forQ, whileQ]); first | (with_reducible refine retM_ret ?_) | (with_reducible refine retF_ret ?_) | (with_reducible refine retO_ret ?_) | refine retQ_ret ?_; simp)) | refine st_seq ?_ | refine st_block ?_ | ((with_reducible show (STri _ _ _ _ _) ∧ (STri _ _ _ _ _)); refine And.intro ?_ ?_) | ((first | refine st_reg ?_ | refine buildP_frz ?_ | refine appP_own ?_ | refine callP_b (sSpanT 0 1) rfl ?_ | refine callP_b (sSpanT 2 5) rfl ?_ | refine callP_b (sSpanT (-1) 1) rfl ?_ | refine callP_b (sSpanT 0 2000) rfl ?_ | refine callP_b (sSpanT 0 200) rfl ?_ | refine callP_b (sSpanT 100 101) rfl ?_ | refine callP_b (a2) rfl ?_ | refine callP_b (a7) rfl ?_) <;> (simp -dsimp; (repeat (simp -dsimp (disch := (first | omega | assumption | (refine Bool.eq_false_iff.1 ?_; assumption))) only [wrap_in, if_pos, if_neg]; (try simp -dsimp))))) | ((first | refine guardP_of (fun hc => ?_) (fun hc => ?_) | refine st_cond rfl (fun hc => ?_) (fun hc => ?_)) <;> (try simp only [lqA, lqB, lqC, lqD, lqE, lqF, lqG, lqH, lqI, lqJ, lqK, lqL, lqM, lqN, lqO] at hc) <;> (try (exfalso; first | omega | exact bool_tf hc (by assumption) | exact bool_ft hc (by assumption) | exact absurd (by assumption) hc)) <;> (first | with_reducible show STri _ _ _ _ _ _ | (simp -dsimp [hc]; (repeat (simp -dsimp (disch := (first | omega | assumption | (refine Bool.eq_false_iff.1 ?_; assumption))) only [wrap_in, if_pos, if_neg]; (try simp -dsimp [hc]))))))))
  all_goals exact .refl _
end Go.Proofs.Ytlodpljdhdhfmaa
/- Top: a clock that has run down. -/
namespace Go.Proofs.Ytlodpljdhdhfmaa
open Go.RowKit
theorem rep_getD {α : Type} (n h : Nat) (x d : α) (hl : h < n) : (List.replicate n x).getD h d = x := by
  simp [List.getD, hl]
theorem use_same (u : Int) (h : Nat) : useD (List.replicate 24 (u, u)) h = (u, u) := rep_getD 24 (h % 24) _ _ (by omega)
theorem left_same (e : Int × Int → Int) (u : Int) (he : e (u, u) = u) (L : Int) : ∀ k : Nat, leftN (List.replicate 24 (u, u)) e L 0 k = L - k * u
  | 0 => by simp [leftN]
  | k + 1 => by
    show leftN (List.replicate 24 (u, u)) e L 0 k - e (useD (List.replicate 24 (u, u)) (0 + k)) = _
    rw [left_same e u he L k, use_same, he]
    have : ((k + 1 : Nat) : Int) * u = k * u + u := by rw [Int.natCast_add, Int.add_mul]; simp
    omega
theorem go_same (e : Int × Int → Int) (u : Int) (he : e (u, u) = u) (hu : 1 ≤ u) (L : Int) (h0 : 0 ≤ L) (h1 : L ≤ 1000) : (goN (List.replicate 24 (u, u)) e L 0 : Int) = L / u := by
  have q0 : 0 ≤ L / u := Int.ediv_nonneg h0 (by omega)
  have q1 := Int.ediv_le_self u h0
  have q2 := Int.emod_add_mul_ediv L u
  have q3 := Int.emod_nonneg L (show u ≠ 0 by omega)
  have q4 := Int.emod_lt_of_pos L (show 0 < u by omega)
  obtain ⟨k, hk⟩ : ∃ k : Nat, L / u = k := ⟨(L / u).toNat, by omega⟩
  rw [hk] at q2 ⊢
  have hs := stop_is (List.replicate 24 (u, u)) e k (2000 - 0) L 0 (fun j hj => by
    rw [use_same, he, left_same e u he]
    have : (j + 1 : Int) * u ≤ k * u := Int.mul_le_mul_of_nonneg_right (by omega) (by omega)
    rw [Int.add_mul] at this
    rw [Int.mul_comm u] at q2
    omega) (by omega) (.inr (by
    rw [use_same, he, left_same e u he]
    rw [Int.mul_comm u] at q2
    omega))
  unfold goN
  rw [hs]
  simp
def cV2 (a b : Int) : CV := .agg [.val (.int .u8 a), .val (.int .u8 b)]
def cT2 (a b : Int) : CV := .agg [.val (.int .u16 a), .val (.int .u16 b)]
structure StopOk (a b n p q : Int) : Prop where
  a0 : 0 ≤ a
  a1 : a ≤ 255
  b0 : 0 ≤ b
  b1 : b ≤ 255
  n0 : -128 ≤ n
  n1 : n ≤ 127
  p0 : 0 ≤ p
  p1 : p ≤ 65535
  q0 : 0 ≤ q
  q1 : q ≤ 65535
theorem stop_bd {L u : Int} (h1 : 1 ≤ u) (h2 : u ≤ 4) (h3 : 10 ≤ L) (h4 : L ≤ 265) : 2 ≤ L / u ∧ L / u ≤ 265 := by
  constructor
  · rw [Int.le_ediv_iff_mul_le (by omega)]; omega
  · exact Int.le_trans (Int.ediv_le_self u (by omega)) h4
set_option maxRecDepth 100000 in
set_option maxHeartbeats 2000000 in
theorem lStopped (a b n p q : Int) (h : StopOk a b n p q) : SC Try.prog 3 [cV2 a b, .val (.int .i8 n), cT2 p q] (B true) := by
  refine law_turrettop_TopStoppedWitness _ _ (by simp) ?_
  obtain ⟨a0, a1, b0, b1, n0, n1, p0, p1, q0, q1⟩ := h
  unfold cV2 cT2
  have e1 : b.tmod 4 = b % 4 := Int.tmod_eq_emod_of_nonneg b0
  obtain ⟨u, hu⟩ : ∃ u, 1 + b % 4 = u := ⟨_, rfl⟩
  have u0 : 1 ≤ u := by omega
  have u1 : u ≤ 4 := by omega
  obtain ⟨L, hL⟩ : ∃ L, 10 + a = L := ⟨_, rfl⟩
  have hsb := stop_bd u0 u1 (show 10 ≤ L by omega) (show L ≤ 265 by omega)
  have g1 := go_same (fun s => s.2) u rfl u0 L (by omega) (by omega)
  have g2 := go_same (fun s => s.1) u rfl u0 L (by omega) (by omega)
  have hdc : dcOK ⟨L, List.replicate 24 (u, u)⟩ = true := by
    unfold dcOK hoursOK spanD
    simp
    omega
  have sg : SC Try.prog 6 [cDc ⟨L, List.replicate 24 (u, u)⟩, I L, I 0] _ := sDGoes ⟨L, List.replicate 24 (u, u)⟩ hdc L 0 (by omega) (Int.le_refl _) (by omega)
  simp only at sg
  rw [g1, g2] at sg
  have e2 : L.tdiv u = L / u := Int.tdiv_eq_ediv_of_nonneg (by omega)
  have hu0 : ¬ u = 0 := by omega
  generalize hk : L / u = k at *
  have e3 : q.tmod (3600 * k - 200) = q % (3600 * k - 200) := Int.tmod_eq_emod_of_nonneg q0
  have e4 : p.tmod 40000 = p % 40000 := Int.tmod_eq_emod_of_nonneg p0
  have hk0 : ¬ 3600 * k - 200 = 0 := by omega
  have m1 := Int.emod_nonneg q hk0
  have m2 := Int.emod_lt_of_pos q (show 0 < 3600 * k - 200 by omega)
  generalize hx : q % (3600 * k - 200) = x at *
  have m3 := Int.emod_nonneg p (show (40000 : Int) ≠ 0 by omega)
  have m4 := Int.emod_lt_of_pos p (show (0 : Int) < 40000 by omega)
  generalize hy : p % 40000 = y at *
  have ok1 : ArmOk (clkW (-1) 1 0 0) (200 + x - n) ((200 + x) % 43200) n (500 + q) (70000 + q) (n - 20) (n + 20) := arm_err (by omega) (by omega) (by omega) (by omega) (by omega) (by omega) (by omega) (by omega) (by omega) (by omega) (by omega) (by omega) (by omega) (by omega) (by omega) (by omega) (by omega) (by omega) (by omega) (by omega) (by omega) (by omega)
  have ok2 : ArmOk (clkW (-1) 1 0 0) (3600 * k + 100 + y - n) ((3600 * k) % 43200) n (500 + q) (70000 + q) (n - 20) (n + 20) := arm_err (by omega) (by omega) (by omega) (by omega) (by omega) (by omega) (by omega) (by omega) (by omega) (by omega) (by omega) (by omega) (by omega) (by omega) (by omega) (by omega) (by omega) (by omega) (by omega) (by omega) (by omega) (by omega)
  have f1 := arm_fits ok1 (by simp [clkW]) (by
    rw [arm_clk]; unfold within1; simp; omega)
  have w2 : rightN (armB (clkW (-1) 1 0 0) (armN (3600 * k + 100 + y - n) ((3600 * k) % 43200) n (500 + q) (70000 + q)) (n - 20) (n + 20)) ⟨0, 3600 * k + 100 + y - n, (3600 * k) % 43200⟩ n = false := by
    rw [arm_clk]; unfold within1; simp; omega
  have f2 := arm_convict ok2 (by simp [clkW]) w2
  have f3 := arm_nofit ok2 (by simp [clkW]) w2
  have n1 := sArmNotes (200 + x) (200 + x) n (500 + q) (70000 + q) (by omega) (by omega) (by omega) (by omega) (by omega) (by omega) (by omega) (by omega)
  have n2 := sArmNotes (3600 * k + 100 + y) (3600 * k) n (500 + q) (70000 + q) (by omega) (by omega) (by omega) (by omega) (by omega) (by omega) (by omega) (by omega)
  have so := sOffice (-1) 1 0 0
  have sh := sHoursT u u
  have p1 := sPubDrop
  have p2 := sPubWire
  simp only [slSr, slN] at *
  generalize (armW (clkW (-1) 1 0 0)).map rowSr = W at *
  generalize (armN (200 + x - n) ((200 + x) % 43200) n (500 + q) (70000 + q)).map rowN = N1 at *
  generalize (armN (3600 * k + 100 + y - n) (3600 * k % 43200) n (500 + q) (70000 + q)).map rowN = N2 at *
  simp only [cDc, slE] at sg sh
  generalize (List.replicate 24 (u, u)).map rowE = hs at *
  (repeat' (first | ((first | with_reducible refine st_skip ?_ | with_reducible refine st_exit ?_); (try simp only [seqQ, blockQ, loopQ, forQ, whileQ, reduceIte, Nat.reduceEqDiff])) | (with_reducible refine st_ret ?_; ((try simp only [seqQ, blockQ, loopQ, forQ, whileQ]); first | (with_reducible refine retM_ret ?_) | refine retQ_ret ?_; simp [e1, hu, hL, e2, hu0, e3, hx, e4, hy, hk0, hk])) | refine st_seq ?_ | refine st_block ?_ | ((with_reducible show (STri _ _ _ _ _) ∧ (STri _ _ _ _ _)); refine And.intro ?_ ?_) | ((first | refine st_reg ?_ | refine buildP_own ?_ | refine appP_own ?_ | refine callP_b (sSpanT u u) rfl ?_ | refine callP_b (sh) rfl ?_ | refine callP_b (sg) rfl ?_ | refine callP_b (sSpanT (-1) 1) rfl ?_ | refine callP_b (so) rfl ?_ | refine callP_b (sSpanT (n - 20) (n + 20)) rfl ?_ | refine callP_b (n1) rfl ?_ | refine callP_b (f1) rfl ?_ | refine callP_b (n2) rfl ?_ | refine callP_b (f2) rfl ?_ | refine callP_b (f3) rfl ?_ | refine callP_b (sSpanT n n) rfl ?_ | refine callP_b (p1) rfl ?_ | refine callP_b (p2) rfl ?_) <;> (simp -dsimp [e1, hu, hL, e2, hu0, e3, hx, e4, hy, hk0, hk]; (repeat (simp -dsimp (disch := (first | omega | assumption | (refine Bool.eq_false_iff.1 ?_; assumption))) only [wrap_in, if_pos, if_neg]; (try simp -dsimp [e1, hu, hL, e2, hu0, e3, hx, e4, hy, hk0, hk]))))) | ((first | refine guardP_of (fun hc => ?_) (fun hc => ?_) | refine st_cond rfl (fun hc => ?_) (fun hc => ?_)) <;> (try simp only [lqA, lqB, lqC, lqD, lqE, lqF, lqG, lqH, lqI, lqJ, lqK, lqL, lqM, lqN, lqO] at hc) <;> (try (exfalso; first | omega | exact bool_tf hc (by assumption) | exact bool_ft hc (by assumption) | exact absurd (by assumption) hc)) <;> (first | with_reducible show STri _ _ _ _ _ _ | (simp -dsimp [e1, hu, hL, e2, hu0, e3, hx, e4, hy, hk0, hk, hc]; (repeat (simp -dsimp (disch := (first | omega | assumption | (refine Bool.eq_false_iff.1 ?_; assumption))) only [wrap_in, if_pos, if_neg]; (try simp -dsimp [e1, hu, hL, e2, hu0, e3, hx, e4, hy, hk0, hk, hc]))))))))
  all_goals exact .refl _
end Go.Proofs.Ytlodpljdhdhfmaa
/- From a contract by value to a given statement: arguments of plain types are opened, and read again behind the call. -/
namespace Go.Proofs.Ytlodpljdhdhfmaa
open Go.RowKit Go.ChangeShapes Go.WideShapes
section
variable {P : Program}
def tyF (P : Program) (r : TypeId → List CV → Prop) : List Field → List CV → Prop
  | [], cs => cs = []
  | f :: fs, cs => ∃ c1 c2, cs = c1 ++ c2 ∧ r f.type c1 ∧ tyF P r fs c2
def tyA (r : List CV → Prop) : Nat → List CV → Prop
  | 0, cs => cs = []
  | n + 1, cs => ∃ c1 c2, cs = c1 ++ c2 ∧ r c1 ∧ tyA r n c2
def tyC (P : Program) : Nat → TypeId → List CV → Prop
  | 0, _, _ => False
  | d + 1, t, cs => match P.underlying t with
    | some .bool => ∃ b, cs = [.val (.bool b)]
    | some (.int k) => ∃ n, cs = [.val (.int k n)] ∧ (Lit.int k n).wf = true
    | some (.slice e) => ∃ rows, cs = [.sl (P.cellsOf e) rows] ∧ rows.length ≤ maxLen ∧ ∀ row ∈ rows, tyC P d e row
    | some (.struct fs) => tyF P (tyC P d) fs.toList cs
    | some (.array n e) => tyA (tyC P d e) n cs
    | _ => False
theorem tyC_int {d : Nat} {t : TypeId} {k : IntKind} {cs : List CV} (hu : P.underlying t = some (.int k)) (h : tyC P d t cs) : ∃ n, cs = [.val (.int k n)] ∧ (Lit.int k n).wf = true := by
  cases d with
  | zero => exact h.elim
  | succ d => unfold tyC at h; rw [hu] at h; exact h
theorem tyC_array {d : Nat} {t e : TypeId} {n : Nat} {cs : List CV} (hu : P.underlying t = some (.array n e)) (h : tyC P d t cs) : ∃ d', tyA (tyC P d' e) n cs := by
  cases d with
  | zero => exact h.elim
  | succ d => unfold tyC at h; rw [hu] at h; exact ⟨d, h⟩
theorem agg_cells {v : Value} (h : v.cells.size ≠ 1) : v = .agg v.cells := by
  cases v <;> first | rfl | (exact absurd rfl h)
def tileB (P : Program) : List Field → Nat → Nat → Bool
  | [], acc, n => acc == n
  | f :: fs, acc, n => f.offset == acc && tileB P fs (acc + P.cellsOf f.type) n
def plainB (P : Program) : Nat → TypeId → Bool
  | 0, _ => false
  | d + 1, t => match P.underlying t with
    | some .bool => P.cellsOf t == 1
    | some (.int _) => P.cellsOf t == 1
    | some (.slice e) => P.cellsOf t == 1 && decide (0 < P.cellsOf e) && plainB P d e
    | some (.struct fs) => tileB P fs.toList 0 (P.cellsOf t) && fs.toList.all fun f => plainB P d f.type
    | some (.array n e) => P.cellsOf t == n * P.cellsOf e && plainB P d e
    | _ => false
theorem tile_le : ∀ {fs : List Field} {acc n : Nat}, tileB P fs acc n = true → acc ≤ n
  | [], _, _, h => by simp [tileB] at h; omega
  | f :: fs, acc, n, h => by
    simp only [tileB, Bool.and_eq_true] at h
    have := tile_le h.2
    omega
theorem tyF_len {fs : List Field} {r : TypeId → List CV → Prop} (hr : ∀ (f : Field) c, f ∈ fs → r f.type c → c.length = P.cellsOf f.type ∧ c.all CV.one = true) : ∀ {fs' : List Field}, (∀ f ∈ fs', f ∈ fs) → ∀ {acc n : Nat} {cs : List CV}, tileB P fs' acc n = true → tyF P r fs' cs → acc + cs.length = n ∧ cs.all CV.one = true
  | [], _, acc, n, cs, ht, h => by simp [tileB] at ht; simp [tyF] at h; subst h; simp [ht]
  | f :: fs', hm, acc, n, cs, ht, h => by
    simp only [tileB, Bool.and_eq_true] at ht
    obtain ⟨c1, c2, rfl, h1, h2⟩ := h
    obtain ⟨l1, o1⟩ := hr f c1 (hm f (by simp)) h1
    obtain ⟨l2, o2⟩ := tyF_len hr (fun g hg => hm g (by simp [hg])) ht.2 h2
    rw [List.length_append, List.all_append, o1, o2]
    exact ⟨by omega, rfl⟩
theorem tyA_len {r : List CV → Prop} {k : Nat} (hr : ∀ c, r c → c.length = k ∧ c.all CV.one = true) : ∀ {n : Nat} {cs : List CV}, tyA r n cs → cs.length = n * k ∧ cs.all CV.one = true
  | 0, cs, h => by simp [tyA] at h; subst h; simp
  | n + 1, cs, h => by
    obtain ⟨c1, c2, rfl, h1, h2⟩ := h
    obtain ⟨l1, o1⟩ := hr c1 h1
    obtain ⟨l2, o2⟩ := tyA_len hr h2
    rw [List.length_append, List.all_append, o1, o2, l1, l2, Nat.succ_mul]
    exact ⟨by omega, rfl⟩
theorem tyC_len : ∀ {d : Nat} {t : TypeId} {cs : List CV}, plainB P d t = true → tyC P d t cs → cs.length = P.cellsOf t ∧ cs.all CV.one = true
  | 0, _, _, hp, _ => by simp [plainB] at hp
  | d + 1, t, cs, hp, h => by
    unfold plainB at hp
    unfold tyC at h
    split at hp <;> rename_i hu
    · rw [hu] at h; obtain ⟨b, rfl⟩ := h; simp at hp; simp [hp, CV.one]
    · rw [hu] at h; obtain ⟨n, rfl, _⟩ := h; simp at hp; simp [hp, CV.one]
    · rw [hu] at h; obtain ⟨rows, rfl, _⟩ := h; simp at hp; simp [hp.1.1, CV.one]
    · rw [hu] at h
      simp only [Bool.and_eq_true, List.all_eq_true] at hp
      obtain ⟨l, o⟩ := tyF_len (P := P) (fun f c hf hc => tyC_len (hp.2 f hf) hc) (fun f hf => hf) hp.1 h
      exact ⟨by omega, o⟩
    · rw [hu] at h
      simp only [Bool.and_eq_true, beq_iff_eq] at hp
      obtain ⟨l, o⟩ := tyA_len (fun c hc => tyC_len hp.2 hc) h
      exact ⟨by rw [l, hp.1], o⟩
    · simp at hp
def RCs (w : World) (cs : List CV) (vs : List Value) : Prop := cs.length = vs.length ∧ ∀ (i : Nat) x v, cs[i]? = some x → vs[i]? = some v → RepC w (fun _ => False) x v
theorem RCs.append {w : World} {a b : List CV} {c d : List Value} (h : RCs w a c) (k : RCs w b d) : RCs w (a ++ b) (c ++ d) := by
  refine ⟨by rw [List.length_append, List.length_append, h.1, k.1], fun i x v hx hv => ?_⟩
  rw [List.getElem?_append] at hx hv
  rw [← h.1] at hv
  split at hx
  · rename_i hi; rw [if_pos hi] at hv; exact h.2 i x v hx hv
  · rename_i hi; rw [if_neg hi] at hv; exact k.2 _ x v hx hv
theorem RCs.one {w : World} {x : CV} {v : Value} (h : RepC w (fun _ => False) x v) : RCs w [x] [v] := ⟨rfl, fun i y u hx hv => by
  cases i with
  | zero => cases hx; cases hv; exact h
  | succ i => simp at hx⟩
section
variable {H : Type} {enc : TypeId × Value → H} {w : World} {spare : Nat → Bool} {held : Bool}
theorem cell_at {w : World} {a : Addr} {k len i j : Nat} {vr : List Value} (ha : a.spot = none) (h : w.cells? 0 (a.add (i * k)) k = some vr) (hj : j < k) : w.cell? ⟨a.block, a.off + i * k + j, none⟩ = vr[j]? := by
  obtain ⟨_, _, h3⟩ := World.cells?_some h
  rw [← h3 j hj]
  have e : ∀ m : Nat, a.add m = ⟨a.block, a.off + m, none⟩ := fun m => by
    unfold Addr.add
    split
    · rename_i h0; subst h0; cases a; simp at ha; simp [ha]
    · rfl
  rw [e]
  unfold Addr.add
  split
  · rename_i h0; subst h0; rfl
  · rfl
theorem open_tyC : ∀ {d n : Nat} {t : TypeId} {vs : List Value} {x : DataW H × List MemPlace}, plainB P d t = true → DataW.trod enc P w 0 spare held n t vs = some x → ∃ cs, tyC P d t cs ∧ RCs w cs vs
  | 0, _, _, _, _, hp, _ => by simp [plainB] at hp
  | d + 1, n, t, vs, x, hp, h => by
    unfold plainB at hp
    split at hp <;> rename_i hu
    · obtain ⟨b, rfl, _⟩ := DataW.trod_bool hu h
      exact ⟨[.val (.bool b)], by unfold tyC; rw [hu]; exact ⟨b, rfl⟩, .one (.val _)⟩
    · rename_i k
      obtain ⟨m, rfl, _, hw⟩ := DataW.trod_int hu h
      exact ⟨[.val (.int k m)], by unfold tyC; rw [hu]; exact ⟨m, rfl, hw⟩, .one (.val _)⟩
    · rename_i e
      simp only [Bool.and_eq_true, beq_iff_eq, decide_eq_true_eq] at hp
      obtain ⟨⟨_, hk⟩, hpe⟩ := hp
      rcases DataW.trod_slice hu h with ⟨rfl, _⟩ | ⟨a, len, cap, elems, rest, m, _, rfl, _, _, hl, hm, hlen, hel, _⟩
      · exact ⟨[.sl (P.cellsOf e) []], by unfold tyC; rw [hu]; exact ⟨[], rfl, Nat.zero_le _, by simp⟩, .one (.nil _ none 0 (Nat.zero_le _))⟩
      · have hrow : ∀ i, i < len → ∃ vr cr, w.cells? 0 (a.add (i * P.cellsOf e)) (P.cellsOf e) = some vr ∧ tyC P d e cr ∧ RCs w cr vr := fun i hi => by
          have h1 := hel i hi
          rw [List.getElem?_eq_getElem (by omega)] at h1
          obtain ⟨vr, h2, h3⟩ := Option.bind_eq_some_iff.1 h1
          obtain ⟨cr, h4, h5⟩ := open_tyC hpe h3
          exact ⟨vr, cr, h2, h4, h5⟩
        by_cases h0 : len = 0
        · subst h0
          exact ⟨[.sl (P.cellsOf e) []], by unfold tyC; rw [hu]; exact ⟨[], rfl, Nat.zero_le _, by simp⟩, .one (.nil _ (some a) cap hm)⟩
        have hch : ∃ (V : Nat → List Value) (C : Nat → List CV), ∀ i, i < len → w.cells? 0 (a.add (i * P.cellsOf e)) (P.cellsOf e) = some (V i) ∧ tyC P d e (C i) ∧ RCs w (C i) (V i) := by
          refine ⟨fun i => if h : i < len then Classical.choose (hrow i h) else [], fun i => if h : i < len then Classical.choose (Classical.choose_spec (hrow i h)) else [], fun i hi => ?_⟩
          simp only [dif_pos hi]
          exact Classical.choose_spec (Classical.choose_spec (hrow i hi))
        obtain ⟨V, C, hVC⟩ := hch
        have hfirst := hVC 0 (by omega)
        have hsp : a.spot = none := by
          obtain ⟨_, l1, h3⟩ := World.cells?_some hfirst.1
          have h4 := h3 0 hk
          rw [List.getElem?_eq_getElem (by omega)] at h4
          simp only [Nat.zero_mul, Addr.add, if_true] at h4
          unfold World.cell? at h4
          split at h4
          · split at h4
            · cases h4
            · rename_i hs; simpa using hs
          · cases h4
        have hblk : a.block < w.heap.size := by
          have := World.cells?_block hfirst.1 hk
          simpa [Addr.add] using this
        have hlenC : ∀ i, i < len → (C i).length = P.cellsOf e ∧ (C i).all CV.one = true := fun i hi => tyC_len hpe (hVC i hi).2.1
        have hget : ∀ (j : Nat) row, ((List.range len).map C)[j]? = some row → j < len ∧ row = C j := fun j row hj => by
          rw [List.getElem?_map] at hj
          obtain ⟨i, hi, rfl⟩ := Option.map_eq_some_iff.1 hj
          obtain ⟨h1, h2⟩ := List.getElem?_eq_some_iff.1 hi
          simp at h1 h2; subst h2; exact ⟨h1, rfl⟩
        have hsl := RepC.sl (w := w) (N := fun _ => False) (P.cellsOf e) ((List.range len).map C) a.block a.off cap (fun j i => ((V j)[i]?).getD undef) (by simpa using hl) hm hblk (fun h => h) (fun j row hj => by obtain ⟨h1, rfl⟩ := hget j row hj; exact hlenC j h1) (fun j row i y hj hy => by
            obtain ⟨h1, rfl⟩ := hget j row hj
            obtain ⟨q1, q2, q3⟩ := hVC j h1
            have hik : i < P.cellsOf e := by rw [← (hlenC j h1).1]; exact (List.getElem?_eq_some_iff.1 hy).1
            rw [cell_at (len := len) hsp q1 hik]
            have : i < (V j).length := by rw [← q3.1, (hlenC j h1).1]; exact hik
            rw [List.getElem?_eq_getElem this]; rfl) (fun j row i y hj hy => by
            obtain ⟨h1, rfl⟩ := hget j row hj
            obtain ⟨q1, q2, q3⟩ := hVC j h1
            have hik : i < P.cellsOf e := by rw [← (hlenC j h1).1]; exact (List.getElem?_eq_some_iff.1 hy).1
            have : i < (V j).length := by rw [← q3.1, (hlenC j h1).1]; exact hik
            refine q3.2 i y _ hy ?_
            rw [List.getElem?_eq_getElem this]; rfl)
        have ea : a = ⟨a.block, a.off, none⟩ := by cases a; simp at hsp; simp [hsp]
        rw [List.length_map, List.length_range, ← ea] at hsl
        have hrows : ∀ row ∈ (List.range len).map C, tyC P d e row := fun row hr => by
          obtain ⟨i, hi, rfl⟩ := List.mem_map.1 hr
          exact (hVC i (by simpa using hi)).2.1
        exact ⟨[.sl (P.cellsOf e) ((List.range len).map C)], by unfold tyC; rw [hu]; exact ⟨_, rfl, by simp; omega, hrows⟩, .one hsl⟩
    · rename_i fs
      simp only [Bool.and_eq_true, List.all_eq_true] at hp
      obtain ⟨xs, m, _, _, hlen, _, hf⟩ := DataW.trod_struct hu h
      have key : ∀ (fs' : List Field) (acc : Nat), (∀ f ∈ fs', plainB P d f.type = true ∧ ∃ y, DataW.trod enc P w 0 spare held m f.type ((vs.drop f.offset).take (P.cellsOf f.type)) = some y) → tileB P fs' acc (P.cellsOf t) = true → acc ≤ P.cellsOf t → ∃ cs, tyF P (tyC P d) fs' cs ∧ RCs w cs (vs.drop acc) := by
        intro fs'
        induction fs' with
        | nil =>
          intro acc _ ht _
          simp [tileB] at ht
          exact ⟨[], by simp [tyF], by constructor <;> simp [← hlen, ht] <;> omega⟩
        | cons f fs' ih =>
          intro acc hall ht hacc
          simp only [tileB, Bool.and_eq_true, beq_iff_eq] at ht
          obtain ⟨hpf, y, hy⟩ := hall f (by simp)
          obtain ⟨c1, t1, r1⟩ := open_tyC hpf hy
          have hlt := tile_le ht.2
          obtain ⟨c2, t2, r2⟩ := ih (acc + P.cellsOf f.type) (fun g hg => hall g (by simp [hg])) ht.2 hlt
          refine ⟨c1 ++ c2, ⟨c1, c2, rfl, t1, t2⟩, ?_⟩
          rw [ht.1] at r1
          have e : vs.drop acc = (vs.drop acc).take (P.cellsOf f.type) ++ vs.drop (acc + P.cellsOf f.type) := by rw [← List.drop_drop, List.take_append_drop]
          rw [e]; exact r1.append r2
      obtain ⟨cs, h1, h2⟩ := key fs.toList 0 (fun f hf' => by
        refine ⟨hp.2 f hf', ?_⟩
        obtain ⟨i, hi, he⟩ := List.getElem_of_mem hf'
        have := hf i f (by simp at hi; simp at he; simp [← he, hi])
        have hxl : i < xs.length := by simp at hi; omega
        rw [List.getElem?_eq_getElem hxl] at this
        exact ⟨_, this⟩) hp.1 (Nat.zero_le _)
      exact ⟨cs, by unfold tyC; rw [hu]; exact h1, by simpa using h2⟩
    · rename_i k e
      simp only [Bool.and_eq_true, beq_iff_eq] at hp
      obtain ⟨xs, m, _, _, hlen, hxs, hf⟩ := DataW.trod_array hu h
      have key : ∀ (r i : Nat), i + r = k → ∃ cs, tyA (tyC P d e) r cs ∧ RCs w cs (vs.drop (i * P.cellsOf e)) := by
        intro r
        induction r with
        | zero =>
          intro i hi
          have : vs.length ≤ i * P.cellsOf e := by rw [hlen, hp.1]; have : i = k := by omega
                                                   subst this; exact Nat.le_refl _
          exact ⟨[], by simp [tyA], by rw [List.drop_of_length_le this]; constructor <;> simp⟩
        | succ r ih =>
          intro i hi
          have h1 := hf i (by omega)
          rw [List.getElem?_eq_getElem (by omega)] at h1
          obtain ⟨c1, t1, r1⟩ := open_tyC hp.2 h1
          obtain ⟨c2, t2, r2⟩ := ih (i + 1) (by omega)
          refine ⟨c1 ++ c2, ⟨c1, c2, rfl, t1, t2⟩, ?_⟩
          have e' : vs.drop (i * P.cellsOf e) = (vs.drop (i * P.cellsOf e)).take (P.cellsOf e) ++ vs.drop ((i + 1) * P.cellsOf e) := by rw [Nat.succ_mul, ← List.drop_drop, List.take_append_drop]
          rw [e']; exact r1.append r2
      obtain ⟨cs, h1, h2⟩ := key k 0 (by omega)
      exact ⟨cs, by unfold tyC; rw [hu]; exact h1, by simpa using h2⟩
    · simp at hp
theorem trodAll_carry {w w' : World} {base : Nat} {spare : Nat → Bool} {held : Bool} : ∀ {ts : List TypeId} {vs : List Value} {ds : List (DataW H)} {ps : List MemPlace}, DataW.TrodAll enc P w base spare held ts vs ds ps → (∀ p ∈ ps, w.sameAt w' p) → DataW.TrodAll enc P w' base spare held ts vs ds ps
  | [], [], [], _, h, _ => h
  | _ :: _, _ :: _, _ :: _, _, ⟨p, q, ⟨n, h1⟩, h2, e⟩, hs =>
    ⟨p, q, ⟨n, DataW.trod_carry n _ _ _ h1 (fun x hx => hs x (by rw [e]; exact List.mem_append_left _ hx))⟩, trodAll_carry h2 (fun x hx => hs x (by rw [e]; exact List.mem_append_right _ hx)), e⟩
theorem post_ext {T : TypeId → Prop} (K : Kids P T) (hz : ∀ t e, T t → P.underlying t = some (.slice e) → 0 < P.cellsOf e) {f : Func} {s : ChangeSpec} {apart fresh handsOn again : Bool} {W W' : World} {args : Array Value} {v : Value} {ds gs : List (DataW H)} {before : List MemPlace}
    (hT : ∀ t ∈ f.params.toList, T t) (hsv : s.vars = []) (hW : DataW.Whole enc P f.params.toList s.vars apart W args.toList ds gs before)
    (hres : ∀ (b : Nat) (sp : Nat → Bool) (hd : Bool), DataW.TrodAll enc P W' b sp hd f.resultTypes.toList (v.resultList f.resultTypes.size) (s.fn H (ds ++ gs)).results [])
    (hargs : (s.fn H (ds ++ gs)).args = ds) (hvars : (s.fn H (ds ++ gs)).vars = []) (hx : Ext W W')
    (hok : ∀ (j : Nat) (t : TypeId) (r : Value), f.resultTypes[j]? = some t → (v.resultList f.resultTypes.size)[j]? = some r → Value.okWide P W' .any 0 t r) :
    s.post enc P f apart fresh handsOn again W args v W' := by
  have hlt := hW.lt
  have hold : ∀ p ∈ before, (fun b => decide (b < W.heap.size)) p.block = true := fun p hp => by simpa using hlt p hp
  have hW0 := hW
  obtain ⟨p, q, hA, hV, e, hfz, hn⟩ := hW
  rw [hsv] at hV
  obtain ⟨hg, hq⟩ := trodVars_none hV
  subst hq
  rw [List.append_nil] at e
  subst e
  have ha : ∀ sp : Nat → Bool, (∀ p ∈ before, sp p.block = true) → DataW.TrodAll enc P W' 0 sp true f.params.toList args.toList (s.fn H (ds ++ gs)).args before := fun sp hsp => by
    rw [hargs]
    exact trodAll_carry (DataW.TrodAll.respare K hz hT hA hsp) (fun p hp => hx.same (hlt p hp))
  have hv : ∀ sp : Nat → Bool, DataW.TrodVars enc P W' sp s.vars (s.fn H (ds ++ gs)).vars [] := fun sp => by rw [hvars, hsv]; exact rfl
  refine ⟨ds, gs, before, [], before, [], hW0, hres _ _ _, ha _ hold, hv _, World.keptBut_mono (fun p hp => ⟨hp, Or.inr (Or.inl hp)⟩) (hx.frame (· ∈ before)), fun _ => ?_⟩
  refine ⟨hok, _, _, ([] ++ before) ++ [], ⟨[] ++ before, [], trodAll_append (ha _ (fun _ _ => rfl)) (hres _ _ _), hv _, rfl, ?_, ?_⟩, ?_⟩
  · intro b off hp
    simp at hp
    rw [Below.frozen hx (p := ⟨b, off, none⟩) (hlt _ hp)]
    exact hfz b off hp
  · intro h
    simpa using hn h
  · intro p hp _
    simpa using hp
end
end
end Go.Proofs.Ytlodpljdhdhfmaa
/- Arguments opened: arrays of two small integers. -/
namespace Go.Proofs.Ytlodpljdhdhfmaa
open Go.RowKit Go.ChangeShapes Go.WideShapes Go.ChangeAt
theorem Try.own : ownKnob Try.prog.godebug = none := by kernel_rfl
theorem Try.kids : Kids Try.prog (· < Try.prog.types.size) := kids_rows (by kernel_rfl) (by kernel_rfl)
theorem Try.full : ∀ t e, t < Try.prog.types.size → Try.prog.underlying t = some (.slice e) → 0 < Try.prog.cellsOf e := slices_full_of Try.prog (by kernel_rfl)
theorem val_inv {w : World} {N : Nat → Prop} {u v : Value} (h : RepC w N (.val u) v) : v = u := by cases h; rfl
theorem wf_u8 {n : Int} (h : (Lit.int .u8 n).wf = true) : 0 ≤ n ∧ n ≤ 255 := by
  simp only [Lit.wf, Bool.and_eq_true, decide_eq_true_eq] at h
  exact h
theorem wf_i8 {n : Int} (h : (Lit.int .i8 n).wf = true) : -128 ≤ n ∧ n ≤ 127 := by
  simp only [Lit.wf, Bool.and_eq_true, decide_eq_true_eq] at h
  exact h
theorem wf_u16 {n : Int} (h : (Lit.int .u16 n).wf = true) : 0 ≤ n ∧ n ≤ 65535 := by
  simp only [Lit.wf, Bool.and_eq_true, decide_eq_true_eq] at h
  exact h
theorem ty8 {d : Nat} {cs : List CV} (h : tyC Try.prog d 5 cs) : ∃ n, cs = [.val (.int .u8 n)] ∧ 0 ≤ n ∧ n ≤ 255 := by
  obtain ⟨n, h, hw⟩ := tyC_int Try.underlying5 h; exact ⟨n, h, wf_u8 hw⟩
theorem ty16 {d : Nat} {cs : List CV} (h : tyC Try.prog d 24 cs) : ∃ n, cs = [.val (.int .u16 n)] ∧ 0 ≤ n ∧ n ≤ 65535 := by
  obtain ⟨n, h, hw⟩ := tyC_int Try.underlying24 h; exact ⟨n, h, wf_u16 hw⟩
set_option maxRecDepth 100000 in
theorem open_agg {H : Type} {enc : TypeId × Value → H} {w : World} {spare : Nat → Bool} {held : Bool} {v : Value} {x : DataW H} {ps : List MemPlace} {t : TypeId} (hp : plainB Try.prog 8 t = true) (h : DataW.Trod enc Try.prog w 0 spare held t v x ps) : ∃ d cs, tyC Try.prog d t cs ∧ (1 < cs.length → RepC w (fun _ => False) (.agg cs) v) := by
  obtain ⟨n, h⟩ := h
  obtain ⟨cs, h1, h2⟩ := open_tyC hp h
  refine ⟨_, cs, h1, fun hl => ?_⟩
  have hs : v.cells.size = cs.length := by have := h2.1; simp at this; omega
  have hv := agg_cells (v := v) (by omega)
  rw [hv]
  exact .agg _ _ (by simpa using hs) (fun i x u hx hu => h2.2 i x u hx (by simpa using hu))
end Go.Proofs.Ytlodpljdhdhfmaa
/- Arguments opened: slices and integers. -/
namespace Go.Proofs.Ytlodpljdhdhfmaa
open Go.RowKit Go.ChangeShapes Go.WideShapes Go.ChangeAt
section
variable {H : Type} {enc : TypeId × Value → H} {P : Program} {w : World} {base b0 : Nat} {spare : Nat → Bool} {held : Bool} {v : Value} {x : DataW H} {ps : List MemPlace} {t : TypeId} {r : Reach}
end
end Go.Proofs.Ytlodpljdhdhfmaa
