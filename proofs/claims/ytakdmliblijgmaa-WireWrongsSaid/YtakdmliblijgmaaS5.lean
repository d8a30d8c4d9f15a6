/- Part 5 of a proof: Wh, Wi, Wj, Wk, WLay, Wl, Wm, Wn, CodeWG, Wo, Wp, Wq, Wr, Ws, CodeWR. -/
import Derived.Test.YtakdmliblijgmaaS4
import Derived.Shelf.SlSortCmp.Whole1
import Derived.Shelf.SlSortCmp.NoneTotal
import Derived.Shelf.SlicesG.Cmp
import Derived.Test.YtakdmliblijgmaaProg
import Derived.StillTailTactics
import Derived.RegionTactic
import Derived.Laws.ResultCell
import Derived.Laws.Rows
set_option linter.unusedSimpArgs false
set_option linter.unusedVariables false
/- Wire, VIII: all corrections; spans of them. -/
namespace Go.Proofs.Ytakdmliblijgmaa
open Go.RowKit
def bookN (b : Wbk) : Nat := (b.nhi + 1 - b.nlo).toNat
def allL (b : Wbk) : List (Int × Nat) := (List.range (bookN b)).map fun (k : Nat) => (b.nlo + k, wrongN b (b.nlo + k))
def rowA (x : Int × Nat) : List CV := [I x.1, U x.2]
theorem allL_get {b : Wbk} {k : Nat} (h : k < bookN b) : (allL b)[k]? = some (b.nlo + k, wrongN b (b.nlo + k)) := by simp [allL, h]
theorem allL_len (b : Wbk) : (allL b).length = bookN b := by simp [allL]
theorem iAll (b : Wbk) (hb : BkOK b) : IterL Try.prog 62 1000 [cBk b] [] ((allL b).map rowA) := by
  refine ilaw_wire_book_all 1000 _ _ _ (by omega) (by simp) (fun Iv A G id hG hY => ?_)
  have hlen : ((allL b).map rowA).length = bookN b := by simp [allL]
  have n0 := hb.n0
  have n1 := hb.n1
  have n2 := hb.n2
  have hN : (bookN b : Int) = b.nhi + 1 - b.nlo := by unfold bookN; omega
  (repeat' (first | ((first | with_reducible refine st_skip ?_ | with_reducible refine st_exit ?_); (try simp only [seqQ, blockQ, loopQ, forQ, whileQ, reduceIte, Nat.reduceEqDiff])) | (with_reducible refine st_ret ?_; ((try simp only [seqQ, blockQ, loopQ, forQ, whileQ]); first | (with_reducible refine retM_ret ?_) | refine retQ_ret ?_; simp)) | refine st_seq ?_ | refine st_block ?_ | ((with_reducible show (STri _ _ _ _ _) ∧ (STri _ _ _ _ _)); refine And.intro ?_ ?_) | ((first | refine st_reg ?_ | refine buildP_own ?_ | refine appP_own ?_) <;> (simp -dsimp; (repeat (simp -dsimp (disch := (first | omega | assumption | (refine Bool.eq_false_iff.1 ?_; assumption))) only [wrap_in, if_pos, if_neg]; (try simp -dsimp))))) | ((first | refine guardP_of (fun hc => ?_) (fun hc => ?_) | refine st_cond rfl (fun hc => ?_) (fun hc => ?_)) <;> (try simp only [lqA, lqB, lqC, lqD, lqE, lqF, lqG, lqH, lqI, lqJ, lqK, lqL, lqM, lqN, lqO] at hc) <;> (try (exfalso; first | omega | exact bool_tf hc (by assumption) | exact bool_ft hc (by assumption) | exact absurd (by assumption) hc)) <;> (first | with_reducible show STri _ _ _ _ _ _ | (simp -dsimp [hc]; (repeat (simp -dsimp (disch := (first | omega | assumption | (refine Bool.eq_false_iff.1 ?_; assumption))) only [wrap_in, if_pos, if_neg]; (try simp -dsimp [hc]))))))))
  refine st_for [1000001000, 1002] (bookN b) (fun k T H => T = [(1, .yl id), (2, .ptr 1002 0), (4, .c (I (b.nlo + k)))] ∧ H = [(1000001000, .gh k false), (1002, .box 91 ((rowBk b).map .c))]) (by simp) ⟨by simp, by simp⟩ ?_
  rintro k T H hk ⟨rfl, rfl⟩
  by_cases hlt : k < bookN b
  · have hle : b.nlo + k ≤ b.nhi := by omega
    have hrow : ((allL b).map rowA)[k]? = some [I (b.nlo + k), .val (.int .u64 (wrongN b (b.nlo + k)))] := by rw [List.getElem?_map, allL_get hlt]; rfl
    have sw := sWrong b hb (b.nlo + k) (by omega) (by omega)
    (repeat' (first | ((first | with_reducible refine st_skip ?_ | with_reducible refine st_exit ?_); (try simp only [seqQ, blockQ, loopQ, forQ, whileQ, reduceIte, Nat.reduceEqDiff])) | (with_reducible refine st_ret ?_; ((try simp only [seqQ, blockQ, loopQ, forQ, whileQ]); first | (with_reducible refine retM_ret ?_) | refine retQ_ret ?_; simp [hle])) | refine st_seq ?_ | refine st_block ?_ | ((with_reducible show (STri _ _ _ _ _) ∧ (STri _ _ _ _ _)); refine And.intro ?_ ?_) | ((first | refine st_reg ?_ | ((with_reducible show callVP _ _ _ _ _ _ _); refine callV_yl (hY k _ hrow) [] (by first | rfl | simp) (fun j hj => by cases hj) rfl ?_ ?_) | refine buildP_own ?_ | refine appP_own ?_ | refine callP_b (sw) rfl ?_) <;> (simp -dsimp [hle]; (repeat (simp -dsimp (disch := (first | omega | assumption | (refine Bool.eq_false_iff.1 ?_; assumption))) only [wrap_in, if_pos, if_neg]; (try simp -dsimp [hle]))))) | ((first | refine guardP_of (fun hc => ?_) (fun hc => ?_) | refine st_cond rfl (fun hc => ?_) (fun hc => ?_)) <;> (try simp only [lqA, lqB, lqC, lqD, lqE, lqF, lqG, lqH, lqI, lqJ, lqK, lqL, lqM, lqN, lqO] at hc) <;> (try (exfalso; first | omega | exact bool_tf hc (by assumption) | exact bool_ft hc (by assumption) | exact absurd (by assumption) hc)) <;> (first | with_reducible show STri _ _ _ _ _ _ | (simp -dsimp [hle, hc]; (repeat (simp -dsimp (disch := (first | omega | assumption | (refine Bool.eq_false_iff.1 ?_; assumption))) only [wrap_in, if_pos, if_neg]; (try simp -dsimp [hle, hc]))))))))
    · exact ⟨hlt, by simp, by simp; omega, by simp⟩
    · exact st_ret ⟨.inr rfl, k + 1, true, rfl, fun h => by cases h⟩
  · have hle : ¬ b.nlo + k ≤ b.nhi := by omega
    (repeat' (first | ((first | with_reducible refine st_skip ?_ | with_reducible refine st_exit ?_); (try simp only [seqQ, blockQ, loopQ, forQ, whileQ, reduceIte, Nat.reduceEqDiff])) | (with_reducible refine st_ret ?_; ((try simp only [seqQ, blockQ, loopQ, forQ, whileQ]); first | (with_reducible refine retM_ret ?_) | refine retQ_ret ?_; simp [hle])) | refine st_seq ?_ | refine st_block ?_ | ((with_reducible show (STri _ _ _ _ _) ∧ (STri _ _ _ _ _)); refine And.intro ?_ ?_) | ((first | refine st_reg ?_ | refine buildP_own ?_ | refine appP_own ?_) <;> (simp -dsimp [hle]; (repeat (simp -dsimp (disch := (first | omega | assumption | (refine Bool.eq_false_iff.1 ?_; assumption))) only [wrap_in, if_pos, if_neg]; (try simp -dsimp [hle]))))) | ((first | refine guardP_of (fun hc => ?_) (fun hc => ?_) | refine st_cond rfl (fun hc => ?_) (fun hc => ?_)) <;> (try simp only [lqA, lqB, lqC, lqD, lqE, lqF, lqG, lqH, lqI, lqJ, lqK, lqL, lqM, lqN, lqO] at hc) <;> (try (exfalso; first | omega | exact bool_tf hc (by assumption) | exact bool_ft hc (by assumption) | exact absurd (by assumption) hc)) <;> (first | with_reducible show STri _ _ _ _ _ _ | (simp -dsimp [hle, hc]; (repeat (simp -dsimp (disch := (first | omega | assumption | (refine Bool.eq_false_iff.1 ?_; assumption))) only [wrap_in, if_pos, if_neg]; (try simp -dsimp [hle, hc]))))))))
    exact ⟨.inl rfl, k, false, rfl, fun _ => by rw [hlen]; omega⟩
def spanStep (p : Nat → Bool) (acc : List (Int × Int)) (x : Int × Nat) : List (Int × Int) :=
  if p x.2 = true then match acc.getLast? with
    | some l => if l.2 = x.1 - 1 then acc.dropLast ++ [(l.1, x.1)] else acc ++ [(x.1, x.1)]
    | none => [(x.1, x.1)]
  else acc
def spansTo (b : Wbk) (p : Nat → Bool) (k : Nat) : List (Int × Int) := ((allL b).take k).foldl (spanStep p) []
def spansL (b : Wbk) (p : Nat → Bool) : List (Int × Int) := (allL b).foldl (spanStep p) []
def slE (l : List (Int × Int)) : CV := .sl 2 (l.map rowE)
attribute [simp] slE
theorem spansTo_succ {b : Wbk} {p : Nat → Bool} {k : Nat} (h : k < (allL b).length) : spansTo b p (k + 1) = spanStep p (spansTo b p k) (allL b)[k] := by
  unfold spansTo
  rw [List.take_succ_eq_append_getElem h, List.foldl_append]
  rfl
theorem step_len (p : Nat → Bool) (acc : List (Int × Int)) (x : Int × Nat) : (spanStep p acc x).length ≤ acc.length + 1 := by
  unfold spanStep
  split
  · split
    · split <;> simp <;> omega
    · simp
  · omega
theorem spansTo_len (b : Wbk) (p : Nat → Bool) (k : Nat) (hk : k ≤ (allL b).length) : (spansTo b p k).length ≤ k := by
  induction k with
  | zero => simp [spansTo]
  | succ k ih =>
    rw [spansTo_succ (by omega)]
    have := step_len p (spansTo b p k) ((allL b)[k]'(by omega))
    have := ih (by omega)
    omega
def spI (b : Wbk) (p : Nat → Bool) (f : CV) (k : Nat) (R : HL) : Prop := R = [(3, .box 95 [.c f]), (4, .box 30 [.own 200 (spansTo b p k).length]), (200, .arr 25 2 ((spansTo b p k).map rowE))]
theorem sSpansL (b : Wbk) (hb : BkOK b) (p : Nat → Bool) (f : FuncId) (fs es : List CV) (he : Ent Try.prog f) (hp : ∀ x ∈ allL b, SC Try.prog f (fs ++ [U x.2] ++ es) (B (p x.2))) : SC Try.prog 45 [cBk b, .fn f fs es] (slE (spansL b p)) := by
  refine law_wire_book_spans _ _ (by simp) ?_
  have n0 := hb.n0
  have n1 := hb.n1
  have n2 := hb.n2
  have hlen := allL_len b
  have hN : (bookN b : Int) = b.nhi + 1 - b.nlo := by unfold bookN; omega
  (repeat' (first | (refine st_nilB 4 0 200 25 2 rfl (by simp) rfl (by simp [newOK]) ?_) | ((first | with_reducible refine st_skip ?_ | with_reducible refine st_exit ?_); (try simp only [seqQ, blockQ, loopQ, forQ, whileQ, reduceIte, Nat.reduceEqDiff])) | (with_reducible refine st_ret ?_; ((try simp only [seqQ, blockQ, loopQ, forQ, whileQ]); first | (with_reducible refine retM_ret ?_) | refine retQ_ret ?_; simp)) | refine st_seq ?_ | refine st_block ?_ | ((with_reducible show (STri _ _ _ _ _) ∧ (STri _ _ _ _ _)); refine And.intro ?_ ?_) | ((first | refine st_reg ?_ | refine buildP_own ?_ | refine appP_own ?_) <;> (simp -dsimp; (repeat (simp -dsimp (disch := (first | omega | assumption | (refine Bool.eq_false_iff.1 ?_; assumption))) only [wrap_in, if_pos, if_neg]; (try simp -dsimp))))) | ((first | refine guardP_of (fun hc => ?_) (fun hc => ?_) | refine st_cond rfl (fun hc => ?_) (fun hc => ?_)) <;> (try simp only [lqA, lqB, lqC, lqD, lqE, lqF, lqG, lqH, lqI, lqJ, lqK, lqL, lqM, lqN, lqO] at hc) <;> (try (exfalso; first | omega | exact bool_tf hc (by assumption) | exact bool_ft hc (by assumption) | exact absurd (by assumption) hc)) <;> (first | with_reducible show STri _ _ _ _ _ _ | (simp -dsimp [hc]; (repeat (simp -dsimp (disch := (first | omega | assumption | (refine Bool.eq_false_iff.1 ?_; assumption))) only [wrap_in, if_pos, if_neg]; (try simp -dsimp [hc]))))))))
  refine st_range (iAll b hb) [3, 4, 200] [] (fun k R => spI b p (.fn f fs es) k R)
    rfl rfl rfl (by kernel_rfl) (by show (0 : Nat) + 1000 ≤ 1000; decide) (fun j hj => by cases hj) (fun row hrow => by obtain ⟨y, _, rfl⟩ := List.mem_map.1 hrow; rfl) (by simp) (by simp) (by simp [spI, spansTo]) ?_ ?_
  · rintro k row R rfl hrow Iv1 G1 hGG hin
    obtain ⟨d, hdk, rfl⟩ : ∃ d, (allL b)[k]? = some d ∧ row = rowA d := by
      rw [List.getElem?_map, Option.map_eq_some_iff] at hrow
      obtain ⟨d, h1, h2⟩ := hrow
      exact ⟨d, h1, h2.symm⟩
    have hk : k < (allL b).length := (List.getElem?_eq_some_iff.1 hdk).1
    have hkd : (allL b)[k] = d := (List.getElem?_eq_some_iff.1 hdk).2
    have hs := spansTo_succ (p := p) hk
    rw [hkd] at hs
    have hcl := hp d (hkd ▸ List.getElem_mem hk)
    have hd1 : d.1 = b.nlo + k := by
      rw [allL_get (by omega)] at hdk; cases hdk; rfl
    have hsl := spansTo_len b p k (by omega)
    unfold rowA
    (repeat' (first | ((first | with_reducible refine st_skip ?_ | with_reducible refine st_exit ?_); (try simp only [seqQ, blockQ, loopQ, forQ, whileQ, reduceIte, Nat.reduceEqDiff])) | (with_reducible refine st_ret ?_; ((try simp only [seqQ, blockQ, loopQ, forQ, whileQ]); first | (with_reducible refine retM_ret ?_) | refine retQ_ret ?_; simp)) | refine st_seq ?_ | refine st_block ?_ | ((with_reducible show (STri _ _ _ _ _) ∧ (STri _ _ _ _ _)); refine And.intro ?_ ?_) | ((first | refine st_reg ?_ | refine buildP_own ?_ | refine appP_own ?_) <;> (simp -dsimp; (repeat (simp -dsimp (disch := (first | omega | assumption | (refine Bool.eq_false_iff.1 ?_; assumption))) only [wrap_in, if_pos, if_neg]; (try simp -dsimp))))) | ((first | refine guardP_of (fun hc => ?_) (fun hc => ?_) | refine st_cond rfl (fun hc => ?_) (fun hc => ?_)) <;> (try simp only [lqA, lqB, lqC, lqD, lqE, lqF, lqG, lqH, lqI, lqJ, lqK, lqL, lqM, lqN, lqO] at hc) <;> (try (exfalso; first | omega | exact bool_tf hc (by assumption) | exact bool_ft hc (by assumption) | exact absurd (by assumption) hc)) <;> (first | with_reducible show STri _ _ _ _ _ _ | (simp -dsimp [hc]; (repeat (simp -dsimp (disch := (first | omega | assumption | (refine Bool.eq_false_iff.1 ?_; assumption))) only [wrap_in, if_pos, if_neg]; (try simp -dsimp [hc]))))))))
    refine ⟨rfl, fun Iv2 hin2 => ?_⟩
    show STri _ _ _ _ (rangeQ _ _ _ (fun k R => spI b p (.fn f fs es) k R) _ _ _)
    generalize hq : spansTo b p k = acc at *
    by_cases hpd : p d.2 = true
    · unfold spanStep at hs
      rw [hpd] at hcl
      rw [if_pos hpd] at hs
      rcases List.eq_nil_or_concat acc with rfl | ⟨ini, l, rfl⟩
      · simp only [List.getLast?_nil] at hs
        (repeat' (first | ((first | with_reducible refine st_skip ?_ | with_reducible refine st_exit ?_); (try simp only [seqQ, blockQ, loopQ, forQ, whileQ, reduceIte, Nat.reduceEqDiff])) | (with_reducible refine st_ret ?_; ((try simp only [seqQ, blockQ, loopQ, forQ, whileQ]); first | (with_reducible refine retM_ret ?_) | refine retQ_ret ?_; simp)) | refine st_seq ?_ | refine st_block ?_ | ((with_reducible show (STri _ _ _ _ _) ∧ (STri _ _ _ _ _)); refine And.intro ?_ ?_) | ((first | refine st_reg ?_ | ((with_reducible show callVP _ _ _ _ _ _ _); refine callV_b (by first | exact Ent.h (by assumption) | kernel_rfl) (hcl) rfl ?_) | refine buildP_own ?_ | refine appP_own ?_) <;> (simp -dsimp; (repeat (simp -dsimp (disch := (first | omega | assumption | (refine Bool.eq_false_iff.1 ?_; assumption))) only [wrap_in, if_pos, if_neg]; (try simp -dsimp))))) | ((first | refine guardP_of (fun hc => ?_) (fun hc => ?_) | refine st_cond rfl (fun hc => ?_) (fun hc => ?_)) <;> (try simp only [lqA, lqB, lqC, lqD, lqE, lqF, lqG, lqH, lqI, lqJ, lqK, lqL, lqM, lqN, lqO] at hc) <;> (try (exfalso; first | omega | exact bool_tf hc (by assumption) | exact bool_ft hc (by assumption) | exact absurd (by assumption) hc)) <;> (first | with_reducible show STri _ _ _ _ _ _ | (simp -dsimp [hc]; (repeat (simp -dsimp (disch := (first | omega | assumption | (refine Bool.eq_false_iff.1 ?_; assumption))) only [wrap_in, if_pos, if_neg]; (try simp -dsimp [hc]))))))))
        exact ⟨by simp, by simp, by simp [spI, hs]⟩
      · rw [List.concat_eq_append] at *
        simp only [List.getLast?_append, List.getLast?_singleton, Option.some_or, List.dropLast_concat] at hs
        have hA : ini.length + 1 ≤ 9223372036854775806 := by simp at hsl; omega
        have hB : (ini.length + 1 + 1) * 16 ≤ 140737488355328 := by simp at hsl; omega
        have hget : (ini.map rowE ++ [rowE l])[ini.length]? = some (rowE l) := by simp
        have hset : ∀ r, (ini.map rowE ++ [rowE l]).set ini.length r = ini.map rowE ++ [r] := fun r => by simp
        by_cases hl : l.2 = d.1 - 1
        · rw [if_pos hl] at hs
          (repeat' (first | ((first | with_reducible refine st_skip ?_ | with_reducible refine st_exit ?_); (try simp only [seqQ, blockQ, loopQ, forQ, whileQ, reduceIte, Nat.reduceEqDiff])) | (with_reducible refine st_ret ?_; ((try simp only [seqQ, blockQ, loopQ, forQ, whileQ]); first | (with_reducible refine retM_ret ?_) | refine retQ_ret ?_; simp [hl, hget, hset])) | refine st_seq ?_ | refine st_block ?_ | ((with_reducible show (STri _ _ _ _ _) ∧ (STri _ _ _ _ _)); refine And.intro ?_ ?_) | ((first | refine st_reg ?_ | ((with_reducible show callVP _ _ _ _ _ _ _); refine callV_b (by first | exact Ent.h (by assumption) | kernel_rfl) (hcl) rfl ?_) | refine buildP_own ?_ | refine appP_own ?_) <;> (simp -dsimp [hl, hget, hset]; (repeat (simp -dsimp (disch := (first | omega | assumption | (refine Bool.eq_false_iff.1 ?_; assumption))) only [wrap_in, if_pos, if_neg]; (try simp -dsimp [hl, hget, hset]))))) | ((first | refine guardP_of (fun hc => ?_) (fun hc => ?_) | refine st_cond rfl (fun hc => ?_) (fun hc => ?_)) <;> (try simp only [lqA, lqB, lqC, lqD, lqE, lqF, lqG, lqH, lqI, lqJ, lqK, lqL, lqM, lqN, lqO] at hc) <;> (try (exfalso; first | omega | exact bool_tf hc (by assumption) | exact bool_ft hc (by assumption) | exact absurd (by assumption) hc)) <;> (first | with_reducible show STri _ _ _ _ _ _ | (simp -dsimp [hl, hget, hset, hc]; (repeat (simp -dsimp (disch := (first | omega | assumption | (refine Bool.eq_false_iff.1 ?_; assumption))) only [wrap_in, if_pos, if_neg]; (try simp -dsimp [hl, hget, hset, hc]))))))))
          exact ⟨by simp, by simp, by simp [spI, hs]⟩
        · rw [if_neg hl] at hs
          (repeat' (first | ((first | with_reducible refine st_skip ?_ | with_reducible refine st_exit ?_); (try simp only [seqQ, blockQ, loopQ, forQ, whileQ, reduceIte, Nat.reduceEqDiff])) | (with_reducible refine st_ret ?_; ((try simp only [seqQ, blockQ, loopQ, forQ, whileQ]); first | (with_reducible refine retM_ret ?_) | refine retQ_ret ?_; simp [hl, hget, hA, hB])) | refine st_seq ?_ | refine st_block ?_ | ((with_reducible show (STri _ _ _ _ _) ∧ (STri _ _ _ _ _)); refine And.intro ?_ ?_) | ((first | refine st_reg ?_ | ((with_reducible show callVP _ _ _ _ _ _ _); refine callV_b (by first | exact Ent.h (by assumption) | kernel_rfl) (hcl) rfl ?_) | refine buildP_own ?_ | refine appP_own ?_) <;> (simp -dsimp [hl, hget, hA, hB]; (repeat (simp -dsimp (disch := (first | omega | assumption | (refine Bool.eq_false_iff.1 ?_; assumption))) only [wrap_in, if_pos, if_neg]; (try simp -dsimp [hl, hget, hA, hB]))))) | ((first | refine guardP_of (fun hc => ?_) (fun hc => ?_) | refine st_cond rfl (fun hc => ?_) (fun hc => ?_)) <;> (try simp only [lqA, lqB, lqC, lqD, lqE, lqF, lqG, lqH, lqI, lqJ, lqK, lqL, lqM, lqN, lqO] at hc) <;> (try (exfalso; first | omega | exact bool_tf hc (by assumption) | exact bool_ft hc (by assumption) | exact absurd (by assumption) hc)) <;> (first | with_reducible show STri _ _ _ _ _ _ | (simp -dsimp [hl, hget, hA, hB, hc]; (repeat (simp -dsimp (disch := (first | omega | assumption | (refine Bool.eq_false_iff.1 ?_; assumption))) only [wrap_in, if_pos, if_neg]; (try simp -dsimp [hl, hget, hA, hB, hc]))))))))
          exact ⟨by simp, by simp, by simp [spI, hs]⟩
    · unfold spanStep at hs
      rw [if_neg hpd] at hs
      rw [Bool.not_eq_true] at hpd
      rw [hpd] at hcl
      (repeat' (first | ((first | with_reducible refine st_skip ?_ | with_reducible refine st_exit ?_); (try simp only [seqQ, blockQ, loopQ, forQ, whileQ, reduceIte, Nat.reduceEqDiff])) | (with_reducible refine st_ret ?_; ((try simp only [seqQ, blockQ, loopQ, forQ, whileQ]); first | (with_reducible refine retM_ret ?_) | refine retQ_ret ?_; simp)) | refine st_seq ?_ | refine st_block ?_ | ((with_reducible show (STri _ _ _ _ _) ∧ (STri _ _ _ _ _)); refine And.intro ?_ ?_) | ((first | refine st_reg ?_ | ((with_reducible show callVP _ _ _ _ _ _ _); refine callV_b (by first | exact Ent.h (by assumption) | kernel_rfl) (hcl) rfl ?_) | refine buildP_own ?_ | refine appP_own ?_) <;> (simp -dsimp; (repeat (simp -dsimp (disch := (first | omega | assumption | (refine Bool.eq_false_iff.1 ?_; assumption))) only [wrap_in, if_pos, if_neg]; (try simp -dsimp))))) | ((first | refine guardP_of (fun hc => ?_) (fun hc => ?_) | refine st_cond rfl (fun hc => ?_) (fun hc => ?_)) <;> (try simp only [lqA, lqB, lqC, lqD, lqE, lqF, lqG, lqH, lqI, lqJ, lqK, lqL, lqM, lqN, lqO] at hc) <;> (try (exfalso; first | omega | exact bool_tf hc (by assumption) | exact bool_ft hc (by assumption) | exact absurd (by assumption) hc)) <;> (first | with_reducible show STri _ _ _ _ _ _ | (simp -dsimp [hc]; (repeat (simp -dsimp (disch := (first | omega | assumption | (refine Bool.eq_false_iff.1 ?_; assumption))) only [wrap_in, if_pos, if_neg]; (try simp -dsimp [hc]))))))))
      exact ⟨by simp, by simp, by simp [spI, hs]⟩
  · rintro R rfl
    simp only [blockQ, seqQ]
    have e : spansTo b p ((allL b).map rowA).length = spansL b p := by unfold spansTo spansL; rw [List.length_map, List.take_length]
    rw [e]
    (repeat' (first | ((first | with_reducible refine st_skip ?_ | with_reducible refine st_exit ?_); (try simp only [seqQ, blockQ, loopQ, forQ, whileQ, reduceIte, Nat.reduceEqDiff])) | (with_reducible refine st_ret ?_; ((try simp only [seqQ, blockQ, loopQ, forQ, whileQ]); first | (with_reducible refine retM_ret ?_) | refine retQ_ret ?_; simp)) | refine st_seq ?_ | refine st_block ?_ | ((with_reducible show (STri _ _ _ _ _) ∧ (STri _ _ _ _ _)); refine And.intro ?_ ?_) | ((first | refine st_reg ?_ | refine buildP_own ?_ | refine appP_own ?_) <;> (simp -dsimp; (repeat (simp -dsimp (disch := (first | omega | assumption | (refine Bool.eq_false_iff.1 ?_; assumption))) only [wrap_in, if_pos, if_neg]; (try simp -dsimp))))) | ((first | refine guardP_of (fun hc => ?_) (fun hc => ?_) | refine st_cond rfl (fun hc => ?_) (fun hc => ?_)) <;> (try simp only [lqA, lqB, lqC, lqD, lqE, lqF, lqG, lqH, lqI, lqJ, lqK, lqL, lqM, lqN, lqO] at hc) <;> (try (exfalso; first | omega | exact bool_tf hc (by assumption) | exact bool_ft hc (by assumption) | exact absurd (by assumption) hc)) <;> (first | with_reducible show STri _ _ _ _ _ _ | (simp -dsimp [hc]; (repeat (simp -dsimp (disch := (first | omega | assumption | (refine Bool.eq_false_iff.1 ?_; assumption))) only [wrap_in, if_pos, if_neg]; (try simp -dsimp [hc]))))))))
    exact .refl _
theorem sNobody (n : Nat) : SC Try.prog 46 [U n] (B (decide (n = 0))) := by
  refine law_wire_nobody _ _ (by simp) ?_
  (repeat' (first | ((first | with_reducible refine st_skip ?_ | with_reducible refine st_exit ?_); (try simp only [seqQ, blockQ, loopQ, forQ, whileQ, reduceIte, Nat.reduceEqDiff])) | (with_reducible refine st_ret ?_; ((try simp only [seqQ, blockQ, loopQ, forQ, whileQ]); first | (with_reducible refine retM_ret ?_) | refine retQ_ret ?_; simp)) | refine st_seq ?_ | refine st_block ?_ | ((with_reducible show (STri _ _ _ _ _) ∧ (STri _ _ _ _ _)); refine And.intro ?_ ?_) | ((first | refine st_reg ?_ | refine buildP_own ?_ | refine appP_own ?_) <;> (simp -dsimp; (repeat (simp -dsimp (disch := (first | omega | assumption | (refine Bool.eq_false_iff.1 ?_; assumption))) only [wrap_in, if_pos, if_neg]; (try simp -dsimp))))) | ((first | refine guardP_of (fun hc => ?_) (fun hc => ?_) | refine st_cond rfl (fun hc => ?_) (fun hc => ?_)) <;> (try simp only [lqA, lqB, lqC, lqD, lqE, lqF, lqG, lqH, lqI, lqJ, lqK, lqL, lqM, lqN, lqO] at hc) <;> (try (exfalso; first | omega | exact bool_tf hc (by assumption) | exact bool_ft hc (by assumption) | exact absurd (by assumption) hc)) <;> (first | with_reducible show STri _ _ _ _ _ _ | (simp -dsimp [hc]; (repeat (simp -dsimp (disch := (first | omega | assumption | (refine Bool.eq_false_iff.1 ?_; assumption))) only [wrap_in, if_pos, if_neg]; (try simp -dsimp [hc]))))))))
  all_goals (refine CLe.bool ?_; rw [Bool.eq_iff_iff]; simp)
theorem new_ok {w : List Wsrc} {l : List Wnt} {nlo nhi : Int} (h : newErr w l nlo nhi = 0) : newBk w l nlo nhi = ⟨w, w.map errOf, l, nlo, nhi⟩ ∧ sizeW w = true ∧ w.all validV = true ∧ l.length ≤ 60 ∧ notesErr w l = 0 ∧ spanW nlo nhi 7200 = true := by
  have h0 := h
  unfold newErr at h
  split at h
  · cases h
  rename_i h1
  split at h
  · cases h
  rename_i h2
  split at h
  · cases h
  rename_i h3
  split at h
  · rename_i h4; exact absurd h h4
  rename_i h4
  split at h
  case isFalse => cases h
  rename_i h5
  refine ⟨by unfold newBk; rw [if_neg h1, if_neg h2, if_pos h0], by simpa using h1, by simpa using h2, by omega, by simpa using h4, h5⟩
theorem noteErr_zero {w : List Wsrc} {n : Wnt} (h : noteErr w n = 0) : 0 ≤ n.src ∧ n.src < w.length ∧ 0 ≤ n.tick ∧ n.tick ≤ 3155760000 ∧ (w.map fun s => saidB s n.said).getD n.src.toNat false = true := by
  unfold noteErr at h
  split at h
  case isFalse => cases h
  rename_i h1
  split at h
  case isFalse => cases h
  rename_i h2
  unfold within1 at h1 h2
  simp only [Bool.and_eq_true, decide_eq_true_eq] at h1 h2
  exact ⟨h1.1, by omega, h2.1.1, h2.1.2, h2.2⟩
theorem notesErr_zero {w : List Wsrc} {l : List Wnt} (h : notesErr w l = 0) : ∀ n ∈ l, noteErr w n = 0 := by
  unfold notesErr at h
  cases hf : l.find? (fun n => decide (noteErr w n ≠ 0)) with
  | none => intro n hn; simpa using List.find?_eq_none.1 hf n hn
  | some n =>
    rw [hf] at h
    have := List.find?_some hf
    simp at this
    exact absurd h this
theorem said_bd {s : Wsrc} {n : Int} (h : saidB s n = true) : 0 ≤ n ∧ n ≤ 3155760000 := by
  unfold saidB within1 at h
  split at h
  · simp at h; omega
  · split at h <;> simp at h <;> omega
theorem new_bk {w : List Wsrc} {l : List Wnt} {nlo nhi : Int} (h : newErr w l nlo nhi = 0) : BkOK (newBk w l nlo nhi) := by
  obtain ⟨e, h1, h2, h3, h4, h5⟩ := new_ok h
  rw [e]
  have hz : 1 ≤ w.length ∧ w.length ≤ 10 := by unfold sizeW within1 at h1; simp at h1; omega
  have hv : ∀ s ∈ w, validV s = true := List.all_eq_true.1 h2
  have hsp : -7200 ≤ nlo ∧ nlo ≤ nhi ∧ nhi ≤ 7200 := by unfold spanW at h5; simp at h5; omega
  refine ⟨hz.2, by simp, hv, fun x hx => ?_, h3, fun n hn => ?_, hsp.1, hsp.2.1, hsp.2.2⟩
  · obtain ⟨s, hs, rfl⟩ := List.mem_map.1 hx
    have := hv s hs
    unfold validV baseV spanW at this
    simp at this
    show -20000 ≤ s.elo ∧ s.elo ≤ 20000 ∧ -20000 ≤ s.ehi ∧ s.ehi ≤ 20000
    omega
  · obtain ⟨g1, g2, g3, g4, g5⟩ := noteErr_zero (notesErr_zero h4 n hn)
    have hlt : n.src.toNat < w.length := by omega
    have h6 : saidB (w[n.src.toNat]) n.said = true := by simpa [hlt] using g5
    have := said_bd h6
    exact ⟨g1, g2, g3, g4, this.1, this.2⟩
theorem sSpans (w : List Wsrc) (hw : WLen w) (n : Wnt) (nlo nhi : Int) : SC Try.prog 37 [slSr w, cN n, .agg [I nlo, I nhi]] (.tup [slE (if newErr w [n] nlo nhi = 0 then spansL (newBk w [n] nlo nhi) (fun m => decide (m = 0)) else []), I (newErr w [n] nlo nhi)]) := by
  refine law_wire_Spans _ _ (by simp) ?_
  have sb := sNewBook w hw [n] (by simp) nlo nhi
  by_cases h : newErr w [n] nlo nhi = 0
  · have hb := new_bk h
    have ss := sSpansL _ hb (fun m => decide (m = 0)) 46 [] [] ⟨by kernel_rfl⟩ (fun x _ => sNobody x.2)
    rw [if_pos h]
    rw [h] at sb ⊢
    generalize newBk w [n] nlo nhi = b at *
    generalize spansL b (fun m => decide (m = 0)) = r at *
    (repeat' (first | ((first | with_reducible refine st_skip ?_ | with_reducible refine st_exit ?_); (try simp only [seqQ, blockQ, loopQ, forQ, whileQ, reduceIte, Nat.reduceEqDiff])) | (with_reducible refine st_ret ?_; ((try simp only [seqQ, blockQ, loopQ, forQ, whileQ]); first | (with_reducible refine retM_ret ?_) | refine retQ_ret ?_; simp)) | refine st_seq ?_ | refine st_block ?_ | ((with_reducible show (STri _ _ _ _ _) ∧ (STri _ _ _ _ _)); refine And.intro ?_ ?_) | ((first | refine st_reg ?_ | refine buildP_frz ?_ | refine appP_own ?_ | refine callP_b (sb) rfl ?_ | refine callP_b (ss) rfl ?_) <;> (simp -dsimp; (repeat (simp -dsimp (disch := (first | omega | assumption | (refine Bool.eq_false_iff.1 ?_; assumption))) only [wrap_in, if_pos, if_neg]; (try simp -dsimp))))) | ((first | refine guardP_of (fun hc => ?_) (fun hc => ?_) | refine st_cond rfl (fun hc => ?_) (fun hc => ?_)) <;> (try simp only [lqA, lqB, lqC, lqD, lqE, lqF, lqG, lqH, lqI, lqJ, lqK, lqL, lqM, lqN, lqO] at hc) <;> (try (exfalso; first | omega | exact bool_tf hc (by assumption) | exact bool_ft hc (by assumption) | exact absurd (by assumption) hc)) <;> (first | with_reducible show STri _ _ _ _ _ _ | (simp -dsimp [hc]; (repeat (simp -dsimp (disch := (first | omega | assumption | (refine Bool.eq_false_iff.1 ?_; assumption))) only [wrap_in, if_pos, if_neg]; (try simp -dsimp [hc]))))))))
    all_goals exact .refl _
  · rw [if_neg h]
    generalize newErr w [n] nlo nhi = e at *
    generalize newBk w [n] nlo nhi = b at *
    (repeat' (first | ((first | with_reducible refine st_skip ?_ | with_reducible refine st_exit ?_); (try simp only [seqQ, blockQ, loopQ, forQ, whileQ, reduceIte, Nat.reduceEqDiff])) | (with_reducible refine st_ret ?_; ((try simp only [seqQ, blockQ, loopQ, forQ, whileQ]); first | (with_reducible refine retM_ret ?_) | refine retQ_ret ?_; simp [h])) | refine st_seq ?_ | refine st_block ?_ | ((with_reducible show (STri _ _ _ _ _) ∧ (STri _ _ _ _ _)); refine And.intro ?_ ?_) | ((first | refine st_reg ?_ | refine buildP_frz ?_ | refine appP_own ?_ | refine callP_b (sb) rfl ?_) <;> (simp -dsimp [h]; (repeat (simp -dsimp (disch := (first | omega | assumption | (refine Bool.eq_false_iff.1 ?_; assumption))) only [wrap_in, if_pos, if_neg]; (try simp -dsimp [h]))))) | ((first | refine guardP_of (fun hc => ?_) (fun hc => ?_) | refine st_cond rfl (fun hc => ?_) (fun hc => ?_)) <;> (try simp only [lqA, lqB, lqC, lqD, lqE, lqF, lqG, lqH, lqI, lqJ, lqK, lqL, lqM, lqN, lqO] at hc) <;> (try (exfalso; first | omega | exact bool_tf hc (by assumption) | exact bool_ft hc (by assumption) | exact absurd (by assumption) hc)) <;> (first | with_reducible show STri _ _ _ _ _ _ | (simp -dsimp [h, hc]; (repeat (simp -dsimp (disch := (first | omega | assumption | (refine Bool.eq_false_iff.1 ?_; assumption))) only [wrap_in, if_pos, if_neg]; (try simp -dsimp [h, hc]))))))))
    all_goals exact cle_nilT 2 _
theorem sFits (w : List Wsrc) (hw : WLen w) (l : List Wnt) (hl : l.length ≤ 1000000) (nlo nhi : Int) : SC Try.prog 16 [slSr w, slN l, .agg [I nlo, I nhi]]
    (.tup [slE (if newErr w l nlo nhi = 0 then spansL (newBk w l nlo nhi) (fun m => decide (m = 0)) else []), I (if newErr w l nlo nhi = 0 then (if spansL (newBk w l nlo nhi) (fun m => decide (m = 0)) = [] then 7 else 0) else newErr w l nlo nhi)]) := by
  refine law_wire_Fits _ _ (by simp) ?_
  have sb := sNewBook w hw l hl nlo nhi
  by_cases h : newErr w l nlo nhi = 0
  · have hb := new_bk h
    have ss := sSpansL _ hb (fun m => decide (m = 0)) 46 [] [] ⟨by kernel_rfl⟩ (fun x _ => sNobody x.2)
    rw [if_pos h, if_pos h]
    rw [h] at sb
    generalize newBk w l nlo nhi = b at *
    generalize spansL b (fun m => decide (m = 0)) = r at *
    by_cases hr : r = []
    · subst hr
      (repeat' (first | ((first | with_reducible refine st_skip ?_ | with_reducible refine st_exit ?_); (try simp only [seqQ, blockQ, loopQ, forQ, whileQ, reduceIte, Nat.reduceEqDiff])) | (with_reducible refine st_ret ?_; ((try simp only [seqQ, blockQ, loopQ, forQ, whileQ]); first | (with_reducible refine retM_ret ?_) | refine retQ_ret ?_; simp)) | refine st_seq ?_ | refine st_block ?_ | ((with_reducible show (STri _ _ _ _ _) ∧ (STri _ _ _ _ _)); refine And.intro ?_ ?_) | ((first | refine st_reg ?_ | refine buildP_own ?_ | refine appP_own ?_ | refine callP_b (sb) rfl ?_ | refine callP_b (ss) rfl ?_) <;> (simp -dsimp; (repeat (simp -dsimp (disch := (first | omega | assumption | (refine Bool.eq_false_iff.1 ?_; assumption))) only [wrap_in, if_pos, if_neg]; (try simp -dsimp))))) | ((first | refine guardP_of (fun hc => ?_) (fun hc => ?_) | refine st_cond rfl (fun hc => ?_) (fun hc => ?_)) <;> (try simp only [lqA, lqB, lqC, lqD, lqE, lqF, lqG, lqH, lqI, lqJ, lqK, lqL, lqM, lqN, lqO] at hc) <;> (try (exfalso; first | omega | exact bool_tf hc (by assumption) | exact bool_ft hc (by assumption) | exact absurd (by assumption) hc)) <;> (first | with_reducible show STri _ _ _ _ _ _ | (simp -dsimp [hc]; (repeat (simp -dsimp (disch := (first | omega | assumption | (refine Bool.eq_false_iff.1 ?_; assumption))) only [wrap_in, if_pos, if_neg]; (try simp -dsimp [hc]))))))))
      exact cle_nilT 2 _
    · have hr2 : ¬ r.length = 0 := fun e => hr (List.length_eq_zero_iff.1 e)
      (repeat' (first | ((first | with_reducible refine st_skip ?_ | with_reducible refine st_exit ?_); (try simp only [seqQ, blockQ, loopQ, forQ, whileQ, reduceIte, Nat.reduceEqDiff])) | (with_reducible refine st_ret ?_; ((try simp only [seqQ, blockQ, loopQ, forQ, whileQ]); first | (with_reducible refine retM_ret ?_) | refine retQ_ret ?_; simp [hr, hr2])) | refine st_seq ?_ | refine st_block ?_ | ((with_reducible show (STri _ _ _ _ _) ∧ (STri _ _ _ _ _)); refine And.intro ?_ ?_) | ((first | refine st_reg ?_ | refine buildP_own ?_ | refine appP_own ?_ | refine callP_b (sb) rfl ?_ | refine callP_b (ss) rfl ?_) <;> (simp -dsimp [hr, hr2]; (repeat (simp -dsimp (disch := (first | omega | assumption | (refine Bool.eq_false_iff.1 ?_; assumption))) only [wrap_in, if_pos, if_neg]; (try simp -dsimp [hr, hr2]))))) | ((first | refine guardP_of (fun hc => ?_) (fun hc => ?_) | refine st_cond rfl (fun hc => ?_) (fun hc => ?_)) <;> (try simp only [lqA, lqB, lqC, lqD, lqE, lqF, lqG, lqH, lqI, lqJ, lqK, lqL, lqM, lqN, lqO] at hc) <;> (try (exfalso; first | omega | exact bool_tf hc (by assumption) | exact bool_ft hc (by assumption) | exact absurd (by assumption) hc)) <;> (first | with_reducible show STri _ _ _ _ _ _ | (simp -dsimp [hr, hr2, hc]; (repeat (simp -dsimp (disch := (first | omega | assumption | (refine Bool.eq_false_iff.1 ?_; assumption))) only [wrap_in, if_pos, if_neg]; (try simp -dsimp [hr, hr2, hc]))))))))
      all_goals exact .refl _
  · rw [if_neg h, if_neg h]
    generalize newErr w l nlo nhi = e at *
    generalize newBk w l nlo nhi = b at *
    (repeat' (first | ((first | with_reducible refine st_skip ?_ | with_reducible refine st_exit ?_); (try simp only [seqQ, blockQ, loopQ, forQ, whileQ, reduceIte, Nat.reduceEqDiff])) | (with_reducible refine st_ret ?_; ((try simp only [seqQ, blockQ, loopQ, forQ, whileQ]); first | (with_reducible refine retM_ret ?_) | refine retQ_ret ?_; simp [h])) | refine st_seq ?_ | refine st_block ?_ | ((with_reducible show (STri _ _ _ _ _) ∧ (STri _ _ _ _ _)); refine And.intro ?_ ?_) | ((first | refine st_reg ?_ | refine buildP_own ?_ | refine appP_own ?_ | refine callP_b (sb) rfl ?_) <;> (simp -dsimp [h]; (repeat (simp -dsimp (disch := (first | omega | assumption | (refine Bool.eq_false_iff.1 ?_; assumption))) only [wrap_in, if_pos, if_neg]; (try simp -dsimp [h]))))) | ((first | refine guardP_of (fun hc => ?_) (fun hc => ?_) | refine st_cond rfl (fun hc => ?_) (fun hc => ?_)) <;> (try simp only [lqA, lqB, lqC, lqD, lqE, lqF, lqG, lqH, lqI, lqJ, lqK, lqL, lqM, lqN, lqO] at hc) <;> (try (exfalso; first | omega | exact bool_tf hc (by assumption) | exact bool_ft hc (by assumption) | exact absurd (by assumption) hc)) <;> (first | with_reducible show STri _ _ _ _ _ _ | (simp -dsimp [h, hc]; (repeat (simp -dsimp (disch := (first | omega | assumption | (refine Bool.eq_false_iff.1 ?_; assumption))) only [wrap_in, if_pos, if_neg]; (try simp -dsimp [h, hc]))))))))
    all_goals exact cle_nilT 2 _
end Go.Proofs.Ytakdmliblijgmaa
/- Wire, IX: the sets of sources that are wrong. -/
namespace Go.Proofs.Ytakdmliblijgmaa
open Go.RowKit
def entU (w : Nat) : List Int × CV := ([(w : Int)], .val (.bool true))
attribute [simp] entU
def entsU (l : List Nat) : List (List Int × CV) := l.map entU
def addU (l : List Nat) (w : Nat) : List Nat := if w ∈ l then l else l ++ [w]
def setsTo (b : Wbk) (k : Nat) : List Nat := ((allL b).take k).foldl (fun l x => addU l x.2) []
def setsL (b : Wbk) : List Nat := (allL b).foldl (fun l x => addU l x.2) []
theorem putU (l : List Nat) (w : Nat) : putM (entsU l) [(w : Int)] (.val (.bool true)) = entsU (addU l w) := by
  have hany : (entsU l).any (fun p => p.1 == [(w : Int)]) = decide (w ∈ l) := by
    rw [Bool.eq_iff_iff]
    simp only [entsU, List.any_map, List.any_eq_true, Function.comp_def, entU, decide_eq_true_eq, beq_iff_eq, List.cons.injEq, and_true]
    constructor
    · rintro ⟨x, hx, h⟩
      have : x = w := by omega
      rw [← this]; exact hx
    · exact fun h => ⟨w, h, rfl⟩
  unfold putM addU
  rw [hany]
  by_cases h : w ∈ l
  · rw [if_pos h, if_pos (by simpa using h)]
    unfold entsU
    rw [List.map_map]
    refine List.map_congr_left fun x _ => ?_
    simp only [Function.comp_def, entU]
    exact ite_self _
  · rw [if_neg h, if_neg (by simpa using h)]
    simp [entsU, entU]
theorem setsTo_succ {b : Wbk} {k : Nat} (h : k < (allL b).length) : setsTo b (k + 1) = addU (setsTo b k) (allL b)[k].2 := by
  unfold setsTo
  rw [List.take_succ_eq_append_getElem h, List.foldl_append]
  rfl
theorem addU_len (l : List Nat) (w : Nat) : (addU l w).length ≤ l.length + 1 := by
  unfold addU; split <;> simp
theorem setsTo_len (b : Wbk) (k : Nat) (hk : k ≤ (allL b).length) : (setsTo b k).length ≤ k := by
  induction k with
  | zero => simp [setsTo]
  | succ k ih =>
    rw [setsTo_succ (by omega)]
    have := addU_len (setsTo b k) ((allL b)[k]'(by omega)).2
    have := ih (by omega)
    omega
theorem mem_addU {l : List Nat} {w x : Nat} : x ∈ addU l w ↔ x ∈ l ∨ x = w := by
  unfold addU
  split
  · rename_i h
    constructor
    · exact fun hx => .inl hx
    · rintro (hx | rfl)
      · exact hx
      · exact h
  · simp
theorem mem_fold : ∀ (xs : List (Int × Nat)) (l : List Nat) (x : Nat), x ∈ xs.foldl (fun l x => addU l x.2) l ↔ x ∈ l ∨ ∃ y ∈ xs, y.2 = x
  | [], l, x => by simp
  | y :: xs, l, x => by
    rw [List.foldl_cons, mem_fold xs, mem_addU]
    constructor
    · rintro ((h | h) | ⟨z, hz, h⟩)
      · exact .inl h
      · exact .inr ⟨y, by simp, h.symm⟩
      · exact .inr ⟨z, by simp [hz], h⟩
    · rintro (h | ⟨z, hz, h⟩)
      · exact .inl (.inl h)
      · rcases List.mem_cons.1 hz with rfl | hz
        · exact .inl (.inr h.symm)
        · exact .inr ⟨z, hz, h⟩
theorem nodup_addU {l : List Nat} (h : l.Nodup) (w : Nat) : (addU l w).Nodup := by
  unfold addU
  split
  · exact h
  · rename_i hw
    rw [List.nodup_append]
    exact ⟨h, by simp, fun a ha b hb => by simp at hb; subst hb; exact fun e => hw (e ▸ ha)⟩
theorem nodup_fold : ∀ (xs : List (Int × Nat)) (l : List Nat), l.Nodup → (xs.foldl (fun l x => addU l x.2) l).Nodup
  | [], _, h => h
  | y :: xs, l, h => by rw [List.foldl_cons]; exact nodup_fold xs _ (nodup_addU h _)
theorem mem_setsL {b : Wbk} {x : Nat} : x ∈ setsL b ↔ ∃ y ∈ allL b, y.2 = x := by
  unfold setsL
  rw [mem_fold]; simp
theorem setsL_nodup (b : Wbk) : (setsL b).Nodup := nodup_fold _ _ List.nodup_nil
theorem ents_perm {l : List Nat} {p : List Int × CV} {rest : List (List Int × CV)} (h : (entsU l).Perm (p :: rest)) : ∃ w R, p = entU w ∧ rest = entsU R ∧ l.Perm (w :: R) := by
  have inv : ∀ q ∈ entsU l, entU (q.1.headD 0).toNat = q := fun q hq => by
    obtain ⟨w, _, rfl⟩ := List.mem_map.1 hq
    simp [entU]
  have hl : (entsU l).map (fun q => (q.1.headD 0).toNat) = l := by
    unfold entsU
    rw [List.map_map]
    conv => rhs; rw [← List.map_id l]
    exact List.map_congr_left fun x _ => by simp [entU]
  refine ⟨(p.1.headD 0).toNat, rest.map (fun q => (q.1.headD 0).toNat), (inv p (h.mem_iff.2 (by simp))).symm, ?_, ?_⟩
  · unfold entsU
    rw [List.map_map]
    conv => lhs; rw [← List.map_id rest]
    exact List.map_congr_left fun q hq => (inv q (h.mem_iff.2 (by simp [hq]))).symm
  · have := h.map (fun q : List Int × CV => (q.1.headD 0).toNat)
    rw [hl] at this
    exact this
theorem sSets (b : Wbk) (hb : BkOK b) : SC Try.prog 47 [cBk b] (.map false .u64 (entsU (setsL b))) := by
  refine law_wire_book_sets _ _ (by simp) ?_
  have n0 := hb.n0
  have n2 := hb.n2
  have hlen := allL_len b
  have hN : bookN b ≤ 20000 := by unfold bookN; omega
  (repeat' (first | ((first | with_reducible refine st_skip ?_ | with_reducible refine st_exit ?_); (try simp only [seqQ, blockQ, loopQ, forQ, whileQ, reduceIte, Nat.reduceEqDiff])) | (with_reducible refine st_ret ?_; ((try simp only [seqQ, blockQ, loopQ, forQ, whileQ]); first | (with_reducible refine retM_ret ?_) | refine retQ_ret ?_; simp)) | refine st_seq ?_ | refine st_block ?_ | ((with_reducible show (STri _ _ _ _ _) ∧ (STri _ _ _ _ _)); refine And.intro ?_ ?_) | ((first | refine st_reg ?_ | refine buildP_own ?_ | refine appP_own ?_) <;> (simp -dsimp; (repeat (simp -dsimp (disch := (first | omega | assumption | (refine Bool.eq_false_iff.1 ?_; assumption))) only [wrap_in, if_pos, if_neg]; (try simp -dsimp))))) | ((first | refine guardP_of (fun hc => ?_) (fun hc => ?_) | refine st_cond rfl (fun hc => ?_) (fun hc => ?_)) <;> (try simp only [lqA, lqB, lqC, lqD, lqE, lqF, lqG, lqH, lqI, lqJ, lqK, lqL, lqM, lqN, lqO] at hc) <;> (try (exfalso; first | omega | exact bool_tf hc (by assumption) | exact bool_ft hc (by assumption) | exact absurd (by assumption) hc)) <;> (first | with_reducible show STri _ _ _ _ _ _ | (simp -dsimp [hc]; (repeat (simp -dsimp (disch := (first | omega | assumption | (refine Bool.eq_false_iff.1 ?_; assumption))) only [wrap_in, if_pos, if_neg]; (try simp -dsimp [hc]))))))))
  refine st_range (iAll b hb) [3, 6] [] (fun k R => R = [(3, .box 96 [.om 6]), (6, .map false .u64 (entsU (setsTo b k)))])
    rfl rfl rfl (by kernel_rfl) (by show (0 : Nat) + 1000 ≤ 1000; decide) (fun j hj => by cases hj) (fun row hrow => by obtain ⟨y, _, rfl⟩ := List.mem_map.1 hrow; rfl) (by simp) (by simp) (by simp [setsTo, entsU]) ?_ ?_
  · rintro k row R rfl hrow Iv1 G1 hGG hin
    obtain ⟨d, hdk, rfl⟩ : ∃ d, (allL b)[k]? = some d ∧ row = rowA d := by
      rw [List.getElem?_map, Option.map_eq_some_iff] at hrow
      obtain ⟨d, h1, h2⟩ := hrow
      exact ⟨d, h1, h2.symm⟩
    have hk : k < (allL b).length := (List.getElem?_eq_some_iff.1 hdk).1
    have hkd : (allL b)[k] = d := (List.getElem?_eq_some_iff.1 hdk).2
    have hs := setsTo_succ hk
    rw [hkd] at hs
    have hsl := setsTo_len b k (by omega)
    have hA : (entsU (setsTo b k)).length < 9223372036854775807 := by simp [entsU]; omega
    have hput := putU (setsTo b k) d.2
    rw [← hs] at hput
    unfold rowA
    generalize entsU (setsTo b k) = es at *
    (repeat' (first | ((first | with_reducible refine st_skip ?_ | with_reducible refine st_exit ?_); (try simp only [seqQ, blockQ, loopQ, forQ, whileQ, reduceIte, Nat.reduceEqDiff])) | (with_reducible refine st_ret ?_; ((try simp only [seqQ, blockQ, loopQ, forQ, whileQ]); first | (with_reducible refine retM_ret ?_) | refine retQ_ret ?_; simp)) | refine st_seq ?_ | refine st_block ?_ | ((with_reducible show (STri _ _ _ _ _) ∧ (STri _ _ _ _ _)); refine And.intro ?_ ?_) | ((first | refine st_reg ?_ | refine buildP_own ?_ | refine appP_own ?_) <;> (simp -dsimp; (repeat (simp -dsimp (disch := (first | omega | assumption | (refine Bool.eq_false_iff.1 ?_; assumption))) only [wrap_in, if_pos, if_neg]; (try simp -dsimp))))) | ((first | refine guardP_of (fun hc => ?_) (fun hc => ?_) | refine st_cond rfl (fun hc => ?_) (fun hc => ?_)) <;> (try simp only [lqA, lqB, lqC, lqD, lqE, lqF, lqG, lqH, lqI, lqJ, lqK, lqL, lqM, lqN, lqO] at hc) <;> (try (exfalso; first | omega | exact bool_tf hc (by assumption) | exact bool_ft hc (by assumption) | exact absurd (by assumption) hc)) <;> (first | with_reducible show STri _ _ _ _ _ _ | (simp -dsimp [hc]; (repeat (simp -dsimp (disch := (first | omega | assumption | (refine Bool.eq_false_iff.1 ?_; assumption))) only [wrap_in, if_pos, if_neg]; (try simp -dsimp [hc]))))))))
    refine ⟨rfl, fun Iv2 hin2 => ?_⟩
    (repeat' (first | ((first | with_reducible refine st_skip ?_ | with_reducible refine st_exit ?_); (try simp only [seqQ, blockQ, loopQ, forQ, whileQ, reduceIte, Nat.reduceEqDiff])) | (with_reducible refine st_ret ?_; ((try simp only [seqQ, blockQ, loopQ, forQ, whileQ]); first | (with_reducible refine retM_ret ?_) | refine retQ_ret ?_; simp [hput, hA])) | refine st_seq ?_ | refine st_block ?_ | ((with_reducible show (STri _ _ _ _ _) ∧ (STri _ _ _ _ _)); refine And.intro ?_ ?_) | ((first | refine st_reg ?_ | refine buildP_own ?_ | refine appP_own ?_) <;> (simp -dsimp [hput, hA]; (repeat (simp -dsimp (disch := (first | omega | assumption | (refine Bool.eq_false_iff.1 ?_; assumption))) only [wrap_in, if_pos, if_neg]; (try simp -dsimp [hput, hA]))))) | ((first | refine guardP_of (fun hc => ?_) (fun hc => ?_) | refine st_cond rfl (fun hc => ?_) (fun hc => ?_)) <;> (try simp only [lqA, lqB, lqC, lqD, lqE, lqF, lqG, lqH, lqI, lqJ, lqK, lqL, lqM, lqN, lqO] at hc) <;> (try (exfalso; first | omega | exact bool_tf hc (by assumption) | exact bool_ft hc (by assumption) | exact absurd (by assumption) hc)) <;> (first | with_reducible show STri _ _ _ _ _ _ | (simp -dsimp [hput, hA, hc]; (repeat (simp -dsimp (disch := (first | omega | assumption | (refine Bool.eq_false_iff.1 ?_; assumption))) only [wrap_in, if_pos, if_neg]; (try simp -dsimp [hput, hA, hc]))))))))
    simp only [putM, beq_iff_eq] at hput
    exact ⟨by simp, by simp, by simp [hput]⟩
  · rintro R rfl
    simp only [blockQ, seqQ]
    have e : setsTo b ((allL b).map rowA).length = setsL b := by unfold setsTo setsL; rw [List.length_map, List.take_length]
    rw [e]
    (repeat' (first | ((first | with_reducible refine st_skip ?_ | with_reducible refine st_exit ?_); (try simp only [seqQ, blockQ, loopQ, forQ, whileQ, reduceIte, Nat.reduceEqDiff])) | (with_reducible refine st_ret ?_; ((try simp only [seqQ, blockQ, loopQ, forQ, whileQ]); first | (with_reducible refine retM_ret ?_) | refine retQ_ret ?_; simp)) | refine st_seq ?_ | refine st_block ?_ | ((with_reducible show (STri _ _ _ _ _) ∧ (STri _ _ _ _ _)); refine And.intro ?_ ?_) | ((first | refine st_reg ?_ | refine buildP_own ?_ | refine appP_own ?_) <;> (simp -dsimp; (repeat (simp -dsimp (disch := (first | omega | assumption | (refine Bool.eq_false_iff.1 ?_; assumption))) only [wrap_in, if_pos, if_neg]; (try simp -dsimp))))) | ((first | refine guardP_of (fun hc => ?_) (fun hc => ?_) | refine st_cond rfl (fun hc => ?_) (fun hc => ?_)) <;> (try simp only [lqA, lqB, lqC, lqD, lqE, lqF, lqG, lqH, lqI, lqJ, lqK, lqL, lqM, lqN, lqO] at hc) <;> (try (exfalso; first | omega | exact bool_tf hc (by assumption) | exact bool_ft hc (by assumption) | exact absurd (by assumption) hc)) <;> (first | with_reducible show STri _ _ _ _ _ _ | (simp -dsimp [hc]; (repeat (simp -dsimp (disch := (first | omega | assumption | (refine Bool.eq_false_iff.1 ?_; assumption))) only [wrap_in, if_pos, if_neg]; (try simp -dsimp [hc]))))))))
    exact .refl _
def minU (best : Nat) (l : List Nat) : Nat := l.foldl (fun m x => min m (popN x)) best
def fewN (b : Wbk) : Nat := minU b.srcs.length (setsL b)
theorem minU_perm {l l' : List Nat} (h : l.Perm l') (m : Nat) : minU m l = minU m l' :=
  h.foldl_eq' (fun x _ y _ z => by show min (min z (popN x)) (popN y) = min (min z (popN y)) (popN x); omega) m
theorem minU_le : ∀ (l : List Nat) (m : Nat), minU m l ≤ m ∧ ∀ x ∈ l, minU m l ≤ popN x
  | [], m => ⟨Nat.le_refl _, fun x hx => by cases hx⟩
  | y :: l, m => by
    obtain ⟨h1, h2⟩ := minU_le l (min m (popN y))
    refine ⟨?_, fun x hx => ?_⟩
    · show minU (min m (popN y)) l ≤ m
      omega
    · show minU (min m (popN y)) l ≤ popN x
      rcases List.mem_cons.1 hx with rfl | hx
      · omega
      · exact h2 x hx
theorem minU_at : ∀ (l : List Nat) (m : Nat), minU m l = m ∨ ∃ x ∈ l, minU m l = popN x
  | [], m => .inl rfl
  | y :: l, m => by
    rcases minU_at l (min m (popN y)) with h | ⟨x, hx, h⟩
    · by_cases hm : m ≤ popN y
      · left; show minU (min m (popN y)) l = m; omega
      · right; exact ⟨y, by simp, by show minU (min m (popN y)) l = popN y; omega⟩
    · exact .inr ⟨x, by simp [hx], h⟩
theorem set_lt {b : Wbk} (hb : BkOK b) {x : Nat} (hx : x ∈ setsL b) : x < 1024 := by
  obtain ⟨y, hy, rfl⟩ := mem_setsL.1 hx
  obtain ⟨k, hk, rfl⟩ := List.mem_map.1 hy
  have h1 := wrongTo_lt hb (b.nlo + k) b.notes.length (Nat.le_refl _)
  have h2 : 2 ^ b.srcs.length ≤ 2 ^ 10 := Nat.pow_le_pow_right (by omega) hb.len
  show wrongTo b (b.nlo + k) b.notes.length < 1024
  omega
theorem pop_le (x : Nat) : popN x ≤ 10 := by
  unfold popN
  exact Nat.le_trans (List.length_filter_le _ _) (by simp)
def feI (b : Wbk) (m : Nat) (T : TL) (H : HL) : Prop := ∃ L cur best, m = L.length ∧ (∀ x ∈ L, x < 1024) ∧ best ≤ 10 ∧ minU best L = fewN b ∧ T = [(3, .c (I (best : Nat))), (10, .it 10)] ∧ H = [(10, .it false .u64 (entsU L) cur)]
theorem sFewest (b : Wbk) (hb : BkOK b) : SC Try.prog 48 [cBk b] (I (fewN b)) := by
  refine law_wire_book_fewest _ _ (by simp) ?_
  have ss := sSets b hb
  have hlen := hb.len
  (repeat' (first | ((first | with_reducible refine st_skip ?_ | with_reducible refine st_exit ?_); (try simp only [seqQ, blockQ, loopQ, forQ, whileQ, reduceIte, Nat.reduceEqDiff])) | (with_reducible refine st_ret ?_; ((try simp only [seqQ, blockQ, loopQ, forQ, whileQ]); first | (with_reducible refine retM_ret ?_) | refine retQ_ret ?_; simp)) | refine st_seq ?_ | refine st_block ?_ | ((with_reducible show (STri _ _ _ _ _) ∧ (STri _ _ _ _ _)); refine And.intro ?_ ?_) | ((first | refine st_reg ?_ | refine buildP_own ?_ | refine appP_own ?_ | refine callP_b (ss) rfl ?_) <;> (simp -dsimp; (repeat (simp -dsimp (disch := (first | omega | assumption | (refine Bool.eq_false_iff.1 ?_; assumption))) only [wrap_in, if_pos, if_neg]; (try simp -dsimp))))) | ((first | refine guardP_of (fun hc => ?_) (fun hc => ?_) | refine st_cond rfl (fun hc => ?_) (fun hc => ?_)) <;> (try simp only [lqA, lqB, lqC, lqD, lqE, lqF, lqG, lqH, lqI, lqJ, lqK, lqL, lqM, lqN, lqO] at hc) <;> (try (exfalso; first | omega | exact bool_tf hc (by assumption) | exact bool_ft hc (by assumption) | exact absurd (by assumption) hc)) <;> (first | with_reducible show STri _ _ _ _ _ _ | (simp -dsimp [hc]; (repeat (simp -dsimp (disch := (first | omega | assumption | (refine Bool.eq_false_iff.1 ?_; assumption))) only [wrap_in, if_pos, if_neg]; (try simp -dsimp [hc]))))))))
  refine st_while [10] (feI b) (setsL b).length (by simp) ⟨setsL b, none, b.srcs.length, rfl, fun x hx => set_lt hb hx, hlen, rfl, by simp, by simp⟩ ?_
  rintro m T H ⟨L, cur, best, rfl, hL, hbest, hmin, rfl, rfl⟩
  (repeat' (first | ((first | with_reducible refine st_skip ?_ | with_reducible refine st_exit ?_); (try simp only [seqQ, blockQ, loopQ, forQ, whileQ, reduceIte, Nat.reduceEqDiff])) | (with_reducible refine st_ret ?_; ((try simp only [seqQ, blockQ, loopQ, forQ, whileQ]); first | (with_reducible refine retM_ret ?_) | refine retQ_ret ?_; simp)) | refine st_seq ?_ | refine st_block ?_ | ((with_reducible show (STri _ _ _ _ _) ∧ (STri _ _ _ _ _)); refine And.intro ?_ ?_) | ((first | refine st_reg ?_ | refine buildP_own ?_ | refine appP_own ?_ | ((with_reducible show nextP _ _ _ _); refine next_of (by first | rfl | simp) (fun hl0 => ?_) (fun pe re hpm => ?_) <;> (first | (obtain ⟨wq, Rq, rfl, rfl, hpq⟩ := ents_perm hpm) | skip)) | refine callP_b (sOnes wq (hL wq (hpq.mem_iff.2 (by simp)))) rfl ?_) <;> (simp -dsimp; (repeat (simp -dsimp (disch := (first | omega | assumption | (refine Bool.eq_false_iff.1 ?_; assumption))) only [wrap_in, if_pos, if_neg]; (try simp -dsimp))))) | ((first | refine guardP_of (fun hc => ?_) (fun hc => ?_) | refine st_cond rfl (fun hc => ?_) (fun hc => ?_)) <;> (try simp only [lqA, lqB, lqC, lqD, lqE, lqF, lqG, lqH, lqI, lqJ, lqK, lqL, lqM, lqN, lqO] at hc) <;> (try (exfalso; first | omega | exact bool_tf hc (by assumption) | exact bool_ft hc (by assumption) | exact absurd (by assumption) hc)) <;> (first | with_reducible show STri _ _ _ _ _ _ | (simp -dsimp [hc]; (repeat (simp -dsimp (disch := (first | omega | assumption | (refine Bool.eq_false_iff.1 ?_; assumption))) only [wrap_in, if_pos, if_neg]; (try simp -dsimp [hc]))))))))
  · have : L = [] := by simpa [entsU] using hl0
    subst this
    refine CLe.int ?_
    rw [← hmin]; rfl
  · have hp := pop_le wq
    have h1 := minU_perm hpq best
    have h2 : minU best (wq :: Rq) = minU (min best (popN wq)) Rq := rfl
    have hl := hpq.length_eq
    refine ⟨Rq.length, by simp at hl; omega, by simp, Rq, some (entU wq), min best (popN wq), rfl, fun x hx => hL x (hpq.mem_iff.2 (by simp [hx])), by omega, by rw [← h2, ← h1]; exact hmin, ?_, by simp⟩
    simp
    omega
end Go.Proofs.Ytakdmliblijgmaa
/- Wire, X: the most that can be right; pairs. -/
namespace Go.Proofs.Ytakdmliblijgmaa
open Go.RowKit
theorem sMost1 (n : Nat) (hn : n < 1024) (few : Nat) : SC Try.prog 49 [U n, .ref [I few]] (B (decide (popN n = few))) := by
  refine law_wire_Most_1 _ _ (by simp) ?_
  (repeat' (first | ((first | with_reducible refine st_skip ?_ | with_reducible refine st_exit ?_); (try simp only [seqQ, blockQ, loopQ, forQ, whileQ, reduceIte, Nat.reduceEqDiff])) | (with_reducible refine st_ret ?_; ((try simp only [seqQ, blockQ, loopQ, forQ, whileQ]); first | (with_reducible refine retM_ret ?_) | refine retQ_ret ?_; simp)) | refine st_seq ?_ | refine st_block ?_ | ((with_reducible show (STri _ _ _ _ _) ∧ (STri _ _ _ _ _)); refine And.intro ?_ ?_) | ((first | refine st_reg ?_ | refine buildP_own ?_ | refine appP_own ?_ | refine callP_b (sOnes n hn) rfl ?_) <;> (simp -dsimp; (repeat (simp -dsimp (disch := (first | omega | assumption | (refine Bool.eq_false_iff.1 ?_; assumption))) only [wrap_in, if_pos, if_neg]; (try simp -dsimp))))) | ((first | refine guardP_of (fun hc => ?_) (fun hc => ?_) | refine st_cond rfl (fun hc => ?_) (fun hc => ?_)) <;> (try simp only [lqA, lqB, lqC, lqD, lqE, lqF, lqG, lqH, lqI, lqJ, lqK, lqL, lqM, lqN, lqO] at hc) <;> (try (exfalso; first | omega | exact bool_tf hc (by assumption) | exact bool_ft hc (by assumption) | exact absurd (by assumption) hc)) <;> (first | with_reducible show STri _ _ _ _ _ _ | (simp -dsimp [hc]; (repeat (simp -dsimp (disch := (first | omega | assumption | (refine Bool.eq_false_iff.1 ?_; assumption))) only [wrap_in, if_pos, if_neg]; (try simp -dsimp [hc]))))))))
  all_goals (refine CLe.bool ?_; rw [Bool.eq_iff_iff]; simp; omega)
theorem all_lt {b : Wbk} (hb : BkOK b) : ∀ x ∈ allL b, x.2 < 1024 := fun x hx => set_lt hb (mem_setsL.2 ⟨x, hx, rfl⟩)
theorem new_srcs {w : List Wsrc} {l : List Wnt} {nlo nhi : Int} (h : newErr w l nlo nhi = 0) : (newBk w l nlo nhi).srcs = w := by rw [(new_ok h).1]
theorem sMost (w : List Wsrc) (hw : WLen w) (l : List Wnt) (hl : l.length ≤ 1000000) (nlo nhi : Int) : SC Try.prog 18 [slSr w, slN l, .agg [I nlo, I nhi]]
    (.tup [I (if newErr w l nlo nhi = 0 then (w.length : Int) - fewN (newBk w l nlo nhi) else 0), slE (if newErr w l nlo nhi = 0 then spansL (newBk w l nlo nhi) (fun m => decide (popN m = fewN (newBk w l nlo nhi))) else []), I (newErr w l nlo nhi)]) := by
  refine law_wire_Most _ _ (by simp) ?_
  have sb := sNewBook w hw l hl nlo nhi
  by_cases h : newErr w l nlo nhi = 0
  · have hb := new_bk h
    have sf := sFewest _ hb
    have ss := sSpansL _ hb (fun m => decide (popN m = fewN (newBk w l nlo nhi))) 49 [] [.ref [I (fewN (newBk w l nlo nhi) : Nat)]] ⟨by kernel_rfl⟩ (fun x hx => sMost1 x.2 (all_lt hb x hx) _)
    have hf : fewN (newBk w l nlo nhi) ≤ w.length := by
      have := (minU_le (setsL (newBk w l nlo nhi)) (newBk w l nlo nhi).srcs.length).1
      rw [new_srcs h] at this
      unfold fewN
      rw [new_srcs h]; exact this
    have hwl : w.length ≤ 10 := by have := hb.len; rw [new_srcs h] at this; exact this
    rw [if_pos h, if_pos h]
    rw [h] at sb ⊢
    generalize newBk w l nlo nhi = b at *
    generalize spansL b (fun m => decide (popN m = fewN b)) = r at *
    generalize fewN b = few at *
    (repeat' (first | ((with_reducible show STri _ k45_8 _ _ _); refine st_ref1 11 rfl (by simp [dropOK, dropK]) (by simp [RefO, rf1, dropK, SV.outD]) (by simp [LessH, dropK, SV.outD, outDL, Blk.outD]) ?_; simp) | ((first | with_reducible refine st_skip ?_ | with_reducible refine st_exit ?_); (try simp only [seqQ, blockQ, loopQ, forQ, whileQ, reduceIte, Nat.reduceEqDiff])) | (with_reducible refine st_ret ?_; ((try simp only [seqQ, blockQ, loopQ, forQ, whileQ]); first | (with_reducible refine retM_ret ?_) | refine retQ_ret ?_; simp)) | refine st_seq ?_ | refine st_block ?_ | ((with_reducible show (STri _ _ _ _ _) ∧ (STri _ _ _ _ _)); refine And.intro ?_ ?_) | ((first | refine st_reg ?_ | refine buildP_own ?_ | refine appP_own ?_ | refine callP_b (sb) rfl ?_ | refine callP_b (sf) rfl ?_ | refine callP_b (ss) rfl ?_) <;> (simp -dsimp; (repeat (simp -dsimp (disch := (first | omega | assumption | (refine Bool.eq_false_iff.1 ?_; assumption))) only [wrap_in, if_pos, if_neg]; (try simp -dsimp))))) | ((first | refine guardP_of (fun hc => ?_) (fun hc => ?_) | refine st_cond rfl (fun hc => ?_) (fun hc => ?_)) <;> (try simp only [lqA, lqB, lqC, lqD, lqE, lqF, lqG, lqH, lqI, lqJ, lqK, lqL, lqM, lqN, lqO] at hc) <;> (try (exfalso; first | omega | exact bool_tf hc (by assumption) | exact bool_ft hc (by assumption) | exact absurd (by assumption) hc)) <;> (first | with_reducible show STri _ _ _ _ _ _ | (simp -dsimp [hc]; (repeat (simp -dsimp (disch := (first | omega | assumption | (refine Bool.eq_false_iff.1 ?_; assumption))) only [wrap_in, if_pos, if_neg]; (try simp -dsimp [hc]))))))))
    all_goals exact .refl _
  · rw [if_neg h, if_neg h]
    generalize newErr w l nlo nhi = e at *
    generalize newBk w l nlo nhi = b at *
    (repeat' (first | ((first | with_reducible refine st_skip ?_ | with_reducible refine st_exit ?_); (try simp only [seqQ, blockQ, loopQ, forQ, whileQ, reduceIte, Nat.reduceEqDiff])) | (with_reducible refine st_ret ?_; ((try simp only [seqQ, blockQ, loopQ, forQ, whileQ]); first | (with_reducible refine retM_ret ?_) | refine retQ_ret ?_; simp [h])) | refine st_seq ?_ | refine st_block ?_ | ((with_reducible show (STri _ _ _ _ _) ∧ (STri _ _ _ _ _)); refine And.intro ?_ ?_) | ((first | refine st_reg ?_ | refine buildP_own ?_ | refine appP_own ?_ | refine callP_b (sb) rfl ?_) <;> (simp -dsimp [h]; (repeat (simp -dsimp (disch := (first | omega | assumption | (refine Bool.eq_false_iff.1 ?_; assumption))) only [wrap_in, if_pos, if_neg]; (try simp -dsimp [h]))))) | ((first | refine guardP_of (fun hc => ?_) (fun hc => ?_) | refine st_cond rfl (fun hc => ?_) (fun hc => ?_)) <;> (try simp only [lqA, lqB, lqC, lqD, lqE, lqF, lqG, lqH, lqI, lqJ, lqK, lqL, lqM, lqN, lqO] at hc) <;> (try (exfalso; first | omega | exact bool_tf hc (by assumption) | exact bool_ft hc (by assumption) | exact absurd (by assumption) hc)) <;> (first | with_reducible show STri _ _ _ _ _ _ | (simp -dsimp [h, hc]; (repeat (simp -dsimp (disch := (first | omega | assumption | (refine Bool.eq_false_iff.1 ?_; assumption))) only [wrap_in, if_pos, if_neg]; (try simp -dsimp [h, hc]))))))))
    all_goals exact .tup _ _ (.cons _ _ _ _ (.refl _) (.cons _ _ _ _ (.nil 2) (CLes.refl _)))
end Go.Proofs.Ytakdmliblijgmaa
/- Wire, XI: pairs. -/
namespace Go.Proofs.Ytakdmliblijgmaa
open Go.RowKit
def bothB (i k : Nat) (x : Nat) : Bool := !x.testBit i && !x.testBit k
def meetB (b : Wbk) (i k : Nat) : Bool := (setsL b).any (bothB i k)
def pairRow (b : Wbk) (i m : Nat) : List (Nat × Nat) := ((List.range m).filter fun k => decide (i < k) && !meetB b i k).map fun k => (i, k)
def pairsTo (b : Wbk) (n i : Nat) : List (Nat × Nat) := (List.range i).flatMap fun i => pairRow b i n
def rowP (p : Nat × Nat) : List CV := [I (p.1 : Nat), I (p.2 : Nat)]
def slP (l : List (Nat × Nat)) : CV := .sl 2 (l.map rowP)
attribute [simp] slP
theorem pairRow_succ (b : Wbk) (i k : Nat) : pairRow b i (k + 1) = if i < k ∧ meetB b i k = false then pairRow b i k ++ [(i, k)] else pairRow b i k := by
  unfold pairRow
  rw [List.range_succ, List.filter_append, List.map_append]
  by_cases h : i < k ∧ meetB b i k = false
  · rw [if_pos h]; simp [h.1, h.2]
  · rw [if_neg h]
    have : (decide (i < k) && !meetB b i k) = false := by
      rw [Bool.eq_false_iff]; simpa using h
    simp [this]
theorem pairRow_start (b : Wbk) (i : Nat) : pairRow b i (i + 1) = [] := by
  unfold pairRow
  rw [List.map_eq_nil_iff, List.filter_eq_nil_iff]
  intro k hk
  have := List.mem_range.1 hk
  have h : ¬ i < k := by omega
  simp [h]
theorem pairsTo_succ (b : Wbk) (n i : Nat) : pairsTo b n (i + 1) = pairsTo b n i ++ pairRow b i n := by
  unfold pairsTo
  rw [List.range_succ, List.flatMap_append]; simp
theorem pairRow_len (b : Wbk) (i m : Nat) : (pairRow b i m).length ≤ m := by
  unfold pairRow
  rw [List.length_map]
  exact Nat.le_trans (List.length_filter_le _ _) (by simp)
theorem pairsTo_len (b : Wbk) (n i : Nat) : (pairsTo b n i).length ≤ i * n := by
  induction i with
  | zero => simp [pairsTo]
  | succ i ih =>
    rw [pairsTo_succ, List.length_append, Nat.add_mul]
    have := pairRow_len b i n
    omega
def pairsAt (b : Wbk) (n i k : Nat) : List (Nat × Nat) := pairsTo b n i ++ pairRow b i k
theorem pairsAt_start (b : Wbk) (n i : Nat) : pairsAt b n i (i + 1) = pairsTo b n i := by unfold pairsAt; rw [pairRow_start, List.append_nil]
theorem pairsAt_end (b : Wbk) (n i : Nat) : pairsAt b n i n = pairsTo b n (i + 1) := (pairsTo_succ b n i).symm
theorem pairsAt_succ (b : Wbk) (n i k : Nat) : pairsAt b n i (k + 1) = if i < k ∧ meetB b i k = false then pairsAt b n i k ++ [(i, k)] else pairsAt b n i k := by
  unfold pairsAt
  rw [pairRow_succ]
  split
  · rw [List.append_assoc]
  · rfl
theorem any_perm {l l' : List Nat} (h : l.Perm l') (p : Nat → Bool) : l.any p = l'.any p := by
  rw [Bool.eq_iff_iff]
  simp only [List.any_eq_true]
  exact ⟨fun ⟨x, hx, hp⟩ => ⟨x, h.mem_iff.1 hx, hp⟩, fun ⟨x, hx, hp⟩ => ⟨x, h.mem_iff.2 hx, hp⟩⟩
def meI (b : Wbk) (w : List Wsrc) (rows : List (Nat × Nat)) (i k : Nat) (m : Nat) (T : TL) (H : HL) : Prop :=
  ∃ L cur meet, m = L.length ∧ (∀ x ∈ L, x < 1024) ∧ (meet || L.any (bothB i k)) = meetB b i k ∧
    T = [(0, .c (slSr w)), (6, .own 200 rows.length), (9, .c (.map false .u64 (entsU (setsL b)))), (10, .c (I i)), (11, .c (I k)), (12, .c (B meet)), (27, .c (I w.length)), (28, .c (I i)), (40, .it 40)] ∧ H = [(200, .arr 47 2 (rows.map rowP)), (40, .it false .u64 (entsU L) cur)]
theorem sPairs (w : List Wsrc) (hw : WLen w) (l : List Wnt) (hl : l.length ≤ 1000000) (nlo nhi : Int) : SC Try.prog 17 [slSr w, slN l, .agg [I nlo, I nhi]]
    (.tup [slP (if newErr w l nlo nhi = 0 then pairsTo (newBk w l nlo nhi) w.length w.length else []), I (newErr w l nlo nhi)]) := by
  refine law_wire_Pairs _ _ (by simp) ?_
  have sb := sNewBook w hw l hl nlo nhi
  by_cases h : newErr w l nlo nhi = 0
  case neg =>
    rw [if_neg h]
    generalize newErr w l nlo nhi = e at *
    generalize newBk w l nlo nhi = b at *
    (repeat' (first | ((first | with_reducible refine st_skip ?_ | with_reducible refine st_exit ?_); (try simp only [seqQ, blockQ, loopQ, forQ, whileQ, reduceIte, Nat.reduceEqDiff])) | (with_reducible refine st_ret ?_; ((try simp only [seqQ, blockQ, loopQ, forQ, whileQ]); first | (with_reducible refine retM_ret ?_) | refine retQ_ret ?_; simp [h])) | refine st_seq ?_ | refine st_block ?_ | ((with_reducible show (STri _ _ _ _ _) ∧ (STri _ _ _ _ _)); refine And.intro ?_ ?_) | ((first | refine st_reg ?_ | refine buildP_own ?_ | refine appP_own ?_ | refine callP_b (sb) rfl ?_) <;> (simp -dsimp [h]; (repeat (simp -dsimp (disch := (first | omega | assumption | (refine Bool.eq_false_iff.1 ?_; assumption))) only [wrap_in, if_pos, if_neg]; (try simp -dsimp [h]))))) | ((first | refine guardP_of (fun hc => ?_) (fun hc => ?_) | refine st_cond rfl (fun hc => ?_) (fun hc => ?_)) <;> (try simp only [lqA, lqB, lqC, lqD, lqE, lqF, lqG, lqH, lqI, lqJ, lqK, lqL, lqM, lqN, lqO] at hc) <;> (try (exfalso; first | omega | exact bool_tf hc (by assumption) | exact bool_ft hc (by assumption) | exact absurd (by assumption) hc)) <;> (first | with_reducible show STri _ _ _ _ _ _ | (simp -dsimp [h, hc]; (repeat (simp -dsimp (disch := (first | omega | assumption | (refine Bool.eq_false_iff.1 ?_; assumption))) only [wrap_in, if_pos, if_neg]; (try simp -dsimp [h, hc]))))))))
    all_goals exact cle_nilT 2 _
  have hb := new_bk h
  have ss := sSets _ hb
  have hL := fun x (hx : x ∈ setsL (newBk w l nlo nhi)) => set_lt hb hx
  have hwl : w.length ≤ 10 := by have := hb.len; rw [new_srcs h] at this; exact this
  rw [if_pos h]
  rw [h] at sb ⊢
  generalize newBk w l nlo nhi = b at *
  (repeat' (first | ((first | with_reducible refine st_skip ?_ | with_reducible refine st_exit ?_); (try simp only [seqQ, blockQ, loopQ, forQ, whileQ, reduceIte, Nat.reduceEqDiff])) | (with_reducible refine st_ret ?_; ((try simp only [seqQ, blockQ, loopQ, forQ, whileQ]); first | (with_reducible refine retM_ret ?_) | refine retQ_ret ?_; simp)) | refine st_seq ?_ | refine st_block ?_ | ((with_reducible show (STri _ _ _ _ _) ∧ (STri _ _ _ _ _)); refine And.intro ?_ ?_) | ((first | refine st_reg ?_ | refine buildP_own ?_ | refine appP_own ?_ | refine callP_b (sb) rfl ?_ | refine callP_b (ss) rfl ?_) <;> (simp -dsimp; (repeat (simp -dsimp (disch := (first | omega | assumption | (refine Bool.eq_false_iff.1 ?_; assumption))) only [wrap_in, if_pos, if_neg]; (try simp -dsimp))))) | ((first | refine guardP_of (fun hc => ?_) (fun hc => ?_) | refine st_cond rfl (fun hc => ?_) (fun hc => ?_)) <;> (try simp only [lqA, lqB, lqC, lqD, lqE, lqF, lqG, lqH, lqI, lqJ, lqK, lqL, lqM, lqN, lqO] at hc) <;> (try (exfalso; first | omega | exact bool_tf hc (by assumption) | exact bool_ft hc (by assumption) | exact absurd (by assumption) hc)) <;> (first | with_reducible show STri _ _ _ _ _ _ | (simp -dsimp [hc]; (repeat (simp -dsimp (disch := (first | omega | assumption | (refine Bool.eq_false_iff.1 ?_; assumption))) only [wrap_in, if_pos, if_neg]; (try simp -dsimp [hc]))))))))
  refine st_nil 6 200 47 2 rfl (by simp [newOK]) ?_
  refine st_less [(0, .c (slSr w)), (6, .own 200 0), (9, .c (.map false .u64 (entsU (setsL b)))), (27, .c (I w.length)), (28, .c (I 0))] [(200, .arr 47 2 [])] (by simp [Less, LessT, LessH, dropOK, dropK, SV.outD, Blk.outD]) ?_
  refine st_for [200] w.length (fun i T H => T = [(0, .c (slSr w)), (6, .own 200 (pairsTo b w.length i).length), (9, .c (.map false .u64 (entsU (setsL b)))), (27, .c (I w.length)), (28, .c (I i))] ∧ H = [(200, .arr 47 2 ((pairsTo b w.length i).map rowP))]) (by simp) ⟨by simp [pairsTo], by simp [pairsTo]⟩ ?_
  rintro i T H hi ⟨rfl, rfl⟩
  have hpl := pairsTo_len b w.length i
  have hpb : (pairsTo b w.length i).length ≤ 100 := Nat.le_trans hpl (Nat.le_trans (Nat.mul_le_mul hi (Nat.le_refl _)) (Nat.mul_le_mul hwl hwl))
  by_cases hlt : i < w.length
  · (repeat' (first | ((first | with_reducible refine st_skip ?_ | with_reducible refine st_exit ?_); (try simp only [seqQ, blockQ, loopQ, forQ, whileQ, reduceIte, Nat.reduceEqDiff])) | (with_reducible refine st_ret ?_; ((try simp only [seqQ, blockQ, loopQ, forQ, whileQ]); first | (with_reducible refine retM_ret ?_) | refine retQ_ret ?_; simp [hlt])) | refine st_seq ?_ | refine st_block ?_ | ((with_reducible show (STri _ _ _ _ _) ∧ (STri _ _ _ _ _)); refine And.intro ?_ ?_) | ((first | refine st_reg ?_ | refine buildP_own ?_ | refine appP_own ?_) <;> (simp -dsimp [hlt]; (repeat (simp -dsimp (disch := (first | omega | assumption | (refine Bool.eq_false_iff.1 ?_; assumption))) only [wrap_in, if_pos, if_neg]; (try simp -dsimp [hlt]))))) | ((first | refine guardP_of (fun hc => ?_) (fun hc => ?_) | refine st_cond rfl (fun hc => ?_) (fun hc => ?_)) <;> (try simp only [lqA, lqB, lqC, lqD, lqE, lqF, lqG, lqH, lqI, lqJ, lqK, lqL, lqM, lqN, lqO] at hc) <;> (try (exfalso; first | omega | exact bool_tf hc (by assumption) | exact bool_ft hc (by assumption) | exact absurd (by assumption) hc)) <;> (first | with_reducible show STri _ _ _ _ _ _ | (simp -dsimp [hlt, hc]; (repeat (simp -dsimp (disch := (first | omega | assumption | (refine Bool.eq_false_iff.1 ?_; assumption))) only [wrap_in, if_pos, if_neg]; (try simp -dsimp [hlt, hc]))))))))
    refine st_for [200] (w.length - (i + 1)) (fun j T H => T = [(0, .c (slSr w)), (6, .own 200 (pairsAt b w.length i (i + 1 + j)).length), (9, .c (.map false .u64 (entsU (setsL b)))), (10, .c (I i)), (11, .c (I ((i + 1 + j : Nat) : Int))), (27, .c (I w.length)), (28, .c (I i))] ∧
      H = [(200, .arr 47 2 ((pairsAt b w.length i (i + 1 + j)).map rowP))]) (by simp) ⟨by simp [pairsAt_start], by simp [pairsAt_start]⟩ ?_
    rintro j T H hj ⟨rfl, rfl⟩
    by_cases hlt2 : i + 1 + j < w.length
    · have hk2 : ((i + 1 + j : Nat) : Int) < w.length := by omega
      have hrl := pairRow_len b i (i + 1 + j)
      generalize hkk : i + 1 + j = k at *
      have hrows : (pairsAt b w.length i k).length ≤ 200 := by unfold pairsAt; rw [List.length_append]; omega
      generalize hrr : pairsAt b w.length i k = rows at *
      (repeat' (first | ((first | with_reducible refine st_skip ?_ | with_reducible refine st_exit ?_); (try simp only [seqQ, blockQ, loopQ, forQ, whileQ, reduceIte, Nat.reduceEqDiff])) | (with_reducible refine st_ret ?_; ((try simp only [seqQ, blockQ, loopQ, forQ, whileQ]); first | (with_reducible refine retM_ret ?_) | refine retQ_ret ?_; simp [hk2])) | refine st_seq ?_ | refine st_block ?_ | ((with_reducible show (STri _ _ _ _ _) ∧ (STri _ _ _ _ _)); refine And.intro ?_ ?_) | ((first | refine st_reg ?_ | refine buildP_own ?_ | refine appP_own ?_) <;> (simp -dsimp [hk2]; (repeat (simp -dsimp (disch := (first | omega | assumption | (refine Bool.eq_false_iff.1 ?_; assumption))) only [wrap_in, if_pos, if_neg]; (try simp -dsimp [hk2]))))) | ((first | refine guardP_of (fun hc => ?_) (fun hc => ?_) | refine st_cond rfl (fun hc => ?_) (fun hc => ?_)) <;> (try simp only [lqA, lqB, lqC, lqD, lqE, lqF, lqG, lqH, lqI, lqJ, lqK, lqL, lqM, lqN, lqO] at hc) <;> (try (exfalso; first | omega | exact bool_tf hc (by assumption) | exact bool_ft hc (by assumption) | exact absurd (by assumption) hc)) <;> (first | with_reducible show STri _ _ _ _ _ _ | (simp -dsimp [hk2, hc]; (repeat (simp -dsimp (disch := (first | omega | assumption | (refine Bool.eq_false_iff.1 ?_; assumption))) only [wrap_in, if_pos, if_neg]; (try simp -dsimp [hk2, hc]))))))))
      refine st_while [200, 40] (meI b w rows i k) (setsL b).length (by simp) ⟨setsL b, none, false, rfl, hL, by simp [meetB], by simp, by simp⟩ ?_
      rintro m T H ⟨L, cur, meet, rfl, hL2, hmeet, rfl, rfl⟩
      have f1 := fun x : Nat => shr_nat x i (by omega)
      have f2 := fun x : Nat => shr_nat x k (by omega)
      (repeat' (first | ((first | with_reducible refine st_skip ?_ | with_reducible refine st_exit ?_); (try simp only [seqQ, blockQ, loopQ, forQ, whileQ, reduceIte, Nat.reduceEqDiff])) | (with_reducible refine st_ret ?_; ((try simp only [seqQ, blockQ, loopQ, forQ, whileQ]); first | (with_reducible refine retM_ret ?_) | refine retQ_ret ?_; simp [f1, f2, and_one, bitI])) | refine st_seq ?_ | refine st_block ?_ | ((with_reducible show (STri _ _ _ _ _) ∧ (STri _ _ _ _ _)); refine And.intro ?_ ?_) | ((first | refine st_reg ?_ | refine buildP_own ?_ | refine appP_own ?_ | ((with_reducible show nextP _ _ _ _); refine next_of (by first | rfl | simp) (fun hl0 => ?_) (fun pe re hpm => ?_) <;> (first | (obtain ⟨wq, Rq, rfl, rfl, hpq⟩ := ents_perm hpm) | skip))) <;> (simp -dsimp [f1, f2, and_one, bitI]; (repeat (simp -dsimp (disch := (first | omega | assumption | (refine Bool.eq_false_iff.1 ?_; assumption))) only [wrap_in, if_pos, if_neg]; (try simp -dsimp [f1, f2, and_one, bitI]))))) | ((first | refine guardP_of (fun hc => ?_) (fun hc => ?_) | refine st_cond rfl (fun hc => ?_) (fun hc => ?_)) <;> (try simp only [lqA, lqB, lqC, lqD, lqE, lqF, lqG, lqH, lqI, lqJ, lqK, lqL, lqM, lqN, lqO] at hc) <;> (try (exfalso; first | omega | exact bool_tf hc (by assumption) | exact bool_ft hc (by assumption) | exact absurd (by assumption) hc)) <;> (first | with_reducible show STri _ _ _ _ _ _ | (simp -dsimp [f1, f2, and_one, bitI, hc]; (repeat (simp -dsimp (disch := (first | omega | assumption | (refine Bool.eq_false_iff.1 ?_; assumption))) only [wrap_in, if_pos, if_neg]; (try simp -dsimp [f1, f2, and_one, bitI, hc]))))))))
      · have hL0 : L = [] := by simpa [entsU] using hl0
        subst hL0
        have hm : meetB b i k = false := by rw [← hmeet, hc]; rfl
        have hk1 : i + 1 + (j + 1) = k + 1 := by omega
        have hr : pairsAt b w.length i (i + 1 + (j + 1)) = rows ++ [(i, k)] := by rw [hk1, pairsAt_succ, if_pos ⟨by omega, hm⟩, hrr]
        have hk3 : (i : Int) + 1 + ((j : Int) + 1) = (k : Int) + 1 := by omega
        refine ⟨by omega, by simp, ?_, ?_⟩
        · simp [hr, hk3]
        · simp [hr, rowP]
      · have hL0 : L = [] := by simpa [entsU] using hl0
        subst hL0
        have hm : meetB b i k = true := by rw [← hmeet, hc]; rfl
        have hk1 : i + 1 + (j + 1) = k + 1 := by omega
        have hr : pairsAt b w.length i (i + 1 + (j + 1)) = rows := by rw [hk1, pairsAt_succ, if_neg (by rw [hm]; simp), hrr]
        have hk3 : (i : Int) + 1 + ((j : Int) + 1) = (k : Int) + 1 := by omega
        refine ⟨by omega, by simp, ?_, ?_⟩
        · simp [hr, hk3]
        · simp [hr]
      · rename_i h0
        rw [bitI] at h0
        have h1 := any_perm hpq (bothB i k)
        have hl2 := hpq.length_eq
        refine ⟨Rq.length, by simp at hl2; omega, by simp [h0, SV.outD], Rq, some (entU wq), !wq.testBit k, rfl, fun x hx => hL2 x (hpq.mem_iff.2 (by simp [hx])), ?_, ?_, by simp⟩
        · rw [← hmeet, h1, hc]; simp [bothB, h0]
        · have e : ((wq : Int) >>> k % 2 == 0) = !wq.testBit k := by
            rw [Bool.eq_iff_iff]; simp only [beq_iff_eq, bitI, Bool.not_eq_true']
          simp [h0, e]
      · rename_i h0
        rw [bitI, Bool.not_eq_false] at h0
        have h1 := any_perm hpq (bothB i k)
        have hl2 := hpq.length_eq
        refine ⟨Rq.length, by simp at hl2; omega, by simp [h0, SV.outD], Rq, some (entU wq), false, rfl, fun x hx => hL2 x (hpq.mem_iff.2 (by simp [hx])), ?_, by simp [h0], by simp⟩
        rw [← hmeet, h1, hc]; simp [bothB, h0]
      · have hl2 := hpq.length_eq
        refine ⟨Rq.length, by simp at hl2; omega, by simp, Rq, some (entU wq), true, rfl, fun x hx => hL2 x (hpq.mem_iff.2 (by simp [hx])), ?_, by simp, by simp⟩
        rw [← hmeet, hc]; rfl
    · have hk2 : ¬ ((i : Int) + 1 + j) < w.length := by omega
      have hj2 : i + 1 + j = w.length := by omega
      (repeat' (first | ((first | with_reducible refine st_skip ?_ | with_reducible refine st_exit ?_); (try simp only [seqQ, blockQ, loopQ, forQ, whileQ, reduceIte, Nat.reduceEqDiff])) | (with_reducible refine st_ret ?_; ((try simp only [seqQ, blockQ, loopQ, forQ, whileQ]); first | (with_reducible refine retM_ret ?_) | refine retQ_ret ?_; simp [hk2])) | refine st_seq ?_ | refine st_block ?_ | ((with_reducible show (STri _ _ _ _ _) ∧ (STri _ _ _ _ _)); refine And.intro ?_ ?_) | ((first | refine st_reg ?_ | refine buildP_own ?_ | refine appP_own ?_) <;> (simp -dsimp [hk2]; (repeat (simp -dsimp (disch := (first | omega | assumption | (refine Bool.eq_false_iff.1 ?_; assumption))) only [wrap_in, if_pos, if_neg]; (try simp -dsimp [hk2]))))) | ((first | refine guardP_of (fun hc => ?_) (fun hc => ?_) | refine st_cond rfl (fun hc => ?_) (fun hc => ?_)) <;> (try simp only [lqA, lqB, lqC, lqD, lqE, lqF, lqG, lqH, lqI, lqJ, lqK, lqL, lqM, lqN, lqO] at hc) <;> (try (exfalso; first | omega | exact bool_tf hc (by assumption) | exact bool_ft hc (by assumption) | exact absurd (by assumption) hc)) <;> (first | with_reducible show STri _ _ _ _ _ _ | (simp -dsimp [hk2, hc]; (repeat (simp -dsimp (disch := (first | omega | assumption | (refine Bool.eq_false_iff.1 ?_; assumption))) only [wrap_in, if_pos, if_neg]; (try simp -dsimp [hk2, hc]))))))))
      refine ⟨hlt, by simp, ?_, ?_⟩
      · simp [← pairsAt_end, hj2]
      · simp [← pairsAt_end, hj2]
  · have : i = w.length := by omega
    subst this
    (repeat' (first | ((first | with_reducible refine st_skip ?_ | with_reducible refine st_exit ?_); (try simp only [seqQ, blockQ, loopQ, forQ, whileQ, reduceIte, Nat.reduceEqDiff])) | (with_reducible refine st_ret ?_; ((try simp only [seqQ, blockQ, loopQ, forQ, whileQ]); first | (with_reducible refine retM_ret ?_) | refine retQ_ret ?_; simp [hlt])) | refine st_seq ?_ | refine st_block ?_ | ((with_reducible show (STri _ _ _ _ _) ∧ (STri _ _ _ _ _)); refine And.intro ?_ ?_) | ((first | refine st_reg ?_ | refine buildP_own ?_ | refine appP_own ?_) <;> (simp -dsimp [hlt]; (repeat (simp -dsimp (disch := (first | omega | assumption | (refine Bool.eq_false_iff.1 ?_; assumption))) only [wrap_in, if_pos, if_neg]; (try simp -dsimp [hlt]))))) | ((first | refine guardP_of (fun hc => ?_) (fun hc => ?_) | refine st_cond rfl (fun hc => ?_) (fun hc => ?_)) <;> (try simp only [lqA, lqB, lqC, lqD, lqE, lqF, lqG, lqH, lqI, lqJ, lqK, lqL, lqM, lqN, lqO] at hc) <;> (try (exfalso; first | omega | exact bool_tf hc (by assumption) | exact bool_ft hc (by assumption) | exact absurd (by assumption) hc)) <;> (first | with_reducible show STri _ _ _ _ _ _ | (simp -dsimp [hlt, hc]; (repeat (simp -dsimp (disch := (first | omega | assumption | (refine Bool.eq_false_iff.1 ?_; assumption))) only [wrap_in, if_pos, if_neg]; (try simp -dsimp [hlt, hc]))))))))
    exact .refl _
end Go.Proofs.Ytakdmliblijgmaa
/- The shelf's structure for slices.SortFunc at lists of integers, laid at this seat. -/
namespace Go.Proofs.Ytakdmliblijgmaa
open Go.Shelf
def Try.sortW_ren : Go.Shelf.Ren := ⟨fun | 6 => 67 | 15 => 77 | 14 => 78 | 28 => 86 | 29 => 87 | 20 => 88 | 21 => 89 | 22 => 90 | 23 => 91 | 24 => 92 | 25 => 93 | 26 => 94 | 27 => 95 | 46 => 97 | 47 => 98 | 48 => 99 | 49 => 100 | 50 => 101 | 57 => 102 | n => n, fun | 22 => 48 | 24 => 55 | 25 => 124 | 3 => 3 | 39 => 98 | 0 => 0 | 53 => 118 | 55 => 120 | 4 => 4 | 46 => 143 | 45 => 142 | 50 => 147 | 5 => 5 | 9 => 9 | 66 => 150 | 70 => 153 | 76 => 155 | 77 => 156 | n => n, fun | n => n⟩
theorem Try.sortW : Go.Proofs.SlLaysF.n6 Try.prog Try.sortW_ren := {
  mixed := by kernel_rfl
  f6 := ⟨Try.f67.name, by decide, Try.func67.trans (congrArg some (by kernel_rfl))⟩
  f14 := ⟨Try.f78.name, by decide, Try.func78.trans (congrArg some (by kernel_rfl))⟩
  f15 := Try.func77.trans (congrArg some (by kernel_rfl))
  f20 := ⟨Try.f88.name, by decide, Try.func88.trans (congrArg some (by kernel_rfl))⟩
  f21 := ⟨Try.f89.name, by decide, Try.func89.trans (congrArg some (by kernel_rfl))⟩
  f22 := ⟨Try.f90.name, by decide, Try.func90.trans (congrArg some (by kernel_rfl))⟩
  f23 := ⟨Try.f91.name, by decide, Try.func91.trans (congrArg some (by kernel_rfl))⟩
  f24 := ⟨Try.f92.name, by decide, Try.func92.trans (congrArg some (by kernel_rfl))⟩
  f25 := ⟨Try.f93.name, by decide, Try.func93.trans (congrArg some (by kernel_rfl))⟩
  f26 := ⟨Try.f94.name, by decide, Try.func94.trans (congrArg some (by kernel_rfl))⟩
  f27 := ⟨Try.f95.name, by decide, Try.func95.trans (congrArg some (by kernel_rfl))⟩
  f28 := Try.func86.trans (congrArg some (by kernel_rfl))
  f29 := Try.func87.trans (congrArg some (by kernel_rfl))
  f46 := ⟨Try.f97.name, by decide, Try.func97.trans (congrArg some (by kernel_rfl))⟩
  f47 := Try.func98.trans (congrArg some (by kernel_rfl))
  f48 := Try.func99.trans (congrArg some (by kernel_rfl))
  f49 := ⟨Try.f100.name, by decide, Try.func100.trans (congrArg some (by kernel_rfl))⟩
  f50 := ⟨Try.f101.name, by decide, Try.func101.trans (congrArg some (by kernel_rfl))⟩
  f57 := ⟨Try.f102.name, by decide, Try.func102.trans (congrArg some (by kernel_rfl))⟩
  t0 := Try.underlying0
  a0 := Try.isAgg0
  z0 := Try.sizeOf0
  v0 := Try.zeroValue0
  t3 := Try.underlying3
  a3 := Try.isAgg3
  z3 := Try.sizeOf3
  v3 := Try.zeroValue3
  t4 := Try.underlying4
  a4 := Try.isAgg4
  z4 := Try.sizeOf4
  v4 := Try.zeroValue4
  t5 := Try.underlying5
  a5 := Try.isAgg5
  z5 := Try.sizeOf5
  v5 := Try.zeroValue5
  t9 := Try.underlying9
  a9 := Try.isAgg9
  z9 := Try.sizeOf9
  v9 := Try.zeroValue9
  t22 := Try.underlying48
  a22 := Try.isAgg48
  z22 := Try.sizeOf48
  v22 := Try.zeroValue48
  a24 := Try.isAgg55
  z24 := Try.sizeOf55
  t25 := Try.underlying124
  a25 := Try.isAgg124
  z25 := Try.sizeOf124
  v25 := Try.zeroValue124
  t39 := Try.underlying98
  a39 := Try.isAgg98
  z39 := Try.sizeOf98
  v39 := Try.zeroValue98
  t45 := Try.underlying142
  a45 := Try.isAgg142
  z45 := Try.sizeOf142
  v45 := Try.zeroValue142
  t46 := Try.underlying143
  a46 := Try.isAgg143
  z46 := Try.sizeOf143
  v46 := Try.zeroValue143
  t50 := Try.underlying147
  a50 := Try.isAgg147
  z50 := Try.sizeOf147
  v50 := Try.zeroValue147
  t53 := Try.underlying118
  a53 := Try.isAgg118
  z53 := Try.sizeOf118
  v53 := Try.zeroValue118
  t55 := Try.underlying120
  a55 := Try.isAgg120
  z55 := Try.sizeOf120
  v55 := Try.zeroValue120
  t66 := Try.underlying150
  a66 := Try.isAgg150
  z66 := Try.sizeOf150
  v66 := Try.zeroValue150
  t70 := Try.underlying153
  a70 := Try.isAgg153
  z70 := Try.sizeOf153
  v70 := Try.zeroValue153
  t76 := Try.underlying155
  a76 := Try.isAgg155
  z76 := Try.sizeOf155
  v76 := Try.zeroValue155
  t77 := Try.underlying156
  a77 := Try.isAgg156
  z77 := Try.sizeOf156
  v77 := Try.zeroValue156 }
def Try.cmpInt_ren : Go.Shelf.Ren := ⟨fun | 5 => 79 | 7 => 96 | n => n, fun | 22 => 3 | 3 => 3 | 4 => 4 | n => n, fun | n => n⟩
theorem Try.cmpInt : Go.Proofs.SlLaysC2.n5 Try.prog Try.cmpInt_ren := {
  mixed := by kernel_rfl
  f5 := ⟨Try.f79.name, by decide, Try.func79.trans (congrArg some (by kernel_rfl))⟩
  f7 := ⟨Try.f96.name, by decide, Try.func96.trans (congrArg some (by kernel_rfl))⟩
  t3 := Try.underlying3
  a3 := Try.isAgg3
  z3 := Try.sizeOf3
  v3 := Try.zeroValue3
  t4 := Try.underlying4
  a4 := Try.isAgg4
  z4 := Try.sizeOf4
  v4 := Try.zeroValue4
  t22 := Try.underlying3
  a22 := Try.isAgg3
  z22 := Try.sizeOf3
  v22 := Try.zeroValue3 }
end Go.Proofs.Ytakdmliblijgmaa
/- Wire, XII: lists of integers are compared. -/
namespace Go.Proofs.Ytakdmliblijgmaa
open Go.RowKit Go.Sort Go.Shelf
def cmpZ (x y : Int) : Int := if x < y then -1 else if y < x then 1 else 0
def cmpL : List Int → List Int → Int
  | [], [] => 0
  | [], _ :: _ => -1
  | _ :: _, [] => 1
  | x :: xs, y :: ys => if cmpZ x y = 0 then cmpL xs ys else cmpZ x y
def SlI (w : World) (v : Value) (xs : List Int) : Prop := ∃ ad c, v = .slice ad xs.length c ∧ ∀ (j : Nat) (h : j < xs.length), ∃ b off, ad = some ⟨b, off, none⟩ ∧ b < w.heap.size ∧ w.cell? ⟨b, off + j, none⟩ = some (.int .i64 xs[j])
theorem cmpL_at {xs ys : List Int} {k : Nat} (h1 : k < xs.length) (h2 : k < ys.length) : cmpL (xs.drop k) (ys.drop k) = if cmpZ xs[k] ys[k] = 0 then cmpL (xs.drop (k + 1)) (ys.drop (k + 1)) else cmpZ xs[k] ys[k] := by
  rw [List.drop_eq_getElem_cons h1, List.drop_eq_getElem_cons h2]
  rfl
theorem compareInt_eq (x y : Int) : Lib.compareInt x y = cmpZ x y := by
  unfold Lib.compareInt cmpZ
  by_cases h1 : x < y
  · simp [h1]
  · by_cases h2 : y < x <;> simp [h1, h2]
set_option maxRecDepth 100000 in
set_option maxHeartbeats 1000000 in
theorem compare_any (xs ys : List Int) (v1 v2 : Value) (w : World) (hlx : xs.length ≤ 1000000000) (h1 : SlI w v1 xs) (h2 : SlI w v2 ys) :
    Calls Try.prog 68 #[v1, v2] w fun e w' => e = .returned (.int .i64 (cmpL xs ys)) ∧ w' = w := by
  obtain ⟨a1, c1, rfl, h1⟩ := h1
  obtain ⟨a2, c2, rfl, h2⟩ := h2
  have H1 := Lib.hid h1
  have H2 := Lib.hid h2
  have HC := fun x y W => Lib.hid (show Calls Try.prog 79 #[.int .i64 x, .int .i64 y] W _ from AnyG.cmp_Compare_int Try.cmpInt x y W)
  clear h1 h2
  go_enter Try.func68, Try.ntmps68
  go_wp2
  go_loopw [11] (fun i wr => ∃ k : Nat, k ≤ xs.length ∧ k ≤ ys.length ∧ i = .int .i64 k ∧ cmpL xs ys = cmpL (xs.drop k) (ys.drop k) ∧ wr = w) (fun i _ => xs.length - (intOf i).toNat)
  case atStart => exact ⟨0, Nat.zero_le _, Nat.zero_le _, rfl, by simp, rfl⟩
  case round =>
    obtain ⟨k, hk1, hk2, rfl, he, rfl⟩ := hrel
    have HE := Lib.hid he
    clear he
    by_cases hlt : k < xs.length
    · obtain ⟨b1, o1, rfl, hb1, g1⟩ := H1.out k hlt
      by_cases hlt2 : k < ys.length
      · obtain ⟨b2, o2, rfl, hb2, g2⟩ := H2.out k hlt2
        have HA := Lib.hid (cmpL_at hlt hlt2)
        have hge : ¬ ((k : Int) ≥ ys.length) := by omega
        generalize xs[k] = x at *
        generalize ys[k] = y at *
        by_cases hz : cmpZ x y = 0
        · have hz2 : (Lib.compareInt x y != 0) = false := by rw [compareInt_eq, hz]; rfl
          have HZ := Lib.hid hz
          clear hz
          go_wp2_with (go_at_call 79; refine (HC x y _).out.mono ?_; rintro e w2 ⟨rfl, rfl⟩)
          go_roundw
          case rel => exact ⟨k + 1, by omega, by omega, by go_num, by rw [HE.out, HA.out, if_pos HZ.out], trivial⟩
          case measure => simp [intOf]; omega
        · have hz2 : (Lib.compareInt x y != 0) = true := by rw [compareInt_eq]; simpa using hz
          have HZ := Lib.hid hz
          clear hz
          go_wp2_with (go_at_call 79; refine (HC x y _).out.mono ?_; rintro e w2 ⟨rfl, rfl⟩)
          go_ret
          (first | (rw [HE.out, HA.out, if_neg HZ.out, compareInt_eq]; first | done | rfl) | exact ⟨by rw [HE.out, HA.out, if_neg HZ.out, compareInt_eq]; first | done | rfl, rfl⟩)
      · have hge : ((k : Int) ≥ ys.length) := by omega
        have HV := Lib.hid (show cmpL (xs.drop k) (ys.drop k) = 1 from by rw [List.drop_eq_getElem_cons hlt, List.drop_eq_nil_of_le (by omega : ys.length ≤ k)]; rfl)
        generalize xs[k] = x at *
        go_wp2
        go_ret
        (first | (rw [HE.out, HV.out]; first | done | rfl) | exact ⟨by rw [HE.out, HV.out]; first | done | rfl, rfl⟩)
    · by_cases hlt2 : k < ys.length
      · have hll : (xs.length : Int) < ys.length := by omega
        have HV := Lib.hid (show cmpL (xs.drop k) (ys.drop k) = -1 from by rw [List.drop_eq_nil_of_le (by omega : xs.length ≤ k), List.drop_eq_getElem_cons hlt2]; rfl)
        go_wp2
        go_ret
        (first | (rw [HE.out, HV.out]; first | done | rfl) | exact ⟨by rw [HE.out, HV.out]; first | done | rfl, rfl⟩)
      · have hll : ¬ ((xs.length : Int) < ys.length) := by omega
        have HV := Lib.hid (show cmpL (xs.drop k) (ys.drop k) = 0 from by rw [List.drop_eq_nil_of_le (by omega : xs.length ≤ k), List.drop_eq_nil_of_le (by omega : ys.length ≤ k)]; rfl)
        go_wp2
        go_ret
        (first | (rw [HE.out, HV.out]; first | done | rfl) | exact ⟨by rw [HE.out, HV.out]; first | done | rfl, rfl⟩)
end Go.Proofs.Ytakdmliblijgmaa
/- Wire, XIII: lists of lists of integers are sorted. -/
namespace Go.Proofs.Ytakdmliblijgmaa
open Go.RowKit Go.Sort Go.Shelf
/-! The order of lists -/
theorem cmpZ_anti (x y : Int) : cmpZ y x = -cmpZ x y := by unfold cmpZ; split <;> split <;> (try split) <;> omega
theorem cmpL_anti : ∀ xs ys : List Int, cmpL ys xs = -cmpL xs ys
  | [], [] => rfl
  | [], _ :: _ => rfl
  | _ :: _, [] => rfl
  | x :: xs, y :: ys => by
    have h1 := cmpZ_anti x y
    have ih := cmpL_anti xs ys
    simp only [cmpL]
    by_cases h : cmpZ x y = 0
    · rw [if_pos h, if_pos (by omega)]; exact ih
    · rw [if_neg h, if_neg (by omega)]; exact h1
theorem cmpZ_eq {x y : Int} (h : cmpZ x y = 0) : x = y := by unfold cmpZ at h; split at h <;> (try split at h) <;> omega
theorem cmpL_eq : ∀ {xs ys : List Int}, cmpL xs ys = 0 → xs = ys
  | [], [], _ => rfl
  | [], _ :: _, h => by simp [cmpL] at h
  | _ :: _, [], h => by simp [cmpL] at h
  | x :: xs, y :: ys, h => by
    simp only [cmpL] at h
    by_cases h0 : cmpZ x y = 0
    · rw [if_pos h0] at h; rw [cmpZ_eq h0, cmpL_eq h]
    · rw [if_neg h0] at h; exact absurd h h0
theorem cmpL_refl : ∀ xs : List Int, cmpL xs xs = 0
  | [] => rfl
  | x :: xs => by
    have : cmpZ x x = 0 := by unfold cmpZ; simp
    simp only [cmpL, if_pos this]; exact cmpL_refl xs
theorem cmpL_trans : ∀ {xs ys zs : List Int}, cmpL xs ys ≤ 0 → cmpL ys zs ≤ 0 → cmpL xs zs ≤ 0 ∧ (cmpL xs ys < 0 ∨ cmpL ys zs < 0 → cmpL xs zs < 0)
  | [], [], [], _, _ => by simp [cmpL]
  | [], [], _ :: _, _, _ => by simp [cmpL]
  | [], _ :: _, [], _, h => by simp [cmpL] at h
  | [], _ :: _, _ :: _, _, _ => by simp [cmpL]
  | _ :: _, [], _, h, _ => by simp [cmpL] at h
  | _ :: _, _ :: _, [], _, h => by simp [cmpL] at h
  | x :: xs, y :: ys, z :: zs, h1, h2 => by
    have ih := @cmpL_trans xs ys zs
    simp only [cmpL] at h1 h2 ⊢
    have e1 : cmpZ x y = 0 ∧ x = y ∨ cmpZ x y = -1 ∧ x < y ∨ cmpZ x y = 1 ∧ y < x := by unfold cmpZ; split <;> (try split) <;> omega
    have e2 : cmpZ y z = 0 ∧ y = z ∨ cmpZ y z = -1 ∧ y < z ∨ cmpZ y z = 1 ∧ z < y := by unfold cmpZ; split <;> (try split) <;> omega
    have e3 : cmpZ x z = 0 ∧ x = z ∨ cmpZ x z = -1 ∧ x < z ∨ cmpZ x z = 1 ∧ z < x := by unfold cmpZ; split <;> (try split) <;> omega
    rcases e1 with ⟨c1, d1⟩ | ⟨c1, d1⟩ | ⟨c1, d1⟩ <;> rcases e2 with ⟨c2, d2⟩ | ⟨c2, d2⟩ | ⟨c2, d2⟩ <;> rcases e3 with ⟨c3, d3⟩ | ⟨c3, d3⟩ | ⟨c3, d3⟩ <;> simp only [c1, c2, c3, if_true, Int.reduceEq, if_false] at h1 h2 ⊢ <;> first
      | omega
      | exact ih h1 h2
def ltL (xs ys : List Int) : Bool := decide (cmpL xs ys < 0)
section
variable {ok : Value × List Int → Prop}
def cfW (x y : {x : Value × List Int // ok x}) : Int := cmpL x.1.2 y.1.2
def enW (x : {x : Value × List Int // ok x}) : Value := x.1.1
theorem swoW : SWO (ltOf (cfW (ok := ok))) where
  irrefl x := by unfold ltOf cfW; rw [cmpL_refl]; rfl
  trans x y z h1 h2 := by
    unfold ltOf cfW at *
    simp only [decide_eq_true_eq] at *
    exact (cmpL_trans (by omega) (by omega)).2 (.inl h1)
  ntrans x y z h1 h2 := by
    unfold ltOf cfW at *
    simp only [decide_eq_false_iff_not] at *
    have a1 := cmpL_anti x.1.2 y.1.2
    have a2 := cmpL_anti y.1.2 z.1.2
    have a3 := cmpL_anti x.1.2 z.1.2
    have := (cmpL_trans (xs := z.1.2) (ys := y.1.2) (zs := x.1.2) (by omega) (by omega)).1
    omega
end
/-! A closed list of integers lies in a world -/
theorem repC_sli {w : World} {N : Nat → Prop} {v : Value} {l : List Int} (h : RepC w N (slI l) v) {w' : World} (hw : ∀ b, b < w.heap.size → ¬ N b → w'.heap[b]? = w.heap[b]?) (hsz : w.heap.size ≤ w'.heap.size) : SlI w' v l := by
  unfold slI at h
  obtain ⟨ad, c, rfl, h1, h2, h3⟩ := h.sl_inv
  refine ⟨ad, c, by simp, fun j hj => ?_⟩
  rcases h3 with h3 | ⟨b, off, u, rfl, h4, h5, h6, h7, h8⟩
  · simp at h3; subst h3; simp at hj
  · refine ⟨b, off, rfl, by omega, ?_⟩
    have hr : (l.map rowI)[j]? = some (rowI l[j]) := by simp [hj]
    have e := h7 j _ 0 (I l[j]) hr rfl
    have r := h8 j _ 0 (I l[j]) hr rfl
    rw [World.cell?_of_block (w := w) (w' := w') (a := ⟨b, off + j, none⟩) (hw b h4 h5)]
    have e2 : off + j * 1 + 0 = off + j := by omega
    rw [e2] at e
    rw [e]
    generalize u j 0 = x at r
    cases r; rfl
def rowL1 (l : List Int) : List CV := [slI l]
attribute [simp] rowL1
def SortsL (ls : List (List Int)) (rows : List (List CV)) : Prop := ∃ ys : List (List Int), rows = ys.map rowL1 ∧ ys.Perm ls ∧ ys.Pairwise fun x y => ltL y x = false
theorem grow_none (W : World) : grow (W.drewN 0) #[] = W := by
  unfold grow World.drewN
  simp
end Go.Proofs.Ytakdmliblijgmaa
/- Wire, XIV: slices.SortFunc at lists of integers. -/
namespace Go.Proofs.Ytakdmliblijgmaa
open Go.RowKit Go.Sort Go.Shelf
theorem sw_old {α : Type} [Inhabited α] (en : α → Value) (w : World) (b m : Nat) (dk : Array α) (os : Array Obj) : (∀ q, q < w.heap.size → q ≠ b → (sortWorld en w b 0 m dk os).heap[q]? = w.heap[q]?) ∧ w.heap.size ≤ (sortWorld en w b 0 m dk os).heap.size := by
  have hs : (putRow en (Sort.ahead w m) b 0 dk).heap.size = w.heap.size := by simp [putRow, mapBlock, Sort.ahead]
  refine ⟨fun q hq hne => ?_, ?_⟩
  · unfold sortWorld
    rw [heap_grow_old _ _ (by rw [hs]; exact hq)]
    simp [putRow, mapBlock, Sort.ahead, Array.getElem?_modify, Ne.symm hne]
  · unfold sortWorld grow
    simp [hs]
theorem sw_at {α : Type} [Inhabited α] (en : α → Value) (w : World) (b m : Nat) (dk : Array α) (os : Array Obj) {cur : Array Value} {t : TypeId} {fr : Nat × Nat} (hb : w.heap[b]? = some (.cells cur t fr)) : (sortWorld en w b 0 m dk os).heap[b]? = some (.cells (putCells en 0 dk cur) t fr) := by
  have hs : (putRow en (Sort.ahead w m) b 0 dk).heap.size = w.heap.size := by simp [putRow, mapBlock, Sort.ahead]
  have hlt : b < w.heap.size := (Array.getElem?_eq_some_iff.1 hb).1
  unfold sortWorld
  rw [heap_grow_old _ _ (by rw [hs]; exact hlt)]
  simp [putRow, mapBlock, Sort.ahead, Array.getElem?_modify, hb, onCells]
theorem permIn_list {α : Type} [Inhabited α] {d d' : Array α} (h : PermIn 0 d.size d d') : d'.toList.Perm d.toList := by
  obtain ⟨h1, _, h3⟩ := h
  have e1 : d'.extract 0 d.size = d' := by rw [← h1]; simp
  have e2 : d.extract 0 d.size = d := by simp
  rw [e1, e2] at h3
  exact h3
theorem sortedIn_list {α : Type} [Inhabited α] {lt : α → α → Bool} {d' : Array α} (h : SortedIn lt 0 d'.size d') : d'.toList.Pairwise fun x y => lt y x = false := by
  rw [List.pairwise_iff_getElem]
  intro i j hi hj hij
  have hi' : i < d'.size := by simpa using hi
  have hj' : j < d'.size := by simpa using hj
  have := h i j (Nat.zero_le _) hij hj'
  simpa [getElem!_pos, hi', hj'] using this
theorem mSortL (ls : List (List Int)) (hl : ls.length ≤ 1000000000) (hll : ∀ l ∈ ls, l.length ≤ 1000000000) : MC Try.prog 67 55 1 (ls.map rowL1) [.fn 68 [] []] (SortsL ls) (some (.tup [])) := fun w NA p v0 vs hna hnp hB ho1 hov hs hv => by
  match vs, hs with
  | ⟨[v1]⟩, _ =>
  have h1 := hv 0 _ v1 rfl rfl
  cases h1 with
  | fn _ _ _ vf vc a1 a2 =>
  have e1 : vf = #[] := Array.size_eq_zero_iff.1 a1
  have e2 : vc = #[] := Array.size_eq_zero_iff.1 a2
  subst e1; subst e2
  change Calls _ _ #[v0, .func (.func 68) #[] #[]] w _
  clear hv
  rw [List.length_map] at hov
  rcases hov with ⟨hp, h0, rfl⟩ | ⟨b, cap, cur, t', hp, rfl, hg, hsz, hcap, hmax⟩
  · have : ls = [] := List.length_eq_zero_iff.1 h0
    subst this
    refine Calls.mono (show Calls Try.prog 67 #[.slice none 0 0, .func (.func 68) #[] #[]] w _ from AnyF.slices_SortFunc_none (P := Try.prog) (ρ := Try.sortW_ren) { Try.sortW with } none 0 _ w) ?_
    rintro e w' ⟨rfl, rfl⟩
    exact ⟨_, [], rfl, ⟨[], rfl, .refl _, .nil⟩, rfl, hB, fun b cs t' hb hc => ⟨cs, hc, rfl⟩, ⟨rfl, rfl, rfl, Nat.le_refl _, fun _ _ _ => rfl⟩, .tup [] #[] rfl (fun i x v hx => by simp at hx)⟩
  · subst hp
    obtain ⟨N, hN⟩ : ∃ N, N = Mut NA (fun _ => some b) (one1 55 1 (ls.map rowL1)) := ⟨_, rfl⟩
    have hNb : N b := by rw [hN]; exact mut_one.2 (.inr rfl)
    rcases hB with ⟨g1, _⟩ | ⟨b', cs', cap', g1, g2, g3, g4, g5, g6, g7⟩
    · cases g1
    have e3 : b = b' := Option.some.inj g1
    subst e3
    rw [hg] at g2; cases g2
    rw [← hN] at g7
    have hcell : ∀ (j : Nat) (hj : j < ls.length), ∃ v, cur[j]? = some v ∧ RepC w N (slI ls[j]) v := fun j hj => by
      obtain ⟨v, k1, k2⟩ := g7 j (rowL1 ls[j]) 0 (slI ls[j]) (by simp [hj]) rfl
      exact ⟨v, by simpa using k1, k2⟩
    -- the elements, each with what it reads as
    obtain ⟨ok, hok⟩ : ∃ ok : Value × List Int → Prop, ok = fun x => RepC w N (slI x.2) x.1 ∧ x.2.length ≤ 1000000000 := ⟨_, rfl⟩
    obtain ⟨ps, hps⟩ : ∃ ps : List (Value × List Int), ps = (List.range ls.length).map fun j => (cur.getD j undef, ls.getD j []) := ⟨_, rfl⟩
    have hpl : ps.length = ls.length := by rw [hps]; simp
    have hpj : ∀ (j : Nat) (hj : j < ls.length), ps[j]? = some (cur.getD j undef, ls[j]) := fun j hj => by rw [hps]; simp [hj]
    have hpo : ∀ x ∈ ps, ok x := fun x hx => by
      obtain ⟨j, hj, rfl⟩ := List.getElem_of_mem hx
      have hj2 : j < ls.length := by omega
      have e := hpj j hj2
      rw [List.getElem?_eq_getElem hj] at e
      have e := Option.some.inj e
      obtain ⟨v, k1, k2⟩ := hcell j hj2
      rw [e, hok]
      refine ⟨?_, hll _ (List.getElem_mem hj2)⟩
      have : cur.getD j undef = v := by simp [k1]
      rw [this]; exact k2
    have hp2 : ps.map (·.2) = ls := by
      apply List.ext_getElem?
      intro j
      rw [List.getElem?_map]
      by_cases hj : j < ls.length
      · rw [hpj j hj, List.getElem?_eq_getElem hj]; rfl
      · rw [List.getElem?_eq_none (by omega), List.getElem?_eq_none (by omega)]; rfl
    obtain ⟨zs, hz⟩ : ∃ zs : List {x : Value × List Int // ok x}, zs.map (·.1) = ps := ⟨ps.attachWith ok hpo, List.attachWith_map_subtype_val hpo⟩
    have hzl : zs.length = ls.length := by rw [← hpl, ← hz, List.length_map]
    have hok0 : ok (.slice none 0 0, []) := by
      rw [hok]
      exact ⟨.nil 1 none 0 (Nat.zero_le _), Nat.zero_le _⟩
    letI : Inhabited {x : Value × List Int // ok x} := ⟨⟨_, hok0⟩⟩
    have hokI : ∀ y, ok y → RepC w N (slI y.2) y.1 ∧ y.2.length ≤ 1000000000 := fun y hy => by
      rw [hok] at hy
      exact hy
    have hrep : ∀ x : {x : Value × List Int // ok x}, RepC w N (slI x.1.2) x.1.1 ∧ x.1.2.length ≤ 1000000000 := fun x => hokI _ x.2
    have hone : OneCell (enW (ok := ok)) := fun x => by
      obtain ⟨ad, c, e, _⟩ := (hrep x).1.sl_inv
      show x.1.1.oneCell' = true
      rw [e]; rfl
    have hcmp : CmpLays1 Try.prog 68 #[] (enW (ok := ok)) cfW b 0 zs.toArray.size w := fun m os dk hs x y => by
      obtain ⟨o1, o2⟩ := sw_old enW w b m dk os
      have hold : ∀ q, q < w.heap.size → ¬ N q → (sortWorld enW w b 0 m dk os).heap[q]? = w.heap[q]? := fun q hq hn => o1 q hq (fun e => hn (e ▸ hNb))
      refine Calls.mono (show Calls Try.prog 68 #[x.1.1, y.1.1] (sortWorld enW w b 0 m dk os) _ from compare_any x.1.2 y.1.2 x.1.1 y.1.1 _ (hrep x).2 (repC_sli (hrep x).1 hold o2) (repC_sli (hrep y).1 hold o2)) ?_
      rintro e w' ⟨rfl, rfl⟩
      exact ⟨rfl, 0, #[], (grow_none _).symm⟩
    have hblk : b < w.heap.size := (Array.getElem?_eq_some_iff.1 hg).1
    have hzj : ∀ (j : Nat) (hj : j < zs.length), enW zs[j] = cur.getD j undef ∧ zs[j].1.2 = ls[j]'(by omega) := fun j hj => by
      have hj2 : j < ls.length := by omega
      have e : (zs.map (·.1))[j]? = ps[j]? := by rw [hz]
      rw [List.getElem?_map, List.getElem?_eq_getElem hj, hpj j hj2] at e
      have e := Option.some.inj e
      exact ⟨congrArg Prod.fst e, congrArg Prod.snd e⟩
    have hH : Holds (enW (ok := ok)) w b 0 zs.toArray := fun j hj => by
      have hj1 : j < zs.length := by simpa using hj
      have hj2 : j < ls.length := by omega
      obtain ⟨v, k1, _⟩ := hcell j hj2
      have e0 : zs.toArray[j]! = zs[j] := by simp [hj1]
      rw [e0, (hzj j hj1).1]
      refine ⟨?_, by simp [World.frozen?, hg]⟩
      rw [Nat.zero_add, cell_of_row w b j cur _ (0, 0) hg, k1]
      simp [k1]
    have hmain := Any.slices_SortFunc (P := Try.prog) (ρ := Try.sortW_ren) Try.sortW enW hone cfW swoW 68 #[] b 0 cap zs.toArray w (enters_of Try.func68 (by kernel_rfl) rfl) hcmp hH hblk (by simp; omega)
    have hzs : zs.toArray.size = ls.length := by simpa using hzl
    rw [hzs] at hmain
    refine Calls.mono (show Calls Try.prog 67 #[.slice (some ⟨b, 0, none⟩) ls.length cap, .func (.func 68) #[] #[]] w _ from hmain) ?_
    rintro e w' ⟨rfl, d', n, os, hp, hs, rfl⟩
    rw [← hzs] at hp
    have hd : d'.size = ls.length := by rw [← hzs]; exact hp.1
    have hperm := permIn_list hp
    rw [← hd] at hs
    have hsort := sortedIn_list hs
    obtain ⟨o1, o2⟩ := sw_old enW w b n d' os
    have hat := sw_at enW w b n d' os hg
    have hsz2 : (putCells enW 0 d' cur).size = cur.size := by simp [putCells]
    have hys : (d'.toList.map fun x => x.1.2).length = ls.length := by simpa using hd
    refine ⟨_, (d'.toList.map fun x => x.1.2).map rowL1, rfl, ⟨_, rfl, ?_, ?_⟩, by simp [hd], ?_, fun b2 cs t2 hb2 hc2 => ?_, ⟨rfl, rfl, rfl, o2, fun q hq hne => o1 q hq (fun e => hne (by rw [e]))⟩, .tup [] #[] rfl (fun i x v hx => by simp at hx)⟩
    · have h2 := hperm.map fun x : {x : Value × List Int // ok x} => x.1.2
      have e : (zs.toArray.toList.map fun x : {x : Value × List Int // ok x} => x.1.2) = ls := by
        rw [← hp2, ← hz, List.map_map]
        rfl
      rw [e] at h2
      exact h2
    · rw [List.pairwise_map]
      exact hsort
    · have hcalm : Calm w N (sortWorld enW w b 0 n d' os) (Mut NA (fun _ => some b) (one1 55 1 ((d'.toList.map fun x => x.1.2).map rowL1))) := by
        refine ⟨o2, fun q hq hn => ⟨o1 q hq (fun e => hn (e ▸ hNb)), fun hm => hn ?_⟩⟩
        rw [hN]
        exact mut_one.2 (mut_one.1 hm)
      refine .inr ⟨b, _, cap, rfl, hat, by rw [hsz2]; exact hsz, by rw [List.length_map, hys]; exact hcap, hmax, fun j row hr => ?_, fun j row i x hr hx => ?_⟩
      · rw [List.getElem?_map, Option.map_eq_some_iff] at hr
        obtain ⟨l, _, rfl⟩ := hr
        exact ⟨rfl, rfl⟩
      · rw [List.getElem?_map, Option.map_eq_some_iff] at hr
        obtain ⟨l, hy, rfl⟩ := hr
        rw [List.getElem?_map, Option.map_eq_some_iff] at hy
        obtain ⟨y, hy, rfl⟩ := hy
        have hj : j < d'.toList.length := (List.getElem?_eq_some_iff.1 hy).1
        have hjd : j < d'.size := by simpa using hj
        have hjc : j < cur.size := by rw [hsz]; omega
        have hi : i = 0 := by
          have := (List.getElem?_eq_some_iff.1 hx).1
          simpa using this
        subst hi
        simp at hx
        subst hx
        refine ⟨enW y, ?_, ((hrep y).1).move hcalm⟩
        have ey : d'[j]! = y := by
          have := (List.getElem?_eq_some_iff.1 hy).2
          simpa [hjd] using this
        simp [putCells, hjd, hjc, ← ey]
    · have e4 : b = b2 := Option.some.inj hb2
      subst e4
      rw [hg] at hc2; cases hc2
      exact ⟨_, hat, hsz2⟩
end Go.Proofs.Ytakdmliblijgmaa
/- The shadow code of functions, as the kit's translation has them. -/
namespace Go.Proofs.Ytakdmliblijgmaa
open Go.RowKit
def markW : List FuncId := [67, 1000000 + 71]
def k50_0 : SCode := .reg [⟨some 2, none, .mov (.const (.slice none 0 0)), [], false⟩] [0]
def k50_1 : SCode := .reg [⟨some 3, none, .mov (.tmp 0), [], false⟩, ⟨some 4, none, .isNil false 0 (.tmp 3), [], false⟩] [0, 4]
def k50_2 : SCode := .reg [⟨some 2, none, .mov (.const (.slice none 0 0)), [], false⟩] [2]
def k50_3 : SCode := .seq k50_2 .ret
def k50_4 : SCode := .cond (.tmp 4) k50_3 .skip
def k50_5 : SCode := .seq k50_1 k50_4
def k50_6 : SCode := .reg [⟨some 5, none, .buildSl 25 2 [(.int .i64 0), (.int .i64 0)] 0 [], [], false⟩, ⟨some 6, none, .mov (.tmp 0), [], false⟩, ⟨some 7, none, .append 25 2 16 (.tmp 5) (.tmp 6), [], false⟩, ⟨some 2, none, .mov (.tmp 7), [], false⟩] [2]
def k50_7 : SCode := .seq k50_6 .ret
def k50_8 : SCode := .seq k50_5 k50_7
def k50_9 : SCode := .seq k50_0 k50_8
theorem flaw_slices_Clone_api_Span_api_Span (cs : List CV) (sh : FSh) (t : TypeId) (k : Nat) (rows : List (List CV)) (hl : cs.length ≤ 8) (h : STri (cfF Try.prog [] 8) k50_9 (initT 0 cs) [] (retF (.tmp 2) sh t k rows)) : FC Try.prog 71 cs sh t k rows :=
  fc_of [] follows Try.func71 rfl Try.ntmps71 (by decide) (by kernel_rfl) (by kernel_rfl) hl h
def k51_0 : SCode := .reg [⟨some 1, none, .box 91 (.tmp 0), [], false⟩, ⟨some 2, none, .mov (.const (.slice none 0 0)), [], false⟩] [1, 2]
def k51_1 : SCode := .reg [⟨some 5, none, .load true 5 (.tmp 1), [], false⟩, ⟨some 6, none, .call 48 [(.tmp 5)], [], false⟩, ⟨some 3, none, .mov (.tmp 6), [], false⟩] [1, 2, 3]
def k51_2 : SCode := .reg [⟨some 7, none, .load true 5 (.tmp 1), [], false⟩, ⟨some 8, none, .call 47 [(.tmp 7)], [], false⟩, ⟨some 9, none, .rng false .u64 (.tmp 8), [], false⟩] [2, 3, 9]
def k51_3 : SCode := .reg [⟨some 10, none, .nxt (.tmp 9), [], false⟩, ⟨some 11, none, .ext (.tmp 10) 0, [], false⟩] [2, 3, 9, 11]
def k51_4 : SCode := .cond (.tmp 11) .skip (.exit 0)
def k51_5 : SCode := .reg [⟨some 12, none, .ent (.tmp 9), [], false⟩, ⟨some 13, none, .ext (.tmp 12) 0, [], false⟩, ⟨some 4, none, .mov (.tmp 13), [], false⟩] [2, 3, 4, 9]
def k51_6 : SCode := .reg [⟨some 14, none, .mov (.tmp 4), [], false⟩, ⟨some 15, none, .call 50 [(.tmp 14)], [], false⟩, ⟨some 16, none, .mov (.tmp 3), [], false⟩, ⟨some 17, none, .bin .eql (.tmp 15) (.tmp 16), [], false⟩] [2, 3, 4, 9, 17]
def k51_7 : SCode := .reg [⟨some 18, none, .mov (.tmp 2), [], false⟩, ⟨some 19, none, .mov (.tmp 4), [], false⟩, ⟨some 20, none, .call 66 [(.tmp 19)], [], false⟩, ⟨some 21, none, .buildSl 55 1 [(.slice none 0 0)] 1 [(0, (.tmp 20))], [], false⟩, ⟨some 22, none, .append 55 1 24 (.tmp 18) (.tmp 21), [], false⟩, ⟨some 2, none, .mov (.tmp 22), [], false⟩] [2, 3, 9]
def k51_8 : SCode := .cond (.tmp 17) k51_7 .skip
def k51_9 : SCode := .seq k51_6 k51_8
def k51_10 : SCode := .seq k51_5 k51_9
def k51_11 : SCode := .block 1 k51_10
def k51_12 : SCode := .seq k51_4 k51_11
def k51_13 : SCode := .seq k51_3 k51_12
def k51_14 : SCode := .loop k51_13
def k51_15 : SCode := .block 0 k51_14
def k51_16 : SCode := .seq k51_2 k51_15
def k51_17 : SCode := .reg [⟨some 23, none, .mov (.tmp 2), [], false⟩, ⟨some 24, none, .callM 67 [(.tmp 23), (.func 68)], [], false⟩] [2]
def k51_18 : SCode := .reg [⟨some 25, none, .mov (.tmp 2), [], false⟩, ⟨some 2, none, .mov (.tmp 25), [], false⟩] [2]
def k51_19 : SCode := .seq k51_18 .ret
def k51_20 : SCode := .seq k51_17 k51_19
def k51_21 : SCode := .seq k51_16 k51_20
def k51_22 : SCode := .seq k51_1 k51_21
def k51_23 : SCode := .seq k51_0 k51_22
theorem glaw_wire_book_least (cs : List CV) (r : CV) (hl : cs.length ≤ 26) (h : STri (cfF Try.prog markW 26) k51_23 (initT 0 cs) [] (retQ rs_wire_book_least r)) : SC Try.prog 54 cs r :=
  sc_of markW follows Try.func54 rfl Try.ntmps54 (by decide) (by kernel_rfl) (by kernel_rfl) hl h
def k52_0 : SCode := .reg [⟨some 3, none, .box 91 (.tmp 0), [], false⟩, ⟨some 6, none, .alloc 91 [(.slice none 0 0), (.slice none 0 0), (.slice none 0 0), (.int .i64 0), (.int .i64 0)], [], false⟩] [1, 2, 3, 6]
def k52_1 : SCode := .reg [⟨some 7, none, .fld 1 (.tmp 3), [], false⟩, ⟨some 8, none, .load false 1 (.tmp 7), [], false⟩, ⟨some 9, none, .callG 71 [(.tmp 8)], [], false⟩, ⟨some 10, none, .fld 1 (.tmp 3), [], false⟩, ⟨none, none, .store 1 (.tmp 10) (.tmp 9), [], false⟩] [1, 2, 3, 6]
def k52_2 : SCode := .reg [⟨some 11, none, .fld 1 (.tmp 3), [], false⟩, ⟨some 12, none, .load false 1 (.tmp 11), [], false⟩, ⟨some 13, none, .mov (.tmp 1), [], false⟩, ⟨some 14, none, .fld 1 (.tmp 3), [], false⟩, ⟨some 15, none, .load false 1 (.tmp 14), [], false⟩, ⟨some 16, none, .mov (.tmp 1), [], false⟩, ⟨some 17, none, .idxS 2 (.tmp 15) (.tmp 16), [], false⟩, ⟨some 18, none, .fld 0 (.tmp 17), [], false⟩, ⟨some 19, none, .load false 1 (.tmp 18), [], false⟩, ⟨some 20, none, .mov (.tmp 2), [], false⟩, ⟨some 21, none, .bin .sub (.tmp 19) (.tmp 20), [], false⟩, ⟨some 22, none, .fld 1 (.tmp 3), [], false⟩, ⟨some 23, none, .load false 1 (.tmp 22), [], false⟩, ⟨some 24, none, .mov (.tmp 1), [], false⟩, ⟨some 25, none, .idxS 2 (.tmp 23) (.tmp 24), [], false⟩, ⟨some 26, none, .fld 1 (.tmp 25), [], false⟩, ⟨some 27, none, .load false 1 (.tmp 26), [], false⟩, ⟨some 28, none, .mov (.tmp 2), [], false⟩, ⟨some 29, none, .bin .add (.tmp 27) (.tmp 28), [], false⟩, ⟨some 30, none, .build [(.int .i64 0), (.int .i64 0)] [(0, 1, (.tmp 21)), (1, 1, (.tmp 29))], [], false⟩, ⟨some 31, none, .idxS 2 (.tmp 12) (.tmp 13), [], false⟩, ⟨none, none, .store 2 (.tmp 31) (.tmp 30), [], false⟩] [3, 6]
def k52_3 : SCode := .reg [⟨some 32, none, .load true 5 (.tmp 3), [], false⟩, ⟨none, none, .store 5 (.tmp 6) (.tmp 32), [], false⟩] [6]
def k52_4 : SCode := .seq k52_3 .ret
def k52_5 : SCode := .seq k52_2 k52_4
def k52_6 : SCode := .seq k52_1 k52_5
def k52_7 : SCode := .seq k52_0 k52_6
theorem glaw_wire_book_wider (cs : List CV) (r : CV) (hl : cs.length ≤ 33) (h : STri (cfF Try.prog markW 33) k52_7 (initT 0 cs) [] (retQ rs_wire_book_wider r)) : SC Try.prog 57 cs r :=
  sc_of markW follows Try.func57 rfl Try.ntmps57 (by decide) (by kernel_rfl) (by kernel_rfl) hl h
end Go.Proofs.Ytakdmliblijgmaa
/- Wire, XV: the smallest sets of sources that are wrong. -/
namespace Go.Proofs.Ytakdmliblijgmaa
open Go.RowKit
def numsTo (x k : Nat) : List Int := ((List.range k).filter fun i => x.testBit i).map fun (i : Nat) => (i : Int)
def numsL (x : Nat) : List Int := numsTo x (lenN x)
theorem numsTo_succ (x k : Nat) : numsTo x (k + 1) = if x.testBit k = true then numsTo x k ++ [(k : Int)] else numsTo x k := by
  unfold numsTo
  rw [List.range_succ, List.filter_append, List.map_append]
  by_cases h : x.testBit k = true <;> simp [h]
theorem numsTo_len (x k : Nat) : (numsTo x k).length ≤ k := by
  unfold numsTo
  rw [List.length_map]
  exact Nat.le_trans (List.length_filter_le _ _) (by simp)
theorem len_le : ∀ x : Nat, x < 1024 → lenN x ≤ 10 := by decide +kernel
theorem sNumbers (x : Nat) (hx : x < 1024) : SC Try.prog 66 [U x] (slI (numsL x)) := by
  refine law_wire_numbers _ _ (by simp) ?_
  have hl := len_le x hx
  (repeat' (first | ((first | with_reducible refine st_skip ?_ | with_reducible refine st_exit ?_); (try simp only [seqQ, blockQ, loopQ, forQ, whileQ, reduceIte, Nat.reduceEqDiff])) | (with_reducible refine st_ret ?_; ((try simp only [seqQ, blockQ, loopQ, forQ, whileQ]); first | (with_reducible refine retM_ret ?_) | refine retQ_ret ?_; simp)) | refine st_seq ?_ | refine st_block ?_ | ((with_reducible show (STri _ _ _ _ _) ∧ (STri _ _ _ _ _)); refine And.intro ?_ ?_) | ((first | refine st_reg ?_ | refine buildP_own ?_ | refine appP_own ?_ | refine callP_b (sLen x hx) rfl ?_) <;> (simp -dsimp; (repeat (simp -dsimp (disch := (first | omega | assumption | (refine Bool.eq_false_iff.1 ?_; assumption))) only [wrap_in, if_pos, if_neg]; (try simp -dsimp))))) | ((first | refine guardP_of (fun hc => ?_) (fun hc => ?_) | refine st_cond rfl (fun hc => ?_) (fun hc => ?_)) <;> (try simp only [lqA, lqB, lqC, lqD, lqE, lqF, lqG, lqH, lqI, lqJ, lqK, lqL, lqM, lqN, lqO] at hc) <;> (try (exfalso; first | omega | exact bool_tf hc (by assumption) | exact bool_ft hc (by assumption) | exact absurd (by assumption) hc)) <;> (first | with_reducible show STri _ _ _ _ _ _ | (simp -dsimp [hc]; (repeat (simp -dsimp (disch := (first | omega | assumption | (refine Bool.eq_false_iff.1 ?_; assumption))) only [wrap_in, if_pos, if_neg]; (try simp -dsimp [hc]))))))))
  refine st_nil 2 200 3 1 rfl (by simp [newOK]) ?_
  refine st_less [(0, .c (U x)), (2, .own 200 0), (5, .c (I (lenN x))), (6, .c (I 0))] [(200, .arr 3 1 [])] (by simp [Less, LessT, LessH, dropOK, dropK, SV.outD, Blk.outD]) ?_
  refine st_for [200] (lenN x) (fun k T H => T = [(0, .c (U x)), (2, .own 200 (numsTo x k).length), (5, .c (I (lenN x))), (6, .c (I k))] ∧ H = [(200, .arr 3 1 ((numsTo x k).map rowI))]) (by simp) ⟨by simp [numsTo], by simp [numsTo]⟩ ?_
  rintro k T H hk ⟨rfl, rfl⟩
  by_cases hlt : k < lenN x
  · have f1 := shr_nat x k (by omega)
    have hs := numsTo_succ x k
    have hlen := numsTo_len x k
    have e : ((x : Int) >>> k % 2 = 1) = (x.testBit k = true) := by
      have e0 : (x : Int) >>> k = ((x >>> k : Nat) : Int) := rfl
      rw [← bit_odd, e0]
      apply propext
      omega
    generalize numsTo x k = l at *
    (repeat' (first | ((first | with_reducible refine st_skip ?_ | with_reducible refine st_exit ?_); (try simp only [seqQ, blockQ, loopQ, forQ, whileQ, reduceIte, Nat.reduceEqDiff])) | (with_reducible refine st_ret ?_; ((try simp only [seqQ, blockQ, loopQ, forQ, whileQ]); first | (with_reducible refine retM_ret ?_) | refine retQ_ret ?_; simp [hlt, f1, and_one])) | refine st_seq ?_ | refine st_block ?_ | ((with_reducible show (STri _ _ _ _ _) ∧ (STri _ _ _ _ _)); refine And.intro ?_ ?_) | ((first | refine st_reg ?_ | refine buildP_own ?_ | refine appP_own ?_) <;> (simp -dsimp [hlt, f1, and_one]; (repeat (simp -dsimp (disch := (first | omega | assumption | (refine Bool.eq_false_iff.1 ?_; assumption))) only [wrap_in, if_pos, if_neg]; (try simp -dsimp [hlt, f1, and_one]))))) | ((first | refine guardP_of (fun hc => ?_) (fun hc => ?_) | refine st_cond rfl (fun hc => ?_) (fun hc => ?_)) <;> (try simp only [lqA, lqB, lqC, lqD, lqE, lqF, lqG, lqH, lqI, lqJ, lqK, lqL, lqM, lqN, lqO] at hc) <;> (try (exfalso; first | omega | exact bool_tf hc (by assumption) | exact bool_ft hc (by assumption) | exact absurd (by assumption) hc)) <;> (first | with_reducible show STri _ _ _ _ _ _ | (simp -dsimp [hlt, f1, and_one, hc]; (repeat (simp -dsimp (disch := (first | omega | assumption | (refine Bool.eq_false_iff.1 ?_; assumption))) only [wrap_in, if_pos, if_neg]; (try simp -dsimp [hlt, f1, and_one, hc]))))))))
    · rw [e] at hc
      rw [if_pos hc] at hs
      exact ⟨hlt, by simp, by simp [hs], by simp [hs]⟩
    · rw [e] at hc
      rw [if_neg hc] at hs
      exact ⟨hlt, by simp, by simp [hs], by simp [hs]⟩
  · have : k = lenN x := by omega
    subst this
    (repeat' (first | ((first | with_reducible refine st_skip ?_ | with_reducible refine st_exit ?_); (try simp only [seqQ, blockQ, loopQ, forQ, whileQ, reduceIte, Nat.reduceEqDiff])) | (with_reducible refine st_ret ?_; ((try simp only [seqQ, blockQ, loopQ, forQ, whileQ]); first | (with_reducible refine retM_ret ?_) | refine retQ_ret ?_; simp [hlt])) | refine st_seq ?_ | refine st_block ?_ | ((with_reducible show (STri _ _ _ _ _) ∧ (STri _ _ _ _ _)); refine And.intro ?_ ?_) | ((first | refine st_reg ?_ | refine buildP_own ?_ | refine appP_own ?_) <;> (simp -dsimp [hlt]; (repeat (simp -dsimp (disch := (first | omega | assumption | (refine Bool.eq_false_iff.1 ?_; assumption))) only [wrap_in, if_pos, if_neg]; (try simp -dsimp [hlt]))))) | ((first | refine guardP_of (fun hc => ?_) (fun hc => ?_) | refine st_cond rfl (fun hc => ?_) (fun hc => ?_)) <;> (try simp only [lqA, lqB, lqC, lqD, lqE, lqF, lqG, lqH, lqI, lqJ, lqK, lqL, lqM, lqN, lqO] at hc) <;> (try (exfalso; first | omega | exact bool_tf hc (by assumption) | exact bool_ft hc (by assumption) | exact absurd (by assumption) hc)) <;> (first | with_reducible show STri _ _ _ _ _ _ | (simp -dsimp [hlt, hc]; (repeat (simp -dsimp (disch := (first | omega | assumption | (refine Bool.eq_false_iff.1 ?_; assumption))) only [wrap_in, if_pos, if_neg]; (try simp -dsimp [hlt, hc]))))))))
    exact .refl _
def sortL (ls : List (List Int)) : List (List Int) := ls.mergeSort fun x y => !ltL y x
def leastS (b : Wbk) : List Nat := (setsL b).filter fun x => decide (popN x = fewN b)
def leastL (b : Wbk) : List (List Int) := sortL ((leastS b).map numsL)
def slL (ls : List (List Int)) : CV := .sl 1 (ls.map rowL1)
attribute [simp] slL
theorem sortL_pair (ls : List (List Int)) : (sortL ls).Pairwise fun x y => ltL y x = false := by
  have h1 : (sortL ls).Pairwise fun x y => (!ltL y x) = true := List.pairwise_mergeSort (le := fun x y => !ltL y x) (fun x y z h1 h2 => by
      unfold ltL at *
      simp only [Bool.not_eq_true', decide_eq_false_iff_not] at *
      have a1 := cmpL_anti x y
      have a2 := cmpL_anti y z
      have a3 := cmpL_anti x z
      have := (cmpL_trans (xs := x) (ys := y) (zs := z) (by omega) (by omega)).1
      omega) (fun x y => by
      unfold ltL
      have a1 := cmpL_anti x y
      simp only [Bool.or_eq_true, Bool.not_eq_true', decide_eq_false_iff_not]
      omega) ls
  exact h1.imp fun h => by simpa using h
theorem sortL_of {xs ys : List (List Int)} (hp : ys.Perm xs) (hs : ys.Pairwise fun x y => ltL y x = false) : ys = sortL xs := by
  refine List.Perm.eq_of_pairwise (le := fun x y => ltL y x = false) (fun x y _ _ h1 h2 => ?_) hs (sortL_pair xs) (hp.trans (List.mergeSort_perm xs _).symm)
  unfold ltL at h1 h2
  simp only [decide_eq_false_iff_not] at h1 h2
  have a1 := cmpL_anti x y
  exact cmpL_eq (by omega)
def rowsU (acc : List Nat) : List (List CV) := (acc.map numsL).map rowL1
@[simp] theorem rowsU_len (acc : List Nat) : (rowsU acc).length = acc.length := by simp [rowsU]
theorem rowsU_snoc (acc : List Nat) (x : Nat) : rowsU (acc ++ [x]) = rowsU acc ++ [[.sl 1 ((numsL x).map rowI)]] := by simp [rowsU]
def leI (b : Wbk) (m : Nat) (T : TL) (H : HL) : Prop := ∃ L cur acc, m = L.length ∧ (∀ x ∈ L, x < 1024) ∧ (acc ++ L.filter fun x => decide (popN x = fewN b)).Perm (leastS b) ∧ acc.length + L.length ≤ 20000 ∧
  T = [(2, .own 200 acc.length), (3, .c (I (fewN b : Nat))), (9, .it 9)] ∧ H = [(200, .arr 55 1 (rowsU acc)), (9, .it false .u64 (entsU L) cur)]
theorem nums_len (x : Nat) (hx : x < 1024) : (numsL x).length ≤ 1000000000 := by
  have := numsTo_len x (lenN x)
  have := len_le x hx
  unfold numsL; omega
theorem sLeast (b : Wbk) (hb : BkOK b) : SC Try.prog 54 [cBk b] (slL (leastL b)) := by
  refine glaw_wire_book_least _ _ (by simp) ?_
  have sf := sFewest b hb
  have ss := sSets b hb
  have hsl : (setsL b).length ≤ 20000 := by
    have h1 := setsTo_len b (allL b).length (Nat.le_refl _)
    have h2 : setsTo b (allL b).length = setsL b := by unfold setsTo setsL; rw [List.take_length]
    have h3 := allL_len b
    have n0 := hb.n0
    have n2 := hb.n2
    rw [h2] at h1
    unfold bookN at h3
    omega
  have hst : ∀ x ∈ leastS b, x < 1024 := fun x hx => set_lt hb (List.mem_filter.1 hx).1
  (repeat' (first | ((first | with_reducible refine st_skip ?_ | with_reducible refine st_exit ?_); (try simp only [seqQ, blockQ, loopQ, forQ, whileQ, reduceIte, Nat.reduceEqDiff])) | (with_reducible refine st_ret ?_; ((try simp only [seqQ, blockQ, loopQ, forQ, whileQ]); first | (with_reducible refine retM_ret ?_) | refine retQ_ret ?_; simp)) | refine st_seq ?_ | refine st_block ?_ | ((with_reducible show (STri _ _ _ _ _) ∧ (STri _ _ _ _ _)); refine And.intro ?_ ?_) | ((first | refine st_reg ?_ | refine buildP_own ?_ | refine appP_own ?_ | ((with_reducible show callGP _ _ _ _ _ _ _); refine callG_b (sf) ?hcc ?hpp ?_; (case hcc => (first | rfl | (simp <;> fail))); (case hpp => (first | rfl | (simp <;> fail)))) | ((with_reducible show callGP _ _ _ _ _ _ _); refine callG_b (ss) ?hcc ?hpp ?_; (case hcc => (first | rfl | (simp <;> fail))); (case hpp => (first | rfl | (simp <;> fail)))) | refine callP_b (sf) rfl ?_ | refine callP_b (ss) rfl ?_) <;> (simp -dsimp; (repeat (simp -dsimp (disch := (first | omega | assumption | (refine Bool.eq_false_iff.1 ?_; assumption))) only [wrap_in, if_pos, if_neg]; (try simp -dsimp))))) | ((first | refine guardP_of (fun hc => ?_) (fun hc => ?_) | refine st_cond rfl (fun hc => ?_) (fun hc => ?_)) <;> (try simp only [lqA, lqB, lqC, lqD, lqE, lqF, lqG, lqH, lqI, lqJ, lqK, lqL, lqM, lqN, lqO] at hc) <;> (try (exfalso; first | omega | exact bool_tf hc (by assumption) | exact bool_ft hc (by assumption) | exact absurd (by assumption) hc)) <;> (first | with_reducible show STri _ _ _ _ _ _ | (simp -dsimp [hc]; (repeat (simp -dsimp (disch := (first | omega | assumption | (refine Bool.eq_false_iff.1 ?_; assumption))) only [wrap_in, if_pos, if_neg]; (try simp -dsimp [hc]))))))))
  refine st_nil 2 200 55 1 rfl (by simp [newOK]) ?_
  refine st_less [(2, .own 200 0), (3, .c (I (fewN b : Nat))), (9, .it 9)] [(200, .arr 55 1 []), (9, .it false .u64 (entsU (setsL b)) none)] (by simp [Less, LessT, LessH, dropOK, dropK, SV.outD, Blk.outD]) ?_
  refine st_while [200, 9] (leI b) (setsL b).length (by simp) ⟨setsL b, none, [], rfl, fun x hx => set_lt hb hx, .refl _, by simpa using hsl, by simp, by simp [rowsU]⟩ ?_
  rintro m T H ⟨L, cur, acc, rfl, hL, hperm, hlen, rfl, rfl⟩
  have hA : acc.length ≤ 9223372036854775806 := by omega
  have hB : (acc.length + 1) * 24 ≤ 140737488355328 := by omega
  have ms := mSortL (acc.map numsL) (by simp; omega) (fun l hl => by
    obtain ⟨x, hx, rfl⟩ := List.mem_map.1 hl
    exact nums_len x (hst x (hperm.subset (by simp [hx]))))
  (repeat' (first | ((with_reducible show STri _ SCode.skip [(2, _), (3, _), (4, _), (9, _), (17, _)] _ _); refine st_less [(2, .own 200 acc.length), (3, .c (I (fewN b : Nat))), (9, .it 9)] [(200, .arr 55 1 (rowsU acc)), (9, .it false .u64 (entsU Rq) (some (entU wq)))] (by simp [Less, LessT, LessH, dropOK, dropK, SV.outD, Blk.outD]) ?_) | ((first | with_reducible refine st_skip ?_ | with_reducible refine st_exit ?_); (try simp only [seqQ, blockQ, loopQ, forQ, whileQ, reduceIte, Nat.reduceEqDiff])) | (with_reducible refine st_ret ?_; ((try simp only [seqQ, blockQ, loopQ, forQ, whileQ]); first | (with_reducible refine retM_ret ?_) | refine retQ_ret ?_; simp [hA, hB])) | refine st_seq ?_ | refine st_block ?_ | ((with_reducible show (STri _ _ _ _ _) ∧ (STri _ _ _ _ _)); refine And.intro ?_ ?_) | ((first | refine st_reg ?_ | ((with_reducible show callMP _ _ _ _ _ _); refine callM_of (ms ) (by decide) (by first | rfl | simp) (by first | rfl | simp) (by first | rfl | simp) (by first | rfl | simp) (fun rows2 hR2 hl2 => ?_);  obtain ⟨ys, rfl, q1, q2⟩ := hR2) | refine buildP_own ?_ | refine appP_own ?_ | ((with_reducible show callGP _ _ _ _ _ _ _); refine callG_b (sOnes wq (hL wq (hpq.mem_iff.2 (by simp)))) ?hcc ?hpp ?_; (case hcc => (first | rfl | (simp <;> fail))); (case hpp => (first | rfl | (simp <;> fail)))) | ((with_reducible show callGP _ _ _ _ _ _ _); refine callG_b (sNumbers wq (hL wq (hpq.mem_iff.2 (by simp)))) ?hcc ?hpp ?_; (case hcc => (first | rfl | (simp <;> fail))); (case hpp => (first | rfl | (simp <;> fail)))) | ((with_reducible show nextP _ _ _ _); refine next_of (by first | rfl | simp) (fun hl0 => ?_) (fun pe re hpm => ?_) <;> (first | (obtain ⟨wq, Rq, rfl, rfl, hpq⟩ := ents_perm hpm) | skip)) | refine callP_b (sOnes wq (hL wq (hpq.mem_iff.2 (by simp)))) rfl ?_ | refine callP_b (sNumbers wq (hL wq (hpq.mem_iff.2 (by simp)))) rfl ?_) <;> (simp -dsimp [hA, hB]; (repeat (simp -dsimp (disch := (first | omega | assumption | (refine Bool.eq_false_iff.1 ?_; assumption))) only [wrap_in, if_pos, if_neg]; (try simp -dsimp [hA, hB]))))) | ((first | refine guardP_of (fun hc => ?_) (fun hc => ?_) | refine st_cond rfl (fun hc => ?_) (fun hc => ?_)) <;> (try simp only [lqA, lqB, lqC, lqD, lqE, lqF, lqG, lqH, lqI, lqJ, lqK, lqL, lqM, lqN, lqO] at hc) <;> (try (exfalso; first | omega | exact bool_tf hc (by assumption) | exact bool_ft hc (by assumption) | exact absurd (by assumption) hc)) <;> (first | with_reducible show STri _ _ _ _ _ _ | (simp -dsimp [hA, hB, hc]; (repeat (simp -dsimp (disch := (first | omega | assumption | (refine Bool.eq_false_iff.1 ?_; assumption))) only [wrap_in, if_pos, if_neg]; (try simp -dsimp [hA, hB, hc]))))))))
  · have hL0 : L = [] := by simpa [entsU] using hl0
    subst hL0
    simp only [List.filter_nil, List.append_nil] at hperm
    have e : ys = leastL b := sortL_of (q1.trans (hperm.map numsL)) q2
    have hly := q1.length_eq
    have hly2 : ys.length = acc.length := by simpa using hly
    subst e
    rw [if_pos hly2.symm]
    exact ⟨_, rfl, .refl _⟩
  · have h1 : decide (popN wq = fewN b) = true := by simpa using (show popN wq = fewN b by omega)
    have hl2 := hpq.length_eq
    simp only [List.length_cons] at hl2
    refine ⟨Rq.length, by omega, by simp, Rq, some (entU wq), acc ++ [wq], rfl, fun x hx => hL x (hpq.mem_iff.2 (by simp [hx])), ?_, by simp; omega, by simp, by simp [rowsU_snoc]⟩
    refine List.Perm.trans ?_ hperm
    have := (hpq.filter fun x => decide (popN x = fewN b)).append_left acc
    rw [List.filter_cons_of_pos (p := fun x => decide (popN x = fewN b)) h1] at this
    rw [List.append_assoc]
    exact this.symm
  · have h1 : ¬ decide (popN wq = fewN b) = true := by simpa using (show ¬ popN wq = fewN b by omega)
    have hl2 := hpq.length_eq
    simp only [List.length_cons] at hl2
    refine ⟨Rq.length, by omega, by simp, Rq, some (entU wq), acc, rfl, fun x hx => hL x (hpq.mem_iff.2 (by simp [hx])), ?_, by omega, by simp, by simp⟩
    refine List.Perm.trans ?_ hperm
    have := (hpq.filter fun x => decide (popN x = fewN b)).append_left acc
    rw [List.filter_cons_of_neg (p := fun x => decide (popN x = fewN b)) h1] at this
    exact this.symm
end Go.Proofs.Ytakdmliblijgmaa
/- Wire, XVI: who is wrong. -/
namespace Go.Proofs.Ytakdmliblijgmaa
open Go.RowKit
theorem pop_two : ∀ x : Nat, x < 1024 → ∀ n : Nat, n < 11 → x < 2 ^ n → popN x ≤ n := by decide +kernel
theorem set_pop {b : Wbk} (hb : BkOK b) {x : Nat} (hx : x ∈ setsL b) : popN x ≤ b.srcs.length := by
  obtain ⟨y, hy, rfl⟩ := mem_setsL.1 hx
  obtain ⟨k, hk, rfl⟩ := List.mem_map.1 hy
  have h1 := wrongTo_lt hb (b.nlo + k) b.notes.length (Nat.le_refl _)
  exact pop_two _ (set_lt hb hx) _ (by have := hb.len; omega) h1
theorem sets_ne {b : Wbk} (hb : BkOK b) : ∃ x, x ∈ setsL b := by
  have n1 := hb.n1
  refine ⟨wrongN b b.nlo, mem_setsL.2 ⟨(b.nlo, wrongN b b.nlo), ?_, rfl⟩⟩
  unfold allL bookN
  exact List.mem_map.2 ⟨0, List.mem_range.2 (by omega), by simp⟩
theorem least_ne {b : Wbk} (hb : BkOK b) : ∃ x, x ∈ leastS b := by
  obtain ⟨x, hx⟩ := sets_ne hb
  have h1 := minU_le (setsL b) b.srcs.length
  rcases minU_at (setsL b) b.srcs.length with h | ⟨y, hy, h⟩
  · have h2 := h1.2 x hx
    have h3 := set_pop hb hx
    exact ⟨x, List.mem_filter.2 ⟨hx, by simp only [decide_eq_true_eq]; unfold fewN; omega⟩⟩
  · exact ⟨y, List.mem_filter.2 ⟨hy, by simp only [decide_eq_true_eq]; unfold fewN; omega⟩⟩
theorem leastL_ne {b : Wbk} (hb : BkOK b) : ∃ s r, leastL b = s :: r := by
  obtain ⟨x, hx⟩ := least_ne hb
  have h : numsL x ∈ leastL b := (List.mergeSort_perm _ _).mem_iff.2 (List.mem_map.2 ⟨x, hx, rfl⟩)
  cases e : leastL b with
  | nil => rw [e] at h; cases h
  | cons s r => exact ⟨s, r, rfl⟩
theorem sWrongs (w : List Wsrc) (hw : WLen w) (l : List Wnt) (hl : l.length ≤ 1000000) (nlo nhi : Int) : SC Try.prog 26 [slSr w, slN l, .agg [I nlo, I nhi]]
    (.tup [slL (if newErr w l nlo nhi = 0 then leastL (newBk w l nlo nhi) else []), I (newErr w l nlo nhi)]) := by
  refine law_wire_Wrong _ _ (by simp) ?_
  have sb := sNewBook w hw l hl nlo nhi
  by_cases h : newErr w l nlo nhi = 0
  · have hb := new_bk h
    have sf := sLeast _ hb
    rw [if_pos h]
    rw [h] at sb ⊢
    generalize newBk w l nlo nhi = b at *
    generalize leastL b = r at *
    (repeat' (first | ((first | with_reducible refine st_skip ?_ | with_reducible refine st_exit ?_); (try simp only [seqQ, blockQ, loopQ, forQ, whileQ, reduceIte, Nat.reduceEqDiff])) | (with_reducible refine st_ret ?_; ((try simp only [seqQ, blockQ, loopQ, forQ, whileQ]); first | (with_reducible refine retM_ret ?_) | refine retQ_ret ?_; simp)) | refine st_seq ?_ | refine st_block ?_ | ((with_reducible show (STri _ _ _ _ _) ∧ (STri _ _ _ _ _)); refine And.intro ?_ ?_) | ((first | refine st_reg ?_ | refine buildP_own ?_ | refine appP_own ?_ | refine callP_b (sb) rfl ?_ | refine callP_b (sf) rfl ?_) <;> (simp -dsimp; (repeat (simp -dsimp (disch := (first | omega | assumption | (refine Bool.eq_false_iff.1 ?_; assumption))) only [wrap_in, if_pos, if_neg]; (try simp -dsimp))))) | ((first | refine guardP_of (fun hc => ?_) (fun hc => ?_) | refine st_cond rfl (fun hc => ?_) (fun hc => ?_)) <;> (try simp only [lqA, lqB, lqC, lqD, lqE, lqF, lqG, lqH, lqI, lqJ, lqK, lqL, lqM, lqN, lqO] at hc) <;> (try (exfalso; first | omega | exact bool_tf hc (by assumption) | exact bool_ft hc (by assumption) | exact absurd (by assumption) hc)) <;> (first | with_reducible show STri _ _ _ _ _ _ | (simp -dsimp [hc]; (repeat (simp -dsimp (disch := (first | omega | assumption | (refine Bool.eq_false_iff.1 ?_; assumption))) only [wrap_in, if_pos, if_neg]; (try simp -dsimp [hc]))))))))
    all_goals exact .refl _
  · rw [if_neg h]
    generalize newErr w l nlo nhi = e at *
    generalize newBk w l nlo nhi = b at *
    (repeat' (first | ((first | with_reducible refine st_skip ?_ | with_reducible refine st_exit ?_); (try simp only [seqQ, blockQ, loopQ, forQ, whileQ, reduceIte, Nat.reduceEqDiff])) | (with_reducible refine st_ret ?_; ((try simp only [seqQ, blockQ, loopQ, forQ, whileQ]); first | (with_reducible refine retM_ret ?_) | refine retQ_ret ?_; simp [h])) | refine st_seq ?_ | refine st_block ?_ | ((with_reducible show (STri _ _ _ _ _) ∧ (STri _ _ _ _ _)); refine And.intro ?_ ?_) | ((first | refine st_reg ?_ | refine buildP_own ?_ | refine appP_own ?_ | refine callP_b (sb) rfl ?_) <;> (simp -dsimp [h]; (repeat (simp -dsimp (disch := (first | omega | assumption | (refine Bool.eq_false_iff.1 ?_; assumption))) only [wrap_in, if_pos, if_neg]; (try simp -dsimp [h]))))) | ((first | refine guardP_of (fun hc => ?_) (fun hc => ?_) | refine st_cond rfl (fun hc => ?_) (fun hc => ?_)) <;> (try simp only [lqA, lqB, lqC, lqD, lqE, lqF, lqG, lqH, lqI, lqJ, lqK, lqL, lqM, lqN, lqO] at hc) <;> (try (exfalso; first | omega | exact bool_tf hc (by assumption) | exact bool_ft hc (by assumption) | exact absurd (by assumption) hc)) <;> (first | with_reducible show STri _ _ _ _ _ _ | (simp -dsimp [h, hc]; (repeat (simp -dsimp (disch := (first | omega | assumption | (refine Bool.eq_false_iff.1 ?_; assumption))) only [wrap_in, if_pos, if_neg]; (try simp -dsimp [h, hc]))))))))
    all_goals exact cle_nilT 1 _
def convE : List (List Int) → Int × Int
  | [] :: _ => (0, 7)
  | (_ :: _ :: _) :: _ => (0, 9)
  | [_] :: _ :: _ => (0, 6)
  | [[x]] => (x, 0)
  | [] => (0, 0)
theorem sConvict (w : List Wsrc) (hw : WLen w) (l : List Wnt) (hl : l.length ≤ 1000000) (nlo nhi : Int) : SC Try.prog 27 [slSr w, slN l, .agg [I nlo, I nhi]]
    (.tup [I (if newErr w l nlo nhi = 0 then (convE (leastL (newBk w l nlo nhi))).1 else 0), I (if newErr w l nlo nhi = 0 then (convE (leastL (newBk w l nlo nhi))).2 else newErr w l nlo nhi)]) := by
  refine law_wire_Convict _ _ (by simp) ?_
  have sb := sNewBook w hw l hl nlo nhi
  by_cases h : newErr w l nlo nhi = 0
  · have hb := new_bk h
    have sf := sLeast _ hb
    obtain ⟨s, r, hsr⟩ := leastL_ne hb
    rw [if_pos h, if_pos h]
    rw [h] at sb
    generalize newBk w l nlo nhi = b at *
    rw [hsr] at sf ⊢
    rcases s with _ | ⟨x, _ | ⟨y, s⟩⟩
    · (repeat' (first | ((first | with_reducible refine st_skip ?_ | with_reducible refine st_exit ?_); (try simp only [seqQ, blockQ, loopQ, forQ, whileQ, reduceIte, Nat.reduceEqDiff])) | (with_reducible refine st_ret ?_; ((try simp only [seqQ, blockQ, loopQ, forQ, whileQ]); first | (with_reducible refine retM_ret ?_) | refine retQ_ret ?_; simp)) | refine st_seq ?_ | refine st_block ?_ | ((with_reducible show (STri _ _ _ _ _) ∧ (STri _ _ _ _ _)); refine And.intro ?_ ?_) | ((first | refine st_reg ?_ | refine buildP_own ?_ | refine appP_own ?_ | refine callP_b (sb) rfl ?_ | refine callP_b (sf) rfl ?_) <;> (simp -dsimp; (repeat (simp -dsimp (disch := (first | omega | assumption | (refine Bool.eq_false_iff.1 ?_; assumption))) only [wrap_in, if_pos, if_neg]; (try simp -dsimp))))) | ((first | refine guardP_of (fun hc => ?_) (fun hc => ?_) | refine st_cond rfl (fun hc => ?_) (fun hc => ?_)) <;> (try simp only [lqA, lqB, lqC, lqD, lqE, lqF, lqG, lqH, lqI, lqJ, lqK, lqL, lqM, lqN, lqO] at hc) <;> (try (exfalso; first | omega | exact bool_tf hc (by assumption) | exact bool_ft hc (by assumption) | exact absurd (by assumption) hc)) <;> (first | with_reducible show STri _ _ _ _ _ _ | (simp -dsimp [hc]; (repeat (simp -dsimp (disch := (first | omega | assumption | (refine Bool.eq_false_iff.1 ?_; assumption))) only [wrap_in, if_pos, if_neg]; (try simp -dsimp [hc]))))))))
      all_goals exact .refl _
    · rcases r with _ | ⟨t, r⟩
      · (repeat' (first | ((first | with_reducible refine st_skip ?_ | with_reducible refine st_exit ?_); (try simp only [seqQ, blockQ, loopQ, forQ, whileQ, reduceIte, Nat.reduceEqDiff])) | (with_reducible refine st_ret ?_; ((try simp only [seqQ, blockQ, loopQ, forQ, whileQ]); first | (with_reducible refine retM_ret ?_) | refine retQ_ret ?_; simp)) | refine st_seq ?_ | refine st_block ?_ | ((with_reducible show (STri _ _ _ _ _) ∧ (STri _ _ _ _ _)); refine And.intro ?_ ?_) | ((first | refine st_reg ?_ | refine buildP_own ?_ | refine appP_own ?_ | refine callP_b (sb) rfl ?_ | refine callP_b (sf) rfl ?_) <;> (simp -dsimp; (repeat (simp -dsimp (disch := (first | omega | assumption | (refine Bool.eq_false_iff.1 ?_; assumption))) only [wrap_in, if_pos, if_neg]; (try simp -dsimp))))) | ((first | refine guardP_of (fun hc => ?_) (fun hc => ?_) | refine st_cond rfl (fun hc => ?_) (fun hc => ?_)) <;> (try simp only [lqA, lqB, lqC, lqD, lqE, lqF, lqG, lqH, lqI, lqJ, lqK, lqL, lqM, lqN, lqO] at hc) <;> (try (exfalso; first | omega | exact bool_tf hc (by assumption) | exact bool_ft hc (by assumption) | exact absurd (by assumption) hc)) <;> (first | with_reducible show STri _ _ _ _ _ _ | (simp -dsimp [hc]; (repeat (simp -dsimp (disch := (first | omega | assumption | (refine Bool.eq_false_iff.1 ?_; assumption))) only [wrap_in, if_pos, if_neg]; (try simp -dsimp [hc]))))))))
        all_goals exact .refl _
      · have h1 : (1 : Int) < (r.length : Int) + 1 + 1 := by omega
        (repeat' (first | ((first | with_reducible refine st_skip ?_ | with_reducible refine st_exit ?_); (try simp only [seqQ, blockQ, loopQ, forQ, whileQ, reduceIte, Nat.reduceEqDiff])) | (with_reducible refine st_ret ?_; ((try simp only [seqQ, blockQ, loopQ, forQ, whileQ]); first | (with_reducible refine retM_ret ?_) | refine retQ_ret ?_; simp [h1])) | refine st_seq ?_ | refine st_block ?_ | ((with_reducible show (STri _ _ _ _ _) ∧ (STri _ _ _ _ _)); refine And.intro ?_ ?_) | ((first | refine st_reg ?_ | refine buildP_own ?_ | refine appP_own ?_ | refine callP_b (sb) rfl ?_ | refine callP_b (sf) rfl ?_) <;> (simp -dsimp [h1]; (repeat (simp -dsimp (disch := (first | omega | assumption | (refine Bool.eq_false_iff.1 ?_; assumption))) only [wrap_in, if_pos, if_neg]; (try simp -dsimp [h1]))))) | ((first | refine guardP_of (fun hc => ?_) (fun hc => ?_) | refine st_cond rfl (fun hc => ?_) (fun hc => ?_)) <;> (try simp only [lqA, lqB, lqC, lqD, lqE, lqF, lqG, lqH, lqI, lqJ, lqK, lqL, lqM, lqN, lqO] at hc) <;> (try (exfalso; first | omega | exact bool_tf hc (by assumption) | exact bool_ft hc (by assumption) | exact absurd (by assumption) hc)) <;> (first | with_reducible show STri _ _ _ _ _ _ | (simp -dsimp [h1, hc]; (repeat (simp -dsimp (disch := (first | omega | assumption | (refine Bool.eq_false_iff.1 ?_; assumption))) only [wrap_in, if_pos, if_neg]; (try simp -dsimp [h1, hc]))))))))
        all_goals exact .refl _
    · have h1 : (1 : Int) < (s.length : Int) + 1 + 1 := by omega
      have h2 : ¬ (s.length : Int) + 1 + 1 = 0 := by omega
      (repeat' (first | ((first | with_reducible refine st_skip ?_ | with_reducible refine st_exit ?_); (try simp only [seqQ, blockQ, loopQ, forQ, whileQ, reduceIte, Nat.reduceEqDiff])) | (with_reducible refine st_ret ?_; ((try simp only [seqQ, blockQ, loopQ, forQ, whileQ]); first | (with_reducible refine retM_ret ?_) | refine retQ_ret ?_; simp [h1, h2])) | refine st_seq ?_ | refine st_block ?_ | ((with_reducible show (STri _ _ _ _ _) ∧ (STri _ _ _ _ _)); refine And.intro ?_ ?_) | ((first | refine st_reg ?_ | refine buildP_own ?_ | refine appP_own ?_ | refine callP_b (sb) rfl ?_ | refine callP_b (sf) rfl ?_) <;> (simp -dsimp [h1, h2]; (repeat (simp -dsimp (disch := (first | omega | assumption | (refine Bool.eq_false_iff.1 ?_; assumption))) only [wrap_in, if_pos, if_neg]; (try simp -dsimp [h1, h2]))))) | ((first | refine guardP_of (fun hc => ?_) (fun hc => ?_) | refine st_cond rfl (fun hc => ?_) (fun hc => ?_)) <;> (try simp only [lqA, lqB, lqC, lqD, lqE, lqF, lqG, lqH, lqI, lqJ, lqK, lqL, lqM, lqN, lqO] at hc) <;> (try (exfalso; first | omega | exact bool_tf hc (by assumption) | exact bool_ft hc (by assumption) | exact absurd (by assumption) hc)) <;> (first | with_reducible show STri _ _ _ _ _ _ | (simp -dsimp [h1, h2, hc]; (repeat (simp -dsimp (disch := (first | omega | assumption | (refine Bool.eq_false_iff.1 ?_; assumption))) only [wrap_in, if_pos, if_neg]; (try simp -dsimp [h1, h2, hc]))))))))
      all_goals exact .refl _
  · rw [if_neg h, if_neg h]
    generalize newErr w l nlo nhi = e at *
    generalize newBk w l nlo nhi = b at *
    (repeat' (first | ((first | with_reducible refine st_skip ?_ | with_reducible refine st_exit ?_); (try simp only [seqQ, blockQ, loopQ, forQ, whileQ, reduceIte, Nat.reduceEqDiff])) | (with_reducible refine st_ret ?_; ((try simp only [seqQ, blockQ, loopQ, forQ, whileQ]); first | (with_reducible refine retM_ret ?_) | refine retQ_ret ?_; simp [h])) | refine st_seq ?_ | refine st_block ?_ | ((with_reducible show (STri _ _ _ _ _) ∧ (STri _ _ _ _ _)); refine And.intro ?_ ?_) | ((first | refine st_reg ?_ | refine buildP_own ?_ | refine appP_own ?_ | refine callP_b (sb) rfl ?_) <;> (simp -dsimp [h]; (repeat (simp -dsimp (disch := (first | omega | assumption | (refine Bool.eq_false_iff.1 ?_; assumption))) only [wrap_in, if_pos, if_neg]; (try simp -dsimp [h]))))) | ((first | refine guardP_of (fun hc => ?_) (fun hc => ?_) | refine st_cond rfl (fun hc => ?_) (fun hc => ?_)) <;> (try simp only [lqA, lqB, lqC, lqD, lqE, lqF, lqG, lqH, lqI, lqJ, lqK, lqL, lqM, lqN, lqO] at hc) <;> (try (exfalso; first | omega | exact bool_tf hc (by assumption) | exact bool_ft hc (by assumption) | exact absurd (by assumption) hc)) <;> (first | with_reducible show STri _ _ _ _ _ _ | (simp -dsimp [h, hc]; (repeat (simp -dsimp (disch := (first | omega | assumption | (refine Bool.eq_false_iff.1 ?_; assumption))) only [wrap_in, if_pos, if_neg]; (try simp -dsimp [h, hc]))))))))
    all_goals exact .refl _
end Go.Proofs.Ytakdmliblijgmaa
/- Wire, XVII: stretched errors. -/
namespace Go.Proofs.Ytakdmliblijgmaa
open Go.RowKit
theorem fClone (l : List (Int × Int)) (hl : l.length ≤ 1000000) : FC Try.prog 71 [slE l] none 25 2 (l.map rowE) := by
  refine flaw_slices_Clone_api_Span_api_Span _ _ _ _ _ (by simp) ?_
  rcases l with _ | ⟨x, l⟩
  · (repeat' (first | ((with_reducible show STri _ SCode.ret [(2, SV.c (CV.val (.slice none 0 0)))] _ _); refine st_nil 2 200 25 2 rfl (by simp [newOK]) ?_) | ((first | with_reducible refine st_skip ?_ | with_reducible refine st_exit ?_); (try simp only [seqQ, blockQ, loopQ, forQ, whileQ, reduceIte, Nat.reduceEqDiff])) | (with_reducible refine st_ret ?_; ((try simp only [seqQ, blockQ, loopQ, forQ, whileQ]); first | (with_reducible refine retM_ret ?_) | (with_reducible refine retF_ret ?_) | (with_reducible refine retO_ret ?_) | refine retQ_ret ?_; simp)) | refine st_seq ?_ | refine st_block ?_ | ((with_reducible show (STri _ _ _ _ _) ∧ (STri _ _ _ _ _)); refine And.intro ?_ ?_) | ((first | refine st_reg ?_ | refine buildP_own ?_ | refine appP_own ?_) <;> (simp -dsimp; (repeat (simp -dsimp (disch := (first | omega | assumption | (refine Bool.eq_false_iff.1 ?_; assumption))) only [wrap_in, if_pos, if_neg]; (try simp -dsimp))))) | ((first | refine guardP_of (fun hc => ?_) (fun hc => ?_) | refine st_cond rfl (fun hc => ?_) (fun hc => ?_)) <;> (try simp only [lqA, lqB, lqC, lqD, lqE, lqF, lqG, lqH, lqI, lqJ, lqK, lqL, lqM, lqN, lqO] at hc) <;> (try (exfalso; first | omega | exact bool_tf hc (by assumption) | exact bool_ft hc (by assumption) | exact absurd (by assumption) hc)) <;> (first | with_reducible show STri _ _ _ _ _ _ | (simp -dsimp [hc]; (repeat (simp -dsimp (disch := (first | omega | assumption | (refine Bool.eq_false_iff.1 ?_; assumption))) only [wrap_in, if_pos, if_neg]; (try simp -dsimp [hc]))))))))
    all_goals first
      | exact ⟨200, by simp, rfl⟩
      | exact ⟨5, by simp, rfl⟩
  · have hA : l.length ≤ 9223372036854775806 := by simp at hl; omega
    have hB : (l.length + 1) * 16 ≤ 140737488355328 := by simp at hl; omega
    (repeat' (first | ((first | with_reducible refine st_skip ?_ | with_reducible refine st_exit ?_); (try simp only [seqQ, blockQ, loopQ, forQ, whileQ, reduceIte, Nat.reduceEqDiff])) | (with_reducible refine st_ret ?_; ((try simp only [seqQ, blockQ, loopQ, forQ, whileQ]); first | (with_reducible refine retM_ret ?_) | (with_reducible refine retF_ret ?_) | (with_reducible refine retO_ret ?_) | refine retQ_ret ?_; simp [hA, hB])) | refine st_seq ?_ | refine st_block ?_ | ((with_reducible show (STri _ _ _ _ _) ∧ (STri _ _ _ _ _)); refine And.intro ?_ ?_) | ((first | refine st_reg ?_ | refine buildP_own ?_ | refine appP_own ?_) <;> (simp -dsimp [hA, hB]; (repeat (simp -dsimp (disch := (first | omega | assumption | (refine Bool.eq_false_iff.1 ?_; assumption))) only [wrap_in, if_pos, if_neg]; (try simp -dsimp [hA, hB]))))) | ((first | refine guardP_of (fun hc => ?_) (fun hc => ?_) | refine st_cond rfl (fun hc => ?_) (fun hc => ?_)) <;> (try simp only [lqA, lqB, lqC, lqD, lqE, lqF, lqG, lqH, lqI, lqJ, lqK, lqL, lqM, lqN, lqO] at hc) <;> (try (exfalso; first | omega | exact bool_tf hc (by assumption) | exact bool_ft hc (by assumption) | exact absurd (by assumption) hc)) <;> (first | with_reducible show STri _ _ _ _ _ _ | (simp -dsimp [hA, hB, hc]; (repeat (simp -dsimp (disch := (first | omega | assumption | (refine Bool.eq_false_iff.1 ?_; assumption))) only [wrap_in, if_pos, if_neg]; (try simp -dsimp [hA, hB, hc]))))))))
    exact ⟨5, by simp, rfl⟩
def wide1 (e : List (Int × Int)) (j : Nat) (y : Int) : List (Int × Int) := e.set j ((e.getD j (0, 0)).1 - y, (e.getD j (0, 0)).2 + y)
def wideB (b : Wbk) (j : Nat) (y : Int) : Wbk := { b with errs := wide1 b.errs j y }
theorem sWider (b : Wbk) (j : Nat) (y : Int) (hl : b.errs.length ≤ 1000000) (hj : j < b.errs.length) (hb : ∀ e ∈ b.errs, -20000 ≤ e.1 ∧ e.1 ≤ 20000 ∧ -20000 ≤ e.2 ∧ e.2 ≤ 20000) (y0 : 0 ≤ y) (y1 : y ≤ 1000000) : SC Try.prog 57 [cBk b, I j, I y] (cBk (wideB b j y)) := by
  refine glaw_wire_book_wider _ _ (by simp) ?_
  have hc1 := fClone b.errs hl
  have he := hb _ (List.getElem_mem hj)
  have hg : b.errs.getD j (0, 0) = b.errs[j] := by simp [hj]
  have hset : (b.errs.map rowE).set j [I ((b.errs[j]).1 - y), I ((b.errs[j]).2 + y)] = (wideB b j y).errs.map rowE := by
    unfold wideB wide1
    rw [hg, List.map_set]
    rfl
  (repeat' (first | ((first | with_reducible refine st_skip ?_ | with_reducible refine st_exit ?_); (try simp only [seqQ, blockQ, loopQ, forQ, whileQ, reduceIte, Nat.reduceEqDiff])) | (with_reducible refine st_ret ?_; ((try simp only [seqQ, blockQ, loopQ, forQ, whileQ]); first | (with_reducible refine retM_ret ?_) | (with_reducible refine retF_ret ?_) | (with_reducible refine retO_ret ?_) | refine retQ_ret ?_; simp [hj, hset])) | refine st_seq ?_ | refine st_block ?_ | ((with_reducible show (STri _ _ _ _ _) ∧ (STri _ _ _ _ _)); refine And.intro ?_ ?_) | ((first | refine st_reg ?_ | refine buildP_own ?_ | refine appP_own ?_ | ((with_reducible show callGP _ _ _ _ _ _ _); refine callG_n (hc1) ?hcc ?hpp ?hnn ?_; (case hcc => (first | rfl | (simp <;> fail) | (simp [] <;> fail))); (case hpp => (first | rfl | (simp <;> fail) | (simp [] <;> fail))); (case hnn => (first | rfl | (simp <;> fail) | (simp [] <;> fail))))) <;> (simp -dsimp [hj, hset]; (repeat (simp -dsimp (disch := (first | omega | assumption | (refine Bool.eq_false_iff.1 ?_; assumption))) only [wrap_in, if_pos, if_neg]; (try simp -dsimp [hj, hset]))))) | ((first | refine guardP_of (fun hc => ?_) (fun hc => ?_) | refine st_cond rfl (fun hc => ?_) (fun hc => ?_)) <;> (try simp only [lqA, lqB, lqC, lqD, lqE, lqF, lqG, lqH, lqI, lqJ, lqK, lqL, lqM, lqN, lqO] at hc) <;> (try (exfalso; first | omega | exact bool_tf hc (by assumption) | exact bool_ft hc (by assumption) | exact absurd (by assumption) hc)) <;> (first | with_reducible show STri _ _ _ _ _ _ | (simp -dsimp [hj, hset, hc]; (repeat (simp -dsimp (disch := (first | omega | assumption | (refine Bool.eq_false_iff.1 ?_; assumption))) only [wrap_in, if_pos, if_neg]; (try simp -dsimp [hj, hset, hc]))))))))
  have hwl : b.errs.length = (wideB b j y).errs.length := by simp [wideB, wide1]
  rw [if_pos hwl]
  exact ⟨_, rfl, .refl _⟩
end Go.Proofs.Ytakdmliblijgmaa
/- Wire, XVIII: Stretch. -/
namespace Go.Proofs.Ytakdmliblijgmaa
open Go.RowKit
/-! Whether all notes are right with some correction -/
theorem step_ne (p : Nat → Bool) (acc : List (Int × Int)) (x : Int × Nat) : spanStep p acc x ≠ [] ↔ acc ≠ [] ∨ p x.2 = true := by
  unfold spanStep
  by_cases hp : p x.2 = true
  · rw [if_pos hp]
    rcases List.eq_nil_or_concat acc with rfl | ⟨ini, l, rfl⟩
    · simp [hp]
    · rw [List.concat_eq_append]
      simp only [List.getLast?_append, List.getLast?_singleton, Option.some_or]
      split <;> simp [hp]
  · rw [if_neg hp]; simp [hp]
theorem fold_ne (p : Nat → Bool) : ∀ (l : List (Int × Nat)) (acc : List (Int × Int)), l.foldl (spanStep p) acc ≠ [] ↔ acc ≠ [] ∨ ∃ x ∈ l, p x.2 = true
  | [], acc => by simp
  | x :: l, acc => by
    rw [List.foldl_cons, fold_ne p l, step_ne]
    constructor
    · rintro ((h | h) | ⟨y, hy, h⟩)
      · exact .inl h
      · exact .inr ⟨x, by simp, h⟩
      · exact .inr ⟨y, by simp [hy], h⟩
    · rintro (h | ⟨y, hy, h⟩)
      · exact .inl (.inl h)
      · rcases List.mem_cons.1 hy with rfl | hy
        · exact .inl (.inr h)
        · exact .inr ⟨y, hy, h⟩
theorem spans_ne (b : Wbk) (p : Nat → Bool) : spansL b p ≠ [] ↔ ∃ x ∈ allL b, p x.2 = true := by
  unfold spansL
  rw [fold_ne]; simp
theorem mem_allL {b : Wbk} {x : Int × Nat} : x ∈ allL b ↔ b.nlo ≤ x.1 ∧ x.1 ≤ b.nhi ∧ x.2 = wrongN b x.1 := by
  unfold allL bookN
  rw [List.mem_map]
  constructor
  · rintro ⟨k, hk, rfl⟩
    have := List.mem_range.1 hk
    exact ⟨by omega, by omega, rfl⟩
  · rintro ⟨h1, h2, h3⟩
    refine ⟨(x.1 - b.nlo).toNat, List.mem_range.2 (by omega), ?_⟩
    have e : b.nlo + ((x.1 - b.nlo).toNat : Int) = x.1 := by omega
    rw [e, ← h3]
theorem wrong_zero {b : Wbk} {y : Int} : wrongN b y = 0 ↔ ∀ n ∈ b.notes, rightN b n y = true := by
  constructor
  · intro h n hn
    have hb := wrongTo_bit b y b.notes.length n.src.toNat (Nat.le_refl _)
    change (wrongN b y).testBit _ = _ at hb
    rw [h, Nat.zero_testBit] at hb
    have hb := hb.symm
    unfold wrongB at hb
    rw [List.take_length, List.any_eq_false] at hb
    have := hb n hn
    simpa using this
  · intro h
    apply Nat.eq_of_testBit_eq
    intro i
    rw [Nat.zero_testBit]
    have hb := wrongTo_bit b y b.notes.length i (Nat.le_refl _)
    change (wrongN b y).testBit _ = _ at hb
    rw [hb]
    unfold wrongB
    rw [List.take_length, List.any_eq_false]
    intro n hn
    simp [h n hn]
def fitB (b : Wbk) : Bool := !(spansL b fun m => decide (m = 0)).isEmpty
theorem fit_iff {b : Wbk} : fitB b = true ↔ ∃ y, b.nlo ≤ y ∧ y ≤ b.nhi ∧ ∀ n ∈ b.notes, rightN b n y = true := by
  have h := spans_ne b fun m => decide (m = 0)
  unfold fitB
  rw [Bool.not_eq_true', List.isEmpty_eq_false_iff, h]
  constructor
  · rintro ⟨x, hx, hp⟩
    obtain ⟨h1, h2, h3⟩ := mem_allL.1 hx
    exact ⟨x.1, h1, h2, wrong_zero.1 (by rw [← h3]; simpa using hp)⟩
  · rintro ⟨y, h1, h2, h3⟩
    exact ⟨(y, wrongN b y), mem_allL.2 ⟨h1, h2, rfl⟩, by simpa using wrong_zero.2 h3⟩
/-! Wider errors -/
theorem emod_add_le (x d m : Int) (hm : 0 < m) (hd : 0 ≤ d) : (x + d) % m ≤ x % m + d := by
  have h1 := Int.emod_add_mul_ediv x m
  have h2 := Int.emod_nonneg x (show m ≠ 0 by omega)
  have e : (x + d) % m = (x % m + d) % m := by
    conv => lhs; rw [← h1]
    rw [Int.add_right_comm, Int.add_mul_emod_self_left]
  rw [e]
  have h3 : 0 ≤ (x % m + d) / m := Int.ediv_nonneg (by omega) (by omega)
  have h4 := Int.emod_add_mul_ediv (x % m + d) m
  have h5 : 0 ≤ m * ((x % m + d) / m) := Int.mul_nonneg (by omega) h3
  omega
theorem within_mono {lo hi lo' hi' n : Int} (h1 : lo' ≤ lo) (h2 : hi ≤ hi') (h : within1 lo hi n = true) : within1 lo' hi' n = true := by
  unfold within1 at *
  simp at *
  omega
theorem right_mono {s : Wsrc} (hs : validV s = true) (hk : kindOK s.kind = true) {t said elo ehi elo' ehi' : Int} {d : Int} (hd : 0 ≤ d) (h1 : elo' = elo - d) (h2 : ehi' = ehi + d) (h : rightB s t said elo ehi = true) : rightB s t said elo' ehi' = true := by
  subst h1 h2
  unfold rightB at *
  rcases kind_cases hk with hq | hq | hq | hq <;> simp only [hq, if_true, Int.reduceEq, if_false] at h ⊢
  · unfold clockR clLo clHi at *
    simp only [Bool.and_eq_true, decide_eq_true_eq] at *
    refine ⟨h.1, ?_⟩
    generalize s.dlo * (t - s.at') / 86400000 = X at *
    generalize upI (s.dhi * (t - s.at')) 86400000 = Y at *
    have e : said - t - (elo - d + X) = said - t - (elo + X) + d := by omega
    have := emod_add_le (said - t - (elo + X)) d 43200 (by omega) hd
    rw [e]
    omega
  · unfold eventR at *
    simp only [decide_eq_true_eq] at *
    have hev : 0 < s.every := by
      unfold validV useV at hs
      rw [hq] at hs
      simp only [Int.reduceEq, if_true, if_false, Bool.and_eq_true] at hs
      have := eventV_is hs.2
      omega
    have g1 : (t - s.at' - elo) / s.every ≤ (t - s.at' - (elo - d)) / s.every := Int.ediv_le_ediv hev (by omega)
    have g2 : upI (t - s.at' - (ehi + d)) s.every ≤ upI (t - s.at' - ehi) s.every := by
      unfold upI
      have := Int.ediv_le_ediv hev (show -(t - s.at' - ehi) ≤ -(t - s.at' - (ehi + d)) by omega)
      omega
    omega
  · unfold sunR at *
    rw [List.any_eq_true] at *
    obtain ⟨x, hx, h⟩ := h
    exact ⟨x, hx, within_mono (by omega) (by omega) h⟩
  · exact within_mono (by omega) (by omega) h
end Go.Proofs.Ytakdmliblijgmaa
/- Wire, XIX: Stretch, its walk. -/
namespace Go.Proofs.Ytakdmliblijgmaa
open Go.RowKit
theorem wide_get (e : List (Int × Int)) (j i : Nat) (y : Int) (hj : j < e.length) : (wide1 e j y).getD i (0, 0) = if i = j then ((e.getD j (0, 0)).1 - y, (e.getD j (0, 0)).2 + y) else e.getD i (0, 0) := by
  unfold wide1
  simp only [List.getD_eq_getElem?_getD, List.getElem?_set]
  by_cases h : j = i
  · subst h; simp [hj]
  · rw [if_neg h, if_neg (Ne.symm h)]
theorem rightN_mono {b : Wbk} (hb : BkOK b) {j : Nat} (hj : j < b.errs.length) {y y' : Int} (hy : y ≤ y') {n : Wnt} (hn : n ∈ b.notes) {t : Int} (h : rightN (wideB b j y) n t = true) : rightN (wideB b j y') n t = true := by
  obtain ⟨n1, n2, _⟩ := hb.no n hn
  have hs : n.src.toNat < b.srcs.length := by omega
  have hv := hb.va _ (List.getElem_mem hs)
  have e1 : b.srcs.getD n.src.toNat noSrc = b.srcs[n.src.toNat] := by simp [hs]
  have hk : kindOK (b.srcs[n.src.toNat]).kind = true := by
    unfold validV baseV at hv
    simp at hv; exact hv.1.1
  unfold rightN at *
  simp only [wideB] at *
  rw [Bool.and_eq_true] at *
  refine ⟨h.1, ?_⟩
  have h2 := h.2
  rw [e1] at h2 ⊢
  rw [wide_get _ _ _ _ hj] at h2 ⊢
  by_cases hij : n.src.toNat = j
  · rw [if_pos hij] at h2 ⊢
    exact right_mono hv hk (d := y' - y) (by omega) (by simp only; omega) (by simp only; omega) h2
  · rw [if_neg hij] at h2 ⊢
    exact h2
theorem fit_mono {b : Wbk} (hb : BkOK b) {j : Nat} (hj : j < b.errs.length) {y y' : Int} (hy : y ≤ y') (h : fitB (wideB b j y) = true) : fitB (wideB b j y') = true := by
  obtain ⟨t, h1, h2, h3⟩ := fit_iff.1 h
  exact fit_iff.2 ⟨t, h1, h2, fun n hn => rightN_mono hb hj hy hn (h3 n hn)⟩
theorem wide_ok {b : Wbk} (hb : BkOK b) (he : ∀ e ∈ b.errs, -3600 ≤ e.1 ∧ e.1 ≤ 3600 ∧ -3600 ≤ e.2 ∧ e.2 ≤ 3600) {j : Nat} (hj : j < b.errs.length) {y : Int} (y0 : 0 ≤ y) (y1 : y ≤ 10000) : BkOK (wideB b j y) := by
  refine ⟨hb.len, by simp [wideB, wide1, hb.el], hb.va, fun e hm => ?_, hb.nl, hb.no, hb.n0, hb.n1, hb.n2⟩
  rcases List.mem_or_eq_of_mem_set hm with h | rfl
  · have := he e h; omega
  · have hg : b.errs.getD j (0, 0) = b.errs[j] := by simp [hj]
    have := he _ (List.getElem_mem hj)
    rw [hg]
    simp only
    omega
def leastN (p : Nat → Bool) (n : Nat) : Nat := ((List.range n).find? p).getD n
theorem leastN_is {p : Nat → Bool} {n m : Nat} (h1 : m ≤ n) (h2 : ∀ i, i < m → p i = false) (h3 : m < n → p m = true) : leastN p n = m := by
  unfold leastN
  by_cases hm : m < n
  · have : (List.range n).find? p = some m := by
      rw [List.find?_range_eq_some]
      refine ⟨h3 hm, by simpa using hm, fun j hj => by simp [h2 j hj]⟩
    rw [this]; rfl
  · have : (List.range n).find? p = none := by
      rw [List.find?_eq_none]
      intro i hi
      have := List.mem_range.1 hi
      simp [h2 i (by omega)]
    rw [this]
    simp; omega
def strN (b : Wbk) (j : Nat) : Nat := leastN (fun y => fitB (wideB b j y)) 10001
def strI (b : Wbk) (j : Nat) (m : Nat) (T : TL) (H : HL) : Prop := ∃ lo hi : Nat, lo ≤ hi ∧ hi ≤ 10001 ∧ m = hi - lo ∧ (∀ i, i < lo → fitB (wideB b j (i : Nat)) = false) ∧ (hi < 10001 → fitB (wideB b j (hi : Nat)) = true) ∧
  T = [(3, .c (I (j : Nat))), (10, .ptr 10 0), (12, .c (I lo)), (13, .c (I hi))] ∧ H = [(10, .box 91 ((rowBk b).map .c))]
theorem sStretch (w : List Wsrc) (hw : WLen w) (l : List Wnt) (hl : l.length ≤ 1000000) (nlo nhi src : Int) : SC Try.prog 30 [slSr w, slN l, .agg [I nlo, I nhi], I src]
    (.tup [I (if newErr w l nlo nhi = 0 then (if within1 0 (w.length - 1) src = true then (if strN (newBk w l nlo nhi) src.toNat ≤ 10000 then (strN (newBk w l nlo nhi) src.toNat : Nat) else 0) else 0) else 0),
      I (if newErr w l nlo nhi = 0 then (if within1 0 (w.length - 1) src = true then (if strN (newBk w l nlo nhi) src.toNat ≤ 10000 then 0 else 9) else 7) else newErr w l nlo nhi)]) := by
  refine law_wire_Stretch _ _ (by simp) ?_
  have sb := sNewBook w hw l hl nlo nhi
  have s1 := sWithinW 0 (w.length - 1) [src] (by simp)
  rw [allIn_one] at s1
  by_cases h : newErr w l nlo nhi = 0
  case neg =>
    rw [if_neg h, if_neg h]
    generalize newErr w l nlo nhi = e at *
    generalize newBk w l nlo nhi = b at *
    (repeat' (first | ((first | with_reducible refine st_skip ?_ | with_reducible refine st_exit ?_); (try simp only [seqQ, blockQ, loopQ, forQ, whileQ, reduceIte, Nat.reduceEqDiff])) | (with_reducible refine st_ret ?_; ((try simp only [seqQ, blockQ, loopQ, forQ, whileQ]); first | (with_reducible refine retM_ret ?_) | refine retQ_ret ?_; simp [h])) | refine st_seq ?_ | refine st_block ?_ | ((with_reducible show (STri _ _ _ _ _) ∧ (STri _ _ _ _ _)); refine And.intro ?_ ?_) | ((first | refine st_reg ?_ | refine buildP_own ?_ | refine appP_own ?_ | refine callP_b (sb) rfl ?_) <;> (simp -dsimp [h]; (repeat (simp -dsimp (disch := (first | omega | assumption | (refine Bool.eq_false_iff.1 ?_; assumption))) only [wrap_in, if_pos, if_neg]; (try simp -dsimp [h]))))) | ((first | refine guardP_of (fun hc => ?_) (fun hc => ?_) | refine st_cond rfl (fun hc => ?_) (fun hc => ?_)) <;> (try simp only [lqA, lqB, lqC, lqD, lqE, lqF, lqG, lqH, lqI, lqJ, lqK, lqL, lqM, lqN, lqO] at hc) <;> (try (exfalso; first | omega | exact bool_tf hc (by assumption) | exact bool_ft hc (by assumption) | exact absurd (by assumption) hc)) <;> (first | with_reducible show STri _ _ _ _ _ _ | (simp -dsimp [h, hc]; (repeat (simp -dsimp (disch := (first | omega | assumption | (refine Bool.eq_false_iff.1 ?_; assumption))) only [wrap_in, if_pos, if_neg]; (try simp -dsimp [h, hc]))))))))
    all_goals exact .refl _
  have hb := new_bk h
  have hsr := new_srcs h
  have hwl : w.length ≤ 10 := by have := hb.len; rw [hsr] at this; exact this
  have he : ∀ e ∈ (newBk w l nlo nhi).errs, -3600 ≤ e.1 ∧ e.1 ≤ 3600 ∧ -3600 ≤ e.2 ∧ e.2 ≤ 3600 := fun e hm => by
    rw [(new_ok h).1] at hm
    obtain ⟨s, hs, rfl⟩ := List.mem_map.1 hm
    have := List.all_eq_true.1 (new_ok h).2.2.1 s hs
    unfold validV baseV spanW at this
    simp at this
    show -3600 ≤ s.elo ∧ s.elo ≤ 3600 ∧ -3600 ≤ s.ehi ∧ s.ehi ≤ 3600
    omega
  rw [if_pos h, if_pos h]
  rw [h] at sb
  generalize newBk w l nlo nhi = b at *
  by_cases hq : within1 0 (w.length - 1) src = true
  case neg =>
    rw [if_neg hq, if_neg hq]
    rw [Bool.not_eq_true] at hq
    rw [hq] at s1
    (repeat' (first | ((first | with_reducible refine st_skip ?_ | with_reducible refine st_exit ?_); (try simp only [seqQ, blockQ, loopQ, forQ, whileQ, reduceIte, Nat.reduceEqDiff])) | (with_reducible refine st_ret ?_; ((try simp only [seqQ, blockQ, loopQ, forQ, whileQ]); first | (with_reducible refine retM_ret ?_) | refine retQ_ret ?_; simp)) | refine st_seq ?_ | refine st_block ?_ | ((with_reducible show (STri _ _ _ _ _) ∧ (STri _ _ _ _ _)); refine And.intro ?_ ?_) | ((first | refine st_reg ?_ | refine buildP_own ?_ | refine appP_own ?_ | refine callP_b (sb) rfl ?_ | refine callP_b (s1) rfl ?_) <;> (simp -dsimp; (repeat (simp -dsimp (disch := (first | omega | assumption | (refine Bool.eq_false_iff.1 ?_; assumption))) only [wrap_in, if_pos, if_neg]; (try simp -dsimp))))) | ((first | refine guardP_of (fun hc => ?_) (fun hc => ?_) | refine st_cond rfl (fun hc => ?_) (fun hc => ?_)) <;> (try simp only [lqA, lqB, lqC, lqD, lqE, lqF, lqG, lqH, lqI, lqJ, lqK, lqL, lqM, lqN, lqO] at hc) <;> (try (exfalso; first | omega | exact bool_tf hc (by assumption) | exact bool_ft hc (by assumption) | exact absurd (by assumption) hc)) <;> (first | with_reducible show STri _ _ _ _ _ _ | (simp -dsimp [hc]; (repeat (simp -dsimp (disch := (first | omega | assumption | (refine Bool.eq_false_iff.1 ?_; assumption))) only [wrap_in, if_pos, if_neg]; (try simp -dsimp [hc]))))))))
    all_goals exact .refl _
  rw [if_pos hq, if_pos hq]
  rw [hq] at s1
  obtain ⟨j, hjs⟩ : ∃ j : Nat, src = j := ⟨src.toNat, by unfold within1 at hq; simp at hq; omega⟩
  subst hjs
  rw [Int.toNat_natCast]
  have hj : j < b.errs.length := by
    rw [hb.el, hsr]
    unfold within1 at hq; simp at hq; omega
  have hel : b.errs.length ≤ 1000000 := by rw [hb.el, hsr]; omega
  (repeat' (first | ((first | with_reducible refine st_skip ?_ | with_reducible refine st_exit ?_); (try simp only [seqQ, blockQ, loopQ, forQ, whileQ, reduceIte, Nat.reduceEqDiff])) | (with_reducible refine st_ret ?_; ((try simp only [seqQ, blockQ, loopQ, forQ, whileQ]); first | (with_reducible refine retM_ret ?_) | refine retQ_ret ?_; simp)) | refine st_seq ?_ | refine st_block ?_ | ((with_reducible show (STri _ _ _ _ _) ∧ (STri _ _ _ _ _)); refine And.intro ?_ ?_) | ((first | refine st_reg ?_ | refine buildP_own ?_ | refine appP_own ?_ | refine callP_b (sb) rfl ?_ | refine callP_b (s1) rfl ?_) <;> (simp -dsimp; (repeat (simp -dsimp (disch := (first | omega | assumption | (refine Bool.eq_false_iff.1 ?_; assumption))) only [wrap_in, if_pos, if_neg]; (try simp -dsimp))))) | ((first | refine guardP_of (fun hc => ?_) (fun hc => ?_) | refine st_cond rfl (fun hc => ?_) (fun hc => ?_)) <;> (try simp only [lqA, lqB, lqC, lqD, lqE, lqF, lqG, lqH, lqI, lqJ, lqK, lqL, lqM, lqN, lqO] at hc) <;> (try (exfalso; first | omega | exact bool_tf hc (by assumption) | exact bool_ft hc (by assumption) | exact absurd (by assumption) hc)) <;> (first | with_reducible show STri _ _ _ _ _ _ | (simp -dsimp [hc]; (repeat (simp -dsimp (disch := (first | omega | assumption | (refine Bool.eq_false_iff.1 ?_; assumption))) only [wrap_in, if_pos, if_neg]; (try simp -dsimp [hc]))))))))
  refine st_while [10] (strI b j) 10001 (by simp) ⟨0, 10001, by omega, by omega, rfl, by omega, by omega, by simp, by simp⟩ ?_
  rintro m T H ⟨lo, hi, h1, h2, rfl, h3, h4, rfl, rfl⟩
  by_cases hlt : lo < hi
  · have hlt2 : (lo : Int) < hi := by omega
    have hmid : ((lo : Int) + hi).tdiv 2 = ((lo + hi) / 2 : Nat) := by
      rw [Int.tdiv_eq_ediv_of_nonneg (by omega)]; omega
    obtain ⟨mid, hmd⟩ : ∃ mid, (lo + hi) / 2 = mid := ⟨_, rfl⟩
    rw [hmd] at hmid
    have hm1 : lo ≤ mid ∧ mid < hi := by omega
    have sw := sWider b j mid hel hj hb.er (by omega) (by omega)
    have hwo := wide_ok hb he hj (y := mid) (by omega) (by omega)
    have sp := sSpansL _ hwo (fun m => decide (m = 0)) 46 [] [] ⟨by kernel_rfl⟩ (fun x _ => sNobody x.2)
    have hf : fitB (wideB b j mid) = !(spansL (wideB b j mid) fun m => decide (m = 0)).isEmpty := rfl
    generalize (spansL (wideB b j mid) fun m => decide (m = 0)) = r at *
    (repeat' (first | ((first | with_reducible refine st_skip ?_ | with_reducible refine st_exit ?_); (try simp only [seqQ, blockQ, loopQ, forQ, whileQ, reduceIte, Nat.reduceEqDiff])) | (with_reducible refine st_ret ?_; ((try simp only [seqQ, blockQ, loopQ, forQ, whileQ]); first | (with_reducible refine retM_ret ?_) | refine retQ_ret ?_; simp [hlt2, hmid])) | refine st_seq ?_ | refine st_block ?_ | ((with_reducible show (STri _ _ _ _ _) ∧ (STri _ _ _ _ _)); refine And.intro ?_ ?_) | ((first | refine st_reg ?_ | refine buildP_own ?_ | refine appP_own ?_ | refine callP_b (sw) rfl ?_ | refine callP_b (sp) rfl ?_) <;> (simp -dsimp [hlt2, hmid]; (repeat (simp -dsimp (disch := (first | omega | assumption | (refine Bool.eq_false_iff.1 ?_; assumption))) only [wrap_in, if_pos, if_neg]; (try simp -dsimp [hlt2, hmid]))))) | ((first | refine guardP_of (fun hc => ?_) (fun hc => ?_) | refine st_cond rfl (fun hc => ?_) (fun hc => ?_)) <;> (try simp only [lqA, lqB, lqC, lqD, lqE, lqF, lqG, lqH, lqI, lqJ, lqK, lqL, lqM, lqN, lqO] at hc) <;> (try (exfalso; first | omega | exact bool_tf hc (by assumption) | exact bool_ft hc (by assumption) | exact absurd (by assumption) hc)) <;> (first | with_reducible show STri _ _ _ _ _ _ | (simp -dsimp [hlt2, hmid, hc]; (repeat (simp -dsimp (disch := (first | omega | assumption | (refine Bool.eq_false_iff.1 ?_; assumption))) only [wrap_in, if_pos, if_neg]; (try simp -dsimp [hlt2, hmid, hc]))))))))
    · have hfm : fitB (wideB b j mid) = true := by
        rw [hf]
        cases r with
        | nil => simp at hc
        | cons => rfl
      exact ⟨mid - lo, by omega, by simp, lo, mid, by omega, by omega, rfl, h3, fun _ => hfm, by simp, by simp⟩
    · have hfm : fitB (wideB b j mid) = false := by
        rw [hf]
        cases r with
        | nil => rfl
        | cons => simp at hc
      refine ⟨hi - (mid + 1), by omega, by simp, mid + 1, hi, by omega, by omega, rfl, fun i hi2 => ?_, h4, by simp, by simp⟩
      cases hfi : fitB (wideB b j (i : Nat)) with
      | false => rfl
      | true =>
        have := fit_mono hb hj (y := (i : Nat)) (y' := (mid : Nat)) (by omega) hfi
        rw [hfm] at this; cases this
  · have hlh : lo = hi := by omega
    subst hlh
    have hN : strN b j = lo := leastN_is h2 h3 h4
    rw [hN]
    by_cases h5 : lo ≤ 10000
    · have h6 : ¬ (10000 : Int) < lo := by omega
      rw [if_pos h5, if_pos h5]
      (repeat' (first | ((first | with_reducible refine st_skip ?_ | with_reducible refine st_exit ?_); (try simp only [seqQ, blockQ, loopQ, forQ, whileQ, reduceIte, Nat.reduceEqDiff])) | (with_reducible refine st_ret ?_; ((try simp only [seqQ, blockQ, loopQ, forQ, whileQ]); first | (with_reducible refine retM_ret ?_) | refine retQ_ret ?_; simp [h6])) | refine st_seq ?_ | refine st_block ?_ | ((with_reducible show (STri _ _ _ _ _) ∧ (STri _ _ _ _ _)); refine And.intro ?_ ?_) | ((first | refine st_reg ?_ | refine buildP_own ?_ | refine appP_own ?_) <;> (simp -dsimp [h6]; (repeat (simp -dsimp (disch := (first | omega | assumption | (refine Bool.eq_false_iff.1 ?_; assumption))) only [wrap_in, if_pos, if_neg]; (try simp -dsimp [h6]))))) | ((first | refine guardP_of (fun hc => ?_) (fun hc => ?_) | refine st_cond rfl (fun hc => ?_) (fun hc => ?_)) <;> (try simp only [lqA, lqB, lqC, lqD, lqE, lqF, lqG, lqH, lqI, lqJ, lqK, lqL, lqM, lqN, lqO] at hc) <;> (try (exfalso; first | omega | exact bool_tf hc (by assumption) | exact bool_ft hc (by assumption) | exact absurd (by assumption) hc)) <;> (first | with_reducible show STri _ _ _ _ _ _ | (simp -dsimp [h6, hc]; (repeat (simp -dsimp (disch := (first | omega | assumption | (refine Bool.eq_false_iff.1 ?_; assumption))) only [wrap_in, if_pos, if_neg]; (try simp -dsimp [h6, hc]))))))))
      all_goals exact .refl _
    · have h6 : (10000 : Int) < lo := by omega
      rw [if_neg h5, if_neg h5]
      (repeat' (first | ((first | with_reducible refine st_skip ?_ | with_reducible refine st_exit ?_); (try simp only [seqQ, blockQ, loopQ, forQ, whileQ, reduceIte, Nat.reduceEqDiff])) | (with_reducible refine st_ret ?_; ((try simp only [seqQ, blockQ, loopQ, forQ, whileQ]); first | (with_reducible refine retM_ret ?_) | refine retQ_ret ?_; simp [h6])) | refine st_seq ?_ | refine st_block ?_ | ((with_reducible show (STri _ _ _ _ _) ∧ (STri _ _ _ _ _)); refine And.intro ?_ ?_) | ((first | refine st_reg ?_ | refine buildP_own ?_ | refine appP_own ?_) <;> (simp -dsimp [h6]; (repeat (simp -dsimp (disch := (first | omega | assumption | (refine Bool.eq_false_iff.1 ?_; assumption))) only [wrap_in, if_pos, if_neg]; (try simp -dsimp [h6]))))) | ((first | refine guardP_of (fun hc => ?_) (fun hc => ?_) | refine st_cond rfl (fun hc => ?_) (fun hc => ?_)) <;> (try simp only [lqA, lqB, lqC, lqD, lqE, lqF, lqG, lqH, lqI, lqJ, lqK, lqL, lqM, lqN, lqO] at hc) <;> (try (exfalso; first | omega | exact bool_tf hc (by assumption) | exact bool_ft hc (by assumption) | exact absurd (by assumption) hc)) <;> (first | with_reducible show STri _ _ _ _ _ _ | (simp -dsimp [h6, hc]; (repeat (simp -dsimp (disch := (first | omega | assumption | (refine Bool.eq_false_iff.1 ?_; assumption))) only [wrap_in, if_pos, if_neg]; (try simp -dsimp [h6, hc]))))))))
      all_goals exact .refl _
end Go.Proofs.Ytakdmliblijgmaa
/- The shadow code of functions, as the kit's translation has them. -/
namespace Go.Proofs.Ytakdmliblijgmaa
open Go.RowKit
def k53_0 : SCode := .reg [⟨some 5, none, .box 25 (.tmp 2), [], false⟩, ⟨some 6, none, .mov (.const (.slice none 0 0)), [], false⟩] [0, 1, 5]
def k53_1 : SCode := .reg [⟨some 9, none, .buildSl 101 1 [(.slice none 0 0)] 0 [], [], false⟩, ⟨some 7, none, .mov (.tmp 9), [], false⟩] [0, 1, 5, 7]
def k53_2 : SCode := .reg [⟨some 10, none, .fld 0 (.tmp 5), [], false⟩, ⟨some 11, none, .load false 1 (.tmp 10), [], false⟩, ⟨some 8, none, .mov (.tmp 11), [], false⟩] [0, 1, 5, 7, 8]
def k53_3 : SCode := .reg [⟨some 12, none, .mov (.tmp 8), [], false⟩, ⟨some 13, none, .fld 1 (.tmp 5), [], false⟩, ⟨some 14, none, .load false 1 (.tmp 13), [], false⟩, ⟨some 15, none, .bin .leq (.tmp 12) (.tmp 14), [], false⟩] [0, 1, 5, 7, 8, 15]
def k53_4 : SCode := .cond (.tmp 15) .skip (.exit 0)
def k53_5 : SCode := .seq k53_3 k53_4
def k53_6 : SCode := .reg [⟨some 18, none, .mov (.tmp 7), [], false⟩, ⟨some 19, none, .mov (.tmp 0), [], false⟩, ⟨some 20, none, .mov (.tmp 1), [], false⟩, ⟨some 21, none, .mov (.tmp 8), [], false⟩, ⟨some 22, none, .call 52 [(.tmp 19), (.tmp 20), (.tmp 21)], [], false⟩, ⟨some 23, none, .buildSl 101 1 [(.slice none 0 0)] 1 [(0, (.tmp 22))], [], false⟩, ⟨some 24, none, .append 101 1 24 (.tmp 18) (.tmp 23), [], false⟩, ⟨some 7, none, .mov (.tmp 24), [], false⟩] [0, 1, 5, 7, 8]
def k53_7 : SCode := .block 1 k53_6
def k53_8 : SCode := .reg [⟨some 16, none, .mov (.tmp 8), [], false⟩, ⟨some 17, none, .bin .add (.tmp 16) (.const (.int .i64 1)), [], false⟩, ⟨some 8, none, .mov (.tmp 17), [], false⟩] [0, 1, 5, 7, 8]
def k53_9 : SCode := .seq k53_7 k53_8
def k53_10 : SCode := .seq k53_5 k53_9
def k53_11 : SCode := .loop k53_10
def k53_12 : SCode := .block 0 k53_11
def k53_13 : SCode := .seq k53_2 k53_12
def k53_14 : SCode := .reg [⟨some 25, none, .mov (.tmp 7), [], false⟩, ⟨some 6, none, .mov (.tmp 25), [], false⟩] [6]
def k53_15 : SCode := .seq k53_14 .ret
def k53_16 : SCode := .seq k53_13 k53_15
def k53_17 : SCode := .seq k53_1 k53_16
def k53_18 : SCode := .seq k53_0 k53_17
@[simp] def rs_turretref08_All : List SRes := [.tmp 6]
theorem law_turretref08_All (cs : List CV) (r : CV) (hl : cs.length ≤ 26) (h : STri (cfF Try.prog [] 26) k53_18 (initT 0 cs) [] (retQ rs_turretref08_All r)) : SC Try.prog 21 cs r :=
  sc_of [] follows Try.func21 rfl Try.ntmps21 (by decide) (by kernel_rfl) (by kernel_rfl) hl h
def k54_0 : SCode := .reg [⟨some 4, none, .mov (.const (.slice none 0 0)), [], false⟩] [0, 1]
def k54_1 : SCode := .reg [⟨some 5, none, .mov (.const (.int .i64 0)), [], false⟩] [0, 1, 5]
def k54_2 : SCode := .reg [⟨some 9, none, .mov (.tmp 0), [], false⟩, ⟨some 10, none, .mov (.tmp 1), [], false⟩, ⟨some 11, none, .mov (.tmp 5), [], false⟩, ⟨some 12, none, .call 55 [(.tmp 9), (.tmp 10), (.tmp 11), (.const (.slice none 0 0))], [], false⟩, ⟨some 6, none, .mov (.tmp 12), [], false⟩] [0, 1, 5, 6]
def k54_3 : SCode := .reg [⟨some 13, none, .mov (.tmp 6), [], false⟩, ⟨some 14, none, .len (.tmp 13), [], false⟩, ⟨some 15, none, .bin .gtr (.tmp 14) (.const (.int .i64 0)), [], false⟩] [0, 1, 5, 6, 15]
def k54_4 : SCode := .reg [⟨some 16, none, .mov (.tmp 6), [], false⟩, ⟨some 4, none, .mov (.tmp 16), [], false⟩] [4]
def k54_5 : SCode := .seq k54_4 .ret
def k54_6 : SCode := .cond (.tmp 15) k54_5 .skip
def k54_7 : SCode := .seq k54_3 k54_6
def k54_8 : SCode := .seq k54_2 k54_7
def k54_9 : SCode := .block 1 k54_8
def k54_10 : SCode := .reg [⟨some 7, none, .mov (.tmp 5), [], false⟩, ⟨some 8, none, .bin .add (.tmp 7) (.const (.int .i64 1)), [], false⟩, ⟨some 5, none, .mov (.tmp 8), [], false⟩] [0, 1, 5]
def k54_11 : SCode := .seq k54_9 k54_10
def k54_12 : SCode := .loop k54_11
def k54_13 : SCode := .block 0 k54_12
def k54_14 : SCode := .seq k54_1 k54_13
def k54_15 : SCode := .seq k54_0 k54_14
@[simp] def rs_turretref08_Wrong : List SRes := [.tmp 4]
theorem law_turretref08_Wrong (cs : List CV) (r : CV) (hl : cs.length ≤ 17) (h : STri (cfF Try.prog [] 17) k54_15 (initT 0 cs) [] (retQ rs_turretref08_Wrong r)) : SC Try.prog 28 cs r :=
  sc_of [] follows Try.func28 rfl Try.ntmps28 (by decide) (by kernel_rfl) (by kernel_rfl) hl h
def k55_0 : SCode := .reg [⟨some 4, none, .mov (.const (.bool false)), [], false⟩] [0, 1]
def k55_1 : SCode := .reg [⟨some 7, none, .mov (.tmp 0), [], false⟩, ⟨some 8, none, .len (.tmp 7), [], false⟩, ⟨some 9, none, .mov (.tmp 1), [], false⟩, ⟨some 10, none, .len (.tmp 9), [], false⟩, ⟨some 11, none, .bin .neq (.tmp 8) (.tmp 10), [], false⟩] [0, 1, 11]
def k55_2 : SCode := .reg [⟨some 4, none, .mov (.const (.bool false)), [], false⟩] [4]
def k55_3 : SCode := .seq k55_2 .ret
def k55_4 : SCode := .cond (.tmp 11) k55_3 .skip
def k55_5 : SCode := .seq k55_1 k55_4
def k55_6 : SCode := .reg [⟨some 5, none, .mov (.const (.int .i64 0)), [], false⟩] [0, 1, 5]
def k55_7 : SCode := .reg [⟨some 12, none, .mov (.tmp 5), [], false⟩, ⟨some 13, none, .mov (.tmp 0), [], false⟩, ⟨some 14, none, .len (.tmp 13), [], false⟩, ⟨some 15, none, .bin .lss (.tmp 12) (.tmp 14), [], false⟩] [0, 1, 5, 15]
def k55_8 : SCode := .cond (.tmp 15) .skip (.exit 0)
def k55_9 : SCode := .seq k55_7 k55_8
def k55_10 : SCode := .reg [⟨some 18, none, .mov (.tmp 0), [], false⟩, ⟨some 19, none, .mov (.tmp 5), [], false⟩, ⟨some 20, none, .idxS 1 (.tmp 18) (.tmp 19), [], false⟩, ⟨some 21, none, .load false 1 (.tmp 20), [], false⟩, ⟨some 22, none, .len (.tmp 21), [], false⟩, ⟨some 23, none, .mov (.tmp 1), [], false⟩, ⟨some 24, none, .mov (.tmp 5), [], false⟩, ⟨some 25, none, .idxS 1 (.tmp 23) (.tmp 24), [], false⟩, ⟨some 26, none, .load false 1 (.tmp 25), [], false⟩, ⟨some 27, none, .len (.tmp 26), [], false⟩, ⟨some 28, none, .bin .neq (.tmp 22) (.tmp 27), [], false⟩] [0, 1, 5, 28]
def k55_11 : SCode := .reg [⟨some 4, none, .mov (.const (.bool false)), [], false⟩] [4]
def k55_12 : SCode := .seq k55_11 .ret
def k55_13 : SCode := .cond (.tmp 28) k55_12 .skip
def k55_14 : SCode := .seq k55_10 k55_13
def k55_15 : SCode := .reg [⟨some 6, none, .mov (.const (.int .i64 0)), [], false⟩] [0, 1, 5, 6]
def k55_16 : SCode := .reg [⟨some 29, none, .mov (.tmp 6), [], false⟩, ⟨some 30, none, .mov (.tmp 0), [], false⟩, ⟨some 31, none, .mov (.tmp 5), [], false⟩, ⟨some 32, none, .idxS 1 (.tmp 30) (.tmp 31), [], false⟩, ⟨some 33, none, .load false 1 (.tmp 32), [], false⟩, ⟨some 34, none, .len (.tmp 33), [], false⟩, ⟨some 35, none, .bin .lss (.tmp 29) (.tmp 34), [], false⟩] [0, 1, 5, 6, 35]
def k55_17 : SCode := .cond (.tmp 35) .skip (.exit 2)
def k55_18 : SCode := .seq k55_16 k55_17
def k55_19 : SCode := .reg [⟨some 38, none, .mov (.tmp 0), [], false⟩, ⟨some 39, none, .mov (.tmp 5), [], false⟩, ⟨some 40, none, .idxS 1 (.tmp 38) (.tmp 39), [], false⟩, ⟨some 41, none, .load false 1 (.tmp 40), [], false⟩, ⟨some 42, none, .mov (.tmp 6), [], false⟩, ⟨some 43, none, .idxS 1 (.tmp 41) (.tmp 42), [], false⟩, ⟨some 44, none, .load false 1 (.tmp 43), [], false⟩, ⟨some 45, none, .mov (.tmp 1), [], false⟩, ⟨some 46, none, .mov (.tmp 5), [], false⟩, ⟨some 47, none, .idxS 1 (.tmp 45) (.tmp 46), [], false⟩, ⟨some 48, none, .load false 1 (.tmp 47), [], false⟩, ⟨some 49, none, .mov (.tmp 6), [], false⟩, ⟨some 50, none, .idxS 1 (.tmp 48) (.tmp 49), [], false⟩, ⟨some 51, none, .load false 1 (.tmp 50), [], false⟩, ⟨some 52, none, .bin .neq (.tmp 44) (.tmp 51), [], false⟩] [0, 1, 5, 6, 52]
def k55_20 : SCode := .reg [⟨some 4, none, .mov (.const (.bool false)), [], false⟩] [4]
def k55_21 : SCode := .seq k55_20 .ret
def k55_22 : SCode := .cond (.tmp 52) k55_21 .skip
def k55_23 : SCode := .seq k55_19 k55_22
def k55_24 : SCode := .block 3 k55_23
def k55_25 : SCode := .reg [⟨some 36, none, .mov (.tmp 6), [], false⟩, ⟨some 37, none, .bin .add (.tmp 36) (.const (.int .i64 1)), [], false⟩, ⟨some 6, none, .mov (.tmp 37), [], false⟩] [0, 1, 5, 6]
def k55_26 : SCode := .seq k55_24 k55_25
def k55_27 : SCode := .seq k55_18 k55_26
def k55_28 : SCode := .loop k55_27
def k55_29 : SCode := .block 2 k55_28
def k55_30 : SCode := .seq k55_15 k55_29
def k55_31 : SCode := .seq k55_14 k55_30
def k55_32 : SCode := .block 1 k55_31
def k55_33 : SCode := .reg [⟨some 16, none, .mov (.tmp 5), [], false⟩, ⟨some 17, none, .bin .add (.tmp 16) (.const (.int .i64 1)), [], false⟩, ⟨some 5, none, .mov (.tmp 17), [], false⟩] [0, 1, 5]
def k55_34 : SCode := .seq k55_32 k55_33
def k55_35 : SCode := .seq k55_9 k55_34
def k55_36 : SCode := .loop k55_35
def k55_37 : SCode := .block 0 k55_36
def k55_38 : SCode := .seq k55_6 k55_37
def k55_39 : SCode := .reg [⟨some 4, none, .mov (.const (.bool true)), [], false⟩] [4]
def k55_40 : SCode := .seq k55_39 .ret
def k55_41 : SCode := .seq k55_38 k55_40
def k55_42 : SCode := .seq k55_5 k55_41
def k55_43 : SCode := .seq k55_0 k55_42
@[simp] def rs_turretref08_Lists : List SRes := [.tmp 4]
theorem law_turretref08_Lists (cs : List CV) (r : CV) (hl : cs.length ≤ 53) (h : STri (cfF Try.prog [] 53) k55_43 (initT 0 cs) [] (retQ rs_turretref08_Lists r)) : SC Try.prog 29 cs r :=
  sc_of [] follows Try.func29 rfl Try.ntmps29 (by decide) (by kernel_rfl) (by kernel_rfl) hl h
def k56_0 : SCode := .reg [⟨some 6, none, .mov (.const (.bool false)), [], false⟩] [0, 1, 2]
def k56_1 : SCode := .reg [⟨some 7, none, .mov (.tmp 0), [], false⟩, ⟨some 8, none, .mov (.tmp 1), [], false⟩, ⟨some 9, none, .bin .geq (.tmp 7) (.tmp 8), [], false⟩, ⟨some 10, none, .mov (.tmp 9), [], false⟩, ⟨some 11, (some (10, true)), .mov (.tmp 0), [], false⟩, ⟨some 12, (some (10, true)), .mov (.tmp 2), [], false⟩, ⟨some 13, (some (10, true)), .bin .leq (.tmp 11) (.tmp 12), [], false⟩, ⟨some 14, none, .pick (.tmp 10) (.tmp 13) (.const (.bool false)), [], false⟩, ⟨some 6, none, .mov (.tmp 14), [], false⟩] [6]
def k56_2 : SCode := .seq k56_1 .ret
def k56_3 : SCode := .seq k56_0 k56_2
@[simp] def rs_turretref08_In : List SRes := [.tmp 6]
theorem law_turretref08_In (cs : List CV) (r : CV) (hl : cs.length ≤ 15) (h : STri (cfF Try.prog [] 15) k56_3 (initT 0 cs) [] (retQ rs_turretref08_In r)) : SC Try.prog 31 cs r :=
  sc_of [] follows Try.func31 rfl Try.ntmps31 (by decide) (by kernel_rfl) (by kernel_rfl) hl h
def k57_0 : SCode := .reg [⟨some 2, none, .mov (.const (.bool false)), [], false⟩] [0]
def k57_1 : SCode := .reg [⟨some 3, none, .mov (.const (.int .i64 0)), [], false⟩] [0, 3]
def k57_2 : SCode := .reg [⟨some 4, none, .mov (.tmp 3), [], false⟩, ⟨some 5, none, .mov (.tmp 0), [], false⟩, ⟨some 6, none, .len (.tmp 5), [], false⟩, ⟨some 7, none, .bin .lss (.tmp 4) (.tmp 6), [], false⟩] [0, 3, 7]
def k57_3 : SCode := .cond (.tmp 7) .skip (.exit 0)
def k57_4 : SCode := .seq k57_2 k57_3
def k57_5 : SCode := .reg [⟨some 10, none, .mov (.tmp 0), [], false⟩, ⟨some 11, none, .mov (.tmp 3), [], false⟩, ⟨some 12, none, .idxS 8 (.tmp 10) (.tmp 11), [], false⟩, ⟨some 13, none, .load true 8 (.tmp 12), [], false⟩, ⟨some 14, none, .call 59 [(.tmp 13)], [], false⟩, ⟨some 15, none, .un .not (.tmp 14), [], false⟩] [0, 3, 15]
def k57_6 : SCode := .reg [⟨some 2, none, .mov (.const (.bool false)), [], false⟩] [2]
def k57_7 : SCode := .seq k57_6 .ret
def k57_8 : SCode := .cond (.tmp 15) k57_7 .skip
def k57_9 : SCode := .seq k57_5 k57_8
def k57_10 : SCode := .block 1 k57_9
def k57_11 : SCode := .reg [⟨some 8, none, .mov (.tmp 3), [], false⟩, ⟨some 9, none, .bin .add (.tmp 8) (.const (.int .i64 1)), [], false⟩, ⟨some 3, none, .mov (.tmp 9), [], false⟩] [0, 3]
def k57_12 : SCode := .seq k57_10 k57_11
def k57_13 : SCode := .seq k57_4 k57_12
def k57_14 : SCode := .loop k57_13
def k57_15 : SCode := .block 0 k57_14
def k57_16 : SCode := .seq k57_1 k57_15
def k57_17 : SCode := .reg [⟨some 16, none, .mov (.tmp 0), [], false⟩, ⟨some 17, none, .len (.tmp 16), [], false⟩, ⟨some 18, none, .call 31 [(.tmp 17), (.const (.int .i64 1)), (.const (.int .i64 10))], [], false⟩, ⟨some 2, none, .mov (.tmp 18), [], false⟩] [2]
def k57_18 : SCode := .seq k57_17 .ret
def k57_19 : SCode := .seq k57_16 k57_18
def k57_20 : SCode := .seq k57_0 k57_19
@[simp] def rs_turretref08_Sources : List SRes := [.tmp 2]
theorem law_turretref08_Sources (cs : List CV) (r : CV) (hl : cs.length ≤ 19) (h : STri (cfF Try.prog [] 19) k57_20 (initT 0 cs) [] (retQ rs_turretref08_Sources r)) : SC Try.prog 41 cs r :=
  sc_of [] follows Try.func41 rfl Try.ntmps41 (by decide) (by kernel_rfl) (by kernel_rfl) hl h
def k58_0 : SCode := .reg [⟨some 2, none, .box 25 (.tmp 0), [], false⟩, ⟨some 4, none, .mov (.const (.bool false)), [], false⟩] [1, 2]
def k58_1 : SCode := .reg [⟨some 5, none, .fld 0 (.tmp 2), [], false⟩, ⟨some 6, none, .load false 1 (.tmp 5), [], false⟩, ⟨some 7, none, .mov (.tmp 1), [], false⟩, ⟨some 8, none, .un .neg (.tmp 7), [], false⟩, ⟨some 9, none, .fld 1 (.tmp 2), [], false⟩, ⟨some 10, none, .load false 1 (.tmp 9), [], false⟩, ⟨some 11, none, .call 31 [(.tmp 6), (.tmp 8), (.tmp 10)], [], false⟩, ⟨some 12, none, .mov (.tmp 11), [], false⟩, ⟨some 13, (some (12, true)), .fld 1 (.tmp 2), [], false⟩, ⟨some 14, (some (12, true)), .load false 1 (.tmp 13), [], false⟩, ⟨some 15, (some (12, true)), .mov (.tmp 1), [], false⟩, ⟨some 16, (some (12, true)), .bin .leq (.tmp 14) (.tmp 15), [], false⟩, ⟨some 17, none, .pick (.tmp 12) (.tmp 16) (.const (.bool false)), [], false⟩, ⟨some 4, none, .mov (.tmp 17), [], false⟩] [4]
def k58_2 : SCode := .seq k58_1 .ret
def k58_3 : SCode := .seq k58_0 k58_2
@[simp] def rs_turretref08_Span : List SRes := [.tmp 4]
theorem law_turretref08_Span (cs : List CV) (r : CV) (hl : cs.length ≤ 18) (h : STri (cfF Try.prog [] 18) k58_3 (initT 0 cs) [] (retQ rs_turretref08_Span r)) : SC Try.prog 51 cs r :=
  sc_of [] follows Try.func51 rfl Try.ntmps51 (by decide) (by kernel_rfl) (by kernel_rfl) hl h
def k59_0 : SCode := .reg [⟨some 6, none, .mov (.const (.slice none 0 0)), [], false⟩] [0, 1, 2]
def k59_1 : SCode := .reg [⟨some 10, none, .mov (.tmp 0), [], false⟩, ⟨some 11, none, .len (.tmp 10), [], false⟩, ⟨some 12, none, .makeSl 4 1 1 [(.bool false)] (.tmp 11) (.tmp 11), [], false⟩, ⟨some 7, none, .mov (.tmp 12), [], false⟩] [0, 1, 2, 7]
def k59_2 : SCode := .reg [⟨some 8, none, .mov (.const (.int .i64 0)), [], false⟩] [0, 1, 2, 7, 8]
def k59_3 : SCode := .reg [⟨some 13, none, .mov (.tmp 8), [], false⟩, ⟨some 14, none, .mov (.tmp 1), [], false⟩, ⟨some 15, none, .len (.tmp 14), [], false⟩, ⟨some 16, none, .bin .lss (.tmp 13) (.tmp 15), [], false⟩] [0, 1, 2, 7, 8, 16]
def k59_4 : SCode := .cond (.tmp 16) .skip (.exit 0)
def k59_5 : SCode := .seq k59_3 k59_4
def k59_6 : SCode := .reg [⟨some 19, none, .mov (.tmp 1), [], false⟩, ⟨some 20, none, .mov (.tmp 8), [], false⟩, ⟨some 21, none, .idxS 3 (.tmp 19) (.tmp 20), [], false⟩, ⟨some 22, none, .fld 0 (.tmp 21), [], false⟩, ⟨some 23, none, .load false 1 (.tmp 22), [], false⟩, ⟨some 9, none, .mov (.tmp 23), [], false⟩] [0, 1, 2, 7, 8, 9]
def k59_7 : SCode := .reg [⟨some 24, none, .mov (.tmp 7), [], false⟩, ⟨some 25, none, .mov (.tmp 9), [], false⟩, ⟨some 26, none, .mov (.tmp 7), [], false⟩, ⟨some 27, none, .mov (.tmp 9), [], false⟩, ⟨some 28, none, .idxS 1 (.tmp 26) (.tmp 27), [], false⟩, ⟨some 29, none, .load false 1 (.tmp 28), [], false⟩, ⟨some 30, none, .mov (.tmp 29), [], false⟩, ⟨some 31, (some (30, false)), .mov (.tmp 0), [], false⟩, ⟨some 32, (some (30, false)), .mov (.tmp 9), [], false⟩, ⟨some 33, (some (30, false)), .idxS 8 (.tmp 31) (.tmp 32), [], false⟩, ⟨some 34, (some (30, false)), .load true 8 (.tmp 33), [], false⟩, ⟨some 35, (some (30, false)), .mov (.tmp 1), [], false⟩, ⟨some 36, (some (30, false)), .mov (.tmp 8), [], false⟩, ⟨some 37, (some (30, false)), .idxS 3 (.tmp 35) (.tmp 36), [], false⟩, ⟨some 38, (some (30, false)), .fld 2 (.tmp 37), [], false⟩, ⟨some 39, (some (30, false)), .load false 1 (.tmp 38), [], false⟩, ⟨some 40, (some (30, false)), .mov (.tmp 1), [], false⟩, ⟨some 41, (some (30, false)), .mov (.tmp 8), [], false⟩, ⟨some 42, (some (30, false)), .idxS 3 (.tmp 40) (.tmp 41), [], false⟩, ⟨some 43, (some (30, false)), .fld 1 (.tmp 42), [], false⟩, ⟨some 44, (some (30, false)), .load false 1 (.tmp 43), [], false⟩, ⟨some 45, (some (30, false)), .mov (.tmp 2), [], false⟩, ⟨some 46, (some (30, false)), .bin .add (.tmp 44) (.tmp 45), [], false⟩, ⟨some 47, (some (30, false)), .call 65 [(.tmp 34), (.tmp 39), (.tmp 46)], [], false⟩, ⟨some 48, (some (30, false)), .un .not (.tmp 47), [], false⟩, ⟨some 49, none, .pick (.tmp 30) (.const (.bool true)) (.tmp 48), [], false⟩, ⟨some 50, none, .idxS 1 (.tmp 24) (.tmp 25), [], false⟩, ⟨none, none, .store 1 (.tmp 50) (.tmp 49), [], false⟩] [0, 1, 2, 7, 8]
def k59_8 : SCode := .seq k59_6 k59_7
def k59_9 : SCode := .block 1 k59_8
def k59_10 : SCode := .reg [⟨some 17, none, .mov (.tmp 8), [], false⟩, ⟨some 18, none, .bin .add (.tmp 17) (.const (.int .i64 1)), [], false⟩, ⟨some 8, none, .mov (.tmp 18), [], false⟩] [0, 1, 2, 7, 8]
def k59_11 : SCode := .seq k59_9 k59_10
def k59_12 : SCode := .seq k59_5 k59_11
def k59_13 : SCode := .loop k59_12
def k59_14 : SCode := .block 0 k59_13
def k59_15 : SCode := .seq k59_2 k59_14
def k59_16 : SCode := .reg [⟨some 51, none, .mov (.tmp 7), [], false⟩, ⟨some 6, none, .mov (.tmp 51), [], false⟩] [6]
def k59_17 : SCode := .seq k59_16 .ret
def k59_18 : SCode := .seq k59_15 k59_17
def k59_19 : SCode := .seq k59_1 k59_18
def k59_20 : SCode := .seq k59_0 k59_19
@[simp] def rs_turretref08_Bad : List SRes := [.tmp 6]
theorem law_turretref08_Bad (cs : List CV) (r : CV) (hl : cs.length ≤ 52) (h : STri (cfF Try.prog [] 52) k59_20 (initT 0 cs) [] (retQ rs_turretref08_Bad r)) : SC Try.prog 52 cs r :=
  sc_of [] follows Try.func52 rfl Try.ntmps52 (by decide) (by kernel_rfl) (by kernel_rfl) hl h
def k60_0 : SCode := .reg [⟨some 8, none, .mov (.const (.slice none 0 0)), [], false⟩] [0, 1, 2, 3]
def k60_1 : SCode := .reg [⟨some 17, none, .mov (.tmp 2), [], false⟩, ⟨some 18, none, .bin .eql (.tmp 17) (.const (.int .i64 0)), [], false⟩] [0, 1, 2, 3, 18]
def k60_2 : SCode := .reg [⟨some 9, none, .mov (.const (.int .i64 0)), [], false⟩] [0, 1, 3, 9]
def k60_3 : SCode := .reg [⟨some 19, none, .mov (.tmp 9), [], false⟩, ⟨some 20, none, .mov (.tmp 0), [], false⟩, ⟨some 21, none, .len (.tmp 20), [], false⟩, ⟨some 22, none, .bin .lss (.tmp 19) (.tmp 21), [], false⟩] [0, 1, 3, 9, 22]
def k60_4 : SCode := .cond (.tmp 22) .skip (.exit 0)
def k60_5 : SCode := .seq k60_3 k60_4
def k60_6 : SCode := .reg [⟨some 10, none, .mov (.const (.bool true)), [], false⟩] [0, 1, 3, 9, 10]
def k60_7 : SCode := .reg [⟨some 11, none, .mov (.const (.int .i64 0)), [], false⟩] [0, 1, 3, 9, 10, 11]
def k60_8 : SCode := .reg [⟨some 25, none, .mov (.tmp 11), [], false⟩, ⟨some 26, none, .mov (.tmp 1), [], false⟩, ⟨some 27, none, .bin .lss (.tmp 25) (.tmp 26), [], false⟩] [0, 1, 3, 9, 10, 11, 27]
def k60_9 : SCode := .cond (.tmp 27) .skip (.exit 2)
def k60_10 : SCode := .seq k60_8 k60_9
def k60_11 : SCode := .reg [⟨some 12, none, .mov (.const (.bool false)), [], false⟩] [0, 1, 3, 9, 10, 11, 12]
def k60_12 : SCode := .reg [⟨some 13, none, .mov (.const (.int .i64 0)), [], false⟩] [0, 1, 3, 9, 10, 11, 12, 13]
def k60_13 : SCode := .reg [⟨some 30, none, .mov (.tmp 13), [], false⟩, ⟨some 31, none, .mov (.tmp 3), [], false⟩, ⟨some 32, none, .len (.tmp 31), [], false⟩, ⟨some 33, none, .bin .lss (.tmp 30) (.tmp 32), [], false⟩] [0, 1, 3, 9, 10, 11, 12, 13, 33]
def k60_14 : SCode := .cond (.tmp 33) .skip (.exit 4)
def k60_15 : SCode := .seq k60_13 k60_14
def k60_16 : SCode := .reg [⟨some 36, none, .mov (.tmp 12), [], false⟩, ⟨some 37, none, .mov (.tmp 36), [], false⟩, ⟨some 38, (some (37, false)), .mov (.tmp 3), [], false⟩, ⟨some 39, (some (37, false)), .mov (.tmp 13), [], false⟩, ⟨some 40, (some (37, false)), .idxS 1 (.tmp 38) (.tmp 39), [], false⟩, ⟨some 41, (some (37, false)), .load false 1 (.tmp 40), [], false⟩, ⟨some 42, (some (37, false)), .mov (.tmp 11), [], false⟩, ⟨some 43, (some (37, false)), .bin .eql (.tmp 41) (.tmp 42), [], false⟩, ⟨some 44, none, .pick (.tmp 37) (.const (.bool true)) (.tmp 43), [], false⟩, ⟨some 12, none, .mov (.tmp 44), [], false⟩] [0, 1, 3, 9, 10, 11, 12, 13]
def k60_17 : SCode := .block 5 k60_16
def k60_18 : SCode := .reg [⟨some 34, none, .mov (.tmp 13), [], false⟩, ⟨some 35, none, .bin .add (.tmp 34) (.const (.int .i64 1)), [], false⟩, ⟨some 13, none, .mov (.tmp 35), [], false⟩] [0, 1, 3, 9, 10, 11, 12, 13]
def k60_19 : SCode := .seq k60_17 k60_18
def k60_20 : SCode := .seq k60_15 k60_19
def k60_21 : SCode := .loop k60_20
def k60_22 : SCode := .block 4 k60_21
def k60_23 : SCode := .seq k60_12 k60_22
def k60_24 : SCode := .reg [⟨some 45, none, .mov (.tmp 10), [], false⟩, ⟨some 46, none, .mov (.tmp 45), [], false⟩, ⟨some 47, (some (46, true)), .mov (.tmp 12), [], false⟩, ⟨some 48, (some (46, true)), .mov (.tmp 47), [], false⟩, ⟨some 49, (some (48, false)), .mov (.tmp 0), [], false⟩, ⟨some 50, (some (48, false)), .mov (.tmp 9), [], false⟩, ⟨some 51, (some (48, false)), .idxS 1 (.tmp 49) (.tmp 50), [], false⟩, ⟨some 52, (some (48, false)), .load false 1 (.tmp 51), [], false⟩, ⟨some 53, (some (48, false)), .mov (.tmp 11), [], false⟩, ⟨some 54, (some (48, false)), .idxS 1 (.tmp 52) (.tmp 53), [], false⟩, ⟨some 55, (some (48, false)), .load false 1 (.tmp 54), [], false⟩, ⟨some 56, (some (48, false)), .un .not (.tmp 55), [], false⟩, ⟨some 57, (some (46, true)), .pick (.tmp 48) (.const (.bool true)) (.tmp 56), [], false⟩, ⟨some 58, none, .pick (.tmp 46) (.tmp 57) (.const (.bool false)), [], false⟩, ⟨some 10, none, .mov (.tmp 58), [], false⟩] [0, 1, 3, 9, 10, 11]
def k60_25 : SCode := .seq k60_23 k60_24
def k60_26 : SCode := .seq k60_11 k60_25
def k60_27 : SCode := .block 3 k60_26
def k60_28 : SCode := .reg [⟨some 28, none, .mov (.tmp 11), [], false⟩, ⟨some 29, none, .bin .add (.tmp 28) (.const (.int .i64 1)), [], false⟩, ⟨some 11, none, .mov (.tmp 29), [], false⟩] [0, 1, 3, 9, 10, 11]
def k60_29 : SCode := .seq k60_27 k60_28
def k60_30 : SCode := .seq k60_10 k60_29
def k60_31 : SCode := .loop k60_30
def k60_32 : SCode := .block 2 k60_31
def k60_33 : SCode := .seq k60_7 k60_32
def k60_34 : SCode := .reg [⟨some 59, none, .mov (.tmp 10), [], false⟩] [0, 1, 3, 9, 59]
def k60_35 : SCode := .reg [⟨some 60, none, .mov (.tmp 3), [], false⟩, ⟨some 61, none, .buildSl 55 1 [(.slice none 0 0)] 1 [(0, (.tmp 60))], [], false⟩, ⟨some 8, none, .mov (.tmp 61), [], false⟩] [8]
def k60_36 : SCode := .seq k60_35 .ret
def k60_37 : SCode := .cond (.tmp 59) k60_36 .skip
def k60_38 : SCode := .seq k60_34 k60_37
def k60_39 : SCode := .seq k60_33 k60_38
def k60_40 : SCode := .seq k60_6 k60_39
def k60_41 : SCode := .block 1 k60_40
def k60_42 : SCode := .reg [⟨some 23, none, .mov (.tmp 9), [], false⟩, ⟨some 24, none, .bin .add (.tmp 23) (.const (.int .i64 1)), [], false⟩, ⟨some 9, none, .mov (.tmp 24), [], false⟩] [0, 1, 3, 9]
def k60_43 : SCode := .seq k60_41 k60_42
def k60_44 : SCode := .seq k60_5 k60_43
def k60_45 : SCode := .loop k60_44
def k60_46 : SCode := .block 0 k60_45
def k60_47 : SCode := .seq k60_2 k60_46
def k60_48 : SCode := .reg [⟨some 8, none, .mov (.const (.slice none 0 0)), [], false⟩] [8]
def k60_49 : SCode := .seq k60_48 .ret
def k60_50 : SCode := .seq k60_47 k60_49
def k60_51 : SCode := .cond (.tmp 18) k60_50 .skip
def k60_52 : SCode := .seq k60_1 k60_51
def k60_53 : SCode := .reg [⟨some 62, none, .buildSl 55 1 [(.slice none 0 0)] 0 [], [], false⟩, ⟨some 14, none, .mov (.tmp 62), [], false⟩, ⟨some 15, none, .mov (.const (.int .i64 0)), [], false⟩] [0, 1, 2, 3, 14, 15]
def k60_54 : SCode := .reg [⟨some 63, none, .mov (.tmp 3), [], false⟩, ⟨some 64, none, .len (.tmp 63), [], false⟩, ⟨some 65, none, .bin .gtr (.tmp 64) (.const (.int .i64 0)), [], false⟩] [0, 1, 2, 3, 14, 15, 65]
def k60_55 : SCode := .reg [⟨some 66, none, .mov (.tmp 3), [], false⟩, ⟨some 67, none, .mov (.tmp 3), [], false⟩, ⟨some 68, none, .len (.tmp 67), [], false⟩, ⟨some 69, none, .bin .sub (.tmp 68) (.const (.int .i64 1)), [], false⟩, ⟨some 70, none, .idxS 1 (.tmp 66) (.tmp 69), [], false⟩, ⟨some 71, none, .load false 1 (.tmp 70), [], false⟩, ⟨some 72, none, .bin .add (.tmp 71) (.const (.int .i64 1)), [], false⟩, ⟨some 15, none, .mov (.tmp 72), [], false⟩] [0, 1, 2, 3, 14, 15]
def k60_56 : SCode := .cond (.tmp 65) k60_55 .skip
def k60_57 : SCode := .seq k60_54 k60_56
def k60_58 : SCode := .reg [⟨some 73, none, .mov (.tmp 15), [], false⟩, ⟨some 16, none, .mov (.tmp 73), [], false⟩] [0, 1, 2, 3, 14, 16]
def k60_59 : SCode := .reg [⟨some 74, none, .mov (.tmp 16), [], false⟩, ⟨some 75, none, .mov (.tmp 1), [], false⟩, ⟨some 76, none, .bin .lss (.tmp 74) (.tmp 75), [], false⟩] [0, 1, 2, 3, 14, 16, 76]
def k60_60 : SCode := .cond (.tmp 76) .skip (.exit 6)
def k60_61 : SCode := .seq k60_59 k60_60
def k60_62 : SCode := .reg [⟨some 79, none, .mov (.tmp 14), [], false⟩, ⟨some 80, none, .mov (.tmp 0), [], false⟩, ⟨some 81, none, .mov (.tmp 1), [], false⟩, ⟨some 82, none, .mov (.tmp 2), [], false⟩, ⟨some 83, none, .bin .sub (.tmp 82) (.const (.int .i64 1)), [], false⟩, ⟨some 84, none, .buildSl 3 1 [(.int .i64 0)] 0 [], [], false⟩, ⟨some 85, none, .mov (.tmp 3), [], false⟩, ⟨some 86, none, .append 3 1 8 (.tmp 84) (.tmp 85), [], false⟩, ⟨some 87, none, .mov (.tmp 16), [], false⟩, ⟨some 88, none, .buildSl 3 1 [(.int .i64 0)] 1 [(0, (.tmp 87))], [], false⟩, ⟨some 89, none, .append 3 1 8 (.tmp 86) (.tmp 88), [], false⟩, ⟨some 90, none, .call 55 [(.tmp 80), (.tmp 81), (.tmp 83), (.tmp 89)], [], false⟩, ⟨some 91, none, .append 55 1 24 (.tmp 79) (.tmp 90), [], false⟩, ⟨some 14, none, .mov (.tmp 91), [], false⟩] [0, 1, 2, 3, 14, 16]
def k60_63 : SCode := .block 7 k60_62
def k60_64 : SCode := .reg [⟨some 77, none, .mov (.tmp 16), [], false⟩, ⟨some 78, none, .bin .add (.tmp 77) (.const (.int .i64 1)), [], false⟩, ⟨some 16, none, .mov (.tmp 78), [], false⟩] [0, 1, 2, 3, 14, 16]
def k60_65 : SCode := .seq k60_63 k60_64
def k60_66 : SCode := .seq k60_61 k60_65
def k60_67 : SCode := .loop k60_66
def k60_68 : SCode := .block 6 k60_67
def k60_69 : SCode := .seq k60_58 k60_68
def k60_70 : SCode := .reg [⟨some 92, none, .mov (.tmp 14), [], false⟩, ⟨some 8, none, .mov (.tmp 92), [], false⟩] [8]
def k60_71 : SCode := .seq k60_70 .ret
def k60_72 : SCode := .seq k60_69 k60_71
def k60_73 : SCode := .seq k60_57 k60_72
def k60_74 : SCode := .seq k60_53 k60_73
def k60_75 : SCode := .seq k60_52 k60_74
def k60_76 : SCode := .seq k60_0 k60_75
@[simp] def rs_turretref08_Sets : List SRes := [.tmp 8]
theorem law_turretref08_Sets (cs : List CV) (r : CV) (hl : cs.length ≤ 93) (h : STri (cfF Try.prog [] 93) k60_76 (initT 0 cs) [] (retQ rs_turretref08_Sets r)) : SC Try.prog 55 cs r :=
  sc_of [] follows Try.func55 rfl Try.ntmps55 (by decide) (by kernel_rfl) (by kernel_rfl) hl h
def k61_0 : SCode := .reg [⟨some 1, none, .box 79 (.tmp 0), [], false⟩, ⟨some 2, none, .mov (.const (.bool false)), [], false⟩] [1]
def k61_1 : SCode := .reg [⟨some 4, none, .fld 1 (.tmp 1), [], false⟩, ⟨some 5, none, .load true 2 (.tmp 4), [], false⟩, ⟨some 6, none, .call 51 [(.tmp 5), (.const (.int .i64 3600))], [], false⟩, ⟨some 7, none, .un .not (.tmp 6), [], false⟩] [1, 7]
def k61_2 : SCode := .reg [⟨some 2, none, .mov (.const (.bool false)), [], false⟩] [2]
def k61_3 : SCode := .seq k61_2 .ret
def k61_4 : SCode := .cond (.tmp 7) k61_3 .skip
def k61_5 : SCode := .seq k61_1 k61_4
def k61_6 : SCode := .reg [⟨some 8, none, .fld 0 (.tmp 1), [], false⟩, ⟨some 9, none, .load false 1 (.tmp 8), [], false⟩] [1, 9]
def k61_7 : SCode := .reg [⟨some 11, none, .bin .eql (.tmp 9) (.const (.int .i64 1)), [], false⟩, ⟨some 10, none, .mov (.tmp 11), [], false⟩] [1, 9, 10]
def k61_8 : SCode := .reg [⟨some 12, none, .fld 3 (.tmp 1), [], false⟩, ⟨some 13, none, .load false 1 (.tmp 12), [], false⟩, ⟨some 14, none, .call 31 [(.tmp 13), (.const (.int .i64 0)), (.const (.int .i64 3155760000))], [], false⟩, ⟨some 15, none, .mov (.tmp 14), [], false⟩, ⟨some 16, (some (15, true)), .fld 4 (.tmp 1), [], false⟩, ⟨some 17, (some (15, true)), .load true 2 (.tmp 16), [], false⟩, ⟨some 18, (some (15, true)), .call 51 [(.tmp 17), (.const (.int .i64 100000))], [], false⟩, ⟨some 19, none, .pick (.tmp 15) (.tmp 18) (.const (.bool false)), [], false⟩, ⟨some 2, none, .mov (.tmp 19), [], false⟩] [2]
def k61_9 : SCode := .seq k61_8 .ret
def k61_10 : SCode := .reg [⟨some 21, none, .bin .eql (.tmp 9) (.const (.int .i64 2)), [], false⟩, ⟨some 20, none, .mov (.tmp 21), [], false⟩] [1, 9, 20]
def k61_11 : SCode := .reg [⟨some 22, none, .fld 3 (.tmp 1), [], false⟩, ⟨some 23, none, .load false 1 (.tmp 22), [], false⟩, ⟨some 24, none, .call 31 [(.tmp 23), (.const (.int .i64 0)), (.const (.int .i64 3155760000))], [], false⟩, ⟨some 25, none, .mov (.tmp 24), [], false⟩, ⟨some 26, (some (25, true)), .fld 6 (.tmp 1), [], false⟩, ⟨some 27, (some (25, true)), .load false 1 (.tmp 26), [], false⟩, ⟨some 28, (some (25, true)), .call 31 [(.tmp 27), (.const (.int .i64 1)), (.const (.int .i64 3155760000))], [], false⟩, ⟨some 29, none, .pick (.tmp 25) (.tmp 28) (.const (.bool false)), [], false⟩, ⟨some 2, none, .mov (.tmp 29), [], false⟩] [2]
def k61_12 : SCode := .seq k61_11 .ret
def k61_13 : SCode := .reg [⟨some 31, none, .bin .eql (.tmp 9) (.const (.int .i64 3)), [], false⟩, ⟨some 30, none, .mov (.tmp 31), [], false⟩] [1, 30]
def k61_14 : SCode := .reg [⟨some 3, none, .mov (.const (.int .i64 0)), [], false⟩] [1, 3]
def k61_15 : SCode := .reg [⟨some 32, none, .mov (.tmp 3), [], false⟩, ⟨some 33, none, .fld 7 (.tmp 1), [], false⟩, ⟨some 34, none, .load false 1 (.tmp 33), [], false⟩, ⟨some 35, none, .len (.tmp 34), [], false⟩, ⟨some 36, none, .bin .lss (.tmp 32) (.tmp 35), [], false⟩] [1, 3, 36]
def k61_16 : SCode := .cond (.tmp 36) .skip (.exit 1)
def k61_17 : SCode := .seq k61_15 k61_16
def k61_18 : SCode := .reg [⟨some 39, none, .fld 7 (.tmp 1), [], false⟩, ⟨some 40, none, .load false 1 (.tmp 39), [], false⟩, ⟨some 41, none, .mov (.tmp 3), [], false⟩, ⟨some 42, none, .idxS 1 (.tmp 40) (.tmp 41), [], false⟩, ⟨some 43, none, .load false 1 (.tmp 42), [], false⟩, ⟨some 44, none, .call 31 [(.tmp 43), (.const (.int .i64 (-3600))), (.const (.int .i64 3600))], [], false⟩, ⟨some 45, none, .un .not (.tmp 44), [], false⟩] [1, 3, 45]
def k61_19 : SCode := .reg [⟨some 2, none, .mov (.const (.bool false)), [], false⟩] [2]
def k61_20 : SCode := .seq k61_19 .ret
def k61_21 : SCode := .cond (.tmp 45) k61_20 .skip
def k61_22 : SCode := .seq k61_18 k61_21
def k61_23 : SCode := .block 2 k61_22
def k61_24 : SCode := .reg [⟨some 37, none, .mov (.tmp 3), [], false⟩, ⟨some 38, none, .bin .add (.tmp 37) (.const (.int .i64 1)), [], false⟩, ⟨some 3, none, .mov (.tmp 38), [], false⟩] [1, 3]
def k61_25 : SCode := .seq k61_23 k61_24
def k61_26 : SCode := .seq k61_17 k61_25
def k61_27 : SCode := .loop k61_26
def k61_28 : SCode := .block 1 k61_27
def k61_29 : SCode := .seq k61_14 k61_28
def k61_30 : SCode := .reg [⟨some 46, none, .fld 7 (.tmp 1), [], false⟩, ⟨some 47, none, .load false 1 (.tmp 46), [], false⟩, ⟨some 48, none, .len (.tmp 47), [], false⟩, ⟨some 49, none, .call 31 [(.tmp 48), (.const (.int .i64 1)), (.const (.int .i64 366))], [], false⟩, ⟨some 2, none, .mov (.tmp 49), [], false⟩] [2]
def k61_31 : SCode := .seq k61_30 .ret
def k61_32 : SCode := .seq k61_29 k61_31
def k61_33 : SCode := .cond (.tmp 30) k61_32 .skip
def k61_34 : SCode := .seq k61_13 k61_33
def k61_35 : SCode := .cond (.tmp 20) k61_12 k61_34
def k61_36 : SCode := .seq k61_10 k61_35
def k61_37 : SCode := .cond (.tmp 10) k61_9 k61_36
def k61_38 : SCode := .seq k61_7 k61_37
def k61_39 : SCode := .block 0 k61_38
def k61_40 : SCode := .seq k61_6 k61_39
def k61_41 : SCode := .reg [⟨some 50, none, .fld 0 (.tmp 1), [], false⟩, ⟨some 51, none, .load false 1 (.tmp 50), [], false⟩, ⟨some 52, none, .bin .eql (.tmp 51) (.const (.int .i64 4)), [], false⟩, ⟨some 2, none, .mov (.tmp 52), [], false⟩] [2]
def k61_42 : SCode := .seq k61_41 .ret
def k61_43 : SCode := .seq k61_40 k61_42
def k61_44 : SCode := .seq k61_5 k61_43
def k61_45 : SCode := .seq k61_0 k61_44
@[simp] def rs_turretref08_Source : List SRes := [.tmp 2]
theorem law_turretref08_Source (cs : List CV) (r : CV) (hl : cs.length ≤ 53) (h : STri (cfF Try.prog [] 53) k61_45 (initT 0 cs) [] (retQ rs_turretref08_Source r)) : SC Try.prog 59 cs r :=
  sc_of [] follows Try.func59 rfl Try.ntmps59 (by decide) (by kernel_rfl) (by kernel_rfl) hl h
def k62_0 : SCode := .reg [⟨some 3, none, .box 79 (.tmp 0), [], false⟩, ⟨some 6, none, .mov (.const (.bool false)), [], false⟩] [1, 2, 3]
def k62_1 : SCode := .reg [⟨some 12, none, .mov (.tmp 2), [], false⟩, ⟨some 13, none, .call 31 [(.tmp 12), (.const (.int .i64 0)), (.const (.int .i64 3155760000))], [], false⟩, ⟨some 14, none, .un .not (.tmp 13), [], false⟩] [1, 2, 3, 14]
def k62_2 : SCode := .reg [⟨some 6, none, .mov (.const (.bool false)), [], false⟩] [6]
def k62_3 : SCode := .seq k62_2 .ret
def k62_4 : SCode := .cond (.tmp 14) k62_3 .skip
def k62_5 : SCode := .seq k62_1 k62_4
def k62_6 : SCode := .reg [⟨some 15, none, .fld 1 (.tmp 3), [], false⟩, ⟨some 16, none, .fld 0 (.tmp 15), [], false⟩, ⟨some 17, none, .load false 1 (.tmp 16), [], false⟩, ⟨some 18, none, .fld 1 (.tmp 3), [], false⟩, ⟨some 19, none, .fld 1 (.tmp 18), [], false⟩, ⟨some 20, none, .load false 1 (.tmp 19), [], false⟩, ⟨some 7, none, .mov (.tmp 17), [], false⟩, ⟨some 8, none, .mov (.tmp 20), [], false⟩] [1, 2, 3, 7, 8]
def k62_7 : SCode := .reg [⟨some 21, none, .fld 0 (.tmp 3), [], false⟩, ⟨some 22, none, .load false 1 (.tmp 21), [], false⟩, ⟨some 23, none, .bin .eql (.tmp 22) (.const (.int .i64 1)), [], false⟩] [1, 2, 3, 7, 8, 23]
def k62_8 : SCode := .reg [⟨some 24, none, .mov (.tmp 2), [], false⟩, ⟨some 25, none, .fld 3 (.tmp 3), [], false⟩, ⟨some 26, none, .load false 1 (.tmp 25), [], false⟩, ⟨some 27, none, .bin .lss (.tmp 24) (.tmp 26), [], false⟩] [1, 2, 3, 7, 8, 27]
def k62_9 : SCode := .reg [⟨some 6, none, .mov (.const (.bool false)), [], false⟩] [6]
def k62_10 : SCode := .seq k62_9 .ret
def k62_11 : SCode := .cond (.tmp 27) k62_10 .skip
def k62_12 : SCode := .seq k62_8 k62_11
def k62_13 : SCode := .reg [⟨some 28, none, .mov (.tmp 7), [], false⟩, ⟨some 29, none, .fld 4 (.tmp 3), [], false⟩, ⟨some 30, none, .fld 0 (.tmp 29), [], false⟩, ⟨some 31, none, .load false 1 (.tmp 30), [], false⟩, ⟨some 32, none, .mov (.tmp 2), [], false⟩, ⟨some 33, none, .fld 3 (.tmp 3), [], false⟩, ⟨some 34, none, .load false 1 (.tmp 33), [], false⟩, ⟨some 35, none, .bin .sub (.tmp 32) (.tmp 34), [], false⟩, ⟨some 36, none, .bin .mul (.tmp 31) (.tmp 35), [], false⟩, ⟨some 37, none, .call 74 [(.tmp 36), (.const (.int .i64 86400000))], [], false⟩, ⟨some 38, none, .bin .add (.tmp 28) (.tmp 37), [], false⟩, ⟨some 39, none, .mov (.tmp 8), [], false⟩, ⟨some 40, none, .fld 4 (.tmp 3), [], false⟩, ⟨some 41, none, .fld 1 (.tmp 40), [], false⟩, ⟨some 42, none, .load false 1 (.tmp 41), [], false⟩, ⟨some 43, none, .mov (.tmp 2), [], false⟩, ⟨some 44, none, .fld 3 (.tmp 3), [], false⟩, ⟨some 45, none, .load false 1 (.tmp 44), [], false⟩, ⟨some 46, none, .bin .sub (.tmp 43) (.tmp 45), [], false⟩, ⟨some 47, none, .bin .mul (.tmp 42) (.tmp 46), [], false⟩, ⟨some 48, none, .call 75 [(.tmp 47), (.const (.int .i64 86400000))], [], false⟩, ⟨some 49, none, .bin .add (.tmp 39) (.tmp 48), [], false⟩, ⟨some 7, none, .mov (.tmp 38), [], false⟩, ⟨some 8, none, .mov (.tmp 49), [], false⟩] [1, 2, 7, 8]
def k62_14 : SCode := .reg [⟨some 50, none, .mov (.tmp 1), [], false⟩, ⟨some 51, none, .mov (.tmp 2), [], false⟩, ⟨some 52, none, .bin .sub (.tmp 50) (.tmp 51), [], false⟩, ⟨some 53, none, .mov (.tmp 7), [], false⟩, ⟨some 54, none, .bin .sub (.tmp 52) (.tmp 53), [], false⟩, ⟨some 55, none, .call 76 [(.tmp 54), (.const (.int .i64 43200))], [], false⟩, ⟨some 56, none, .mov (.tmp 8), [], false⟩, ⟨some 57, none, .mov (.tmp 7), [], false⟩, ⟨some 58, none, .bin .sub (.tmp 56) (.tmp 57), [], false⟩, ⟨some 59, none, .bin .leq (.tmp 55) (.tmp 58), [], false⟩, ⟨some 6, none, .mov (.tmp 59), [], false⟩] [6]
def k62_15 : SCode := .seq k62_14 .ret
def k62_16 : SCode := .seq k62_13 k62_15
def k62_17 : SCode := .seq k62_12 k62_16
def k62_18 : SCode := .cond (.tmp 23) k62_17 .skip
def k62_19 : SCode := .seq k62_7 k62_18
def k62_20 : SCode := .reg [⟨some 60, none, .mov (.tmp 7), [], false⟩, ⟨some 9, none, .mov (.tmp 60), [], false⟩] [1, 2, 3, 8, 9]
def k62_21 : SCode := .reg [⟨some 61, none, .mov (.tmp 9), [], false⟩, ⟨some 62, none, .mov (.tmp 8), [], false⟩, ⟨some 63, none, .bin .leq (.tmp 61) (.tmp 62), [], false⟩] [1, 2, 3, 8, 9, 63]
def k62_22 : SCode := .cond (.tmp 63) .skip (.exit 0)
def k62_23 : SCode := .seq k62_21 k62_22
def k62_24 : SCode := .reg [⟨some 66, none, .fld 0 (.tmp 3), [], false⟩, ⟨some 67, none, .load false 1 (.tmp 66), [], false⟩] [1, 2, 3, 8, 9, 67]
def k62_25 : SCode := .reg [⟨some 74, none, .bin .eql (.tmp 67) (.const (.int .i64 2)), [], false⟩, ⟨some 73, none, .mov (.tmp 74), [], false⟩] [1, 2, 3, 8, 9, 67, 73]
def k62_26 : SCode := .reg [⟨some 75, none, .mov (.tmp 2), [], false⟩, ⟨some 76, none, .mov (.tmp 9), [], false⟩, ⟨some 77, none, .bin .sub (.tmp 75) (.tmp 76), [], false⟩, ⟨some 78, none, .fld 3 (.tmp 3), [], false⟩, ⟨some 79, none, .load false 1 (.tmp 78), [], false⟩, ⟨some 80, none, .bin .sub (.tmp 77) (.tmp 79), [], false⟩, ⟨some 10, none, .mov (.tmp 80), [], false⟩] [1, 2, 3, 8, 9, 10]
def k62_27 : SCode := .reg [⟨some 81, none, .mov (.tmp 10), [], false⟩, ⟨some 82, none, .bin .geq (.tmp 81) (.const (.int .i64 0)), [], false⟩, ⟨some 83, none, .mov (.tmp 82), [], false⟩, ⟨some 84, (some (83, true)), .mov (.tmp 10), [], false⟩, ⟨some 85, (some (83, true)), .fld 6 (.tmp 3), [], false⟩, ⟨some 86, (some (83, true)), .load false 1 (.tmp 85), [], false⟩, ⟨some 87, (some (83, true)), .bin .rem (.tmp 84) (.tmp 86), [], false⟩, ⟨some 88, (some (83, true)), .bin .eql (.tmp 87) (.const (.int .i64 0)), [], false⟩, ⟨some 89, none, .pick (.tmp 83) (.tmp 88) (.const (.bool false)), [], false⟩] [1, 2, 3, 8, 9, 89]
def k62_28 : SCode := .reg [⟨some 6, none, .mov (.const (.bool true)), [], false⟩] [6]
def k62_29 : SCode := .seq k62_28 .ret
def k62_30 : SCode := .cond (.tmp 89) k62_29 .skip
def k62_31 : SCode := .seq k62_27 k62_30
def k62_32 : SCode := .seq k62_26 k62_31
def k62_33 : SCode := .reg [⟨some 91, none, .bin .eql (.tmp 67) (.const (.int .i64 3)), [], false⟩, ⟨some 90, none, .mov (.tmp 91), [], false⟩] [1, 2, 3, 8, 9, 90]
def k62_34 : SCode := .reg [⟨some 92, none, .mov (.tmp 2), [], false⟩, ⟨some 93, none, .mov (.tmp 9), [], false⟩, ⟨some 94, none, .bin .sub (.tmp 92) (.tmp 93), [], false⟩, ⟨some 95, none, .bin .quo (.tmp 94) (.const (.int .i64 86400)), [], false⟩, ⟨some 96, none, .bin .sub (.tmp 95) (.const (.int .i64 1)), [], false⟩, ⟨some 97, none, .max [(.const (.int .i64 0)), (.tmp 96)], [], false⟩, ⟨some 11, none, .mov (.tmp 97), [], false⟩] [1, 2, 3, 8, 9, 11]
def k62_35 : SCode := .reg [⟨some 98, none, .mov (.tmp 11), [], false⟩, ⟨some 99, none, .mov (.tmp 2), [], false⟩, ⟨some 100, none, .mov (.tmp 9), [], false⟩, ⟨some 101, none, .bin .sub (.tmp 99) (.tmp 100), [], false⟩, ⟨some 102, none, .bin .quo (.tmp 101) (.const (.int .i64 86400)), [], false⟩, ⟨some 103, none, .bin .add (.tmp 102) (.const (.int .i64 1)), [], false⟩, ⟨some 104, none, .max [(.const (.int .i64 0)), (.tmp 103)], [], false⟩, ⟨some 105, none, .bin .leq (.tmp 98) (.tmp 104), [], false⟩] [1, 2, 3, 8, 9, 11, 105]
def k62_36 : SCode := .cond (.tmp 105) .skip (.exit 3)
def k62_37 : SCode := .seq k62_35 k62_36
def k62_38 : SCode := .reg [⟨some 108, none, .mov (.tmp 11), [], false⟩, ⟨some 109, none, .bin .mul (.tmp 108) (.const (.int .i64 86400)), [], false⟩, ⟨some 110, none, .fld 7 (.tmp 3), [], false⟩, ⟨some 111, none, .load false 1 (.tmp 110), [], false⟩, ⟨some 112, none, .mov (.tmp 11), [], false⟩, ⟨some 113, none, .fld 7 (.tmp 3), [], false⟩, ⟨some 114, none, .load false 1 (.tmp 113), [], false⟩, ⟨some 115, none, .len (.tmp 114), [], false⟩, ⟨some 116, none, .bin .rem (.tmp 112) (.tmp 115), [], false⟩, ⟨some 117, none, .idxS 1 (.tmp 111) (.tmp 116), [], false⟩, ⟨some 118, none, .load false 1 (.tmp 117), [], false⟩, ⟨some 119, none, .bin .add (.tmp 109) (.tmp 118), [], false⟩, ⟨some 120, none, .mov (.tmp 2), [], false⟩, ⟨some 121, none, .mov (.tmp 9), [], false⟩, ⟨some 122, none, .bin .sub (.tmp 120) (.tmp 121), [], false⟩, ⟨some 123, none, .bin .eql (.tmp 119) (.tmp 122), [], false⟩] [1, 2, 3, 8, 9, 11, 123]
def k62_39 : SCode := .reg [⟨some 6, none, .mov (.const (.bool true)), [], false⟩] [6]
def k62_40 : SCode := .seq k62_39 .ret
def k62_41 : SCode := .cond (.tmp 123) k62_40 .skip
def k62_42 : SCode := .seq k62_38 k62_41
def k62_43 : SCode := .block 4 k62_42
def k62_44 : SCode := .reg [⟨some 106, none, .mov (.tmp 11), [], false⟩, ⟨some 107, none, .bin .add (.tmp 106) (.const (.int .i64 1)), [], false⟩, ⟨some 11, none, .mov (.tmp 107), [], false⟩] [1, 2, 3, 8, 9, 11]
def k62_45 : SCode := .seq k62_43 k62_44
def k62_46 : SCode := .seq k62_37 k62_45
def k62_47 : SCode := .loop k62_46
def k62_48 : SCode := .block 3 k62_47
def k62_49 : SCode := .seq k62_34 k62_48
def k62_50 : SCode := .reg [⟨some 68, none, .mov (.tmp 2), [], false⟩, ⟨some 69, none, .mov (.tmp 1), [], false⟩, ⟨some 70, none, .mov (.tmp 9), [], false⟩, ⟨some 71, none, .bin .add (.tmp 69) (.tmp 70), [], false⟩, ⟨some 72, none, .bin .eql (.tmp 68) (.tmp 71), [], false⟩] [1, 2, 3, 8, 9, 72]
def k62_51 : SCode := .reg [⟨some 6, none, .mov (.const (.bool true)), [], false⟩] [6]
def k62_52 : SCode := .seq k62_51 .ret
def k62_53 : SCode := .cond (.tmp 72) k62_52 .skip
def k62_54 : SCode := .seq k62_50 k62_53
def k62_55 : SCode := .cond (.tmp 90) k62_49 k62_54
def k62_56 : SCode := .seq k62_33 k62_55
def k62_57 : SCode := .cond (.tmp 73) k62_32 k62_56
def k62_58 : SCode := .seq k62_25 k62_57
def k62_59 : SCode := .block 2 k62_58
def k62_60 : SCode := .seq k62_24 k62_59
def k62_61 : SCode := .block 1 k62_60
def k62_62 : SCode := .reg [⟨some 64, none, .mov (.tmp 9), [], false⟩, ⟨some 65, none, .bin .add (.tmp 64) (.const (.int .i64 1)), [], false⟩, ⟨some 9, none, .mov (.tmp 65), [], false⟩] [1, 2, 3, 8, 9]
def k62_63 : SCode := .seq k62_61 k62_62
def k62_64 : SCode := .seq k62_23 k62_63
def k62_65 : SCode := .loop k62_64
def k62_66 : SCode := .block 0 k62_65
def k62_67 : SCode := .seq k62_20 k62_66
def k62_68 : SCode := .reg [⟨some 6, none, .mov (.const (.bool false)), [], false⟩] [6]
def k62_69 : SCode := .seq k62_68 .ret
def k62_70 : SCode := .seq k62_67 k62_69
def k62_71 : SCode := .seq k62_19 k62_70
def k62_72 : SCode := .seq k62_6 k62_71
def k62_73 : SCode := .seq k62_5 k62_72
def k62_74 : SCode := .seq k62_0 k62_73
@[simp] def rs_turretref08_Right : List SRes := [.tmp 6]
theorem law_turretref08_Right (cs : List CV) (r : CV) (hl : cs.length ≤ 124) (h : STri (cfF Try.prog [] 124) k62_74 (initT 0 cs) [] (retQ rs_turretref08_Right r)) : SC Try.prog 65 cs r :=
  sc_of [] follows Try.func65 rfl Try.ntmps65 (by decide) (by kernel_rfl) (by kernel_rfl) hl h
def k63_0 : SCode := .reg [⟨some 4, none, .mov (.const (.int .i64 0)), [], false⟩] [0, 1]
def k63_1 : SCode := .reg [⟨some 6, none, .mov (.tmp 0), [], false⟩, ⟨some 7, none, .mov (.tmp 1), [], false⟩, ⟨some 8, none, .bin .quo (.tmp 6) (.tmp 7), [], false⟩, ⟨some 5, none, .mov (.tmp 8), [], false⟩] [0, 1, 5]
def k63_2 : SCode := .reg [⟨some 9, none, .mov (.tmp 5), [], false⟩, ⟨some 10, none, .mov (.tmp 1), [], false⟩, ⟨some 11, none, .bin .mul (.tmp 9) (.tmp 10), [], false⟩, ⟨some 12, none, .mov (.tmp 0), [], false⟩, ⟨some 13, none, .bin .gtr (.tmp 11) (.tmp 12), [], false⟩] [5, 13]
def k63_3 : SCode := .reg [⟨some 14, none, .mov (.tmp 5), [], false⟩, ⟨some 15, none, .bin .sub (.tmp 14) (.const (.int .i64 1)), [], false⟩, ⟨some 5, none, .mov (.tmp 15), [], false⟩] [5]
def k63_4 : SCode := .cond (.tmp 13) k63_3 .skip
def k63_5 : SCode := .seq k63_2 k63_4
def k63_6 : SCode := .reg [⟨some 16, none, .mov (.tmp 5), [], false⟩, ⟨some 4, none, .mov (.tmp 16), [], false⟩] [4]
def k63_7 : SCode := .seq k63_6 .ret
def k63_8 : SCode := .seq k63_5 k63_7
def k63_9 : SCode := .seq k63_1 k63_8
def k63_10 : SCode := .seq k63_0 k63_9
@[simp] def rs_turretref08_Down : List SRes := [.tmp 4]
theorem law_turretref08_Down (cs : List CV) (r : CV) (hl : cs.length ≤ 17) (h : STri (cfF Try.prog [] 17) k63_10 (initT 0 cs) [] (retQ rs_turretref08_Down r)) : SC Try.prog 74 cs r :=
  sc_of [] follows Try.func74 rfl Try.ntmps74 (by decide) (by kernel_rfl) (by kernel_rfl) hl h
def k64_0 : SCode := .reg [⟨some 4, none, .mov (.const (.int .i64 0)), [], false⟩] [0, 1]
def k64_1 : SCode := .reg [⟨some 6, none, .mov (.tmp 0), [], false⟩, ⟨some 7, none, .mov (.tmp 1), [], false⟩, ⟨some 8, none, .bin .quo (.tmp 6) (.tmp 7), [], false⟩, ⟨some 5, none, .mov (.tmp 8), [], false⟩] [0, 1, 5]
def k64_2 : SCode := .reg [⟨some 9, none, .mov (.tmp 5), [], false⟩, ⟨some 10, none, .mov (.tmp 1), [], false⟩, ⟨some 11, none, .bin .mul (.tmp 9) (.tmp 10), [], false⟩, ⟨some 12, none, .mov (.tmp 0), [], false⟩, ⟨some 13, none, .bin .lss (.tmp 11) (.tmp 12), [], false⟩] [5, 13]
def k64_3 : SCode := .reg [⟨some 14, none, .mov (.tmp 5), [], false⟩, ⟨some 15, none, .bin .add (.tmp 14) (.const (.int .i64 1)), [], false⟩, ⟨some 5, none, .mov (.tmp 15), [], false⟩] [5]
def k64_4 : SCode := .cond (.tmp 13) k64_3 .skip
def k64_5 : SCode := .seq k64_2 k64_4
def k64_6 : SCode := .reg [⟨some 16, none, .mov (.tmp 5), [], false⟩, ⟨some 4, none, .mov (.tmp 16), [], false⟩] [4]
def k64_7 : SCode := .seq k64_6 .ret
def k64_8 : SCode := .seq k64_5 k64_7
def k64_9 : SCode := .seq k64_1 k64_8
def k64_10 : SCode := .seq k64_0 k64_9
@[simp] def rs_turretref08_Up : List SRes := [.tmp 4]
theorem law_turretref08_Up (cs : List CV) (r : CV) (hl : cs.length ≤ 17) (h : STri (cfF Try.prog [] 17) k64_10 (initT 0 cs) [] (retQ rs_turretref08_Up r)) : SC Try.prog 75 cs r :=
  sc_of [] follows Try.func75 rfl Try.ntmps75 (by decide) (by kernel_rfl) (by kernel_rfl) hl h
def k65_0 : SCode := .reg [⟨some 4, none, .mov (.const (.int .i64 0)), [], false⟩] [0, 1]
def k65_1 : SCode := .reg [⟨some 5, none, .mov (.tmp 0), [], false⟩, ⟨some 6, none, .mov (.tmp 1), [], false⟩, ⟨some 7, none, .mov (.tmp 0), [], false⟩, ⟨some 8, none, .mov (.tmp 1), [], false⟩, ⟨some 9, none, .call 74 [(.tmp 7), (.tmp 8)], [], false⟩, ⟨some 10, none, .bin .mul (.tmp 6) (.tmp 9), [], false⟩, ⟨some 11, none, .bin .sub (.tmp 5) (.tmp 10), [], false⟩, ⟨some 4, none, .mov (.tmp 11), [], false⟩] [4]
def k65_2 : SCode := .seq k65_1 .ret
def k65_3 : SCode := .seq k65_0 k65_2
@[simp] def rs_turretref08_Mod : List SRes := [.tmp 4]
theorem law_turretref08_Mod (cs : List CV) (r : CV) (hl : cs.length ≤ 12) (h : STri (cfF Try.prog [] 12) k65_3 (initT 0 cs) [] (retQ rs_turretref08_Mod r)) : SC Try.prog 76 cs r :=
  sc_of [] follows Try.func76 rfl Try.ntmps76 (by decide) (by kernel_rfl) (by kernel_rfl) hl h
def k66_0 : SCode := .reg [⟨some 5, none, .box 25 (.tmp 2), [], false⟩, ⟨some 6, none, .mov (.const (.int .i64 0)), [], false⟩] [0, 1, 5]
def k66_1 : SCode := .reg [⟨some 9, none, .mov (.tmp 0), [], false⟩, ⟨some 10, none, .call 41 [(.tmp 9)], [], false⟩, ⟨some 11, none, .un .not (.tmp 10), [], false⟩] [0, 1, 5, 11]
def k66_2 : SCode := .reg [⟨some 6, none, .mov (.const (.int .i64 2)), [], false⟩] [6]
def k66_3 : SCode := .seq k66_2 .ret
def k66_4 : SCode := .cond (.tmp 11) k66_3 .skip
def k66_5 : SCode := .seq k66_1 k66_4
def k66_6 : SCode := .reg [⟨some 12, none, .mov (.tmp 1), [], false⟩, ⟨some 13, none, .len (.tmp 12), [], false⟩, ⟨some 14, none, .bin .gtr (.tmp 13) (.const (.int .i64 60)), [], false⟩] [0, 1, 5, 14]
def k66_7 : SCode := .reg [⟨some 6, none, .mov (.const (.int .i64 5)), [], false⟩] [6]
def k66_8 : SCode := .seq k66_7 .ret
def k66_9 : SCode := .cond (.tmp 14) k66_8 .skip
def k66_10 : SCode := .seq k66_6 k66_9
def k66_11 : SCode := .reg [⟨some 7, none, .mov (.const (.int .i64 0)), [], false⟩] [0, 1, 5, 7]
def k66_12 : SCode := .reg [⟨some 15, none, .mov (.tmp 7), [], false⟩, ⟨some 16, none, .mov (.tmp 1), [], false⟩, ⟨some 17, none, .len (.tmp 16), [], false⟩, ⟨some 18, none, .bin .lss (.tmp 15) (.tmp 17), [], false⟩] [0, 1, 5, 7, 18]
def k66_13 : SCode := .cond (.tmp 18) .skip (.exit 0)
def k66_14 : SCode := .seq k66_12 k66_13
def k66_15 : SCode := .reg [⟨some 21, none, .mov (.tmp 1), [], false⟩, ⟨some 22, none, .mov (.tmp 7), [], false⟩, ⟨some 23, none, .idxS 3 (.tmp 21) (.tmp 22), [], false⟩, ⟨some 24, none, .fld 0 (.tmp 23), [], false⟩, ⟨some 25, none, .load false 1 (.tmp 24), [], false⟩, ⟨some 26, none, .mov (.tmp 0), [], false⟩, ⟨some 27, none, .len (.tmp 26), [], false⟩, ⟨some 28, none, .bin .sub (.tmp 27) (.const (.int .i64 1)), [], false⟩, ⟨some 29, none, .call 31 [(.tmp 25), (.const (.int .i64 0)), (.tmp 28)], [], false⟩, ⟨some 30, none, .un .not (.tmp 29), [], false⟩] [0, 1, 5, 7, 30]
def k66_16 : SCode := .reg [⟨some 6, none, .mov (.const (.int .i64 7)), [], false⟩] [6]
def k66_17 : SCode := .seq k66_16 .ret
def k66_18 : SCode := .cond (.tmp 30) k66_17 .skip
def k66_19 : SCode := .seq k66_15 k66_18
def k66_20 : SCode := .reg [⟨some 8, none, .mov (.const (.int .i64 0)), [], false⟩] [0, 1, 5, 7, 8]
def k66_21 : SCode := .reg [⟨some 31, none, .mov (.tmp 0), [], false⟩, ⟨some 32, none, .mov (.tmp 1), [], false⟩, ⟨some 33, none, .mov (.tmp 7), [], false⟩, ⟨some 34, none, .idxS 3 (.tmp 32) (.tmp 33), [], false⟩, ⟨some 35, none, .fld 0 (.tmp 34), [], false⟩, ⟨some 36, none, .load false 1 (.tmp 35), [], false⟩, ⟨some 37, none, .idxS 8 (.tmp 31) (.tmp 36), [], false⟩, ⟨some 38, none, .fld 0 (.tmp 37), [], false⟩, ⟨some 39, none, .load false 1 (.tmp 38), [], false⟩] [0, 1, 5, 7, 8, 39]
def k66_22 : SCode := .reg [⟨some 41, none, .bin .eql (.tmp 39) (.const (.int .i64 1)), [], false⟩, ⟨some 40, none, .mov (.tmp 41), [], false⟩] [0, 1, 5, 7, 8, 39, 40]
def k66_23 : SCode := .reg [⟨some 8, none, .mov (.const (.int .i64 43199)), [], false⟩] [0, 1, 5, 7, 8]
def k66_24 : SCode := .reg [⟨some 43, none, .bin .eql (.tmp 39) (.const (.int .i64 4)), [], false⟩, ⟨some 42, none, .mov (.tmp 43), [], false⟩] [0, 1, 5, 7, 8, 42]
def k66_25 : SCode := .reg [⟨some 8, none, .mov (.const (.int .i64 3155760000)), [], false⟩] [0, 1, 5, 7, 8]
def k66_26 : SCode := .cond (.tmp 42) k66_25 .skip
def k66_27 : SCode := .seq k66_24 k66_26
def k66_28 : SCode := .cond (.tmp 40) k66_23 k66_27
def k66_29 : SCode := .seq k66_22 k66_28
def k66_30 : SCode := .block 2 k66_29
def k66_31 : SCode := .seq k66_21 k66_30
def k66_32 : SCode := .reg [⟨some 44, none, .mov (.tmp 1), [], false⟩, ⟨some 45, none, .mov (.tmp 7), [], false⟩, ⟨some 46, none, .idxS 3 (.tmp 44) (.tmp 45), [], false⟩, ⟨some 47, none, .fld 1 (.tmp 46), [], false⟩, ⟨some 48, none, .load false 1 (.tmp 47), [], false⟩, ⟨some 49, none, .call 31 [(.tmp 48), (.const (.int .i64 0)), (.const (.int .i64 3155760000))], [], false⟩, ⟨some 50, none, .un .not (.tmp 49), [], false⟩, ⟨some 51, none, .mov (.tmp 50), [], false⟩, ⟨some 52, (some (51, false)), .mov (.tmp 1), [], false⟩, ⟨some 53, (some (51, false)), .mov (.tmp 7), [], false⟩, ⟨some 54, (some (51, false)), .idxS 3 (.tmp 52) (.tmp 53), [], false⟩, ⟨some 55, (some (51, false)), .fld 2 (.tmp 54), [], false⟩, ⟨some 56, (some (51, false)), .load false 1 (.tmp 55), [], false⟩, ⟨some 57, (some (51, false)), .mov (.tmp 8), [], false⟩, ⟨some 58, (some (51, false)), .call 31 [(.tmp 56), (.const (.int .i64 0)), (.tmp 57)], [], false⟩, ⟨some 59, (some (51, false)), .un .not (.tmp 58), [], false⟩, ⟨some 60, none, .pick (.tmp 51) (.const (.bool true)) (.tmp 59), [], false⟩] [0, 1, 5, 7, 60]
def k66_33 : SCode := .reg [⟨some 6, none, .mov (.const (.int .i64 2)), [], false⟩] [6]
def k66_34 : SCode := .seq k66_33 .ret
def k66_35 : SCode := .cond (.tmp 60) k66_34 .skip
def k66_36 : SCode := .seq k66_32 k66_35
def k66_37 : SCode := .seq k66_31 k66_36
def k66_38 : SCode := .seq k66_20 k66_37
def k66_39 : SCode := .seq k66_19 k66_38
def k66_40 : SCode := .block 1 k66_39
def k66_41 : SCode := .reg [⟨some 19, none, .mov (.tmp 7), [], false⟩, ⟨some 20, none, .bin .add (.tmp 19) (.const (.int .i64 1)), [], false⟩, ⟨some 7, none, .mov (.tmp 20), [], false⟩] [0, 1, 5, 7]
def k66_42 : SCode := .seq k66_40 k66_41
def k66_43 : SCode := .seq k66_14 k66_42
def k66_44 : SCode := .loop k66_43
def k66_45 : SCode := .block 0 k66_44
def k66_46 : SCode := .seq k66_11 k66_45
def k66_47 : SCode := .reg [⟨some 61, none, .load true 2 (.tmp 5), [], false⟩, ⟨some 62, none, .call 51 [(.tmp 61), (.const (.int .i64 7200))], [], false⟩, ⟨some 63, none, .un .not (.tmp 62), [], false⟩] [63]
def k66_48 : SCode := .reg [⟨some 6, none, .mov (.const (.int .i64 3)), [], false⟩] [6]
def k66_49 : SCode := .seq k66_48 .ret
def k66_50 : SCode := .cond (.tmp 63) k66_49 .skip
def k66_51 : SCode := .seq k66_47 k66_50
def k66_52 : SCode := .reg [⟨some 6, none, .mov (.const (.int .i64 0)), [], false⟩] [6]
def k66_53 : SCode := .seq k66_52 .ret
def k66_54 : SCode := .seq k66_51 k66_53
def k66_55 : SCode := .seq k66_46 k66_54
def k66_56 : SCode := .seq k66_10 k66_55
def k66_57 : SCode := .seq k66_5 k66_56
def k66_58 : SCode := .seq k66_0 k66_57
@[simp] def rs_turretref08_Notes : List SRes := [.tmp 6]
theorem law_turretref08_Notes (cs : List CV) (r : CV) (hl : cs.length ≤ 64) (h : STri (cfF Try.prog [] 64) k66_58 (initT 0 cs) [] (retQ rs_turretref08_Notes r)) : SC Try.prog 20 cs r :=
  sc_of [] follows Try.func20 rfl Try.ntmps20 (by decide) (by kernel_rfl) (by kernel_rfl) hl h
end Go.Proofs.Ytakdmliblijgmaa
