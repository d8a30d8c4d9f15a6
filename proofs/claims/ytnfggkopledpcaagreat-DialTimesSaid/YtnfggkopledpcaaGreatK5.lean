/- Part 5 of a proof: Dj, Dk, Dl, DLay, DLay2, SortOwn, Dn, Do, Dp, Dq, Ea, Eb, Ec, Ed, Ee, Lift, Go0. -/
import Derived.Test.YtnfggkopledpcaaGreatK4
import Derived.Shelf.SlSortCmp.WholeK
import Derived.Shelf.SlicesG.Cmp
import Derived.Test.YtnfggkopledpcaaGreatProg
import Derived.Test.YtnfggkopledpcaaGreatK3
import Derived.Laws.ResultCell
import Derived.Laws.Rows
import Derived.Shelf.SlSortCmp.NoneTotal
import Derived.StillTailTactics
import Derived.RegionTactic
import Derived.Maps.RangeWalk
import Derived.Maps.OwnOps
import Derived.ChangeSame
import Derived.JoinedOf
import Derived.JoinedAt
import Derived.RowKit3
import Derived.ReadAgain
import Derived.RowKit2
import Derived.ChangeSlices
import Derived.OpenShut
set_option linter.unusedSimpArgs false
set_option linter.unusedVariables false
/- Dial, X: readings. -/
namespace Go.Proofs.YtnfggkopledpcaaGreat
open Go.RowKit
structure Nt where
  (w : Dw) (l : List (Int × Int)) (nlo nhi wlo whi : Int)
def cNotes (n : Nt) : CV := .agg [I n.w.jump, I n.w.elo, I n.w.ehi, slF n.w.faces, slX n.w.faces, slS n.l, I n.nlo, I n.nhi, I n.wlo, I n.whi]
attribute [simp] cNotes
def Nt.zero : Nt := ⟨.zero, [], 0, 0, 0, 0⟩
def rdE (m : Int) (x : Int × Int) : Int := if inB 0 (m - 1) x.1 = false then 7 else if inB 0 43199 x.2 = false then 2 else 0
def rdErr (m : Int) (l : List (Int × Int)) : Int := match l.find? (fun x => rdE m x != 0) with
  | some x => rdE m x
  | none => 0
def RdTo (m : Int) (l : List (Int × Int)) (k : Nat) : Prop := ∀ x ∈ l.take k, rdE m x = 0
theorem rd_at {m : Int} {l : List (Int × Int)} {k : Nat} (hlt : k < l.length) (h : RdTo m l k) (he : rdE m l[k] ≠ 0) : rdErr m l = rdE m l[k] := by
  have : l.find? (fun x => rdE m x != 0) = some l[k] := by
    rw [List.find?_eq_some_iff_getElem]
    refine ⟨by simpa using he, k, hlt, rfl, fun j hj => ?_⟩
    simp [h l[j] (List.mem_take_iff_getElem.2 ⟨j, by omega, rfl⟩)]
  unfold rdErr; rw [this]
theorem rd_none {m : Int} {l : List (Int × Int)} (h : RdTo m l l.length) : rdErr m l = 0 := by
  have : l.find? (fun x => rdE m x != 0) = none := by
    rw [List.find?_eq_none]
    intro x hx
    simp [h x (by rw [List.take_length]; exact hx)]
  unfold rdErr; rw [this]
theorem rd_succ {m : Int} {l : List (Int × Int)} {k : Nat} (hlt : k < l.length) (h : RdTo m l k) (he : rdE m l[k] = 0) : RdTo m l (k + 1) := fun x hx => by
  rw [List.take_succ_eq_append_getElem hlt, List.mem_append] at hx
  rcases hx with hx | hx
  · exact h x hx
  · simp at hx; rw [hx]; exact he
def ntErr (n : Nt) : Int := if dwB n.w = false then 2 else if n.l.length > 20 then 5 else if rdErr n.w.faces.length n.l ≠ 0 then rdErr n.w.faces.length n.l else if spanB 0 3155760000 n.nlo n.nhi = false ∨ n.nhi - n.nlo > 7200 then 3 else if spanB (-10000) 10000 n.wlo n.whi = false then 2 else 0
def rNotes (n : Nt) : CV := if ntErr n = 0 then .tup [cNotes n, I 0] else .tup [cNotes .zero, I (ntErr n)]
theorem nt_bad {n : Nt} {e : Int} (h : ntErr n = e) (he : e ≠ 0) : CLe (.tup [.agg [I 0, I 0, I 0, .val (.slice none 0 0), .val (.slice none 0 0), .val (.slice none 0 0), I 0, I 0, I 0, I 0], I e]) (rNotes n) := by
  unfold rNotes; rw [if_neg (by rw [h]; exact he), h]
  exact .tup _ _ (.cons _ _ _ _ (.agg _ _ (.cons _ _ _ _ (.refl _) (.cons _ _ _ _ (.refl _) (.cons _ _ _ _ (.refl _) (.cons _ _ _ _ (.nil 5) (.cons _ _ _ _ (.nil 6) (.cons _ _ _ _ (.nil 2) (.cons _ _ _ _ (.refl _) (.cons _ _ _ _ (.refl _) (.cons _ _ _ _ (.refl _) (.cons _ _ _ _ (.refl _) .nil))))))))))) (.cons _ _ _ _ (.refl _) .nil))
theorem sNewNotes (n : Nt) (hw : DwLen n.w) (hl : n.l.length ≤ 1000000) : SC Tryz.prog 28 [cDw n.w, slS n.l, cS n.nlo n.nhi, cS n.wlo n.whi] (rNotes n) := by
  refine law_dial_newNotes _ _ (by simp) ?_
  have hn := hw.n
  by_cases hd : dwB n.w = true
  · by_cases h20 : n.l.length > 20
    · have h20' : (n.l.length : Int) > 20 := by omega
      (repeat' (first | ((first | with_reducible refine st_skip ?_ | with_reducible refine st_exit ?_); (try simp only [seqQ, blockQ, loopQ, forQ, whileQ, reduceIte, Nat.reduceEqDiff])) | (with_reducible refine st_ret ?_; ((try simp only [seqQ, blockQ, loopQ, forQ, whileQ]); first | (with_reducible refine retM_ret ?_) | refine retQ_ret ?_; simp [h20'])) | refine st_seq ?_ | refine st_block ?_ | ((first | refine st_reg ?_ | refine buildP_own ?_ | refine callP_b (sWorksOk hw hd) rfl ?_) <;> (simp -dsimp [h20']; (repeat (simp -dsimp (disch := (first | omega | assumption | (refine Bool.eq_false_iff.1 ?_; assumption))) only [wrap_in, if_pos, if_neg]; (try simp -dsimp [h20']))))) | ((first | refine guardP_of (fun hc => ?_) (fun hc => ?_) | refine st_cond rfl (fun hc => ?_) (fun hc => ?_)) <;> (try simp only [decide_eq_true_eq, decide_eq_false_iff_not, Bool.true_eq_false, Bool.false_eq_true, bne_iff_ne, ne_eq, bne_eq_false_iff_eq, beq_iff_eq, beq_eq_false_iff_ne, Bool.not_eq_true, Bool.not_eq_false, Bool.not_eq_eq_eq_not, Bool.not_true, Bool.not_false, Decidable.not_not] at hc) <;> (try (exfalso; first | omega | exact bool_tf hc (by assumption) | exact bool_ft hc (by assumption) | exact absurd (by assumption) hc)) <;> (first | with_reducible show STri _ _ _ _ _ _ | (simp -dsimp [h20', hc]; (repeat (simp -dsimp (disch := (first | omega | assumption | (refine Bool.eq_false_iff.1 ?_; assumption))) only [wrap_in, if_pos, if_neg]; (try simp -dsimp [h20', hc]))))))))
      all_goals (exact nt_bad (by simp only [ntErr, hd]; simp [h20]) (by decide))
    · (repeat' (first | ((first | with_reducible refine st_skip ?_ | with_reducible refine st_exit ?_); (try simp only [seqQ, blockQ, loopQ, forQ, whileQ, reduceIte, Nat.reduceEqDiff])) | (with_reducible refine st_ret ?_; ((try simp only [seqQ, blockQ, loopQ, forQ, whileQ]); first | (with_reducible refine retM_ret ?_) | refine retQ_ret ?_; simp)) | refine st_seq ?_ | refine st_block ?_ | ((first | refine st_reg ?_ | refine buildP_own ?_ | refine callP_b (sWorksOk hw hd) rfl ?_) <;> (simp -dsimp; (repeat (simp -dsimp (disch := (first | omega | assumption | (refine Bool.eq_false_iff.1 ?_; assumption))) only [wrap_in, if_pos, if_neg]; (try simp -dsimp))))) | ((first | refine guardP_of (fun hc => ?_) (fun hc => ?_) | refine st_cond rfl (fun hc => ?_) (fun hc => ?_)) <;> (try simp only [decide_eq_true_eq, decide_eq_false_iff_not, Bool.true_eq_false, Bool.false_eq_true, bne_iff_ne, ne_eq, bne_eq_false_iff_eq, beq_iff_eq, beq_eq_false_iff_ne, Bool.not_eq_true, Bool.not_eq_false, Bool.not_eq_eq_eq_not, Bool.not_true, Bool.not_false, Decidable.not_not] at hc) <;> (try (exfalso; first | omega | exact bool_tf hc (by assumption) | exact bool_ft hc (by assumption) | exact absurd (by assumption) hc)) <;> (first | with_reducible show STri _ _ _ _ _ _ | (simp -dsimp [hc]; (repeat (simp -dsimp (disch := (first | omega | assumption | (refine Bool.eq_false_iff.1 ?_; assumption))) only [wrap_in, if_pos, if_neg]; (try simp -dsimp [hc]))))))))
      refine st_for [6, 7, 8, 10] n.l.length (fun k T H => RdTo n.w.faces.length n.l k ∧ T = [(1, .c (.sl 2 (n.l.map rowS))), (6, .ptr 6 0), (7, .ptr 7 0), (8, .ptr 8 0), (10, .ptr 10 0), (28, .c (.sl 2 (n.l.map rowS))), (29, .c (I n.l.length)), (30, .c (I k))] ∧
        H = [(6, .box 23 [.c (I n.nlo), .c (I n.nhi)]), (7, .box 23 [.c (I n.wlo), .c (I n.whi)]), (8, .box 80 [.c (I 0), .c (I 0), .c (I 0), .c (.val (.slice none 0 0)), .c (.val (.slice none 0 0)), .c (.val (.slice none 0 0)), .c (I 0), .c (I 0), .c (I 0), .c (I 0)]),
          (10, .box 78 [.c (I n.w.jump), .c (I n.w.elo), .c (I n.w.ehi), .c (slF n.w.faces), .c (slX n.w.faces)])]) (by simp) ⟨by simp [RdTo], by simp, by simp⟩ ?_
      rintro k T H hk ⟨ht, rfl, rfl⟩
      by_cases hlt : k < n.l.length
      · by_cases hf : inB 0 (n.w.faces.length - 1) n.l[k].1 = true
        · by_cases hs : inB 0 43199 n.l[k].2 = true
          · have he : rdE n.w.faces.length n.l[k] = 0 := by unfold rdE; rw [if_neg (by simp [hf]), if_neg (by simp [hs])]
            (repeat' (first | ((first | with_reducible refine st_skip ?_ | with_reducible refine st_exit ?_); (try simp only [seqQ, blockQ, loopQ, forQ, whileQ, reduceIte, Nat.reduceEqDiff])) | (with_reducible refine st_ret ?_; ((try simp only [seqQ, blockQ, loopQ, forQ, whileQ]); first | (with_reducible refine retM_ret ?_) | refine retQ_ret ?_; simp [hlt, hf, hs, allIn1])) | refine st_seq ?_ | refine st_block ?_ | ((first | refine st_reg ?_ | refine buildP_own ?_ | refine callP_b (sWithin 0 (n.w.faces.length - 1) [n.l[k].1] (by simp)) rfl ?_ | refine callP_b (sWithin 0 43199 [n.l[k].2] (by simp)) rfl ?_) <;> (simp -dsimp [hlt, hf, hs, allIn1]; (repeat (simp -dsimp (disch := (first | omega | assumption | (refine Bool.eq_false_iff.1 ?_; assumption))) only [wrap_in, if_pos, if_neg]; (try simp -dsimp [hlt, hf, hs, allIn1]))))) | ((first | refine guardP_of (fun hc => ?_) (fun hc => ?_) | refine st_cond rfl (fun hc => ?_) (fun hc => ?_)) <;> (try simp only [decide_eq_true_eq, decide_eq_false_iff_not, Bool.true_eq_false, Bool.false_eq_true, bne_iff_ne, ne_eq, bne_eq_false_iff_eq, beq_iff_eq, beq_eq_false_iff_ne, Bool.not_eq_true, Bool.not_eq_false, Bool.not_eq_eq_eq_not, Bool.not_true, Bool.not_false, Decidable.not_not] at hc) <;> (try (exfalso; first | omega | exact bool_tf hc (by assumption) | exact bool_ft hc (by assumption) | exact absurd (by assumption) hc)) <;> (first | with_reducible show STri _ _ _ _ _ _ | (simp -dsimp [hlt, hf, hs, allIn1, hc]; (repeat (simp -dsimp (disch := (first | omega | assumption | (refine Bool.eq_false_iff.1 ?_; assumption))) only [wrap_in, if_pos, if_neg]; (try simp -dsimp [hlt, hf, hs, allIn1, hc]))))))))
            exact ⟨hlt, by simp, rd_succ hlt ht he, by simp, by simp⟩
          · have he : rdE n.w.faces.length n.l[k] = 2 := by unfold rdE; rw [if_neg (by simp [hf]), if_pos (by simpa using hs)]
            have hr := rd_at hlt ht (by rw [he]; decide)
            (repeat' (first | ((first | with_reducible refine st_skip ?_ | with_reducible refine st_exit ?_); (try simp only [seqQ, blockQ, loopQ, forQ, whileQ, reduceIte, Nat.reduceEqDiff])) | (with_reducible refine st_ret ?_; ((try simp only [seqQ, blockQ, loopQ, forQ, whileQ]); first | (with_reducible refine retM_ret ?_) | refine retQ_ret ?_; simp [hlt, hf, hs, allIn1])) | refine st_seq ?_ | refine st_block ?_ | ((first | refine st_reg ?_ | refine buildP_own ?_ | refine callP_b (sWithin 0 (n.w.faces.length - 1) [n.l[k].1] (by simp)) rfl ?_ | refine callP_b (sWithin 0 43199 [n.l[k].2] (by simp)) rfl ?_) <;> (simp -dsimp [hlt, hf, hs, allIn1]; (repeat (simp -dsimp (disch := (first | omega | assumption | (refine Bool.eq_false_iff.1 ?_; assumption))) only [wrap_in, if_pos, if_neg]; (try simp -dsimp [hlt, hf, hs, allIn1]))))) | ((first | refine guardP_of (fun hc => ?_) (fun hc => ?_) | refine st_cond rfl (fun hc => ?_) (fun hc => ?_)) <;> (try simp only [decide_eq_true_eq, decide_eq_false_iff_not, Bool.true_eq_false, Bool.false_eq_true, bne_iff_ne, ne_eq, bne_eq_false_iff_eq, beq_iff_eq, beq_eq_false_iff_ne, Bool.not_eq_true, Bool.not_eq_false, Bool.not_eq_eq_eq_not, Bool.not_true, Bool.not_false, Decidable.not_not] at hc) <;> (try (exfalso; first | omega | exact bool_tf hc (by assumption) | exact bool_ft hc (by assumption) | exact absurd (by assumption) hc)) <;> (first | with_reducible show STri _ _ _ _ _ _ | (simp -dsimp [hlt, hf, hs, allIn1, hc]; (repeat (simp -dsimp (disch := (first | omega | assumption | (refine Bool.eq_false_iff.1 ?_; assumption))) only [wrap_in, if_pos, if_neg]; (try simp -dsimp [hlt, hf, hs, allIn1, hc]))))))))
            all_goals (exact nt_bad (by unfold ntErr; rw [if_neg (by simp [hd]), if_neg h20, if_pos (by rw [hr, he]; decide), hr, he]) (by decide))
        · have he : rdE n.w.faces.length n.l[k] = 7 := by unfold rdE; rw [if_pos (by simpa using hf)]
          have hr := rd_at hlt ht (by rw [he]; decide)
          (repeat' (first | ((first | with_reducible refine st_skip ?_ | with_reducible refine st_exit ?_); (try simp only [seqQ, blockQ, loopQ, forQ, whileQ, reduceIte, Nat.reduceEqDiff])) | (with_reducible refine st_ret ?_; ((try simp only [seqQ, blockQ, loopQ, forQ, whileQ]); first | (with_reducible refine retM_ret ?_) | refine retQ_ret ?_; simp [hlt, hf, allIn1])) | refine st_seq ?_ | refine st_block ?_ | ((first | refine st_reg ?_ | refine buildP_own ?_ | refine callP_b (sWithin 0 (n.w.faces.length - 1) [n.l[k].1] (by simp)) rfl ?_) <;> (simp -dsimp [hlt, hf, allIn1]; (repeat (simp -dsimp (disch := (first | omega | assumption | (refine Bool.eq_false_iff.1 ?_; assumption))) only [wrap_in, if_pos, if_neg]; (try simp -dsimp [hlt, hf, allIn1]))))) | ((first | refine guardP_of (fun hc => ?_) (fun hc => ?_) | refine st_cond rfl (fun hc => ?_) (fun hc => ?_)) <;> (try simp only [decide_eq_true_eq, decide_eq_false_iff_not, Bool.true_eq_false, Bool.false_eq_true, bne_iff_ne, ne_eq, bne_eq_false_iff_eq, beq_iff_eq, beq_eq_false_iff_ne, Bool.not_eq_true, Bool.not_eq_false, Bool.not_eq_eq_eq_not, Bool.not_true, Bool.not_false, Decidable.not_not] at hc) <;> (try (exfalso; first | omega | exact bool_tf hc (by assumption) | exact bool_ft hc (by assumption) | exact absurd (by assumption) hc)) <;> (first | with_reducible show STri _ _ _ _ _ _ | (simp -dsimp [hlt, hf, allIn1, hc]; (repeat (simp -dsimp (disch := (first | omega | assumption | (refine Bool.eq_false_iff.1 ?_; assumption))) only [wrap_in, if_pos, if_neg]; (try simp -dsimp [hlt, hf, allIn1, hc]))))))))
          all_goals (exact nt_bad (by unfold ntErr; rw [if_neg (by simp [hd]), if_neg h20, if_pos (by rw [hr, he]; decide), hr, he]) (by decide))
      · have : k = n.l.length := by omega
        subst this
        have hr := rd_none ht
        by_cases hsp : spanB 0 3155760000 n.nlo n.nhi = true
        · have h4 := hsp
          unfold spanB at h4
          simp only [Bool.and_eq_true, decide_eq_true_eq] at h4
          obtain ⟨⟨w1, w2⟩, w3⟩ := h4
          by_cases h72 : n.nhi - n.nlo > 7200
          · (repeat' (first | ((first | with_reducible refine st_skip ?_ | with_reducible refine st_exit ?_); (try simp only [seqQ, blockQ, loopQ, forQ, whileQ, reduceIte, Nat.reduceEqDiff])) | (with_reducible refine st_ret ?_; ((try simp only [seqQ, blockQ, loopQ, forQ, whileQ]); first | (with_reducible refine retM_ret ?_) | refine retQ_ret ?_; simp [hsp, h72])) | refine st_seq ?_ | refine st_block ?_ | ((first | refine st_reg ?_ | refine buildP_own ?_ | refine callP_b (sIsSpan n.nlo n.nhi 0 3155760000) rfl ?_) <;> (simp -dsimp [hsp, h72]; (repeat (simp -dsimp (disch := (first | omega | assumption | (refine Bool.eq_false_iff.1 ?_; assumption))) only [wrap_in, if_pos, if_neg]; (try simp -dsimp [hsp, h72]))))) | ((first | refine guardP_of (fun hc => ?_) (fun hc => ?_) | refine st_cond rfl (fun hc => ?_) (fun hc => ?_)) <;> (try simp only [decide_eq_true_eq, decide_eq_false_iff_not, Bool.true_eq_false, Bool.false_eq_true, bne_iff_ne, ne_eq, bne_eq_false_iff_eq, beq_iff_eq, beq_eq_false_iff_ne, Bool.not_eq_true, Bool.not_eq_false, Bool.not_eq_eq_eq_not, Bool.not_true, Bool.not_false, Decidable.not_not] at hc) <;> (try (exfalso; first | omega | exact bool_tf hc (by assumption) | exact bool_ft hc (by assumption) | exact absurd (by assumption) hc)) <;> (first | with_reducible show STri _ _ _ _ _ _ | (simp -dsimp [hsp, h72, hc]; (repeat (simp -dsimp (disch := (first | omega | assumption | (refine Bool.eq_false_iff.1 ?_; assumption))) only [wrap_in, if_pos, if_neg]; (try simp -dsimp [hsp, h72, hc]))))))))
            all_goals (exact nt_bad (by unfold ntErr; rw [if_neg (by simp [hd]), if_neg h20, if_neg (by simp [hr]), if_pos (.inr h72)]) (by decide))
          · have h0 : ∀ e, (if spanB (-10000) 10000 n.wlo n.whi = false then (2 : Int) else 0) = e → ntErr n = e := fun e he => by
              unfold ntErr; rw [if_neg (by simp [hd]), if_neg h20, if_neg (by simp [hr]), if_neg (by simp [hsp]; omega), he]
            (repeat' (first | ((first | with_reducible refine st_skip ?_ | with_reducible refine st_exit ?_); (try simp only [seqQ, blockQ, loopQ, forQ, whileQ, reduceIte, Nat.reduceEqDiff])) | (with_reducible refine st_ret ?_; ((try simp only [seqQ, blockQ, loopQ, forQ, whileQ]); first | (with_reducible refine retM_ret ?_) | refine retQ_ret ?_; simp [hsp, h72])) | refine st_seq ?_ | refine st_block ?_ | ((first | refine st_reg ?_ | refine buildP_own ?_ | refine callP_b (sIsSpan n.nlo n.nhi 0 3155760000) rfl ?_ | refine callP_b (sIsWind n.wlo n.whi) rfl ?_) <;> (simp -dsimp [hsp, h72]; (repeat (simp -dsimp (disch := (first | omega | assumption | (refine Bool.eq_false_iff.1 ?_; assumption))) only [wrap_in, if_pos, if_neg]; (try simp -dsimp [hsp, h72]))))) | ((first | refine guardP_of (fun hc => ?_) (fun hc => ?_) | refine st_cond rfl (fun hc => ?_) (fun hc => ?_)) <;> (try simp only [decide_eq_true_eq, decide_eq_false_iff_not, Bool.true_eq_false, Bool.false_eq_true, bne_iff_ne, ne_eq, bne_eq_false_iff_eq, beq_iff_eq, beq_eq_false_iff_ne, Bool.not_eq_true, Bool.not_eq_false, Bool.not_eq_eq_eq_not, Bool.not_true, Bool.not_false, Decidable.not_not] at hc) <;> (try (exfalso; first | omega | exact bool_tf hc (by assumption) | exact bool_ft hc (by assumption) | exact absurd (by assumption) hc)) <;> (first | with_reducible show STri _ _ _ _ _ _ | (simp -dsimp [hsp, h72, hc]; (repeat (simp -dsimp (disch := (first | omega | assumption | (refine Bool.eq_false_iff.1 ?_; assumption))) only [wrap_in, if_pos, if_neg]; (try simp -dsimp [hsp, h72, hc]))))))))
            · exact nt_bad (h0 2 (by rw [hc]; rfl)) (by decide)
            · refine CLe.of_eq ?_
              unfold rNotes
              rw [if_pos (h0 0 (by rw [hc]; rfl))]
              simp
        · (repeat' (first | ((first | with_reducible refine st_skip ?_ | with_reducible refine st_exit ?_); (try simp only [seqQ, blockQ, loopQ, forQ, whileQ, reduceIte, Nat.reduceEqDiff])) | (with_reducible refine st_ret ?_; ((try simp only [seqQ, blockQ, loopQ, forQ, whileQ]); first | (with_reducible refine retM_ret ?_) | refine retQ_ret ?_; simp [hsp])) | refine st_seq ?_ | refine st_block ?_ | ((first | refine st_reg ?_ | refine buildP_own ?_ | refine callP_b (sIsSpan n.nlo n.nhi 0 3155760000) rfl ?_) <;> (simp -dsimp [hsp]; (repeat (simp -dsimp (disch := (first | omega | assumption | (refine Bool.eq_false_iff.1 ?_; assumption))) only [wrap_in, if_pos, if_neg]; (try simp -dsimp [hsp]))))) | ((first | refine guardP_of (fun hc => ?_) (fun hc => ?_) | refine st_cond rfl (fun hc => ?_) (fun hc => ?_)) <;> (try simp only [decide_eq_true_eq, decide_eq_false_iff_not, Bool.true_eq_false, Bool.false_eq_true, bne_iff_ne, ne_eq, bne_eq_false_iff_eq, beq_iff_eq, beq_eq_false_iff_ne, Bool.not_eq_true, Bool.not_eq_false, Bool.not_eq_eq_eq_not, Bool.not_true, Bool.not_false, Decidable.not_not] at hc) <;> (try (exfalso; first | omega | exact bool_tf hc (by assumption) | exact bool_ft hc (by assumption) | exact absurd (by assumption) hc)) <;> (first | with_reducible show STri _ _ _ _ _ _ | (simp -dsimp [hsp, hc]; (repeat (simp -dsimp (disch := (first | omega | assumption | (refine Bool.eq_false_iff.1 ?_; assumption))) only [wrap_in, if_pos, if_neg]; (try simp -dsimp [hsp, hc]))))))))
          all_goals (exact nt_bad (by unfold ntErr; rw [if_neg (by simp [hd]), if_neg h20, if_neg (by simp [hr]), if_pos (.inl (by simpa using hsp))]) (by decide))
  · (repeat' (first | ((first | with_reducible refine st_skip ?_ | with_reducible refine st_exit ?_); (try simp only [seqQ, blockQ, loopQ, forQ, whileQ, reduceIte, Nat.reduceEqDiff])) | (with_reducible refine st_ret ?_; ((try simp only [seqQ, blockQ, loopQ, forQ, whileQ]); first | (with_reducible refine retM_ret ?_) | refine retQ_ret ?_; simp)) | refine st_seq ?_ | refine st_block ?_ | ((first | refine st_reg ?_ | refine buildP_own ?_ | refine callP_b (sWorksNo hw hd) rfl ?_) <;> (simp -dsimp; (repeat (simp -dsimp (disch := (first | omega | assumption | (refine Bool.eq_false_iff.1 ?_; assumption))) only [wrap_in, if_pos, if_neg]; (try simp -dsimp))))) | ((first | refine guardP_of (fun hc => ?_) (fun hc => ?_) | refine st_cond rfl (fun hc => ?_) (fun hc => ?_)) <;> (try simp only [decide_eq_true_eq, decide_eq_false_iff_not, Bool.true_eq_false, Bool.false_eq_true, bne_iff_ne, ne_eq, bne_eq_false_iff_eq, beq_iff_eq, beq_eq_false_iff_ne, Bool.not_eq_true, Bool.not_eq_false, Bool.not_eq_eq_eq_not, Bool.not_true, Bool.not_false, Decidable.not_not] at hc) <;> (try (exfalso; first | omega | exact bool_tf hc (by assumption) | exact bool_ft hc (by assumption) | exact absurd (by assumption) hc)) <;> (first | with_reducible show STri _ _ _ _ _ _ | (simp -dsimp [hc]; (repeat (simp -dsimp (disch := (first | omega | assumption | (refine Bool.eq_false_iff.1 ?_; assumption))) only [wrap_in, if_pos, if_neg]; (try simp -dsimp [hc]))))))))
    all_goals (exact nt_bad (by simp [ntErr, hd]) (by decide))
def canB (n : Nt) (x : Int × Int) (d : Int) : Bool :=
  let f := n.w.faces.getD x.1.toNat .zero
  let a := handLo f (slackI f.links) d n.wlo
  decide ((x.2 - a) % 43200 ≤ handHi f (slackI f.links) d n.wlo n.whi - a)
theorem sCan (n : Nt) (hd : dwB n.w = true) (x : Int × Int) (d : Int) (hx : 0 ≤ x.1) (hx2 : x.1.toNat < n.w.faces.length) (h1 : 0 ≤ x.2) (h2 : x.2 ≤ 43200) (w1 : -10000 ≤ n.wlo) (w2 : n.wlo ≤ 10000) (w3 : -10000 ≤ n.whi) (w4 : n.whi ≤ 10000) (d1 : -100000000000 ≤ d) (d2 : d ≤ 100000000000) :
    SC Tryz.prog 30 [cNotes n, cS x.1 x.2, I d] (B (canB n x d)) := by
  refine law_dial_notes_can _ _ (by simp) ?_
  have hf : n.w.faces.getD x.1.toNat .zero = n.w.faces[x.1.toNat] := by simp [hx2]
  have hs : FcSm n.w.faces[x.1.toNat] (slackI n.w.faces[x.1.toNat].links) := fc_sm (dw_face hd (List.getElem_mem hx2))
  have f1 := hs.a
  have f2 := hs.b
  have f3 := hs.c
  have f4 := hs.d
  have f5 := hs.k
  have f6 := hs.j
  obtain ⟨g1, g2, g3, g4⟩ := lag_le n.w.faces[x.1.toNat] (slackI n.w.faces[x.1.toNat].links) d n.wlo n.whi hs.j
  have e1 : handLo n.w.faces[x.1.toNat] (slackI n.w.faces[x.1.toNat].links) d n.wlo = d + n.w.faces[x.1.toNat].lo - lagHi n.w.faces[x.1.toNat] (slackI n.w.faces[x.1.toNat].links) d n.wlo := rfl
  have e2 : handHi n.w.faces[x.1.toNat] (slackI n.w.faces[x.1.toNat].links) d n.wlo n.whi = d + n.w.faces[x.1.toNat].hi - lagLo n.w.faces[x.1.toNat] (slackI n.w.faces[x.1.toNat].links) d n.whi n.wlo := rfl
  (repeat' (first | ((first | with_reducible refine st_skip ?_ | with_reducible refine st_exit ?_); (try simp only [seqQ, blockQ, loopQ, forQ, whileQ, reduceIte, Nat.reduceEqDiff])) | (with_reducible refine st_ret ?_; ((try simp only [seqQ, blockQ, loopQ, forQ, whileQ]); first | (with_reducible refine retM_ret ?_) | refine retQ_ret ?_; simp [hx, hx2])) | refine st_seq ?_ | refine st_block ?_ | ((first | refine st_reg ?_ | refine buildP_own ?_ | refine callP_b (sHands n.w.faces[x.1.toNat] (slackI n.w.faces[x.1.toNat].links) d n.wlo n.whi hs (by omega) (by omega) (by omega) (by omega) (by omega) (by omega)) rfl ?_ | refine callP_b (sModulo (x.2 - handLo n.w.faces[x.1.toNat] (slackI n.w.faces[x.1.toNat].links) d n.wlo) 43200 (by omega) (by omega)) rfl ?_) <;> (simp -dsimp [hx, hx2]; (repeat (simp -dsimp (disch := (first | omega | assumption | (refine Bool.eq_false_iff.1 ?_; assumption))) only [wrap_in, if_pos, if_neg]; (try simp -dsimp [hx, hx2]))))) | ((first | refine guardP_of (fun hc => ?_) (fun hc => ?_) | refine st_cond rfl (fun hc => ?_) (fun hc => ?_)) <;> (try simp only [decide_eq_true_eq, decide_eq_false_iff_not, Bool.true_eq_false, Bool.false_eq_true, bne_iff_ne, ne_eq, bne_eq_false_iff_eq, beq_iff_eq, beq_eq_false_iff_ne, Bool.not_eq_true, Bool.not_eq_false, Bool.not_eq_eq_eq_not, Bool.not_true, Bool.not_false, Decidable.not_not] at hc) <;> (try (exfalso; first | omega | exact bool_tf hc (by assumption) | exact bool_ft hc (by assumption) | exact absurd (by assumption) hc)) <;> (first | with_reducible show STri _ _ _ _ _ _ | (simp -dsimp [hx, hx2, hc]; (repeat (simp -dsimp (disch := (first | omega | assumption | (refine Bool.eq_false_iff.1 ?_; assumption))) only [wrap_in, if_pos, if_neg]; (try simp -dsimp [hx, hx2, hc]))))))))
  all_goals (refine CLe.bool ?_; unfold canB; dsimp only; rw [hf])
end Go.Proofs.YtnfggkopledpcaaGreat
/- Dial, XI: places. -/
namespace Go.Proofs.YtnfggkopledpcaaGreat
open Go.RowKit
attribute [-simp] putM
def plK (n : Nt) (x : Int × Int) (k : Nat) : List Int := ((drL n.w n.nlo n.nhi).take k).filter (canB n x)
def plL (n : Nt) (x : Int × Int) : List Int := (drL n.w n.nlo n.nhi).filter (canB n x)
def entsD (l : List Int) : List (List Int × CV) := l.map fun d => ([d], B true)
def cPl (l : List Int) : CV := .map false .i64 (entsD l)
theorem putM_new {l : List Int} {d : Int} (h : d ∉ l) : putM (entsD l) [d] (B true) = entsD (l ++ [d]) := by
  unfold putM
  rw [if_neg]
  · simp [entsD]
  · simp only [entsD, List.any_map, List.any_eq_true, not_exists, not_and]
    intro y hy
    simp
    intro e; subst e; exact h hy
theorem plK_succ {n : Nt} {x : Int × Int} {k : Nat} {d : Int} (h : (drL n.w n.nlo n.nhi)[k]? = some d) : plK n x (k + 1) = if canB n x d then plK n x k ++ [d] else plK n x k := by
  obtain ⟨h1, h2⟩ := List.getElem?_eq_some_iff.1 h
  unfold plK
  rw [List.take_succ_eq_append_getElem h1, List.filter_append, h2]
  by_cases hc : canB n x d = true
  · simp [hc]
  · simp [hc]
theorem plK_new {n : Nt} (hw : DwSm n.w) {x : Int × Int} {k : Nat} {d : Int} (h : (drL n.w n.nlo n.nhi)[k]? = some d) : d ∉ plK n x k := fun hm => by
  have hm := (List.mem_filter.1 hm).1
  obtain ⟨i, hi, hd⟩ := List.mem_take_iff_getElem.1 hm
  unfold drL at h hd
  rw [List.getElem?_map, Option.map_eq_some_iff] at h
  obtain ⟨j, h1, h2⟩ := h
  rw [List.getElem_map, List.getElem_range] at hd
  obtain ⟨h3, h4⟩ := List.getElem?_eq_some_iff.1 h1
  rw [List.getElem_range] at h4
  subst h4
  have hlt : i < k := by omega
  rw [← h2] at hd
  unfold drAt at hd
  have hj := hw.a
  have : (i : Int) * n.w.jump = k * n.w.jump := by omega
  have := Int.eq_of_mul_eq_mul_right (by omega) this
  omega
theorem drN_le {w : Dw} (hw : DwSm w) {lo hi : Int} (h1 : 0 ≤ lo) (h2 : hi ≤ 3155760000) : drN w lo hi ≤ 100000000000 := by
  have j1 := hw.a
  have j2 := hw.b
  have e1 := hw.c
  have e4 := hw.f
  obtain ⟨d1, d2⟩ := down_le (n := lo + w.elo) (b := w.jump) (by omega)
  unfold drN
  by_cases h : 0 ≤ hi + w.ehi - downI (lo + w.elo) w.jump
  · have : (hi + w.ehi - downI (lo + w.elo) w.jump) / w.jump ≤ hi + w.ehi - downI (lo + w.elo) w.jump := Int.ediv_le_self _ h
    omega
  · have : (hi + w.ehi - downI (lo + w.elo) w.jump) / w.jump < 0 := Int.ediv_neg_of_neg_of_pos (by omega) (by omega)
    omega
theorem sPlaces (n : Nt) (hd : dwB n.w = true) (x : Int × Int) (hx : 0 ≤ x.1) (hx2 : x.1.toNat < n.w.faces.length) (h1 : 0 ≤ x.2) (h2 : x.2 ≤ 43200) (w1 : -10000 ≤ n.wlo) (w2 : n.wlo ≤ 10000) (w3 : -10000 ≤ n.whi) (w4 : n.whi ≤ 10000) (n1 : 0 ≤ n.nlo) (n2 : n.nlo ≤ 3155760000) (n3 : 0 ≤ n.nhi) (n4 : n.nhi ≤ 3155760000) :
    SC Tryz.prog 32 [cNotes n, cS x.1 x.2] (cPl (plL n x)) := by
  have hw := dw_sm hd
  have hN := drN_le hw n1 n4
  have hdl : (drL n.w n.nlo n.nhi).length = drN n.w n.nlo n.nhi := by simp [drL]
  refine law_dial_notes_places _ _ (by simp) ?_
  (repeat' (first | ((first | with_reducible refine st_skip ?_ | with_reducible refine st_exit ?_); (try simp only [seqQ, blockQ, loopQ, forQ, whileQ, reduceIte, Nat.reduceEqDiff])) | (with_reducible refine st_ret ?_; ((try simp only [seqQ, blockQ, loopQ, forQ, whileQ]); first | (with_reducible refine retM_ret ?_) | refine retQ_ret ?_; simp)) | refine st_seq ?_ | refine st_block ?_ | ((first | refine st_reg ?_ | refine buildP_own ?_ | refine callP_b (sDriven n.w n.nlo n.nhi) rfl ?_) <;> (simp -dsimp; (repeat (simp -dsimp (disch := (first | omega | assumption | (refine Bool.eq_false_iff.1 ?_; assumption))) only [wrap_in, if_pos, if_neg]; (try simp -dsimp))))) | ((first | refine guardP_of (fun hc => ?_) (fun hc => ?_) | refine st_cond rfl (fun hc => ?_) (fun hc => ?_)) <;> (try simp only [decide_eq_true_eq, decide_eq_false_iff_not, Bool.true_eq_false, Bool.false_eq_true, bne_iff_ne, ne_eq, bne_eq_false_iff_eq, beq_iff_eq, beq_eq_false_iff_ne, Bool.not_eq_true, Bool.not_eq_false, Bool.not_eq_eq_eq_not, Bool.not_true, Bool.not_false, Decidable.not_not] at hc) <;> (try (exfalso; first | omega | exact bool_tf hc (by assumption) | exact bool_ft hc (by assumption) | exact absurd (by assumption) hc)) <;> (first | with_reducible show STri _ _ _ _ _ _ | (simp -dsimp [hc]; (repeat (simp -dsimp (disch := (first | omega | assumption | (refine Bool.eq_false_iff.1 ?_; assumption))) only [wrap_in, if_pos, if_neg]; (try simp -dsimp [hc]))))))))
  refine st_range (iDriven n.w n.nlo n.nhi hw (by omega) (by omega) (by omega) (by omega)) [2, 3, 5, 7] [] (fun k R => R = [(2, .box 80 ([I n.w.jump, I n.w.elo, I n.w.ehi, slF n.w.faces, slX n.w.faces, slS n.l, I n.nlo, I n.nhi, I n.wlo, I n.whi].map .c)), (3, .box 44 [.c (I x.1), .c (I x.2)]),
      (5, .box 88 [.om 7]), (7, .map false .i64 (entsD (plK n x k)))])
    rfl rfl rfl (by kernel_rfl) (by show (0 : Nat) + 1000 ≤ 2000; decide) (fun j hj => by cases hj) (fun row hrow => by obtain ⟨y, _, rfl⟩ := List.mem_map.1 hrow; rfl) (by simp) (by simp) (by simp [plK, entsD]) ?_ ?_
  · rintro k row R rfl hrow Iv1 G1 hGG hin
    obtain ⟨d, hdk, rfl⟩ : ∃ d, (drL n.w n.nlo n.nhi)[k]? = some d ∧ row = [I d] := by
      rw [List.getElem?_map, Option.map_eq_some_iff] at hrow
      obtain ⟨d, h1, h2⟩ := hrow
      exact ⟨d, h1, h2.symm⟩
    obtain ⟨b1, b2⟩ := dr_bd hw hdk
    have hk : k < drN n.w n.nlo n.nhi := by rw [← hdl]; exact (List.getElem?_eq_some_iff.1 hdk).1
    have hnew := putM_new (plK_new hw (x := x) hdk)
    have hlen : (entsD (plK n x k)).length < 9223372036854775807 := by
      have : (plK n x k).length ≤ k := by
        unfold plK
        exact Nat.le_trans (List.length_filter_le _ _) (by simp; omega)
      simp [entsD]; omega
    have hs := plK_succ (x := x) hdk
    (repeat' (first | ((first | with_reducible refine st_skip ?_ | with_reducible refine st_exit ?_); (try simp only [seqQ, blockQ, loopQ, forQ, whileQ, reduceIte, Nat.reduceEqDiff])) | (with_reducible refine st_ret ?_; ((try simp only [seqQ, blockQ, loopQ, forQ, whileQ]); first | (with_reducible refine retM_ret ?_) | refine retQ_ret ?_; simp)) | refine st_seq ?_ | refine st_block ?_ | ((first | refine st_reg ?_ | refine buildP_own ?_) <;> (simp -dsimp; (repeat (simp -dsimp (disch := (first | omega | assumption | (refine Bool.eq_false_iff.1 ?_; assumption))) only [wrap_in, if_pos, if_neg]; (try simp -dsimp))))) | ((first | refine guardP_of (fun hc => ?_) (fun hc => ?_) | refine st_cond rfl (fun hc => ?_) (fun hc => ?_)) <;> (try simp only [decide_eq_true_eq, decide_eq_false_iff_not, Bool.true_eq_false, Bool.false_eq_true, bne_iff_ne, ne_eq, bne_eq_false_iff_eq, beq_iff_eq, beq_eq_false_iff_ne, Bool.not_eq_true, Bool.not_eq_false, Bool.not_eq_eq_eq_not, Bool.not_true, Bool.not_false, Decidable.not_not] at hc) <;> (try (exfalso; first | omega | exact bool_tf hc (by assumption) | exact bool_ft hc (by assumption) | exact absurd (by assumption) hc)) <;> (first | with_reducible show STri _ _ _ _ _ _ | (simp -dsimp [hc]; (repeat (simp -dsimp (disch := (first | omega | assumption | (refine Bool.eq_false_iff.1 ?_; assumption))) only [wrap_in, if_pos, if_neg]; (try simp -dsimp [hc]))))))))
    refine ⟨rfl, fun Iv2 hin2 => ?_⟩
    have sc := sCan n hd x d hx hx2 h1 h2 w1 w2 w3 w4 (by omega) (by omega)
    by_cases hc : canB n x d = true
    · rw [if_pos hc] at hs
      (repeat' (first | ((first | with_reducible refine st_skip ?_ | with_reducible refine st_exit ?_); (try simp only [seqQ, blockQ, loopQ, forQ, whileQ, reduceIte, Nat.reduceEqDiff])) | (with_reducible refine st_ret ?_; ((try simp only [seqQ, blockQ, loopQ, forQ, whileQ]); first | (with_reducible refine retM_ret ?_) | refine retQ_ret ?_; simp [hc, hnew, hlen])) | refine st_seq ?_ | refine st_block ?_ | ((first | refine st_reg ?_ | refine buildP_own ?_ | refine callP_b (sc) rfl ?_) <;> (simp -dsimp [hc, hnew, hlen]; (repeat (simp -dsimp (disch := (first | omega | assumption | (refine Bool.eq_false_iff.1 ?_; assumption))) only [wrap_in, if_pos, if_neg]; (try simp -dsimp [hc, hnew, hlen]))))) | ((first | refine guardP_of (fun hc => ?_) (fun hc => ?_) | refine st_cond rfl (fun hc => ?_) (fun hc => ?_)) <;> (try simp only [decide_eq_true_eq, decide_eq_false_iff_not, Bool.true_eq_false, Bool.false_eq_true, bne_iff_ne, ne_eq, bne_eq_false_iff_eq, beq_iff_eq, beq_eq_false_iff_ne, Bool.not_eq_true, Bool.not_eq_false, Bool.not_eq_eq_eq_not, Bool.not_true, Bool.not_false, Decidable.not_not] at hc) <;> (try (exfalso; first | omega | exact bool_tf hc (by assumption) | exact bool_ft hc (by assumption) | exact absurd (by assumption) hc)) <;> (first | with_reducible show STri _ _ _ _ _ _ | (simp -dsimp [hc, hnew, hlen, hc]; (repeat (simp -dsimp (disch := (first | omega | assumption | (refine Bool.eq_false_iff.1 ?_; assumption))) only [wrap_in, if_pos, if_neg]; (try simp -dsimp [hc, hnew, hlen, hc]))))))))
      exact ⟨by simp, by simp, by simp [hs]⟩
    · rw [if_neg hc] at hs
      (repeat' (first | ((first | with_reducible refine st_skip ?_ | with_reducible refine st_exit ?_); (try simp only [seqQ, blockQ, loopQ, forQ, whileQ, reduceIte, Nat.reduceEqDiff])) | (with_reducible refine st_ret ?_; ((try simp only [seqQ, blockQ, loopQ, forQ, whileQ]); first | (with_reducible refine retM_ret ?_) | refine retQ_ret ?_; simp [hc])) | refine st_seq ?_ | refine st_block ?_ | ((first | refine st_reg ?_ | refine buildP_own ?_ | refine callP_b (sc) rfl ?_) <;> (simp -dsimp [hc]; (repeat (simp -dsimp (disch := (first | omega | assumption | (refine Bool.eq_false_iff.1 ?_; assumption))) only [wrap_in, if_pos, if_neg]; (try simp -dsimp [hc]))))) | ((first | refine guardP_of (fun hc => ?_) (fun hc => ?_) | refine st_cond rfl (fun hc => ?_) (fun hc => ?_)) <;> (try simp only [decide_eq_true_eq, decide_eq_false_iff_not, Bool.true_eq_false, Bool.false_eq_true, bne_iff_ne, ne_eq, bne_eq_false_iff_eq, beq_iff_eq, beq_eq_false_iff_ne, Bool.not_eq_true, Bool.not_eq_false, Bool.not_eq_eq_eq_not, Bool.not_true, Bool.not_false, Decidable.not_not] at hc) <;> (try (exfalso; first | omega | exact bool_tf hc (by assumption) | exact bool_ft hc (by assumption) | exact absurd (by assumption) hc)) <;> (first | with_reducible show STri _ _ _ _ _ _ | (simp -dsimp [hc, hc]; (repeat (simp -dsimp (disch := (first | omega | assumption | (refine Bool.eq_false_iff.1 ?_; assumption))) only [wrap_in, if_pos, if_neg]; (try simp -dsimp [hc, hc]))))))))
      exact ⟨by simp, by simp, by simp [hs]⟩
  · rintro R rfl
    simp only [blockQ, seqQ]
    (repeat' (first | ((first | with_reducible refine st_skip ?_ | with_reducible refine st_exit ?_); (try simp only [seqQ, blockQ, loopQ, forQ, whileQ, reduceIte, Nat.reduceEqDiff])) | (with_reducible refine st_ret ?_; ((try simp only [seqQ, blockQ, loopQ, forQ, whileQ]); first | (with_reducible refine retM_ret ?_) | refine retQ_ret ?_; simp)) | refine st_seq ?_ | refine st_block ?_ | ((first | refine st_reg ?_ | refine buildP_own ?_) <;> (simp -dsimp; (repeat (simp -dsimp (disch := (first | omega | assumption | (refine Bool.eq_false_iff.1 ?_; assumption))) only [wrap_in, if_pos, if_neg]; (try simp -dsimp))))) | ((first | refine guardP_of (fun hc => ?_) (fun hc => ?_) | refine st_cond rfl (fun hc => ?_) (fun hc => ?_)) <;> (try simp only [decide_eq_true_eq, decide_eq_false_iff_not, Bool.true_eq_false, Bool.false_eq_true, bne_iff_ne, ne_eq, bne_eq_false_iff_eq, beq_iff_eq, beq_eq_false_iff_ne, Bool.not_eq_true, Bool.not_eq_false, Bool.not_eq_eq_eq_not, Bool.not_true, Bool.not_false, Decidable.not_not] at hc) <;> (try (exfalso; first | omega | exact bool_tf hc (by assumption) | exact bool_ft hc (by assumption) | exact absurd (by assumption) hc)) <;> (first | with_reducible show STri _ _ _ _ _ _ | (simp -dsimp [hc]; (repeat (simp -dsimp (disch := (first | omega | assumption | (refine Bool.eq_false_iff.1 ?_; assumption))) only [wrap_in, if_pos, if_neg]; (try simp -dsimp [hc]))))))))
    refine CLe.of_eq ?_
    unfold plK
    rw [List.take_length]
    rfl
end Go.Proofs.YtnfggkopledpcaaGreat
/- Dial, XII: Reach. -/
namespace Go.Proofs.YtnfggkopledpcaaGreat
open Go.RowKit
def endOf (k : Lo) (d : Int) (m : Bool) : Int := endI (handLo k.f (slackI k.f.links) d k.wlo) (handHi k.f (slackI k.f.links) d k.wlo k.whi) m
def lagOf (k : Lo) (d : Int) (m : Bool) : Int := endI (lagLo k.f (slackI k.f.links) d k.whi k.wlo) (lagHi k.f (slackI k.f.links) d k.wlo) (!m)
def dAt (k : Lo) (e : Int) : Int := downI (k.at' + e) k.w.jump
structure ReachAt (k : Lo) (m : Bool) (e g : Int) : Prop where
  lo : k.w.elo ≤ e
  hi : e ≤ k.w.ehi
  no : ∀ n, k.w.elo ≤ n → n < e → ¬ endOf k (dAt k n) m - k.at' = endI (offLo k) (offHi k) m
  at' : endOf k (dAt k e) m - k.at' = endI (offLo k) (offHi k) m
  gust : Gust k (dAt k e) (lagOf k (dAt k e) m) g
theorem sReachOk {w : Dw} (hw : DwLen w) {n at' wlo whi : Int} (m : Bool) (h : lookErr w n at' wlo whi = 0) {k : Lo} (hk0 : lookOf w n at' wlo whi = k) {e g : Int} (hr : ReachAt k m e g) :
    SC Tryz.prog 20 [cDw w, I n, I at', cS wlo whi, B m] (.tup [.agg [I e, I (endI k.f.lo k.f.hi m), I g, I (lagOf k (dAt k e) m)], I 0]) := by
  have hk := look_sm h
  have so := sOffL _ hk
  have sl := sLookOk hw h
  rw [hk0] at hk so sl
  have hat : at' = k.at' := by rw [← hk0]; rfl
  have hwl : wlo = k.wlo := by rw [← hk0]; rfl
  have hwh : whi = k.whi := by rw [← hk0]; rfl
  subst hat hwl hwh
  have a1 := hk.a
  have a2 := hk.b
  have j1 := hk.w.a
  have j2 := hk.w.b
  have e1 := hk.w.c
  have e2 := hk.w.d
  have e3 := hk.w.e
  have e4 := hk.w.f
  have c1 := hk.c
  have c2 := hk.d
  have c3 := hk.e
  have c4 := hk.g
  have r1 := hr.lo
  have r2 := hr.hi
  refine law_dial_Reach _ _ (by simp) ?_
  (repeat' (first | ((first | with_reducible refine st_skip ?_ | with_reducible refine st_exit ?_); (try simp only [seqQ, blockQ, loopQ, forQ, whileQ, reduceIte, Nat.reduceEqDiff])) | (with_reducible refine st_ret ?_; ((try simp only [seqQ, blockQ, loopQ, forQ, whileQ]); first | (with_reducible refine retM_ret ?_) | refine retQ_ret ?_; simp)) | refine st_seq ?_ | refine st_block ?_ | ((first | refine st_reg ?_ | refine buildP_own ?_ | refine callP_b (sl) rfl ?_ | refine callP_b (so) rfl ?_ | refine callP_b (sEnd (offLo k) (offHi k) m) rfl ?_) <;> (simp -dsimp; (repeat (simp -dsimp (disch := (first | omega | assumption | (refine Bool.eq_false_iff.1 ?_; assumption))) only [wrap_in, if_pos, if_neg]; (try simp -dsimp))))) | ((first | refine guardP_of (fun hc => ?_) (fun hc => ?_) | refine st_cond rfl (fun hc => ?_) (fun hc => ?_)) <;> (try simp only [decide_eq_true_eq, decide_eq_false_iff_not, Bool.true_eq_false, Bool.false_eq_true, bne_iff_ne, ne_eq, bne_eq_false_iff_eq, beq_iff_eq, beq_eq_false_iff_ne, Bool.not_eq_true, Bool.not_eq_false, Bool.not_eq_eq_eq_not, Bool.not_true, Bool.not_false, Decidable.not_not] at hc) <;> (try (exfalso; first | omega | exact bool_tf hc (by assumption) | exact bool_ft hc (by assumption) | exact absurd (by assumption) hc)) <;> (first | with_reducible show STri _ _ _ _ _ _ | (simp -dsimp [hc]; (repeat (simp -dsimp (disch := (first | omega | assumption | (refine Bool.eq_false_iff.1 ?_; assumption))) only [wrap_in, if_pos, if_neg]; (try simp -dsimp [hc]))))))))
  refine st_for [8, 10, 12] (e - k.w.elo).toNat (fun j T H => T = [(2, .c (I k.at')), (4, .c (B m)), (8, .ptr 8 0), (10, .ptr 10 0), (12, .ptr 12 0), (13, .c (I (endI (offLo k) (offHi k) m))), (14, .c (I (k.w.elo + j)))] ∧
    H = [(8, .box 23 [.c (I k.wlo), .c (I k.whi)]), (10, .box 66 [.c (I 0), .c (I 0), .c (I 0), .c (I 0)]),
      (12, .box 98 ([I k.w.jump, I k.w.elo, I k.w.ehi, slF k.w.faces, slX k.w.faces, I k.f.lo, I k.f.hi, slL k.f.links, I k.f.weight, I k.f.friction, I (slackI k.f.links), I k.at', I k.wlo, I k.whi].map .c))]) (by simp) ⟨by simp, by simp⟩ ?_
  rintro j T H hj ⟨rfl, rfl⟩
  have hle : k.w.elo + j ≤ k.w.ehi := by omega
  obtain ⟨d1, d2⟩ := down_le (n := k.at' + (k.w.elo + j)) (b := k.w.jump) (by omega)
  have sd := sDown (k.at' + (k.w.elo + j)) k.w.jump (by omega) (by omega) (by omega) (by omega)
  change SC _ _ _ (I (dAt k (k.w.elo + j))) at sd
  change k.at' + (k.w.elo + j) - k.w.jump < dAt k (k.w.elo + j) at d1
  change dAt k (k.w.elo + j) ≤ k.at' + (k.w.elo + j) at d2
  have sh := sHands k.f (slackI k.f.links) (dAt k (k.w.elo + j)) k.wlo k.whi hk.f (by omega) (by omega) (by omega) (by omega) (by omega) (by omega)
  have se := sEnd (handLo k.f (slackI k.f.links) (dAt k (k.w.elo + j)) k.wlo) (handHi k.f (slackI k.f.links) (dAt k (k.w.elo + j)) k.wlo k.whi) m
  change SC _ _ _ (I (endOf k (dAt k (k.w.elo + j)) m)) at se
  have hb : -100000000000 ≤ endOf k (dAt k (k.w.elo + j)) m ∧ endOf k (dAt k (k.w.elo + j)) m ≤ 100000000000 := by
    obtain ⟨g1, g2, g3, g4⟩ := lag_le k.f (slackI k.f.links) (dAt k (k.w.elo + j)) k.wlo k.whi hk.f.j
    have f1 := hk.f.a
    have f2 := hk.f.b
    have f3 := hk.f.c
    have f4 := hk.f.d
    have f5 := hk.f.k
    unfold endOf endI handLo handHi
    split <;> omega
  obtain ⟨b1, b2⟩ := hb
  by_cases hlt : j < (e - k.w.elo).toNat
  · have hno := hr.no (k.w.elo + j) (by omega) (by omega)
    (repeat' (first | ((first | with_reducible refine st_skip ?_ | with_reducible refine st_exit ?_); (try simp only [seqQ, blockQ, loopQ, forQ, whileQ, reduceIte, Nat.reduceEqDiff])) | (with_reducible refine st_ret ?_; ((try simp only [seqQ, blockQ, loopQ, forQ, whileQ]); first | (with_reducible refine retM_ret ?_) | refine retQ_ret ?_; simp [hle, hno])) | refine st_seq ?_ | refine st_block ?_ | ((first | refine st_reg ?_ | refine buildP_own ?_ | refine callP_b (sd) rfl ?_ | refine callP_b (sh) rfl ?_ | refine callP_b (se) rfl ?_) <;> (simp -dsimp [hle, hno]; (repeat (simp -dsimp (disch := (first | omega | assumption | (refine Bool.eq_false_iff.1 ?_; assumption))) only [wrap_in, if_pos, if_neg]; (try simp -dsimp [hle, hno]))))) | ((first | refine guardP_of (fun hc => ?_) (fun hc => ?_) | refine st_cond rfl (fun hc => ?_) (fun hc => ?_)) <;> (try simp only [decide_eq_true_eq, decide_eq_false_iff_not, Bool.true_eq_false, Bool.false_eq_true, bne_iff_ne, ne_eq, bne_eq_false_iff_eq, beq_iff_eq, beq_eq_false_iff_ne, Bool.not_eq_true, Bool.not_eq_false, Bool.not_eq_eq_eq_not, Bool.not_true, Bool.not_false, Decidable.not_not] at hc) <;> (try (exfalso; first | omega | exact bool_tf hc (by assumption) | exact bool_ft hc (by assumption) | exact absurd (by assumption) hc)) <;> (first | with_reducible show STri _ _ _ _ _ _ | (simp -dsimp [hle, hno, hc]; (repeat (simp -dsimp (disch := (first | omega | assumption | (refine Bool.eq_false_iff.1 ?_; assumption))) only [wrap_in, if_pos, if_neg]; (try simp -dsimp [hle, hno, hc]))))))))
    have e : k.w.elo + ((j + 1 : Nat) : Int) = k.w.elo + j + 1 := by omega
    exact ⟨hlt, by simp, by simp only [e], by simp⟩
  · have hje : k.w.elo + j = e := by omega
    have hyes := hr.at'
    have sg := sGust k hk (dAt k e) (lagOf k (dAt k e) m) g hr.gust
    have sla := sLags k.f (slackI k.f.links) (dAt k e) k.wlo k.whi hk.f.e hk.f.g hk.f.h hk.f.i (by omega) (by omega) (by omega) (by omega)
    have se2 := sEnd (lagLo k.f (slackI k.f.links) (dAt k e) k.whi k.wlo) (lagHi k.f (slackI k.f.links) (dAt k e) k.wlo) (!m)
    change SC _ _ _ (I (lagOf k (dAt k e) m)) at se2
    have se3 := sEnd k.f.lo k.f.hi m
    rw [hje] at hle sd sh se b1 b2 ⊢
    (repeat' (first | ((first | with_reducible refine st_skip ?_ | with_reducible refine st_exit ?_); (try simp only [seqQ, blockQ, loopQ, forQ, whileQ, reduceIte, Nat.reduceEqDiff])) | (with_reducible refine st_ret ?_; ((try simp only [seqQ, blockQ, loopQ, forQ, whileQ]); first | (with_reducible refine retM_ret ?_) | refine retQ_ret ?_; simp [hle, hyes])) | refine st_seq ?_ | refine st_block ?_ | ((first | refine st_reg ?_ | refine buildP_own ?_ | refine callP_b (sd) rfl ?_ | refine callP_b (sh) rfl ?_ | refine callP_b (se) rfl ?_ | refine callP_b (sla) rfl ?_ | refine callP_b (se2) rfl ?_ | refine callP_b (se3) rfl ?_ | refine callP_b (sg) rfl ?_) <;> (simp -dsimp [hle, hyes]; (repeat (simp -dsimp (disch := (first | omega | assumption | (refine Bool.eq_false_iff.1 ?_; assumption))) only [wrap_in, if_pos, if_neg]; (try simp -dsimp [hle, hyes]))))) | ((first | refine guardP_of (fun hc => ?_) (fun hc => ?_) | refine st_cond rfl (fun hc => ?_) (fun hc => ?_)) <;> (try simp only [decide_eq_true_eq, decide_eq_false_iff_not, Bool.true_eq_false, Bool.false_eq_true, bne_iff_ne, ne_eq, bne_eq_false_iff_eq, beq_iff_eq, beq_eq_false_iff_ne, Bool.not_eq_true, Bool.not_eq_false, Bool.not_eq_eq_eq_not, Bool.not_true, Bool.not_false, Decidable.not_not] at hc) <;> (try (exfalso; first | omega | exact bool_tf hc (by assumption) | exact bool_ft hc (by assumption) | exact absurd (by assumption) hc)) <;> (first | with_reducible show STri _ _ _ _ _ _ | (simp -dsimp [hle, hyes, hc]; (repeat (simp -dsimp (disch := (first | omega | assumption | (refine Bool.eq_false_iff.1 ?_; assumption))) only [wrap_in, if_pos, if_neg]; (try simp -dsimp [hle, hyes, hc]))))))))
    exact .refl _
theorem down_is (n b : Int) : ∃ q, downI n b = q * b := ⟨n / b, by
  unfold downI
  have := Int.emod_add_mul_ediv n b
  rw [Int.mul_comm (n / b) b]; omega⟩
end Go.Proofs.YtnfggkopledpcaaGreat
/- The shelf's structures for slices.SortFunc at spans and at pairs, and cmp.Compare at ints, laid at this seat (written by a tool of the kit). -/
namespace Go.Proofs.YtnfggkopledpcaaGreat
open Go.Shelf
def Tryz.sortP_ren : Go.Shelf.Ren := ⟨fun | 6 => 52 | 15 => 70 | 14 => 69 | 28 => 84 | 29 => 85 | 20 => 76 | 21 => 77 | 22 => 78 | 23 => 79 | 24 => 80 | 25 => 81 | 26 => 82 | 27 => 83 | 46 => 96 | 47 => 97 | 48 => 98 | 49 => 99 | 50 => 100 | 57 => 105 | n => n, fun | 22 => 36 | 24 => 23 | 25 => 112 | 3 => 3 | 39 => 125 | 0 => 0 | 53 => 140 | 55 => 142 | 4 => 4 | 46 => 133 | 45 => 132 | 50 => 137 | 5 => 5 | 9 => 9 | 66 => 149 | 70 => 153 | 76 => 157 | 77 => 158 | n => n, fun | n => n⟩
theorem Tryz.sortP : Go.Proofs.SlLaysF0.n6 Tryz.prog Tryz.sortP_ren := {
  mixed := by kernel_rfl
  f6 := ⟨Tryz.f52.name, by decide, Tryz.func52.trans (congrArg some (by kernel_rfl))⟩
  f14 := ⟨Tryz.f69.name, by decide, Tryz.func69.trans (congrArg some (by kernel_rfl))⟩
  f15 := Tryz.func70.trans (congrArg some (by kernel_rfl))
  f20 := ⟨Tryz.f76.name, by decide, Tryz.func76.trans (congrArg some (by kernel_rfl))⟩
  f21 := ⟨Tryz.f77.name, by decide, Tryz.func77.trans (congrArg some (by kernel_rfl))⟩
  f22 := ⟨Tryz.f78.name, by decide, Tryz.func78.trans (congrArg some (by kernel_rfl))⟩
  f23 := ⟨Tryz.f79.name, by decide, Tryz.func79.trans (congrArg some (by kernel_rfl))⟩
  f24 := ⟨Tryz.f80.name, by decide, Tryz.func80.trans (congrArg some (by kernel_rfl))⟩
  f25 := ⟨Tryz.f81.name, by decide, Tryz.func81.trans (congrArg some (by kernel_rfl))⟩
  f26 := ⟨Tryz.f82.name, by decide, Tryz.func82.trans (congrArg some (by kernel_rfl))⟩
  f27 := ⟨Tryz.f83.name, by decide, Tryz.func83.trans (congrArg some (by kernel_rfl))⟩
  f28 := Tryz.func84.trans (congrArg some (by kernel_rfl))
  f29 := Tryz.func85.trans (congrArg some (by kernel_rfl))
  f46 := ⟨Tryz.f96.name, by decide, Tryz.func96.trans (congrArg some (by kernel_rfl))⟩
  f47 := Tryz.func97.trans (congrArg some (by kernel_rfl))
  f48 := Tryz.func98.trans (congrArg some (by kernel_rfl))
  f49 := ⟨Tryz.f99.name, by decide, Tryz.func99.trans (congrArg some (by kernel_rfl))⟩
  f50 := ⟨Tryz.f100.name, by decide, Tryz.func100.trans (congrArg some (by kernel_rfl))⟩
  f57 := ⟨Tryz.f105.name, by decide, Tryz.func105.trans (congrArg some (by kernel_rfl))⟩
  t0 := Tryz.underlying0
  a0 := Tryz.isAgg0
  z0 := Tryz.sizeOf0
  v0 := Tryz.zeroValue0
  t3 := Tryz.underlying3
  a3 := Tryz.isAgg3
  z3 := Tryz.sizeOf3
  v3 := Tryz.zeroValue3
  t4 := Tryz.underlying4
  a4 := Tryz.isAgg4
  z4 := Tryz.sizeOf4
  v4 := Tryz.zeroValue4
  t5 := Tryz.underlying5
  a5 := Tryz.isAgg5
  z5 := Tryz.sizeOf5
  v5 := Tryz.zeroValue5
  t9 := Tryz.underlying9
  a9 := Tryz.isAgg9
  z9 := Tryz.sizeOf9
  v9 := Tryz.zeroValue9
  t22 := Tryz.underlying36
  a22 := Tryz.isAgg36
  z22 := Tryz.sizeOf36
  v22 := Tryz.zeroValue36
  t25 := Tryz.underlying112
  a25 := Tryz.isAgg112
  z25 := Tryz.sizeOf112
  v25 := Tryz.zeroValue112
  t39 := Tryz.underlying125
  a39 := Tryz.isAgg125
  z39 := Tryz.sizeOf125
  v39 := Tryz.zeroValue125
  t45 := Tryz.underlying132
  a45 := Tryz.isAgg132
  z45 := Tryz.sizeOf132
  v45 := Tryz.zeroValue132
  t46 := Tryz.underlying133
  a46 := Tryz.isAgg133
  z46 := Tryz.sizeOf133
  v46 := Tryz.zeroValue133
  t50 := Tryz.underlying137
  a50 := Tryz.isAgg137
  z50 := Tryz.sizeOf137
  v50 := Tryz.zeroValue137
  t53 := Tryz.underlying140
  a53 := Tryz.isAgg140
  z53 := Tryz.sizeOf140
  v53 := Tryz.zeroValue140
  t55 := Tryz.underlying142
  a55 := Tryz.isAgg142
  z55 := Tryz.sizeOf142
  v55 := Tryz.zeroValue142
  t66 := Tryz.underlying149
  a66 := Tryz.isAgg149
  z66 := Tryz.sizeOf149
  v66 := Tryz.zeroValue149
  t70 := Tryz.underlying153
  a70 := Tryz.isAgg153
  z70 := Tryz.sizeOf153
  v70 := Tryz.zeroValue153
  t76 := Tryz.underlying157
  a76 := Tryz.isAgg157
  z76 := Tryz.sizeOf157
  v76 := Tryz.zeroValue157
  t77 := Tryz.underlying158
  a77 := Tryz.isAgg158
  z77 := Tryz.sizeOf158
  v77 := Tryz.zeroValue158 }
def Tryz.cmpInt_ren : Go.Shelf.Ren := ⟨fun | 5 => 94 | 7 => 104 | n => n, fun | 22 => 3 | 3 => 3 | 4 => 4 | n => n, fun | n => n⟩
theorem Tryz.cmpInt : Go.Proofs.SlLaysC2.n5 Tryz.prog Tryz.cmpInt_ren := {
  mixed := by kernel_rfl
  f5 := ⟨Tryz.f94.name, by decide, Tryz.func94.trans (congrArg some (by kernel_rfl))⟩
  f7 := ⟨Tryz.f104.name, by decide, Tryz.func104.trans (congrArg some (by kernel_rfl))⟩
  t3 := Tryz.underlying3
  a3 := Tryz.isAgg3
  z3 := Tryz.sizeOf3
  v3 := Tryz.zeroValue3
  t4 := Tryz.underlying4
  a4 := Tryz.isAgg4
  z4 := Tryz.sizeOf4
  v4 := Tryz.zeroValue4
  t22 := Tryz.underlying3
  a22 := Tryz.isAgg3
  z22 := Tryz.sizeOf3
  v22 := Tryz.zeroValue3 }
end Go.Proofs.YtnfggkopledpcaaGreat
/- The shelf's structures for slices.SortFunc at pairs, and cmp.Compare at ints, laid at this seat (written by a tool of the kit). -/
namespace Go.Proofs.YtnfggkopledpcaaGreat
open Go.Shelf
def Tryz.sortQ_ren : Go.Shelf.Ren := ⟨fun | 6 => 54 | 15 => 70 | 14 => 71 | 28 => 84 | 29 => 85 | 20 => 86 | 21 => 87 | 22 => 88 | 23 => 89 | 24 => 90 | 25 => 91 | 26 => 92 | 27 => 93 | 46 => 101 | 47 => 97 | 48 => 98 | 49 => 102 | 50 => 103 | 57 => 106 | n => n, fun | 22 => 39 | 24 => 50 | 25 => 115 | 3 => 3 | 39 => 125 | 0 => 0 | 53 => 140 | 55 => 142 | 4 => 4 | 46 => 133 | 45 => 132 | 50 => 137 | 5 => 5 | 9 => 9 | 66 => 149 | 70 => 153 | 76 => 157 | 77 => 158 | n => n, fun | n => n⟩
theorem Tryz.sortQ : Go.Proofs.SlLaysF0.n14 Tryz.prog Tryz.sortQ_ren := {
  mixed := by kernel_rfl
  f14 := ⟨Tryz.f71.name, by decide, Tryz.func71.trans (congrArg some (by kernel_rfl))⟩
  f15 := Tryz.func70.trans (congrArg some (by kernel_rfl))
  f20 := ⟨Tryz.f86.name, by decide, Tryz.func86.trans (congrArg some (by kernel_rfl))⟩
  f21 := ⟨Tryz.f87.name, by decide, Tryz.func87.trans (congrArg some (by kernel_rfl))⟩
  f22 := ⟨Tryz.f88.name, by decide, Tryz.func88.trans (congrArg some (by kernel_rfl))⟩
  f23 := ⟨Tryz.f89.name, by decide, Tryz.func89.trans (congrArg some (by kernel_rfl))⟩
  f24 := ⟨Tryz.f90.name, by decide, Tryz.func90.trans (congrArg some (by kernel_rfl))⟩
  f25 := ⟨Tryz.f91.name, by decide, Tryz.func91.trans (congrArg some (by kernel_rfl))⟩
  f26 := ⟨Tryz.f92.name, by decide, Tryz.func92.trans (congrArg some (by kernel_rfl))⟩
  f27 := ⟨Tryz.f93.name, by decide, Tryz.func93.trans (congrArg some (by kernel_rfl))⟩
  f28 := Tryz.func84.trans (congrArg some (by kernel_rfl))
  f29 := Tryz.func85.trans (congrArg some (by kernel_rfl))
  f46 := ⟨Tryz.f101.name, by decide, Tryz.func101.trans (congrArg some (by kernel_rfl))⟩
  f47 := Tryz.func97.trans (congrArg some (by kernel_rfl))
  f48 := Tryz.func98.trans (congrArg some (by kernel_rfl))
  f49 := ⟨Tryz.f102.name, by decide, Tryz.func102.trans (congrArg some (by kernel_rfl))⟩
  f50 := ⟨Tryz.f103.name, by decide, Tryz.func103.trans (congrArg some (by kernel_rfl))⟩
  f57 := ⟨Tryz.f106.name, by decide, Tryz.func106.trans (congrArg some (by kernel_rfl))⟩
  t0 := Tryz.underlying0
  a0 := Tryz.isAgg0
  z0 := Tryz.sizeOf0
  v0 := Tryz.zeroValue0
  t3 := Tryz.underlying3
  a3 := Tryz.isAgg3
  z3 := Tryz.sizeOf3
  v3 := Tryz.zeroValue3
  t4 := Tryz.underlying4
  a4 := Tryz.isAgg4
  z4 := Tryz.sizeOf4
  v4 := Tryz.zeroValue4
  t5 := Tryz.underlying5
  a5 := Tryz.isAgg5
  z5 := Tryz.sizeOf5
  v5 := Tryz.zeroValue5
  t9 := Tryz.underlying9
  a9 := Tryz.isAgg9
  z9 := Tryz.sizeOf9
  v9 := Tryz.zeroValue9
  t22 := Tryz.underlying39
  a22 := Tryz.isAgg39
  z22 := Tryz.sizeOf39
  v22 := Tryz.zeroValue39
  t25 := Tryz.underlying115
  a25 := Tryz.isAgg115
  z25 := Tryz.sizeOf115
  v25 := Tryz.zeroValue115
  t39 := Tryz.underlying125
  a39 := Tryz.isAgg125
  z39 := Tryz.sizeOf125
  v39 := Tryz.zeroValue125
  t45 := Tryz.underlying132
  a45 := Tryz.isAgg132
  z45 := Tryz.sizeOf132
  v45 := Tryz.zeroValue132
  t46 := Tryz.underlying133
  a46 := Tryz.isAgg133
  z46 := Tryz.sizeOf133
  v46 := Tryz.zeroValue133
  t50 := Tryz.underlying137
  a50 := Tryz.isAgg137
  z50 := Tryz.sizeOf137
  v50 := Tryz.zeroValue137
  t53 := Tryz.underlying140
  a53 := Tryz.isAgg140
  z53 := Tryz.sizeOf140
  v53 := Tryz.zeroValue140
  t55 := Tryz.underlying142
  a55 := Tryz.isAgg142
  z55 := Tryz.sizeOf142
  v55 := Tryz.zeroValue142
  t66 := Tryz.underlying149
  a66 := Tryz.isAgg149
  z66 := Tryz.sizeOf149
  v66 := Tryz.zeroValue149
  t70 := Tryz.underlying153
  a70 := Tryz.isAgg153
  z70 := Tryz.sizeOf153
  v70 := Tryz.zeroValue153
  t76 := Tryz.underlying157
  a76 := Tryz.isAgg157
  z76 := Tryz.sizeOf157
  v76 := Tryz.zeroValue157
  t77 := Tryz.underlying158
  a77 := Tryz.isAgg158
  z77 := Tryz.sizeOf158
  v77 := Tryz.zeroValue158 }
end Go.Proofs.YtnfggkopledpcaaGreat
/- slices.SortFunc at a slice of the call's own: it holds the same elements, in order. -/
namespace Go.Proofs.YtnfggkopledpcaaGreat
open Go.RowKit Go.Sort Go.Shelf
theorem heap_lt' {w : World} {B : Nat} {o : Obj} (h : w.heap[B]? = some o) : B < w.heap.size := by
  rcases Nat.lt_or_ge B w.heap.size with h' | h'
  · exact h'
  · rw [Array.getElem?_eq_none h'] at h; cases h
theorem free_of {w : World} {B : Nat} {cs : Array Value} {t : TypeId} (h : w.heap[B]? = some (.cells cs t (0, 0))) (i : Nat) : w.frozen? ⟨B, i, none⟩ = false := by
  simp [World.frozen?, h]
theorem flatK_get {α : Type} [Inhabited α] {k : Nat} (hk0 : 0 < k) {enc : α → List Value} (hk : ∀ x, (enc x).length = k) (xs : List α) (t : Nat) (ht : t < xs.length * k) : (xs.flatMap enc)[t]? = some (flatK enc k xs.toArray)[t]! := by
  have hq : t / k < xs.length := Nat.div_lt_of_lt_mul (by rw [Nat.mul_comm]; exact ht)
  have hr : t % k < k := Nat.mod_lt _ hk0
  have hd : t / k * k + t % k = t := by rw [Nat.mul_comm]; exact Nat.div_add_mod t k
  rw [get_flatK enc k _ t (by simpa using ht)]
  have h := flat_get hk xs (t / k) hq (t % k) hr
  rw [hd] at h
  rw [h]
  have hl : t % k < (enc xs[t / k]).length := by rw [hk]; exact hr
  rw [List.getElem?_eq_getElem hl]
  have : xs.toArray[t / k]! = xs[t / k] := by simp [hq]
  rw [this, getElem!_pos (enc xs[t / k]) (t % k) hl]
theorem holdsK_of {α : Type} [Inhabited α] {k : Nat} (hk0 : 0 < k) {enc : α → List Value} (hk : ∀ x, (enc x).length = k) {w : World} {g : Nat} {cur : Array Value} {e : TypeId} {xs : List α}
    (hb : w.heap[g]? = some (.cells cur e (0, 0))) (ht : cur.toList.take (xs.length * k) = xs.flatMap enc) : HoldsK enc k w g 0 xs.toArray := by
  intro j hj
  have hj' : j < xs.length * k := by simpa using hj
  refine ⟨?_, ?_⟩
  · rw [Nat.zero_add, cell_of_row w g j cur e (0, 0) hb]
    have h := flatK_get hk0 hk xs j hj'
    rw [← ht, List.getElem?_take_of_lt hj'] at h
    simpa using h
  · exact free_of hb _
theorem take_putCells_flat {α : Type} [Inhabited α] {k : Nat} (hk0 : 0 < k) {enc : α → List Value} (hk : ∀ x, (enc x).length = k) (cur : Array Value) (ys : List α) (h : ys.length * k ≤ cur.size) :
    (putCells id 0 (flatK enc k ys.toArray) cur).toList.take (ys.length * k) = ys.flatMap enc := by
  apply List.ext_getElem?
  intro j
  by_cases hj : j < ys.length * k
  · rw [List.getElem?_take_of_lt hj, Array.getElem?_toList, flatK_get hk0 hk ys j hj]
    simp [putCells, hj, show j < cur.size by omega]
  · rw [List.getElem?_take_eq_none (by omega), List.getElem?_eq_none (by rw [flat_len hk]; omega)]
theorem heap_sortedK {w : World} {g n : Nat} {os : Array Obj} {cur : Array Value} {e : TypeId} {fr : Nat × Nat} (D : Array Value) (hb : w.heap[g]? = some (.cells cur e fr)) :
    (grow (putRow id (Sort.ahead w n) g 0 D) os).heap[g]? = some (.cells (putCells id 0 D cur) e fr) := by
  have hg : g < w.heap.size := (Array.getElem?_eq_some_iff.1 hb).1
  rw [heap_grow_old _ _ (by simpa using hg)]
  simp [putRow, mapBlock, Sort.ahead, Array.getElem?_modify, hb, onCells]
theorem grew_sortedK {w : World} {g n m c : Nat} {os : Array Obj} (D : Array Value) : Grew w (.slice (some ⟨g, 0, none⟩) m c) (grow (putRow id (Sort.ahead w n) g 0 D) os) (.slice (some ⟨g, 0, none⟩) m c) := by
  refine ⟨rfl, rfl, rfl, by simp, fun k hk hne => ?_, .inl rfl⟩
  rw [heap_grow_old _ _ (by simpa using hk)]
  have : g ≠ k := fun e => hne (by simp [Value.ownBlock, e])
  simp [putRow, mapBlock, Sort.ahead, Array.getElem?_modify, this]
theorem perm_of_permIn {α : Type} [Inhabited α] {d d' : Array α} (h : PermIn 0 d.size d d') : d'.toList.Perm d.toList := by
  obtain ⟨h1, _, h3⟩ := h
  have e1 : d'.extract 0 d.size = d' := by rw [← h1]; simp
  have e2 : d.extract 0 d.size = d := by simp
  rw [e1, e2] at h3
  exact h3
theorem pairwise_of_sortedIn {α : Type} [Inhabited α] {lt : α → α → Bool} {d' : Array α} (h : SortedIn lt 0 d'.size d') : d'.toList.Pairwise fun x y => lt y x = false := by
  rw [List.pairwise_iff_getElem]
  intro i j hi hj hij
  have hi' : i < d'.size := by simpa using hi
  have hj' : j < d'.size := by simpa using hj
  have := h i j (Nat.zero_le _) hij hj'
  simpa [getElem!_pos, hi', hj'] using this
structure SortLaw {α : Type} [Inhabited α] (P : Program) (F g : Nat) (cb : Array Value) (enc : α → List Value) (k : Nat) (cf : α → α → Int) : Prop where
  row : ∀ (blk cap : Nat) (d : Array α) (w : World), CmpLays P g cb enc k cf blk 0 d.size w → HoldsK enc k w blk 0 d → blk < w.heap.size → d.size < 4611686018427387904 →
    Calls P F #[.slice (some ⟨blk, 0, none⟩) d.size cap, .func (.func g) #[] cb] w fun e w' => e = .returned (.tuple #[]) ∧ ∃ d' n os, PermIn 0 d.size d d' ∧ SortedIn (ltOf cf) 0 d.size d' ∧ w' = sortWorldK enc k w blk 0 n d' os
  none : ∀ w, Calls P F #[.slice none 0 0, .func (.func g) #[] cb] w fun e w' => e = .returned (.tuple #[]) ∧ w' = w
theorem sortLaw_n6 {α : Type} [Inhabited α] {P : Program} {ρ : Ren} (L : SlLaysF0.n6 P ρ) (k : Nat) (aE : ∀ w, (isAgg (ρ.t 24)).run P w = .ok true w) (zE : ∀ w, (Go.sizeOf (ρ.t 24)).run P w = .ok k w) (enc : α → List Value) (hk : ∀ x, (enc x).length = k)
    (h1 : ∀ x, ∀ v ∈ enc x, v.oneCell' = true) (cf : α → α → Int) (hO : SWO (ltOf cf)) (g : Nat) (cb : Array Value) (eg : ∀ args w, (callFunc g args).run P w = .ok (.enter g args) w) : SortLaw P (ρ.f 6) g cb enc k cf :=
  ⟨fun blk cap d w hcmp hH hb hd => AnyQ.slices_SortFunc L k aE zE enc hk h1 cf hO g cb blk 0 cap d w eg hcmp hH hb hd, fun w => AnyF.slices_SortFunc_none L none 0 _ w⟩
theorem sortFunc_own {α : Type} [Inhabited α] {P : Program} {F : Nat} (k : Nat) (hk0 : 0 < k) (enc : α → List Value) (hk : ∀ x, (enc x).length = k)
    (cf : α → α → Int) (g : Nat) (cb : Array Value) (L : SortLaw P F g cb enc k cf)
    (e : TypeId) (v : Value) (xs : List α) (w : World) (hcmp : ∀ blk, CmpLays P g cb enc k cf blk 0 xs.length w) (hown : OwnL k enc e w v xs) (hsz : xs.length ≤ 1000000000) :
    Calls P F #[v, .func (.func g) #[] cb] w fun e2 w' => e2 = .returned (.tuple #[]) ∧ ∃ ys, ys.Perm xs ∧ ys.Pairwise (fun x y => ltOf cf y x = false) ∧ OwnL k enc e w' v ys ∧ Grew w v w' v := by
  obtain ⟨hl, h2⟩ := id hown
  rcases h2 with ⟨rfl, h0⟩ | ⟨b, cap, cur, rfl, _, hg, hcap, hmax, hsize, htk⟩
  · have : xs = [] := List.length_eq_zero_iff.1 h0
    subst this
    refine (L.none w).mono ?_
    rintro e2 w' ⟨rfl, rfl⟩
    exact ⟨rfl, [], List.Perm.refl _, List.Pairwise.nil, hown, Grew.refl _ _⟩
  · have hH := holdsK_of hk0 hk hg htk
    have hc := L.row b cap xs.toArray w (by simpa using hcmp b) hH (heap_lt' hg) (by simp; omega)
    refine Calls.mono (show Calls P F #[.slice (some ⟨b, 0, none⟩) xs.length cap, .func (.func g) #[] cb] w _ from hc) ?_
    rintro e2 w' ⟨rfl, d', n, os, hp, hs, rfl⟩
    have hp' : PermIn 0 xs.toArray.size xs.toArray d' := hp
    have hsz' : d'.size = xs.length := by simpa using hp'.1
    have hperm := perm_of_permIn hp'
    refine ⟨rfl, d'.toList, by simpa using hperm, pairwise_of_sortedIn (by rw [hsz']; simpa using hs), ?_, grew_sortedK _⟩
    have hlen : d'.toList.length = xs.length := by simpa using hsz'
    refine ⟨by rw [flat_len hk], .inr ⟨b, cap, _, by rw [hlen], Nat.zero_le _, heap_sortedK _ hg, by rw [hlen]; exact hcap, hmax, by simpa [putCells] using hsize, ?_⟩⟩
    have := take_putCells_flat hk0 hk cur d'.toList (by rw [hlen, hsize]; exact Nat.mul_le_mul_right _ hcap)
    simpa using this
theorem own_pairs {w : World} {NA : Nat → Prop} {p : Option Nat} {t : TypeId} {xs : List (Int × Int)} {v0 : Value} (hB : RepB w NA (fun _ => p) (one1 t 2 (xs.map rowS)) 900 (.arr t 2 (xs.map rowS))) (ho : OwnV w p 2 (xs.map rowS).length v0) : OwnL 2 encP t w v0 xs := by
  refine ⟨by rw [flat_len encP_len], ?_⟩
  rw [List.length_map] at ho
  rcases ho with ⟨h1, h2, h3⟩ | ⟨b, cap, cs, t', h1, h2, h3, h4, h5, h6⟩
  · exact .inl ⟨h3, h2⟩
  · rcases hB with ⟨g1, _⟩ | ⟨b', cs', cap', g1, g2, g3, g4, g5, g6, g7⟩
    · have g1 : p = none := g1
      rw [g1] at h1; cases h1
    · have g1 : p = some b' := g1
      rw [g1] at h1
      have e := Option.some.inj h1
      subst e
      rw [g2] at h3; cases h3
      refine .inr ⟨b', cap, cs, h2, Nat.zero_le _, g2, h5, h6, h4, ?_⟩
      have hsz : xs.length * 2 ≤ cs.toList.length := by simp [h4]; omega
      apply List.ext_getElem?
      intro m
      by_cases hm : m < xs.length * 2
      · rw [List.getElem?_take_of_lt hm]
        have hj : m / 2 < xs.length := by omega
        have em : m / 2 * 2 + m % 2 = m := by omega
        have hf := flat_get encP_len xs (m / 2) hj (m % 2) (Nat.mod_lt _ (by decide))
        rw [em] at hf
        rw [hf]
        have hrow : (xs.map rowS)[m / 2]? = some (rowS xs[m / 2]) := by rw [List.getElem?_map, List.getElem?_eq_getElem hj]; rfl
        rcases Nat.mod_two_eq_zero_or_one m with e | e
        · obtain ⟨v, k1, k2⟩ := g7 (m / 2) _ 0 (.val (.int .i64 xs[m / 2].1)) hrow rfl
          cases k2
          rw [e] at em ⊢
          rw [em] at k1
          simpa [encP] using k1
        · obtain ⟨v, k1, k2⟩ := g7 (m / 2) _ 1 (.val (.int .i64 xs[m / 2].2)) hrow rfl
          cases k2
          rw [e] at em ⊢
          rw [em] at k1
          simpa [encP] using k1
      · rw [List.getElem?_take_eq_none (by omega), List.getElem?_eq_none (by rw [flat_len encP_len]; omega)]
theorem pairs_own {w : World} {NA : Nat → Prop} {p : Option Nat} {t : TypeId} {ys : List (Int × Int)} {v0 : Value} (ho : OwnL 2 encP t w v0 ys) (hp : v0.ownBlock = p) : RepB w NA (fun _ => p) (one1 t 2 (ys.map rowS)) 900 (.arr t 2 (ys.map rowS)) := by
  obtain ⟨_, h⟩ := ho
  rcases h with ⟨h1, h2⟩ | ⟨b, cap, cs, h1, h2, h3, h4, h5, h6, h7⟩
  · have : ys = [] := List.length_eq_zero_iff.1 h2
    subst this
    subst h1
    exact .inl ⟨hp.symm, rfl⟩
  · subst h1
    refine .inr ⟨b, cs, cap, hp.symm, h3, h6, by simpa using h4, h5, fun j row hr => ?_, fun j row i x hr hx => ?_⟩
    · rw [List.getElem?_map, Option.map_eq_some_iff] at hr
      obtain ⟨y, _, rfl⟩ := hr
      exact ⟨rfl, rfl⟩
    · rw [List.getElem?_map, Option.map_eq_some_iff] at hr
      obtain ⟨y, hy, rfl⟩ := hr
      have hj : j < ys.length := (List.getElem?_eq_some_iff.1 hy).1
      have ey : ys[j] = y := (List.getElem?_eq_some_iff.1 hy).2
      have hi : i < 2 := by have := (List.getElem?_eq_some_iff.1 hx).1; simpa [rowS] using this
      have hf := flat_get encP_len ys j hj i hi
      rw [← h7, List.getElem?_take_of_lt (by omega), ey] at hf
      rcases (show i = 0 ∨ i = 1 by omega) with rfl | rfl
      · simp [rowS] at hx; subst hx
        exact ⟨.int .i64 y.1, by simpa [encP] using hf, .val _⟩
      · simp [rowS] at hx; subst hx
        exact ⟨.int .i64 y.2, by simpa [encP] using hf, .val _⟩
def Sorts (lt : Int × Int → Int × Int → Bool) (xs : List (Int × Int)) (rows : List (List CV)) : Prop := ∃ ys : List (Int × Int), rows = ys.map rowS ∧ ys.Perm xs ∧ ys.Pairwise fun x y => lt y x = false
def encB (ok : Int × Int → Prop) (x : {x : Int × Int // ok x}) : List Value := encP x.1
theorem attach_flat {ok : Int × Int → Prop} : ∀ (xs : List {x : Int × Int // ok x}), xs.flatMap (encB ok) = (xs.map (·.1)).flatMap encP
  | [] => rfl
  | x :: xs => by rw [List.flatMap_cons, List.map_cons, List.flatMap_cons, attach_flat xs]; rfl
theorem sortFunc_pairs {P : Program} {F : Nat} {ok : Int × Int → Prop} [Inhabited {x : Int × Int // ok x}] (cf : {x : Int × Int // ok x} → {x : Int × Int // ok x} → Int) (lt : Int × Int → Int × Int → Bool) (hlt : ∀ x y, ltOf cf x y = lt x.1 y.1) (g : Nat) (cb : Array Value) (L : SortLaw P F g cb (encB ok) 2 cf) (t : TypeId)
    (xs : List (Int × Int)) (hok : ∀ x ∈ xs, ok x) (hsz : xs.length ≤ 1000000000) (w : World) (hcmp : ∀ blk, CmpLays P g cb (encB ok) 2 cf blk 0 xs.length w) {NA : Nat → Prop} {p : Option Nat} {v0 : Value} (hB : RepB w NA (fun _ => p) (one1 t 2 (xs.map rowS)) 900 (.arr t 2 (xs.map rowS))) (ho : OwnV w p 2 (xs.map rowS).length v0) :
    Calls P F #[v0, .func (.func g) #[] cb] w fun e w' => ∃ rows', e = .returned (.tuple #[]) ∧ Sorts lt xs rows' ∧ rows'.length = (xs.map rowS).length ∧ RepB w' NA (fun _ => p) (one1 t 2 rows') 900 (.arr t 2 rows') ∧
      (∀ b cs t', p = some b → w.heap[b]? = some (.cells cs t' (0, 0)) → ∃ cs', w'.heap[b]? = some (.cells cs' t' (0, 0)) ∧ cs'.size = cs.size) ∧ w.grownBy w' p := by
  have hL := own_pairs hB ho
  have hp : v0.ownBlock = p := by
    rcases ho with ⟨h1, h2, h3⟩ | ⟨b, cap, cs, t', h1, h2, h3, h4, h5, h6⟩
    · rw [h1, h3]; rfl
    · rw [h1, h2]; rfl
  obtain ⟨zs, hz⟩ : ∃ zs : List {x : Int × Int // ok x}, zs.map (·.1) = xs := ⟨xs.attachWith ok hok, by exact List.attachWith_map_subtype_val hok⟩
  have hzl : zs.length = xs.length := by rw [← hz, List.length_map]
  have hLz : OwnL 2 (encB ok) t w v0 zs := by
    unfold OwnL
    rw [attach_flat, hz, hzl]
    exact hL
  refine (sortFunc_own (α := {x : Int × Int // ok x}) 2 (by decide) (encB ok) (fun _ => rfl) cf g cb L t v0 zs w (fun blk => by rw [hzl]; exact hcmp blk) hLz (by omega)).mono ?_
  rintro e w' ⟨rfl, ys, h1, h2, h3, h4⟩
  have h3' : OwnL 2 encP t w' v0 (ys.map (·.1)) := by
    unfold OwnL at h3 ⊢
    rw [attach_flat] at h3
    rw [List.length_map]
    exact h3
  refine ⟨(ys.map (·.1)).map rowS, rfl, ⟨ys.map (·.1), rfl, by rw [← hz]; exact h1.map _, ?_⟩, by simp [h1.length_eq, hzl], pairs_own h3' hp, fun b cs t' hb hc => ?_, ⟨h4.os, h4.tape, h4.output, h4.size, fun k hk hne => h4.block k hk (fun e => hne (by rw [← hp, e]))⟩⟩
  · rw [List.pairwise_map]
    exact h2.imp fun {x y} h => by rw [← hlt]; exact h
  obtain ⟨_, q1⟩ := hL
  obtain ⟨_, q2⟩ := h3'
  rcases q1 with ⟨a1, a2⟩ | ⟨b1, cap1, cs1, a1, _, a3, a4, a5, a6, a7⟩
  · rw [hb, a1] at hp; cases hp
  · rcases q2 with ⟨c1, c2⟩ | ⟨b2, cap2, cs2, c1, _, c3, c4, c5, c6, c7⟩
    · rw [a1] at c1; cases c1
    · rw [a1] at c1
      simp only [Value.slice.injEq, Option.some.injEq, Addr.mk.injEq] at c1
      obtain ⟨⟨rfl, -, -⟩, -, rfl⟩ := c1
      have : b = b1 := by rw [hb, a1] at hp; simpa [Value.ownBlock] using hp.symm
      subst this
      rw [a3] at hc; cases hc
      exact ⟨cs2, c3, by rw [c6, a6]⟩
end Go.Proofs.YtnfggkopledpcaaGreat
/- Dial: insertion sort of a few pairs, whatever function compares. -/
namespace Go.Proofs.YtnfggkopledpcaaGreat
open Go.RowKit Go.Sort Go.Shelf
def gp (ys : List (Int × Int)) (p : Nat) : Int × Int := ys.getD p (0, 0)
def swp (ys : List (Int × Int)) (j : Nat) : List (Int × Int) := (ys.set (j + 1) (gp ys j)).set j (gp ys (j + 1))
theorem gp_swp {ys : List (Int × Int)} {j : Nat} (h : j + 1 < ys.length) (p : Nat) : gp (swp ys j) p = if p = j then gp ys (j + 1) else if p = j + 1 then gp ys j else gp ys p := by
  unfold gp swp
  simp only [List.getD_eq_getElem?_getD, List.getElem?_set]
  by_cases h1 : p = j
  · subst h1; simp [show p < ys.length by omega, gp]
  · rw [if_neg (Ne.symm h1), if_neg h1]
    by_cases h2 : p = j + 1
    · subst h2; simp [h, gp]
    · rw [if_neg (Ne.symm h2), if_neg h2]
theorem swp_perm {ys : List (Int × Int)} {j : Nat} (h : j + 1 < ys.length) : (swp ys j).Perm ys := by
  have e1 : gp ys j = ys[j] := by simp [gp, show j < ys.length by omega]
  have e2 : gp ys (j + 1) = ys[j + 1] := by simp [gp, h]
  unfold swp
  rw [e1, e2]
  exact List.set_set_perm h (by omega)
def InO (lt : Int × Int → Int × Int → Bool) (ys : List (Int × Int)) (i : Nat) : Prop := ∀ p q, p < q → q < i → lt (gp ys q) (gp ys p) = false
structure InJ (lt : Int × Int → Int × Int → Bool) (ys : List (Int × Int)) (i j : Nat) : Prop where
  a : ∀ p q, p < q → q ≤ i → p ≠ j → q ≠ j → lt (gp ys q) (gp ys p) = false
  b : ∀ q, j < q → q ≤ i → lt (gp ys j) (gp ys q) = true
theorem InJ.start {lt : Int × Int → Int × Int → Bool} {ys : List (Int × Int)} {i : Nat} (h : InO lt ys i) : InJ lt ys i i :=
  ⟨fun p q h1 h2 _ h4 => h p q h1 (by omega), fun q h1 h2 => by omega⟩
theorem InJ.stop {lt : Int × Int → Int × Int → Bool} (hO : SWO lt) {ys : List (Int × Int)} {i j : Nat} (h : InJ lt ys i j) (hj : j = 0 ∨ ∃ m, j = m + 1 ∧ lt (gp ys (m + 1)) (gp ys m) = false) : InO lt ys (i + 1) := fun p q h1 h2 => by
  have asym : ∀ x y, lt x y = true → lt y x = false := fun x y hxy => by
    cases hyx : lt y x with
    | false => rfl
    | true => have := hO.trans x y x hxy hyx; rw [hO.irrefl] at this; cases this
  by_cases hp : p = j
  · subst hp
    exact asym _ _ (h.b q h1 (by omega))
  · by_cases hq : q = j
    · subst hq
      rcases hj with rfl | ⟨m, rfl, hm⟩
      · omega
      · by_cases hpm : p = m
        · subst hpm; exact hm
        · exact hO.ntrans _ _ _ hm (h.a p m (by omega) (by omega) (by omega) (by omega))
    · exact h.a p q h1 (by omega) hp hq
theorem InJ.swap {lt : Int × Int → Int × Int → Bool} {ys : List (Int × Int)} {i m : Nat} (h : InJ lt ys i (m + 1)) (hi : i < ys.length) (hm : m + 1 ≤ i) (hlt : lt (gp ys (m + 1)) (gp ys m) = true) : InJ lt (swp ys m) i m := by
  have hg := gp_swp (ys := ys) (j := m) (by omega)
  refine ⟨fun p q h1 h2 h3 h4 => ?_, fun q h1 h2 => ?_⟩
  · rw [hg, hg, if_neg h3, if_neg h4]
    by_cases hp : p = m + 1
    · subst hp
      rw [if_pos rfl, if_neg (by omega)]
      exact h.a m q (by omega) h2 (by omega) (by omega)
    · rw [if_neg hp]
      by_cases hq : q = m + 1
      · subst hq
        rw [if_pos rfl]
        exact h.a p m (by omega) (by omega) hp (by omega)
      · rw [if_neg hq]
        exact h.a p q h1 h2 hp hq
  · rw [hg, hg, if_pos rfl, if_neg (by omega)]
    by_cases hq : q = m + 1
    · subst hq; rw [if_pos rfl]; exact hlt
    · rw [if_neg hq]
      exact h.b q (by omega) h2
def ltC (c : Int × Int → Int × Int → Int) (x y : Int × Int) : Bool := decide (c x y < 0)
theorem ino_pair {lt : Int × Int → Int × Int → Bool} {ys : List (Int × Int)} (h : InO lt ys ys.length) : ys.Pairwise fun x y => lt y x = false := by
  rw [List.pairwise_iff_getElem]
  intro i j hi hj hij
  have := h i j hij hj
  simpa [gp, hi, hj] using this
def insI (xs : List (Int × Int)) (c : Int × Int → Int × Int → Int) (F : CV) (i : Nat) (T : TL) (H : HL) : Prop := ∃ ys : List (Int × Int), ys.Perm xs ∧ InO (ltC c) ys i ∧ T = [(0, .own 900 xs.length), (1, .c (I 0)), (2, .c (I xs.length)), (3, .c F), (8, .c (I i))] ∧ H = [(900, .arr 50 2 (ys.map rowS))]
def insJ (xs : List (Int × Int)) (c : Int × Int → Int × Int → Int) (F : CV) (i : Nat) (m : Nat) (T : TL) (H : HL) : Prop := ∃ ys : List (Int × Int), ys.Perm xs ∧ m ≤ i ∧ InJ (ltC c) ys i m ∧ T = [(0, .own 900 xs.length), (1, .c (I 0)), (2, .c (I xs.length)), (3, .c F), (8, .c (I i)), (9, .c (I m))] ∧ H = [(900, .arr 50 2 (ys.map rowS))]
set_option maxHeartbeats 1000000 in
theorem mInsert (xs : List (Int × Int)) (hl : xs.length ≤ 1000000000) (f : FuncId) (fs cs : List CV) (c : Int × Int → Int × Int → Int) (hO : SWO (ltC c)) (he : Ent Tryz.prog f) (hp : ∀ x ∈ xs, ∀ y ∈ xs, SC Tryz.prog f (fs ++ [cS x.1 x.2, cS y.1 y.2] ++ cs) (I (c x y))) :
    MC Tryz.prog 86 50 2 (xs.map rowS) [I 0, I xs.length, .fn f fs cs] (Sorts (ltC c) xs) (some (.tup [])) := by
  refine mlaw_slices_insertionSortCmpFunc_2_int _ _ _ _ _ _ (by simp) ?_
  (repeat' (first | ((first | with_reducible refine st_skip ?_ | with_reducible refine st_exit ?_); (try simp only [seqQ, blockQ, loopQ, forQ, whileQ, reduceIte, Nat.reduceEqDiff])) | (with_reducible refine st_ret ?_; ((try simp only [seqQ, blockQ, loopQ, forQ, whileQ]); first | (with_reducible refine retM_ret ?_) | refine retQ_ret ?_; simp)) | refine st_seq ?_ | refine st_block ?_ | ((first | refine st_reg ?_ | refine buildP_own ?_) <;> (simp -dsimp; (repeat (simp -dsimp (disch := (first | omega | assumption | (refine Bool.eq_false_iff.1 ?_; assumption))) only [wrap_in, if_pos, if_neg]; (try simp -dsimp))))) | ((first | refine guardP_of (fun hc => ?_) (fun hc => ?_) | refine st_cond rfl (fun hc => ?_) (fun hc => ?_)) <;> (try simp only [decide_eq_true_eq, decide_eq_false_iff_not, Bool.true_eq_false, Bool.false_eq_true, bne_iff_ne, ne_eq, bne_eq_false_iff_eq, beq_iff_eq, beq_eq_false_iff_ne, Bool.not_eq_true, Bool.not_eq_false, Bool.not_eq_eq_eq_not, Bool.not_true, Bool.not_false, Decidable.not_not] at hc) <;> (try (exfalso; first | omega | exact bool_tf hc (by assumption) | exact bool_ft hc (by assumption) | exact absurd (by assumption) hc)) <;> (first | with_reducible show STri _ _ _ _ _ _ | (simp -dsimp [hc]; (repeat (simp -dsimp (disch := (first | omega | assumption | (refine Bool.eq_false_iff.1 ?_; assumption))) only [wrap_in, if_pos, if_neg]; (try simp -dsimp [hc]))))))))
  refine st_for [900] (xs.length - 1) (fun k T H => insI xs c (.fn f fs cs) (k + 1) T H) (by simp) ⟨xs, .refl _, fun p q h1 h2 => by omega, by simp, by simp⟩ ?_
  rintro k T H hk ⟨ys, hperm, hino, rfl, rfl⟩
  have hlen := hperm.length_eq
  by_cases hlt : k + 1 < xs.length
  · have hlt2 : (k : Int) + 1 < xs.length := by omega
    (repeat' (first | ((first | with_reducible refine st_skip ?_ | with_reducible refine st_exit ?_); (try simp only [seqQ, blockQ, loopQ, forQ, whileQ, reduceIte, Nat.reduceEqDiff])) | (with_reducible refine st_ret ?_; ((try simp only [seqQ, blockQ, loopQ, forQ, whileQ]); first | (with_reducible refine retM_ret ?_) | refine retQ_ret ?_; simp [hlt, hlt2, hlen])) | refine st_seq ?_ | refine st_block ?_ | ((first | refine st_reg ?_ | refine buildP_own ?_) <;> (simp -dsimp [hlt, hlt2, hlen]; (repeat (simp -dsimp (disch := (first | omega | assumption | (refine Bool.eq_false_iff.1 ?_; assumption))) only [wrap_in, if_pos, if_neg]; (try simp -dsimp [hlt, hlt2, hlen]))))) | ((first | refine guardP_of (fun hc => ?_) (fun hc => ?_) | refine st_cond rfl (fun hc => ?_) (fun hc => ?_)) <;> (try simp only [decide_eq_true_eq, decide_eq_false_iff_not, Bool.true_eq_false, Bool.false_eq_true, bne_iff_ne, ne_eq, bne_eq_false_iff_eq, beq_iff_eq, beq_eq_false_iff_ne, Bool.not_eq_true, Bool.not_eq_false, Bool.not_eq_eq_eq_not, Bool.not_true, Bool.not_false, Decidable.not_not] at hc) <;> (try (exfalso; first | omega | exact bool_tf hc (by assumption) | exact bool_ft hc (by assumption) | exact absurd (by assumption) hc)) <;> (first | with_reducible show STri _ _ _ _ _ _ | (simp -dsimp [hlt, hlt2, hlen, hc]; (repeat (simp -dsimp (disch := (first | omega | assumption | (refine Bool.eq_false_iff.1 ?_; assumption))) only [wrap_in, if_pos, if_neg]; (try simp -dsimp [hlt, hlt2, hlen, hc]))))))))
    refine st_while [900] (insJ xs c (.fn f fs cs) (k + 1)) (k + 1) (by simp) ⟨ys, hperm, Nat.le_refl _, InJ.start hino, by simp, by simp⟩ ?_
    rintro m T H ⟨zs, hz, hm, hj, rfl, rfl⟩
    have hlz := hz.length_eq
    cases m with
    | zero =>
      (repeat' (first | ((first | with_reducible refine st_skip ?_ | with_reducible refine st_exit ?_); (try simp only [seqQ, blockQ, loopQ, forQ, whileQ, reduceIte, Nat.reduceEqDiff])) | (with_reducible refine st_ret ?_; ((try simp only [seqQ, blockQ, loopQ, forQ, whileQ]); first | (with_reducible refine retM_ret ?_) | refine retQ_ret ?_; simp [hlz])) | refine st_seq ?_ | refine st_block ?_ | ((first | refine st_reg ?_ | refine buildP_own ?_) <;> (simp -dsimp [hlz]; (repeat (simp -dsimp (disch := (first | omega | assumption | (refine Bool.eq_false_iff.1 ?_; assumption))) only [wrap_in, if_pos, if_neg]; (try simp -dsimp [hlz]))))) | ((first | refine guardP_of (fun hc => ?_) (fun hc => ?_) | refine st_cond rfl (fun hc => ?_) (fun hc => ?_)) <;> (try simp only [decide_eq_true_eq, decide_eq_false_iff_not, Bool.true_eq_false, Bool.false_eq_true, bne_iff_ne, ne_eq, bne_eq_false_iff_eq, beq_iff_eq, beq_eq_false_iff_ne, Bool.not_eq_true, Bool.not_eq_false, Bool.not_eq_eq_eq_not, Bool.not_true, Bool.not_false, Decidable.not_not] at hc) <;> (try (exfalso; first | omega | exact bool_tf hc (by assumption) | exact bool_ft hc (by assumption) | exact absurd (by assumption) hc)) <;> (first | with_reducible show STri _ _ _ _ _ _ | (simp -dsimp [hlz, hc]; (repeat (simp -dsimp (disch := (first | omega | assumption | (refine Bool.eq_false_iff.1 ?_; assumption))) only [wrap_in, if_pos, if_neg]; (try simp -dsimp [hlz, hc]))))))))
      all_goals exact ⟨by omega, by simp, zs, hz, hj.stop hO (.inl rfl), by simp, by simp⟩
    | succ m =>
      have e1 : gp zs (m + 1) = zs[m + 1] := by simp [gp, show m + 1 < zs.length by omega]
      have e0 : gp zs m = zs[m] := by simp [gp, show m < zs.length by omega]
      have q1 : zs[m + 1] ∈ xs := hz.subset (List.getElem_mem _)
      have q0 : zs[m] ∈ xs := hz.subset (List.getElem_mem _)
      have htn : ((m : Int) + 1).toNat = m + 1 := by omega
      have hm1 : m + 1 < xs.length := by omega
      have hm0 : m < xs.length := by omega
      (repeat' (first | ((first | with_reducible refine st_skip ?_ | with_reducible refine st_exit ?_); (try simp only [seqQ, blockQ, loopQ, forQ, whileQ, reduceIte, Nat.reduceEqDiff])) | (with_reducible refine st_ret ?_; ((try simp only [seqQ, blockQ, loopQ, forQ, whileQ]); first | (with_reducible refine retM_ret ?_) | refine retQ_ret ?_; simp [hlz, htn, hm1, hm0])) | refine st_seq ?_ | refine st_block ?_ | ((first | refine st_reg ?_ | ((with_reducible show callVP _ _ _ _ _ _ _); refine callV_b (by first | exact Ent.h (by assumption) | kernel_rfl) (hp _ q1 _ q0) rfl ?_) | refine buildP_own ?_) <;> (simp -dsimp [hlz, htn, hm1, hm0]; (repeat (simp -dsimp (disch := (first | omega | assumption | (refine Bool.eq_false_iff.1 ?_; assumption))) only [wrap_in, if_pos, if_neg]; (try simp -dsimp [hlz, htn, hm1, hm0]))))) | ((first | refine guardP_of (fun hc => ?_) (fun hc => ?_) | refine st_cond rfl (fun hc => ?_) (fun hc => ?_)) <;> (try simp only [decide_eq_true_eq, decide_eq_false_iff_not, Bool.true_eq_false, Bool.false_eq_true, bne_iff_ne, ne_eq, bne_eq_false_iff_eq, beq_iff_eq, beq_eq_false_iff_ne, Bool.not_eq_true, Bool.not_eq_false, Bool.not_eq_eq_eq_not, Bool.not_true, Bool.not_false, Decidable.not_not] at hc) <;> (try (exfalso; first | omega | exact bool_tf hc (by assumption) | exact bool_ft hc (by assumption) | exact absurd (by assumption) hc)) <;> (first | with_reducible show STri _ _ _ _ _ _ | (simp -dsimp [hlz, htn, hm1, hm0, hc]; (repeat (simp -dsimp (disch := (first | omega | assumption | (refine Bool.eq_false_iff.1 ?_; assumption))) only [wrap_in, if_pos, if_neg]; (try simp -dsimp [hlz, htn, hm1, hm0, hc]))))))))
      · have hsw := hj.swap (by omega) hm (by rw [e1, e0]; simpa [ltC] using hc)
        exact ⟨m, by omega, by simp, swp zs m, (swp_perm (by omega)).trans hz, by omega, hsw, by simp, by simp [swp, List.map_set, e1, e0]⟩
      · exact ⟨by omega, by simp, zs, hz, hj.stop hO (.inr ⟨m, rfl, by rw [e1, e0]; simpa [ltC] using hc⟩), by simp, by simp⟩
  · have hlt2 : ¬ (k : Int) + 1 < xs.length := by omega
    (repeat' (first | ((first | with_reducible refine st_skip ?_ | with_reducible refine st_exit ?_); (try simp only [seqQ, blockQ, loopQ, forQ, whileQ, reduceIte, Nat.reduceEqDiff])) | (with_reducible refine st_ret ?_; ((try simp only [seqQ, blockQ, loopQ, forQ, whileQ]); first | (with_reducible refine retM_ret ?_) | refine retQ_ret ?_; simp [hlt, hlt2, hlen])) | refine st_seq ?_ | refine st_block ?_ | ((first | refine st_reg ?_ | refine buildP_own ?_) <;> (simp -dsimp [hlt, hlt2, hlen]; (repeat (simp -dsimp (disch := (first | omega | assumption | (refine Bool.eq_false_iff.1 ?_; assumption))) only [wrap_in, if_pos, if_neg]; (try simp -dsimp [hlt, hlt2, hlen]))))) | ((first | refine guardP_of (fun hc => ?_) (fun hc => ?_) | refine st_cond rfl (fun hc => ?_) (fun hc => ?_)) <;> (try simp only [decide_eq_true_eq, decide_eq_false_iff_not, Bool.true_eq_false, Bool.false_eq_true, bne_iff_ne, ne_eq, bne_eq_false_iff_eq, beq_iff_eq, beq_eq_false_iff_ne, Bool.not_eq_true, Bool.not_eq_false, Bool.not_eq_eq_eq_not, Bool.not_true, Bool.not_false, Decidable.not_not] at hc) <;> (try (exfalso; first | omega | exact bool_tf hc (by assumption) | exact bool_ft hc (by assumption) | exact absurd (by assumption) hc)) <;> (first | with_reducible show STri _ _ _ _ _ _ | (simp -dsimp [hlt, hlt2, hlen, hc]; (repeat (simp -dsimp (disch := (first | omega | assumption | (refine Bool.eq_false_iff.1 ?_; assumption))) only [wrap_in, if_pos, if_neg]; (try simp -dsimp [hlt, hlt2, hlen, hc]))))))))
    refine retM_end ⟨_, rfl, ⟨ys, rfl, hperm, ino_pair fun p q h1 h2 => hino p q h1 (by omega)⟩, by simp [hlen], [], rfl, .refl _⟩
theorem mPdq (xs : List (Int × Int)) (hl : xs.length ≤ 12) (lim : Int) (f : FuncId) (fs cs : List CV) (c : Int × Int → Int × Int → Int) (hO : SWO (ltC c)) (he : Ent Tryz.prog f) (hp : ∀ x ∈ xs, ∀ y ∈ xs, SC Tryz.prog f (fs ++ [cS x.1 x.2, cS y.1 y.2] ++ cs) (I (c x y))) :
    MC Tryz.prog 71 50 2 (xs.map rowS) [I 0, I xs.length, I lim, .fn f fs cs] (Sorts (ltC c) xs) (some (.tup [])) := by
  refine mlaw_slices_pdqsortCmpFunc_2_int _ _ _ _ _ _ (by simp) ?_
  have hl2 : (xs.length : Int) ≤ 12 := by omega
  (repeat' (first | ((first | with_reducible refine st_skip ?_ | with_reducible refine st_exit ?_); (try simp only [seqQ, blockQ, loopQ, forQ, whileQ, reduceIte, Nat.reduceEqDiff])) | (with_reducible refine st_ret ?_; ((try simp only [seqQ, blockQ, loopQ, forQ, whileQ]); first | (with_reducible refine retM_ret ?_) | refine retQ_ret ?_; simp)) | refine st_seq ?_ | refine st_block ?_ | ((first | refine st_reg ?_ | refine buildP_own ?_) <;> (simp -dsimp; (repeat (simp -dsimp (disch := (first | omega | assumption | (refine Bool.eq_false_iff.1 ?_; assumption))) only [wrap_in, if_pos, if_neg]; (try simp -dsimp))))) | ((first | refine guardP_of (fun hc => ?_) (fun hc => ?_) | refine st_cond rfl (fun hc => ?_) (fun hc => ?_)) <;> (try simp only [decide_eq_true_eq, decide_eq_false_iff_not, Bool.true_eq_false, Bool.false_eq_true, bne_iff_ne, ne_eq, bne_eq_false_iff_eq, beq_iff_eq, beq_eq_false_iff_ne, Bool.not_eq_true, Bool.not_eq_false, Bool.not_eq_eq_eq_not, Bool.not_true, Bool.not_false, Decidable.not_not] at hc) <;> (try (exfalso; first | omega | exact bool_tf hc (by assumption) | exact bool_ft hc (by assumption) | exact absurd (by assumption) hc)) <;> (first | with_reducible show STri _ _ _ _ _ _ | (simp -dsimp [hc]; (repeat (simp -dsimp (disch := (first | omega | assumption | (refine Bool.eq_false_iff.1 ?_; assumption))) only [wrap_in, if_pos, if_neg]; (try simp -dsimp [hc]))))))))
  refine st_for [900] 1 (fun k T H => k = 0 ∧ T = [(0, .own 900 xs.length), (1, .c (I 0)), (2, .c (I xs.length)), (3, .c (I lim)), (4, .c (.fn f fs cs)), (10, .c (B true)), (11, .c (B true))] ∧ H = [(900, .arr 50 2 (xs.map rowS))]) (by simp) ⟨rfl, by simp, by simp⟩ ?_
  rintro k T H hk ⟨rfl, rfl, rfl⟩
  have hm := mInsert xs (by omega) f fs cs c hO he hp
  (repeat' (first | ((first | with_reducible refine st_skip ?_ | with_reducible refine st_exit ?_); (try simp only [seqQ, blockQ, loopQ, forQ, whileQ, reduceIte, Nat.reduceEqDiff])) | (with_reducible refine st_ret ?_; ((try simp only [seqQ, blockQ, loopQ, forQ, whileQ]); first | (with_reducible refine retM_ret ?_) | refine retQ_ret ?_; simp [hl2])) | refine st_seq ?_ | refine st_block ?_ | ((first | refine st_reg ?_ | ((with_reducible show callMP _ _ _ _ _ _); refine callM_of (hm ) (by decide) (by first | rfl | simp) (by first | rfl | simp) (by first | rfl | simp) (by first | rfl | simp) (fun rows2 hR2 hl2 => ?_);  obtain ⟨ys, rfl, h1, h2⟩ := hR2) | refine buildP_own ?_) <;> (simp -dsimp [hl2]; (repeat (simp -dsimp (disch := (first | omega | assumption | (refine Bool.eq_false_iff.1 ?_; assumption))) only [wrap_in, if_pos, if_neg]; (try simp -dsimp [hl2]))))) | ((first | refine guardP_of (fun hc => ?_) (fun hc => ?_) | refine st_cond rfl (fun hc => ?_) (fun hc => ?_)) <;> (try simp only [decide_eq_true_eq, decide_eq_false_iff_not, Bool.true_eq_false, Bool.false_eq_true, bne_iff_ne, ne_eq, bne_eq_false_iff_eq, beq_iff_eq, beq_eq_false_iff_ne, Bool.not_eq_true, Bool.not_eq_false, Bool.not_eq_eq_eq_not, Bool.not_true, Bool.not_false, Decidable.not_not] at hc) <;> (try (exfalso; first | omega | exact bool_tf hc (by assumption) | exact bool_ft hc (by assumption) | exact absurd (by assumption) hc)) <;> (first | with_reducible show STri _ _ _ _ _ _ | (simp -dsimp [hl2, hc]; (repeat (simp -dsimp (disch := (first | omega | assumption | (refine Bool.eq_false_iff.1 ?_; assumption))) only [wrap_in, if_pos, if_neg]; (try simp -dsimp [hl2, hc]))))))))
  all_goals exact ⟨_, rfl, ⟨ys, rfl, h1, h2⟩, hl2, [], rfl, .refl _⟩
theorem sBitsLen (n : Nat) (hn : n < 18446744073709551616) : SC Tryz.prog 70 [.val (.int .u64 n)] (I (Lib.bitLen n : Nat)) := fun w NA vs _ hs hv => by
  match vs, hs with
  | ⟨[v]⟩, _ =>
  have h1 := hv 0 _ v rfl rfl
  cases h1
  have h := Any.bits_Len (SlLaysF0.n15.bits (P := Tryz.prog) (ρ := Tryz.sortQ_ren) { Tryz.sortQ with }) (n : Int) w (by omega) (by omega)
  rw [Int.toNat_natCast] at h
  refine Calls.mono (show Calls Tryz.prog 70 #[.int .u64 n] w _ from h) ?_
  rintro e w' ⟨rfl, rfl⟩
  exact ⟨_, rfl, .val _, Ext.refl _⟩
theorem mSortQ (xs : List (Int × Int)) (hl : xs.length ≤ 12) (f : FuncId) (fs cs : List CV) (c : Int × Int → Int × Int → Int) (hO : SWO (ltC c)) (he : Ent Tryz.prog f) (hp : ∀ x ∈ xs, ∀ y ∈ xs, SC Tryz.prog f (fs ++ [cS x.1 x.2, cS y.1 y.2] ++ cs) (I (c x y))) :
    MC Tryz.prog 54 50 2 (xs.map rowS) [.fn f fs cs] (Sorts (ltC c) xs) (some (.tup [])) := by
  refine mlaw_slices_SortFunc_dial_pairsInOrder_2_int _ _ _ _ _ _ (by simp) ?_
  have hu : IntKind.u64.wrap (xs.length : Int) = xs.length := by simp [IntKind.wrap, IntKind.bits, IntKind.signed]; omega
  have hb := sBitsLen xs.length (by omega)
  have hm := mPdq xs hl (Lib.bitLen xs.length : Nat) f fs cs c hO he hp
  (repeat' (first | ((first | with_reducible refine st_skip ?_ | with_reducible refine st_exit ?_); (try simp only [seqQ, blockQ, loopQ, forQ, whileQ, reduceIte, Nat.reduceEqDiff])) | (with_reducible refine st_ret ?_; ((try simp only [seqQ, blockQ, loopQ, forQ, whileQ]); first | (with_reducible refine retM_ret ?_) | refine retQ_ret ?_; simp [hu])) | refine st_seq ?_ | refine st_block ?_ | ((first | refine st_reg ?_ | ((with_reducible show callMP _ _ _ _ _ _); refine callM_of (hm ) (by decide) (by first | rfl | simp) (by first | rfl | simp) (by first | rfl | simp) (by first | rfl | simp) (fun rows2 hR2 hl2 => ?_);  obtain ⟨ys, rfl, h1, h2⟩ := hR2) | refine buildP_own ?_ | refine callP_b (hb) rfl ?_) <;> (simp -dsimp [hu]; (repeat (simp -dsimp (disch := (first | omega | assumption | (refine Bool.eq_false_iff.1 ?_; assumption))) only [wrap_in, if_pos, if_neg]; (try simp -dsimp [hu]))))) | ((first | refine guardP_of (fun hc => ?_) (fun hc => ?_) | refine st_cond rfl (fun hc => ?_) (fun hc => ?_)) <;> (try simp only [decide_eq_true_eq, decide_eq_false_iff_not, Bool.true_eq_false, Bool.false_eq_true, bne_iff_ne, ne_eq, bne_eq_false_iff_eq, beq_iff_eq, beq_eq_false_iff_ne, Bool.not_eq_true, Bool.not_eq_false, Bool.not_eq_eq_eq_not, Bool.not_true, Bool.not_false, Decidable.not_not] at hc) <;> (try (exfalso; first | omega | exact bool_tf hc (by assumption) | exact bool_ft hc (by assumption) | exact absurd (by assumption) hc)) <;> (first | with_reducible show STri _ _ _ _ _ _ | (simp -dsimp [hu, hc]; (repeat (simp -dsimp (disch := (first | omega | assumption | (refine Bool.eq_false_iff.1 ?_; assumption))) only [wrap_in, if_pos, if_neg]; (try simp -dsimp [hu, hc]))))))))
  refine retM_end ⟨_, rfl, ⟨ys, rfl, h1, h2⟩, by simpa using hl2, [], rfl, .refl _⟩
def cmpI (x y : Int) : Int := if x < y then -1 else if y < x then 1 else 0
def cmpP (x y : Int × Int) : Int := if cmpI x.1 y.1 ≠ 0 then cmpI x.1 y.1 else cmpI x.2 y.2
theorem sCmp (x y : Int) : SC Tryz.prog 94 [I x, I y] (I (cmpI x y)) := fun w NA vs _ hs hv => by
  match vs, hs with
  | ⟨[v1, v2]⟩, _ =>
  have h1 := hv 0 _ v1 rfl rfl
  have h2 := hv 1 _ v2 rfl rfl
  cases h1
  cases h2
  refine Calls.mono (show Calls Tryz.prog 94 #[.int .i64 x, .int .i64 y] w _ from AnyG.cmp_Compare_int Tryz.cmpInt x y w) ?_
  rintro e w' ⟨rfl, rfl⟩
  have e1 : Lib.compareInt x y = cmpI x y := by
    unfold Lib.compareInt cmpI
    by_cases h1 : x < y
    · simp [h1]
    · by_cases h2 : y < x <;> simp [h1, h2]
  exact ⟨_, rfl, by rw [e1]; exact .val _, Ext.refl _⟩
theorem sCompare (x y : Int × Int) : SC Tryz.prog 72 [.sl 1 [[I x.1], [I x.2]], .sl 1 [[I y.1], [I y.2]]] (I (cmpP x y)) := by
  refine law_slices_Compare_int_int _ _ (by simp) ?_
  (repeat' (first | ((first | with_reducible refine st_skip ?_ | with_reducible refine st_exit ?_); (try simp only [seqQ, blockQ, loopQ, forQ, whileQ, reduceIte, Nat.reduceEqDiff])) | (with_reducible refine st_ret ?_; ((try simp only [seqQ, blockQ, loopQ, forQ, whileQ]); first | (with_reducible refine retM_ret ?_) | refine retQ_ret ?_; simp)) | refine st_seq ?_ | refine st_block ?_ | ((first | refine st_reg ?_ | refine buildP_own ?_) <;> (simp -dsimp; (repeat (simp -dsimp (disch := (first | omega | assumption | (refine Bool.eq_false_iff.1 ?_; assumption))) only [wrap_in, if_pos, if_neg]; (try simp -dsimp))))) | ((first | refine guardP_of (fun hc => ?_) (fun hc => ?_) | refine st_cond rfl (fun hc => ?_) (fun hc => ?_)) <;> (try simp only [decide_eq_true_eq, decide_eq_false_iff_not, Bool.true_eq_false, Bool.false_eq_true, bne_iff_ne, ne_eq, bne_eq_false_iff_eq, beq_iff_eq, beq_eq_false_iff_ne, Bool.not_eq_true, Bool.not_eq_false, Bool.not_eq_eq_eq_not, Bool.not_true, Bool.not_false, Decidable.not_not] at hc) <;> (try (exfalso; first | omega | exact bool_tf hc (by assumption) | exact bool_ft hc (by assumption) | exact absurd (by assumption) hc)) <;> (first | with_reducible show STri _ _ _ _ _ _ | (simp -dsimp [hc]; (repeat (simp -dsimp (disch := (first | omega | assumption | (refine Bool.eq_false_iff.1 ?_; assumption))) only [wrap_in, if_pos, if_neg]; (try simp -dsimp [hc]))))))))
  refine st_for [] 2 (fun k T H => (1 ≤ k → cmpI x.1 y.1 = 0) ∧ (2 ≤ k → cmpI x.2 y.2 = 0) ∧ T = [(0, .c (.sl 1 [[I x.1], [I x.2]])), (1, .c (.sl 1 [[I y.1], [I y.2]])), (9, .c (.sl 1 [[I x.1], [I x.2]])), (10, .c (I 2)), (11, .c (I k))] ∧ H = []) (by simp) ⟨by omega, by omega, by simp, by simp⟩ ?_
  rintro k T H hk ⟨h1, h2, rfl, rfl⟩
  rcases (show k = 0 ∨ k = 1 ∨ k = 2 by omega) with rfl | rfl | rfl
  · have hc1 := sCmp x.1 y.1
    (repeat' (first | ((first | with_reducible refine st_skip ?_ | with_reducible refine st_exit ?_); (try simp only [seqQ, blockQ, loopQ, forQ, whileQ, reduceIte, Nat.reduceEqDiff])) | (with_reducible refine st_ret ?_; ((try simp only [seqQ, blockQ, loopQ, forQ, whileQ]); first | (with_reducible refine retM_ret ?_) | refine retQ_ret ?_; simp)) | refine st_seq ?_ | refine st_block ?_ | ((first | refine st_reg ?_ | refine buildP_own ?_ | refine callP_b (hc1) rfl ?_) <;> (simp -dsimp; (repeat (simp -dsimp (disch := (first | omega | assumption | (refine Bool.eq_false_iff.1 ?_; assumption))) only [wrap_in, if_pos, if_neg]; (try simp -dsimp))))) | ((first | refine guardP_of (fun hc => ?_) (fun hc => ?_) | refine st_cond rfl (fun hc => ?_) (fun hc => ?_)) <;> (try simp only [decide_eq_true_eq, decide_eq_false_iff_not, Bool.true_eq_false, Bool.false_eq_true, bne_iff_ne, ne_eq, bne_eq_false_iff_eq, beq_iff_eq, beq_eq_false_iff_ne, Bool.not_eq_true, Bool.not_eq_false, Bool.not_eq_eq_eq_not, Bool.not_true, Bool.not_false, Decidable.not_not] at hc) <;> (try (exfalso; first | omega | exact bool_tf hc (by assumption) | exact bool_ft hc (by assumption) | exact absurd (by assumption) hc)) <;> (first | with_reducible show STri _ _ _ _ _ _ | (simp -dsimp [hc]; (repeat (simp -dsimp (disch := (first | omega | assumption | (refine Bool.eq_false_iff.1 ?_; assumption))) only [wrap_in, if_pos, if_neg]; (try simp -dsimp [hc]))))))))
    · refine CLe.int ?_; rw [cmpP, if_pos hc]
    · exact ⟨by omega, by simp, fun _ => hc, by omega, by simp, rfl⟩
  · have hc1 := sCmp x.2 y.2
    have h0 := h1 (by omega)
    (repeat' (first | ((first | with_reducible refine st_skip ?_ | with_reducible refine st_exit ?_); (try simp only [seqQ, blockQ, loopQ, forQ, whileQ, reduceIte, Nat.reduceEqDiff])) | (with_reducible refine st_ret ?_; ((try simp only [seqQ, blockQ, loopQ, forQ, whileQ]); first | (with_reducible refine retM_ret ?_) | refine retQ_ret ?_; simp)) | refine st_seq ?_ | refine st_block ?_ | ((first | refine st_reg ?_ | refine buildP_own ?_ | refine callP_b (hc1) rfl ?_) <;> (simp -dsimp; (repeat (simp -dsimp (disch := (first | omega | assumption | (refine Bool.eq_false_iff.1 ?_; assumption))) only [wrap_in, if_pos, if_neg]; (try simp -dsimp))))) | ((first | refine guardP_of (fun hc => ?_) (fun hc => ?_) | refine st_cond rfl (fun hc => ?_) (fun hc => ?_)) <;> (try simp only [decide_eq_true_eq, decide_eq_false_iff_not, Bool.true_eq_false, Bool.false_eq_true, bne_iff_ne, ne_eq, bne_eq_false_iff_eq, beq_iff_eq, beq_eq_false_iff_ne, Bool.not_eq_true, Bool.not_eq_false, Bool.not_eq_eq_eq_not, Bool.not_true, Bool.not_false, Decidable.not_not] at hc) <;> (try (exfalso; first | omega | exact bool_tf hc (by assumption) | exact bool_ft hc (by assumption) | exact absurd (by assumption) hc)) <;> (first | with_reducible show STri _ _ _ _ _ _ | (simp -dsimp [hc]; (repeat (simp -dsimp (disch := (first | omega | assumption | (refine Bool.eq_false_iff.1 ?_; assumption))) only [wrap_in, if_pos, if_neg]; (try simp -dsimp [hc]))))))))
    · refine CLe.int ?_; rw [cmpP, if_neg (by simp [h0])]
    · exact ⟨by omega, by simp, fun _ => h0, fun _ => hc, by simp, rfl⟩
  · have h0 := h1 (by omega)
    have h3 := h2 (by omega)
    (repeat' (first | ((first | with_reducible refine st_skip ?_ | with_reducible refine st_exit ?_); (try simp only [seqQ, blockQ, loopQ, forQ, whileQ, reduceIte, Nat.reduceEqDiff])) | (with_reducible refine st_ret ?_; ((try simp only [seqQ, blockQ, loopQ, forQ, whileQ]); first | (with_reducible refine retM_ret ?_) | refine retQ_ret ?_; simp)) | refine st_seq ?_ | refine st_block ?_ | ((first | refine st_reg ?_ | refine buildP_own ?_) <;> (simp -dsimp; (repeat (simp -dsimp (disch := (first | omega | assumption | (refine Bool.eq_false_iff.1 ?_; assumption))) only [wrap_in, if_pos, if_neg]; (try simp -dsimp))))) | ((first | refine guardP_of (fun hc => ?_) (fun hc => ?_) | refine st_cond rfl (fun hc => ?_) (fun hc => ?_)) <;> (try simp only [decide_eq_true_eq, decide_eq_false_iff_not, Bool.true_eq_false, Bool.false_eq_true, bne_iff_ne, ne_eq, bne_eq_false_iff_eq, beq_iff_eq, beq_eq_false_iff_ne, Bool.not_eq_true, Bool.not_eq_false, Bool.not_eq_eq_eq_not, Bool.not_true, Bool.not_false, Decidable.not_not] at hc) <;> (try (exfalso; first | omega | exact bool_tf hc (by assumption) | exact bool_ft hc (by assumption) | exact absurd (by assumption) hc)) <;> (first | with_reducible show STri _ _ _ _ _ _ | (simp -dsimp [hc]; (repeat (simp -dsimp (disch := (first | omega | assumption | (refine Bool.eq_false_iff.1 ?_; assumption))) only [wrap_in, if_pos, if_neg]; (try simp -dsimp [hc]))))))))
    refine CLe.int ?_; rw [cmpP, if_neg (by simp [h0]), h3]
theorem sPairCmp (v : Value) (x y : Int × Int) : SC Tryz.prog 55 ([.val v] ++ [cS x.1 x.2, cS y.1 y.2] ++ []) (I (cmpP x y)) := by
  refine mlaw_dial_pairsInOrder_compare _ _ (by simp) ?_
  have h := sCompare x y
  (repeat' (first | ((first | with_reducible refine st_skip ?_ | with_reducible refine st_exit ?_); (try simp only [seqQ, blockQ, loopQ, forQ, whileQ, reduceIte, Nat.reduceEqDiff])) | (with_reducible refine st_ret ?_; ((try simp only [seqQ, blockQ, loopQ, forQ, whileQ]); first | (with_reducible refine retM_ret ?_) | refine retQ_ret ?_; simp)) | refine st_seq ?_ | refine st_block ?_ | ((first | refine st_reg ?_ | refine buildP_own ?_ | refine callP_b (h) rfl ?_) <;> (simp -dsimp; (repeat (simp -dsimp (disch := (first | omega | assumption | (refine Bool.eq_false_iff.1 ?_; assumption))) only [wrap_in, if_pos, if_neg]; (try simp -dsimp))))) | ((first | refine guardP_of (fun hc => ?_) (fun hc => ?_) | refine st_cond rfl (fun hc => ?_) (fun hc => ?_)) <;> (try simp only [decide_eq_true_eq, decide_eq_false_iff_not, Bool.true_eq_false, Bool.false_eq_true, bne_iff_ne, ne_eq, bne_eq_false_iff_eq, beq_iff_eq, beq_eq_false_iff_ne, Bool.not_eq_true, Bool.not_eq_false, Bool.not_eq_eq_eq_not, Bool.not_true, Bool.not_false, Decidable.not_not] at hc) <;> (try (exfalso; first | omega | exact bool_tf hc (by assumption) | exact bool_ft hc (by assumption) | exact absurd (by assumption) hc)) <;> (first | with_reducible show STri _ _ _ _ _ _ | (simp -dsimp [hc]; (repeat (simp -dsimp (disch := (first | omega | assumption | (refine Bool.eq_false_iff.1 ?_; assumption))) only [wrap_in, if_pos, if_neg]; (try simp -dsimp [hc]))))))))
  all_goals exact .refl _
def ltP (x y : Int × Int) : Bool := decide (x.1 < y.1 ∨ (x.1 = y.1 ∧ x.2 < y.2))
theorem ltC_cmpP : ltC cmpP = ltP := by
  funext x y
  unfold ltC cmpP ltP cmpI
  by_cases h1 : x.1 < y.1
  · simp [h1]
  · by_cases h2 : y.1 < x.1
    · have : ¬ x.1 = y.1 := by omega
      simp [h1, h2, this]
    · have : x.1 = y.1 := by omega
      by_cases h3 : x.2 < y.2
      · simp [this, h3]
      · by_cases h4 : y.2 < x.2 <;> simp [this, h3, h4]
theorem swoP : SWO ltP where
  irrefl x := by simp [ltP]
  trans x y z h1 h2 := by simp [ltP] at *; omega
  ntrans x y z h1 h2 := by simp [ltP] at *; omega
def sortP (xs : List (Int × Int)) : List (Int × Int) := xs.mergeSort fun x y => !ltP y x
theorem sortP_of {xs ys : List (Int × Int)} (hp : ys.Perm xs) (hs : ys.Pairwise fun x y => ltP y x = false) : ys = sortP xs := by
  have h1 : (sortP xs).Pairwise fun x y => (!ltP y x) = true := List.pairwise_mergeSort (le := fun x y => !ltP y x) (fun x y z h1 h2 => by simp [ltP] at *; omega) (fun x y => by simp [ltP]; omega) xs
  refine List.Perm.eq_of_pairwise (le := fun x y => ltP y x = false) (fun x y _ _ h1 h2 => ?_) hs (h1.imp fun h => by simpa using h) (hp.trans (List.mergeSort_perm xs _).symm)
  simp [ltP] at h1 h2
  exact Prod.ext (by omega) (by omega)
end Go.Proofs.YtnfggkopledpcaaGreat
/- Dial: pairs in order; spans sorted. -/
namespace Go.Proofs.YtnfggkopledpcaaGreat
open Go.RowKit Go.Sort Go.Shelf
set_option maxRecDepth 100000 in
set_option maxHeartbeats 1000000 in
theorem mSorted (xs : List (Int × Int)) (hl : xs.length ≤ 12) : MC Tryz.prog 34 50 2 (xs.map rowS) [] (fun rows => rows = (sortP xs).map rowS) none := fun w NA p v0 vs hna hnp hB ho1 hov hs hv => by
  match vs, hs with
  | ⟨[]⟩, _ =>
  have hm := Lib.hid (mSortQ xs hl 55 [.val v0] [] cmpP (by rw [ltC_cmpP]; exact swoP) ⟨by kernel_rfl⟩ (fun x _ y _ => sPairCmp v0 x y) w NA p v0 #[.func (.func 55) #[v0] #[]] hna hnp hB ho1 hov rfl (fun i x v hx hv => by
    cases i with
    | zero =>
      simp at hx hv
      subst hx; subst hv
      refine .fn _ _ _ _ _ rfl rfl (fun i x v hx hv => ?_) (fun i x v hx => by simp at hx)
      cases i with
      | zero => simp at hx hv; subst hx; subst hv; exact .val _
      | succ i => simp at hx
    | succ i => simp at hx))
  change Calls _ _ #[v0] w _
  clear hna hnp hB ho1 hov hv
  go_enter Tryz.func34, Tryz.ntmps34
  go_wp2_with (go_at_call 54; refine hm.out.mono ?_; rintro e w2 ⟨v, rows', rfl, hR, hl2, h1, h2, h3, h4⟩)
  go_ret
  obtain ⟨ys, rfl, q1, q2⟩ := hR
  refine ⟨v0, _, rfl, ?_, hl2, h1, h2, h3, rfl⟩
  rw [sortP_of q1 (by rw [← ltC_cmpP]; exact q2)]
set_option maxRecDepth 100000 in
set_option maxHeartbeats 1000000 in
theorem cmpJ_any (x y : Int × Int) (W : World) :
    Calls Tryz.prog 53 #[.agg #[.int .i64 x.1, .int .i64 x.2], .agg #[.int .i64 y.1, .int .i64 y.2]] W fun e w' => e = .returned (.int .i64 (wrap64 (x.1 - y.1))) ∧ ∃ q os', w' = grow (W.drewN q) os' := by
  go_enter Tryz.func53, Tryz.ntmps53
  go_wp2
  go_ret
  refine ⟨rfl, 0, #[.cells #[.int .i64 x.1, .int .i64 x.2] 23, .cells #[.int .i64 y.1, .int .i64 y.2] 23], ?_⟩
  rfl
def okS (x : Int × Int) : Prop := -1000000000000 ≤ x.1 ∧ x.1 ≤ 1000000000000
def ltS (x y : Int × Int) : Bool := decide (x.1 < y.1)
def cfS (x y : {x : Int × Int // okS x}) : Int := x.1.1 - y.1.1
instance : Inhabited {x : Int × Int // okS x} := ⟨⟨(0, 0), by simp [okS]⟩⟩
theorem sub_lt0 (a b : Int) : decide (a - b < 0) = decide (a < b) := by
  rw [decide_eq_decide]; omega
theorem ltOf_S (x y : {x : Int × Int // okS x}) : ltOf cfS x y = ltS x.1 y.1 := by
  exact sub_lt0 _ _
theorem swoS : SWO (ltOf cfS) where
  irrefl x := by rw [ltOf_S]; simp [ltS]
  trans x y z h1 h2 := by rw [ltOf_S] at *; simp [ltS] at *; omega
  ntrans x y z h1 h2 := by rw [ltOf_S] at *; simp [ltS] at *; omega
theorem sub_ge {a b : Int} (h1 : -1000000000000 ≤ a) (h2 : b ≤ 1000000000000) : -9223372036854775808 ≤ a - b := by omega
theorem sub_le' {a b : Int} (h1 : a ≤ 1000000000000) (h2 : -1000000000000 ≤ b) : a - b ≤ 9223372036854775807 := by omega
theorem lays_S (blk off size : Nat) (w : World) : CmpLays Tryz.prog 53 #[] (encB okS) 2 cfS blk off size w := fun m os dk hs x y => by
  have h := cmpJ_any x.1 y.1 (sortWorldK (encB okS) 2 w blk off m dk os)
  rw [IntWalk.wrap64_in _ ⟨sub_ge x.2.1 y.2.2, sub_le' x.2.2 y.2.1⟩] at h
  exact h
theorem mSortS (xs : List (Int × Int)) (hl : xs.length ≤ 1000000000) (hok : ∀ x ∈ xs, okS x) : MC Tryz.prog 52 23 2 (xs.map rowS) [.fn 53 [] []] (Sorts ltS xs) (some (.tup [])) := fun w NA p v0 vs hna hnp hB ho1 hov hs hv => by
  match vs, hs with
  | ⟨[v1]⟩, _ =>
  have h1 := hv 0 _ v1 rfl rfl
  cases h1 with
  | fn _ _ _ vf vc a1 a2 =>
  have e1 : vf = #[] := Array.size_eq_zero_iff.1 a1
  have e2 : vc = #[] := Array.size_eq_zero_iff.1 a2
  subst e1; subst e2
  have L : SortLaw Tryz.prog 52 53 #[] (encB okS) 2 cfS :=
    sortLaw_n6 Tryz.sortP 2 Tryz.isAgg23 Tryz.sizeOf23 (encB okS) (fun _ => rfl) (fun x u hu => encP_one x.1 u hu) cfS swoS 53 #[] (enters_of Tryz.func53 (by kernel_rfl) rfl)
  refine (sortFunc_pairs cfS ltS ltOf_S 53 #[] L 23 xs hok hl w (fun blk => lays_S blk 0 xs.length w) hB hov).mono ?_
  rintro e w' ⟨rows', rfl, h2, h3, h4, h5, h6⟩
  exact ⟨_, rows', rfl, h2, h3, h4, h5, h6, .tup [] #[] rfl (fun i x v hx => by simp at hx)⟩
end Go.Proofs.YtnfggkopledpcaaGreat
/- Dial: spans joined. -/
namespace Go.Proofs.YtnfggkopledpcaaGreat
open Go.RowKit Go.Sort
def stepJ (o : List (Int × Int)) (s : Int × Int) : List (Int × Int) := match o.getLast? with
  | some l => if s.1 ≤ l.2 + 1 then o.dropLast ++ [(l.1, if s.2 > l.2 then s.2 else l.2)] else o ++ [s]
  | none => [s]
def joinK (ys : List (Int × Int)) (k : Nat) : List (Int × Int) := (ys.take k).foldl stepJ []
theorem joinK_succ {ys : List (Int × Int)} {k : Nat} (h : k < ys.length) : joinK ys (k + 1) = stepJ (joinK ys k) ys[k] := by
  unfold joinK
  rw [List.take_succ_eq_append_getElem h, List.foldl_append]
  rfl
theorem stepJ_len (o : List (Int × Int)) (s : Int × Int) : (stepJ o s).length ≤ o.length + 1 := by
  unfold stepJ
  split
  · split
    · simp
    · simp
  · simp
theorem joinK_len (ys : List (Int × Int)) : ∀ k, (joinK ys k).length ≤ k := by
  intro k
  induction k with
  | zero => simp [joinK]
  | succ k ih =>
    by_cases h : k < ys.length
    · rw [joinK_succ h]; have := stepJ_len (joinK ys k) ys[k]; omega
    · have : joinK ys (k + 1) = joinK ys k := by unfold joinK; rw [List.take_of_length_le (by omega), List.take_of_length_le (by omega)]
      rw [this]; omega
def SmS (l : List (Int × Int)) : Prop := ∀ x ∈ l, (-1000000000000 ≤ x.1 ∧ x.1 ≤ 1000000000000) ∧ -1000000000000 ≤ x.2 ∧ x.2 ≤ 1000000000000
theorem stepJ_sm {o : List (Int × Int)} {s : Int × Int} (h : SmS o) (hs : SmS [s]) : SmS (stepJ o s) := by
  have hs := hs s (by simp)
  unfold stepJ
  split
  · rename_i l hl
    have hl' := h l (List.mem_of_getLast? hl)
    split
    · intro x hx
      rcases List.mem_append.1 hx with hx | hx
      · exact h x ((List.dropLast_sublist o).mem hx)
      · simp at hx; subst hx
        refine ⟨hl'.1, ?_⟩
        by_cases hc : s.2 > l.2
        · rw [if_pos hc]; exact hs.2
        · rw [if_neg hc]; exact hl'.2
    · intro x hx
      rcases List.mem_append.1 hx with hx | hx
      · exact h x hx
      · simp at hx; subst hx; exact hs
  · intro x hx; simp at hx; subst hx; exact hs
theorem joinK_sm {ys : List (Int × Int)} (h : SmS ys) : ∀ {k : Nat}, k ≤ ys.length → SmS (joinK ys k) := by
  intro k
  induction k with
  | zero => intro _ x hx; simp [joinK] at hx
  | succ k ih =>
    intro hk
    rw [joinK_succ (by omega)]
    exact stepJ_sm (ih (by omega)) fun x hx => by simp at hx; subst hx; exact h _ (List.getElem_mem _)
theorem last_get (o : List (Int × Int)) (l : List CV) : (List.map rowS o ++ [l])[o.length]? = some l := by
  rw [List.getElem?_append_right (by simp)]; simp
theorem last_set (o : List (Int × Int)) (l c : List CV) : (List.map rowS o ++ [l]).set o.length c = List.map rowS o ++ [c] := by
  rw [List.set_append_right _ _ (by simp)]; simp
def joI (ys : List (Int × Int)) (k : Nat) (T : TL) (H : HL) : Prop := T = [(2, .own 200 (joinK ys k).length), (8, .own 900 ys.length), (9, .c (I ys.length)), (10, .c (I k))] ∧ H = [(900, .arr 23 2 (ys.map rowS)), (200, .arr 23 2 ((joinK ys k).map rowS))]
set_option maxHeartbeats 2000000 in
theorem mJoined (xs r : List (Int × Int)) (hl : xs.length ≤ 1000000) (hs : SmS xs) (hr : ∀ ys, ys.Perm xs → ys.Pairwise (fun x y => ltS y x = false) → joinK ys ys.length = r) :
    MC Tryz.prog 31 23 2 (xs.map rowS) [] (Sorts ltS xs) (some (slS r)) := by
  refine mlaw_dial_joined _ _ _ _ _ _ (by simp) ?_
  have hm := mSortS xs (by omega) (fun x hx => (hs x hx).1)
  (repeat' (first | ((first | with_reducible refine st_skip ?_ | with_reducible refine st_exit ?_); (try simp only [seqQ, blockQ, loopQ, forQ, whileQ, reduceIte, Nat.reduceEqDiff])) | (with_reducible refine st_ret ?_; ((try simp only [seqQ, blockQ, loopQ, forQ, whileQ]); first | (with_reducible refine retM_ret ?_) | refine retQ_ret ?_; simp)) | refine st_seq ?_ | refine st_block ?_ | ((first | refine st_reg ?_ | ((with_reducible show callMP _ _ _ _ _ _); refine callM_of (hm ) (by decide) (by first | rfl | simp) (by first | rfl | simp) (by first | rfl | simp) (by first | rfl | simp) (fun rows2 hR2 hl2 => ?_);  obtain ⟨ys, rfl, h1, h2⟩ := hR2; have hlen := h1.length_eq; simp only [← hlen]) | refine buildP_own ?_) <;> (simp -dsimp; (repeat (simp -dsimp (disch := (first | omega | assumption | (refine Bool.eq_false_iff.1 ?_; assumption))) only [wrap_in, if_pos, if_neg]; (try simp -dsimp))))) | ((first | refine guardP_of (fun hc => ?_) (fun hc => ?_) | refine st_cond rfl (fun hc => ?_) (fun hc => ?_)) <;> (try simp only [decide_eq_true_eq, decide_eq_false_iff_not, Bool.true_eq_false, Bool.false_eq_true, bne_iff_ne, ne_eq, bne_eq_false_iff_eq, beq_iff_eq, beq_eq_false_iff_ne, Bool.not_eq_true, Bool.not_eq_false, Bool.not_eq_eq_eq_not, Bool.not_true, Bool.not_false, Decidable.not_not] at hc) <;> (try (exfalso; first | omega | exact bool_tf hc (by assumption) | exact bool_ft hc (by assumption) | exact absurd (by assumption) hc)) <;> (first | with_reducible show STri _ _ _ _ _ _ | (simp -dsimp [hc]; (repeat (simp -dsimp (disch := (first | omega | assumption | (refine Bool.eq_false_iff.1 ?_; assumption))) only [wrap_in, if_pos, if_neg]; (try simp -dsimp [hc]))))))))
  refine st_nil 2 200 23 2 rfl (by simp [newOK]) ?_
  refine st_less [(2, .own 200 0), (8, .own 900 ys.length), (9, .c (I ys.length)), (10, .c (I 0))] [(900, .arr 23 2 (ys.map rowS)), (200, .arr 23 2 [])] (by simp [dropOK]) ?_
  refine st_for [900, 200] ys.length (fun k T H => joI ys k T H) (by simp) ⟨by simp [joinK], by simp [joinK]⟩ ?_
  rintro k T H hk ⟨rfl, rfl⟩
  have hys : SmS ys := fun x hx => hs x (h1.subset hx)
  have hsm := joinK_sm hys hk
  have hjl := joinK_len ys k
  by_cases hlt : k < ys.length
  · have hsk := joinK_succ hlt
    have hyk := hys _ (List.getElem_mem hlt)
    rcases List.eq_nil_or_concat (joinK ys k) with e | ⟨o, l, e⟩
    · rw [e] at hsk hsm hjl ⊢
      (repeat' (first | ((first | with_reducible refine st_skip ?_ | with_reducible refine st_exit ?_); (try simp only [seqQ, blockQ, loopQ, forQ, whileQ, reduceIte, Nat.reduceEqDiff])) | (with_reducible refine st_ret ?_; ((try simp only [seqQ, blockQ, loopQ, forQ, whileQ]); first | (with_reducible refine retM_ret ?_) | refine retQ_ret ?_; simp [hlt])) | refine st_seq ?_ | refine st_block ?_ | ((first | refine st_reg ?_ | refine buildP_own ?_) <;> (simp -dsimp [hlt]; (repeat (simp -dsimp (disch := (first | omega | assumption | (refine Bool.eq_false_iff.1 ?_; assumption))) only [wrap_in, if_pos, if_neg]; (try simp -dsimp [hlt]))))) | ((first | refine guardP_of (fun hc => ?_) (fun hc => ?_) | refine st_cond rfl (fun hc => ?_) (fun hc => ?_)) <;> (try simp only [decide_eq_true_eq, decide_eq_false_iff_not, Bool.true_eq_false, Bool.false_eq_true, bne_iff_ne, ne_eq, bne_eq_false_iff_eq, beq_iff_eq, beq_eq_false_iff_ne, Bool.not_eq_true, Bool.not_eq_false, Bool.not_eq_eq_eq_not, Bool.not_true, Bool.not_false, Decidable.not_not] at hc) <;> (try (exfalso; first | omega | exact bool_tf hc (by assumption) | exact bool_ft hc (by assumption) | exact absurd (by assumption) hc)) <;> (first | with_reducible show STri _ _ _ _ _ _ | (simp -dsimp [hlt, hc]; (repeat (simp -dsimp (disch := (first | omega | assumption | (refine Bool.eq_false_iff.1 ?_; assumption))) only [wrap_in, if_pos, if_neg]; (try simp -dsimp [hlt, hc]))))))))
      exact ⟨by omega, by simp, by rw [hsk]; simp [stepJ], by rw [hsk]; simp [stepJ]⟩
    · rw [List.concat_eq_append] at e
      rw [e] at hsk hsm hjl ⊢
      have hll := hsm l (by simp)
      have ho : o.length + 1 ≤ k := by simpa using hjl
      have hg := last_get o [I l.1, I l.2]
      have hst := last_set o [I l.1, I l.2]
      (repeat' (first | ((first | with_reducible refine st_skip ?_ | with_reducible refine st_exit ?_); (try simp only [seqQ, blockQ, loopQ, forQ, whileQ, reduceIte, Nat.reduceEqDiff])) | (with_reducible refine st_ret ?_; ((try simp only [seqQ, blockQ, loopQ, forQ, whileQ]); first | (with_reducible refine retM_ret ?_) | refine retQ_ret ?_; simp [hlt, hg, hst])) | refine st_seq ?_ | refine st_block ?_ | ((first | refine st_reg ?_ | refine buildP_own ?_) <;> (simp -dsimp [hlt, hg, hst]; (repeat (simp -dsimp (disch := (first | omega | assumption | (refine Bool.eq_false_iff.1 ?_; assumption))) only [wrap_in, if_pos, if_neg]; (try simp -dsimp [hlt, hg, hst]))))) | ((first | refine guardP_of (fun hc => ?_) (fun hc => ?_) | refine st_cond rfl (fun hc => ?_) (fun hc => ?_)) <;> (try simp only [decide_eq_true_eq, decide_eq_false_iff_not, Bool.true_eq_false, Bool.false_eq_true, bne_iff_ne, ne_eq, bne_eq_false_iff_eq, beq_iff_eq, beq_eq_false_iff_ne, Bool.not_eq_true, Bool.not_eq_false, Bool.not_eq_eq_eq_not, Bool.not_true, Bool.not_false, Decidable.not_not] at hc) <;> (try (exfalso; first | omega | exact bool_tf hc (by assumption) | exact bool_ft hc (by assumption) | exact absurd (by assumption) hc)) <;> (first | with_reducible show STri _ _ _ _ _ _ | (simp -dsimp [hlt, hg, hst, hc]; (repeat (simp -dsimp (disch := (first | omega | assumption | (refine Bool.eq_false_iff.1 ?_; assumption))) only [wrap_in, if_pos, if_neg]; (try simp -dsimp [hlt, hg, hst, hc]))))))))
      · exact ⟨by omega, by simp, by rw [hsk]; simp [stepJ, hc], by rw [hsk]; simp [stepJ, hc]⟩
      · exact ⟨by omega, by simp, by rw [hsk]; simp [stepJ, hc], by rw [hsk]; simp [stepJ, hc]⟩
  · (repeat' (first | ((first | with_reducible refine st_skip ?_ | with_reducible refine st_exit ?_); (try simp only [seqQ, blockQ, loopQ, forQ, whileQ, reduceIte, Nat.reduceEqDiff])) | (with_reducible refine st_ret ?_; ((try simp only [seqQ, blockQ, loopQ, forQ, whileQ]); first | (with_reducible refine retM_ret ?_) | refine retQ_ret ?_; simp [hlt])) | refine st_seq ?_ | refine st_block ?_ | ((first | refine st_reg ?_ | refine buildP_own ?_) <;> (simp -dsimp [hlt]; (repeat (simp -dsimp (disch := (first | omega | assumption | (refine Bool.eq_false_iff.1 ?_; assumption))) only [wrap_in, if_pos, if_neg]; (try simp -dsimp [hlt]))))) | ((first | refine guardP_of (fun hc => ?_) (fun hc => ?_) | refine st_cond rfl (fun hc => ?_) (fun hc => ?_)) <;> (try simp only [decide_eq_true_eq, decide_eq_false_iff_not, Bool.true_eq_false, Bool.false_eq_true, bne_iff_ne, ne_eq, bne_eq_false_iff_eq, beq_iff_eq, beq_eq_false_iff_ne, Bool.not_eq_true, Bool.not_eq_false, Bool.not_eq_eq_eq_not, Bool.not_true, Bool.not_false, Decidable.not_not] at hc) <;> (try (exfalso; first | omega | exact bool_tf hc (by assumption) | exact bool_ft hc (by assumption) | exact absurd (by assumption) hc)) <;> (first | with_reducible show STri _ _ _ _ _ _ | (simp -dsimp [hlt, hc]; (repeat (simp -dsimp (disch := (first | omega | assumption | (refine Bool.eq_false_iff.1 ?_; assumption))) only [wrap_in, if_pos, if_neg]; (try simp -dsimp [hlt, hc]))))))))
    have hke : k = ys.length := by omega
    subst hke
    exact ⟨_, rfl, ⟨ys, rfl, h1, h2⟩, hl2, [slS (joinK ys ys.length)], by simp, by rw [hr ys h1 h2]; exact .refl _⟩
end Go.Proofs.YtnfggkopledpcaaGreat
/- Dial: what joined spans are; what a dial can show. -/
namespace Go.Proofs.YtnfggkopledpcaaGreat
open Go.RowKit Go.Sort
def Memb (l : List (Int × Int)) (n : Int) : Prop := ∃ x ∈ l, x.1 ≤ n ∧ n ≤ x.2
def Sep (l : List (Int × Int)) : Prop := l.Pairwise (fun x y => x.2 + 1 < y.1) ∧ ∀ x ∈ l, x.1 ≤ x.2
theorem Sep.tail {x : Int × Int} {l : List (Int × Int)} (h : Sep (x :: l)) : Sep l := ⟨(List.pairwise_cons.1 h.1).2, fun y hy => h.2 y (by simp [hy])⟩
theorem sep_low {x : Int × Int} {l : List (Int × Int)} (h : Sep (x :: l)) {n : Int} (hn : Memb (x :: l) n) : x.1 ≤ n := by
  obtain ⟨y, hy, h1, h2⟩ := hn
  rcases List.mem_cons.1 hy with rfl | hy
  · exact h1
  · have := (List.pairwise_cons.1 h.1).1 y hy
    have := h.2 x (by simp)
    omega
theorem sep_gap {x : Int × Int} {l : List (Int × Int)} (h : Sep (x :: l)) : ¬ Memb (x :: l) (x.2 + 1) := fun hn => by
  obtain ⟨y, hy, h1, h2⟩ := hn
  rcases List.mem_cons.1 hy with rfl | hy
  · omega
  · have := (List.pairwise_cons.1 h.1).1 y hy
    omega
theorem memb_tail {x : Int × Int} {l : List (Int × Int)} (h : Sep (x :: l)) (n : Int) : Memb l n ↔ Memb (x :: l) n ∧ x.2 < n := by
  constructor
  · rintro ⟨y, hy, h1, h2⟩
    have := (List.pairwise_cons.1 h.1).1 y hy
    exact ⟨⟨y, by simp [hy], h1, h2⟩, by omega⟩
  · rintro ⟨⟨y, hy, h1, h2⟩, h3⟩
    rcases List.mem_cons.1 hy with rfl | hy
    · omega
    · exact ⟨y, hy, h1, h2⟩
theorem sep_unique : ∀ {a b : List (Int × Int)}, Sep a → Sep b → (∀ n, Memb a n ↔ Memb b n) → a = b
  | [], [], _, _, _ => rfl
  | [], y :: b, _, hb, h => by
    have := (h y.1).2 ⟨y, by simp, Int.le_refl _, hb.2 y (by simp)⟩
    obtain ⟨z, hz, _⟩ := this
    cases hz
  | x :: a, [], ha, _, h => by
    have := (h x.1).1 ⟨x, by simp, Int.le_refl _, ha.2 x (by simp)⟩
    obtain ⟨z, hz, _⟩ := this
    cases hz
  | x :: a, y :: b, ha, hb, h => by
    have mx : Memb (x :: a) x.1 := ⟨x, by simp, Int.le_refl _, ha.2 x (by simp)⟩
    have my : Memb (y :: b) y.1 := ⟨y, by simp, Int.le_refl _, hb.2 y (by simp)⟩
    have e1 : x.1 = y.1 := Int.le_antisymm (sep_low ha ((h _).2 my)) (sep_low hb ((h _).1 mx))
    have lx := ha.2 x (by simp)
    have ly := hb.2 y (by simp)
    have e2 : x.2 = y.2 := by
      rcases Int.lt_trichotomy x.2 y.2 with hlt | he | hgt
      · exact absurd ((h (x.2 + 1)).2 ⟨y, by simp, by omega, by omega⟩) (sep_gap ha)
      · exact he
      · exact absurd ((h (y.2 + 1)).1 ⟨x, by simp, by omega, by omega⟩) (sep_gap hb)
    have exy : x = y := Prod.ext e1 e2
    subst exy
    rw [sep_unique ha.tail hb.tail fun n => by rw [memb_tail ha, memb_tail hb, h n]]
theorem sep_snoc {o : List (Int × Int)} {l : Int × Int} : Sep (o ++ [l]) ↔ Sep o ∧ (∀ x ∈ o, x.2 + 1 < l.1) ∧ l.1 ≤ l.2 := by
  unfold Sep
  rw [List.pairwise_append]
  constructor
  · rintro ⟨⟨h1, _, h2⟩, h3⟩
    exact ⟨⟨h1, fun x hx => h3 x (by simp [hx])⟩, fun x hx => h2 x hx l (by simp), h3 l (by simp)⟩
  · rintro ⟨⟨h1, h2⟩, h3, h4⟩
    refine ⟨⟨h1, List.pairwise_singleton _ _, fun x hx y hy => by simp at hy; subst hy; exact h3 x hx⟩, fun x hx => ?_⟩
    rcases List.mem_append.1 hx with hx | hx
    · exact h2 x hx
    · simp at hx; subst hx; exact h4
theorem memb_snoc {o : List (Int × Int)} {l : Int × Int} {n : Int} : Memb (o ++ [l]) n ↔ Memb o n ∨ (l.1 ≤ n ∧ n ≤ l.2) := by
  constructor
  · rintro ⟨x, hx, h1, h2⟩
    rcases List.mem_append.1 hx with hx | hx
    · exact .inl ⟨x, hx, h1, h2⟩
    · simp at hx; subst hx; exact .inr ⟨h1, h2⟩
  · rintro (⟨x, hx, h1, h2⟩ | ⟨h1, h2⟩)
    · exact ⟨x, by simp [hx], h1, h2⟩
    · exact ⟨l, by simp, h1, h2⟩
def LowTo (o : List (Int × Int)) (m : Int) : Prop := ∀ x ∈ o, x.1 ≤ m
theorem stepJ_sep {o : List (Int × Int)} {s : Int × Int} (h : Sep o) (hl : LowTo o s.1) (hs : s.1 ≤ s.2) : Sep (stepJ o s) ∧ (∀ n, Memb (stepJ o s) n ↔ Memb o n ∨ (s.1 ≤ n ∧ n ≤ s.2)) ∧ LowTo (stepJ o s) s.1 := by
  rcases List.eq_nil_or_concat o with rfl | ⟨o, l, rfl⟩
  · refine ⟨⟨by simp [stepJ], fun x hx => by simp [stepJ] at hx; subst hx; exact hs⟩, fun n => ?_, fun x hx => by simp [stepJ] at hx; subst hx; exact Int.le_refl _⟩
    simp [stepJ, Memb]
  · rw [List.concat_eq_append] at *
    obtain ⟨h1, h2, h3⟩ := sep_snoc.1 h
    have hll := hl l (by simp)
    unfold stepJ
    simp only [List.getLast?_append, List.getLast?_singleton, Option.some_or, List.dropLast_concat]
    by_cases hc : s.1 ≤ l.2 + 1
    · rw [if_pos hc]
      refine ⟨sep_snoc.2 ⟨h1, h2, ?_⟩, fun n => ?_, fun x hx => ?_⟩
      · simp only; split <;> omega
      · rw [memb_snoc, memb_snoc]
        simp only
        by_cases hm : Memb o n
        · simp [hm]
        · simp only [hm, false_or]
          split <;> omega
      · rcases List.mem_append.1 hx with hx | hx
        · exact hl x (by simp [hx])
        · simp at hx; subst hx; exact hll
    · rw [if_neg hc]
      refine ⟨sep_snoc.2 ⟨h, fun x hx => ?_, hs⟩, fun n => memb_snoc, fun x hx => ?_⟩
      · rcases List.mem_append.1 hx with hx | hx
        · have := h2 x hx; omega
        · simp at hx; subst hx; omega
      · rcases List.mem_append.1 hx with hx | hx
        · exact hl x hx
        · simp at hx; subst hx; exact Int.le_refl _
theorem joinK_sep {ys : List (Int × Int)} (h : ys.Pairwise fun x y => ltS y x = false) (hx : ∀ x ∈ ys, x.1 ≤ x.2) : ∀ {k : Nat}, k ≤ ys.length → Sep (joinK ys k) ∧ (∀ n, Memb (joinK ys k) n ↔ Memb (ys.take k) n) ∧ ∀ (j : Nat) (hj : j < ys.length), k ≤ j → LowTo (joinK ys k) ys[j].1 := by
  intro k
  induction k with
  | zero => intro _; exact ⟨⟨by simp [joinK], fun x hx => by simp [joinK] at hx⟩, fun n => by simp [joinK], fun j hj _ x hx => by simp [joinK] at hx⟩
  | succ k ih =>
    intro hk
    obtain ⟨h1, h2, h3⟩ := ih (by omega)
    have hlt : k < ys.length := by omega
    obtain ⟨g1, g2, g3⟩ := stepJ_sep (s := ys[k]) h1 (h3 k hlt (Nat.le_refl _)) (hx _ (List.getElem_mem _))
    rw [joinK_succ hlt]
    refine ⟨g1, fun n => ?_, fun j hj hkj x hxm => ?_⟩
    · rw [g2, h2, List.take_succ_eq_append_getElem hlt, memb_snoc]
    · have := List.pairwise_iff_getElem.1 h k j hlt hj (by omega)
      simp [ltS] at this
      have := g3 x hxm
      omega
def joinL (xs : List (Int × Int)) : List (Int × Int) := joinK (xs.mergeSort fun x y => !ltS y x) xs.length
theorem joinL_sep {xs : List (Int × Int)} (hx : ∀ x ∈ xs, x.1 ≤ x.2) : Sep (joinL xs) ∧ ∀ n, Memb (joinL xs) n ↔ Memb xs n := by
  have hp := List.mergeSort_perm xs fun x y => !ltS y x
  have hs : (xs.mergeSort fun x y => !ltS y x).Pairwise fun x y => ltS y x = false := (List.pairwise_mergeSort (le := fun x y => !ltS y x) (fun x y z h1 h2 => by simp [ltS] at *; omega) (fun x y => by simp [ltS]; omega) xs).imp fun h => by simpa using h
  obtain ⟨h1, h2, _⟩ := joinK_sep hs (fun x hm => hx x (hp.subset hm)) (k := xs.length) (by rw [hp.length_eq]; exact Nat.le_refl _)
  refine ⟨h1, fun n => (h2 n).trans ?_⟩
  rw [List.take_of_length_le (by rw [hp.length_eq]; exact Nat.le_refl _)]
  exact ⟨fun ⟨x, hm, q⟩ => ⟨x, hp.subset hm, q⟩, fun ⟨x, hm, q⟩ => ⟨x, hp.symm.subset hm, q⟩⟩
theorem mJoin (xs : List (Int × Int)) (hl : xs.length ≤ 1000000) (hs : SmS xs) (hx : ∀ x ∈ xs, x.1 ≤ x.2) : MC Tryz.prog 31 23 2 (xs.map rowS) [] (Sorts ltS xs) (some (slS (joinL xs))) := by
  obtain ⟨j1, j2⟩ := joinL_sep hx
  refine mJoined xs (joinL xs) hl hs fun ys hp hsrt => ?_
  obtain ⟨h1, h2, _⟩ := joinK_sep hsrt (fun x hm => hx x (hp.subset hm)) (Nat.le_refl _)
  refine sep_unique h1 j1 fun n => (h2 n).trans (Iff.trans ?_ (j2 n).symm)
  rw [List.take_length]
  exact ⟨fun ⟨x, hm, q⟩ => ⟨x, hp.subset hm, q⟩, fun ⟨x, hm, q⟩ => ⟨x, hp.symm.subset hm, q⟩⟩
end Go.Proofs.YtnfggkopledpcaaGreat
/- Dial: what a dial can show. -/
namespace Go.Proofs.YtnfggkopledpcaaGreat
open Go.RowKit Go.Sort
def cutS (x : Int × Int) : List (Int × Int) := if 0 ≤ x.1 % 43200 + (x.2 - x.1) - 43200 then [(x.1 % 43200, if x.1 % 43200 + (x.2 - x.1) < 43199 then x.1 % 43200 + (x.2 - x.1) else 43199), (0, x.1 % 43200 + (x.2 - x.1) - 43200)]
  else [(x.1 % 43200, if x.1 % 43200 + (x.2 - x.1) < 43199 then x.1 % 43200 + (x.2 - x.1) else 43199)]
def cutK (l : List (Int × Int)) (k : Nat) : List (Int × Int) := (l.take k).flatMap cutS
def showRaw (k : Lo) : List (Int × Int) := cutK (haL k) (haL k).length
def showL (k : Lo) : List (Int × Int) := joinL (showRaw k)
def rShows (w : Dw) (n at' wlo whi : Int) : CV := if lookErr w n at' wlo whi = 0 then .tup [slS (showL (lookOf w n at' wlo whi)), I 0] else .tup [slS [], I (lookErr w n at' wlo whi)]
theorem cutK_succ {l : List (Int × Int)} {k : Nat} {x : Int × Int} (h : l[k]? = some x) : cutK l (k + 1) = cutK l k ++ cutS x := by
  unfold cutK
  rw [List.take_add_one, h]; simp
theorem cutS_len (x : Int × Int) : (cutS x).length ≤ 2 := by unfold cutS; split <;> simp
theorem cutK_len (l : List (Int × Int)) : ∀ k, (cutK l k).length ≤ 2 * k := by
  intro k
  unfold cutK
  have : ∀ m : List (Int × Int), (m.flatMap cutS).length ≤ 2 * m.length := fun m => by
    induction m with
    | nil => simp
    | cons x m ih => rw [List.flatMap_cons, List.length_append, List.length_cons]; have := cutS_len x; omega
  have := this (l.take k)
  have := List.length_take_le k l
  omega
theorem haL_wide {k : Lo} (hk : LoSm k) (hf : k.f.lo ≤ k.f.hi) {x : Int × Int} (hx : x ∈ haL k) : x.1 ≤ x.2 ∧ x.2 ≤ x.1 + 10800 := by
  obtain ⟨d, _, rfl⟩ := List.mem_map.1 hx
  have h1 := hk.f.a
  have h2 := hk.f.d
  have h3 := hk.f.j
  have h4 := hk.f.k
  simp only [handLo, handHi, lagLo, lagHi]
  (repeat' split) <;> omega
theorem cutS_ok {x : Int × Int} (h1 : x.1 ≤ x.2) (h2 : x.2 ≤ x.1 + 10800) : ∀ y ∈ cutS x, y.1 ≤ y.2 ∧ 0 ≤ y.1 ∧ y.2 ≤ 43199 := by
  have g1 := Int.emod_nonneg x.1 (show (43200 : Int) ≠ 0 by decide)
  have g2 := Int.emod_lt_of_pos x.1 (show (0 : Int) < 43200 by decide)
  intro y hy
  unfold cutS at hy
  split at hy
  · simp at hy
    rcases hy with rfl | rfl
    · simp only; split <;> omega
    · simp only; omega
  · simp at hy
    subst hy
    simp only; split <;> omega
theorem showRaw_ok {k : Lo} (hk : LoSm k) (hf : k.f.lo ≤ k.f.hi) : ∀ y ∈ showRaw k, y.1 ≤ y.2 ∧ 0 ≤ y.1 ∧ y.2 ≤ 43199 := fun y hy => by
  unfold showRaw cutK at hy
  rw [List.take_length] at hy
  obtain ⟨x, hx, hy⟩ := List.mem_flatMap.1 hy
  obtain ⟨a, b⟩ := haL_wide hk hf hx
  exact cutS_ok a b y hy
def shI (k : Lo) (j : Nat) (R : HL) : Prop := R = [(12, .box 36 [.own 200 (cutK (haL k) j).length]), (200, .arr 23 2 ((cutK (haL k) j).map rowS))]
set_option maxHeartbeats 2000000 in
theorem sShows (w : Dw) (hw : DwLen w) (n at' wlo whi : Int) : SC Tryz.prog 21 [cDw w, I n, I at', cS wlo whi] (rShows w n at' wlo whi) := by
  refine mlaw_dial_Shows _ _ (by simp) ?_
  by_cases h : lookErr w n at' wlo whi = 0
  · have hk := look_sm h
    generalize hkk : lookOf w n at' wlo whi = k at hk
    have hlk := sLookOk hw h
    rw [hkk] at hlk
    have hcl : cLook k = .agg [I k.w.jump, I k.w.elo, I k.w.ehi, slF k.w.faces, slX k.w.faces, I k.f.lo, I k.f.hi, slL k.f.links, I k.f.weight, I k.f.friction, I (slackI k.f.links), I k.at', I k.wlo, I k.whi] := rfl
    obtain ⟨l1, l2⟩ := haL_len hk
    have a1 := hk.a
    have a2 := hk.b
    have hlh : k.f.lo ≤ k.f.hi := by
      obtain ⟨b1, ⟨b2, b3⟩, _⟩ := look_ok h
      have : k.f = w.faces[n.toNat] := by rw [← hkk]; simp [lookOf, b3]
      rw [this]
      have hfo := dw_face b1 (List.getElem_mem b3)
      simp only [fcOK, fcB, spanB, Bool.and_eq_true, decide_eq_true_eq] at hfo
      exact hfo.1.1.1.1.1.1.2
    (repeat' (first | ((first | with_reducible refine st_skip ?_ | with_reducible refine st_exit ?_); (try simp only [seqQ, blockQ, loopQ, forQ, whileQ, reduceIte, Nat.reduceEqDiff])) | (with_reducible refine st_ret ?_; ((try simp only [seqQ, blockQ, loopQ, forQ, whileQ]); first | (with_reducible refine retM_ret ?_) | refine retQ_ret ?_; simp)) | refine st_seq ?_ | refine st_block ?_ | ((first | refine st_reg ?_ | refine buildP_own ?_ | refine callP_b (hlk) rfl ?_) <;> (simp -dsimp; (repeat (simp -dsimp (disch := (first | omega | assumption | (refine Bool.eq_false_iff.1 ?_; assumption))) only [wrap_in, if_pos, if_neg]; (try simp -dsimp))))) | ((first | refine guardP_of (fun hc => ?_) (fun hc => ?_) | refine st_cond rfl (fun hc => ?_) (fun hc => ?_)) <;> (try simp only [decide_eq_true_eq, decide_eq_false_iff_not, Bool.true_eq_false, Bool.false_eq_true, bne_iff_ne, ne_eq, bne_eq_false_iff_eq, beq_iff_eq, beq_eq_false_iff_ne, Bool.not_eq_true, Bool.not_eq_false, Bool.not_eq_eq_eq_not, Bool.not_true, Bool.not_false, Decidable.not_not] at hc) <;> (try (exfalso; first | omega | exact bool_tf hc (by assumption) | exact bool_ft hc (by assumption) | exact absurd (by assumption) hc)) <;> (first | with_reducible show STri _ _ _ _ _ _ | (simp -dsimp [hc]; (repeat (simp -dsimp (disch := (first | omega | assumption | (refine Bool.eq_false_iff.1 ?_; assumption))) only [wrap_in, if_pos, if_neg]; (try simp -dsimp [hc]))))))))
    refine st_nilB 12 0 200 23 2 rfl (by simp) rfl (by simp [newOK]) ?_
    refine st_range (iAll k hk) [12, 200] [] (fun j R => shI k j R)
      rfl rfl rfl (by kernel_rfl) (by show (0 : Nat) + 1000 ≤ 1000; decide) (fun j hj => by cases hj) (fun row hrow => by obtain ⟨x, _, rfl⟩ := List.mem_map.1 hrow; rfl) (by simp) (by simp) (by simp [shI, cutK]) ?_ ?_
    · rintro j row R rfl hrow Iv1 G1 hGG hin
      obtain ⟨x, hx, rfl⟩ : ∃ x, (haL k)[j]? = some x ∧ row = rowP x := by
        rw [List.getElem?_map, Option.map_eq_some_iff] at hrow
        obtain ⟨d, h1, h2⟩ := hrow
        exact ⟨d, h1, h2.symm⟩
      have hj : j < (haL k).length := (List.getElem?_eq_some_iff.1 hx).1
      have hlen := cutK_len (haL k) j
      have hs := cutK_succ hx
      have hxm : x ∈ haL k := List.mem_of_getElem? hx
      obtain ⟨x1, x2⟩ := haL_wide hk hlh hxm
      obtain ⟨x3, x4⟩ := haL_bd hk hxm
      have g1 := Int.emod_nonneg x.1 (show (43200 : Int) ≠ 0 by decide)
      have g2 := Int.emod_lt_of_pos x.1 (show (0 : Int) < 43200 by decide)
      have hmd := sModulo x.1 43200 (by decide) (by decide)
      (repeat' (first | ((first | with_reducible refine st_skip ?_ | with_reducible refine st_exit ?_); (try simp only [seqQ, blockQ, loopQ, forQ, whileQ, reduceIte, Nat.reduceEqDiff])) | (with_reducible refine st_ret ?_; ((try simp only [seqQ, blockQ, loopQ, forQ, whileQ]); first | (with_reducible refine retM_ret ?_) | refine retQ_ret ?_; simp)) | refine st_seq ?_ | refine st_block ?_ | ((first | refine st_reg ?_ | refine buildP_own ?_) <;> (simp -dsimp; (repeat (simp -dsimp (disch := (first | omega | assumption | (refine Bool.eq_false_iff.1 ?_; assumption))) only [wrap_in, if_pos, if_neg]; (try simp -dsimp))))) | ((first | refine guardP_of (fun hc => ?_) (fun hc => ?_) | refine st_cond rfl (fun hc => ?_) (fun hc => ?_)) <;> (try simp only [decide_eq_true_eq, decide_eq_false_iff_not, Bool.true_eq_false, Bool.false_eq_true, bne_iff_ne, ne_eq, bne_eq_false_iff_eq, beq_iff_eq, beq_eq_false_iff_ne, Bool.not_eq_true, Bool.not_eq_false, Bool.not_eq_eq_eq_not, Bool.not_true, Bool.not_false, Decidable.not_not] at hc) <;> (try (exfalso; first | omega | exact bool_tf hc (by assumption) | exact bool_ft hc (by assumption) | exact absurd (by assumption) hc)) <;> (first | with_reducible show STri _ _ _ _ _ _ | (simp -dsimp [hc]; (repeat (simp -dsimp (disch := (first | omega | assumption | (refine Bool.eq_false_iff.1 ?_; assumption))) only [wrap_in, if_pos, if_neg]; (try simp -dsimp [hc]))))))))
      refine ⟨rfl, fun Iv2 hin2 => ?_⟩
      have hA : (cutK (haL k) j).length + 1 ≤ 9223372036854775807 := by omega
      have hB : ((cutK (haL k) j).length + 1) * 16 ≤ 140737488355328 := by omega
      have hA2 : (cutK (haL k) j).length + 1 + 1 ≤ 9223372036854775807 := by omega
      have hB2 : ((cutK (haL k) j).length + 1 + 1) * 16 ≤ 140737488355328 := by omega
      by_cases hq : 43200 ≤ x.1 % 43200 + (x.2 - x.1)
      · have e1 : cutS x = [(x.1 % 43200, 43199), (0, x.1 % 43200 + (x.2 - x.1) - 43200)] := by
          unfold cutS; rw [if_pos (by omega), if_neg (by omega)]
        (repeat' (first | ((first | with_reducible refine st_skip ?_ | with_reducible refine st_exit ?_); (try simp only [seqQ, blockQ, loopQ, forQ, whileQ, reduceIte, Nat.reduceEqDiff])) | (with_reducible refine st_ret ?_; ((try simp only [seqQ, blockQ, loopQ, forQ, whileQ]); first | (with_reducible refine retM_ret ?_) | refine retQ_ret ?_; simp [hA, hB, hA2, hB2, hq])) | refine st_seq ?_ | refine st_block ?_ | ((first | refine st_reg ?_ | refine buildP_own ?_ | refine callP_b (hmd) rfl ?_) <;> (simp -dsimp [hA, hB, hA2, hB2, hq]; (repeat (simp -dsimp (disch := (first | omega | assumption | (refine Bool.eq_false_iff.1 ?_; assumption))) only [wrap_in, if_pos, if_neg]; (try simp -dsimp [hA, hB, hA2, hB2, hq]))))) | ((first | refine guardP_of (fun hc => ?_) (fun hc => ?_) | refine st_cond rfl (fun hc => ?_) (fun hc => ?_)) <;> (try simp only [decide_eq_true_eq, decide_eq_false_iff_not, Bool.true_eq_false, Bool.false_eq_true, bne_iff_ne, ne_eq, bne_eq_false_iff_eq, beq_iff_eq, beq_eq_false_iff_ne, Bool.not_eq_true, Bool.not_eq_false, Bool.not_eq_eq_eq_not, Bool.not_true, Bool.not_false, Decidable.not_not] at hc) <;> (try (exfalso; first | omega | exact bool_tf hc (by assumption) | exact bool_ft hc (by assumption) | exact absurd (by assumption) hc)) <;> (first | with_reducible show STri _ _ _ _ _ _ | (simp -dsimp [hA, hB, hA2, hB2, hq, hc]; (repeat (simp -dsimp (disch := (first | omega | assumption | (refine Bool.eq_false_iff.1 ?_; assumption))) only [wrap_in, if_pos, if_neg]; (try simp -dsimp [hA, hB, hA2, hB2, hq, hc]))))))))
        exact ⟨by simp, by simp, by show shI k (j + 1) _; unfold shI; rw [hs, e1]; simp⟩
      · have e1 : cutS x = [(x.1 % 43200, if x.1 % 43200 + (x.2 - x.1) < 43199 then x.1 % 43200 + (x.2 - x.1) else 43199)] := by
          unfold cutS; rw [if_neg (by omega)]
        (repeat' (first | ((first | with_reducible refine st_skip ?_ | with_reducible refine st_exit ?_); (try simp only [seqQ, blockQ, loopQ, forQ, whileQ, reduceIte, Nat.reduceEqDiff])) | (with_reducible refine st_ret ?_; ((try simp only [seqQ, blockQ, loopQ, forQ, whileQ]); first | (with_reducible refine retM_ret ?_) | refine retQ_ret ?_; simp [hA, hB, hA2, hB2, hq])) | refine st_seq ?_ | refine st_block ?_ | ((first | refine st_reg ?_ | refine buildP_own ?_ | refine callP_b (hmd) rfl ?_) <;> (simp -dsimp [hA, hB, hA2, hB2, hq]; (repeat (simp -dsimp (disch := (first | omega | assumption | (refine Bool.eq_false_iff.1 ?_; assumption))) only [wrap_in, if_pos, if_neg]; (try simp -dsimp [hA, hB, hA2, hB2, hq]))))) | ((first | refine guardP_of (fun hc => ?_) (fun hc => ?_) | refine st_cond rfl (fun hc => ?_) (fun hc => ?_)) <;> (try simp only [decide_eq_true_eq, decide_eq_false_iff_not, Bool.true_eq_false, Bool.false_eq_true, bne_iff_ne, ne_eq, bne_eq_false_iff_eq, beq_iff_eq, beq_eq_false_iff_ne, Bool.not_eq_true, Bool.not_eq_false, Bool.not_eq_eq_eq_not, Bool.not_true, Bool.not_false, Decidable.not_not] at hc) <;> (try (exfalso; first | omega | exact bool_tf hc (by assumption) | exact bool_ft hc (by assumption) | exact absurd (by assumption) hc)) <;> (first | with_reducible show STri _ _ _ _ _ _ | (simp -dsimp [hA, hB, hA2, hB2, hq, hc]; (repeat (simp -dsimp (disch := (first | omega | assumption | (refine Bool.eq_false_iff.1 ?_; assumption))) only [wrap_in, if_pos, if_neg]; (try simp -dsimp [hA, hB, hA2, hB2, hq, hc]))))))))
        exact ⟨by simp, by simp, by show shI k (j + 1) _; unfold shI; rw [hs, e1]; simp⟩
    · rintro R rfl
      rw [List.length_map]
      simp only [blockQ, seqQ]
      have hm := mJoin (showRaw k) (by unfold showRaw; have := cutK_len (haL k) (haL k).length; omega) (fun x hx => by have := showRaw_ok hk hlh x hx; omega) (fun x hx => (showRaw_ok hk hlh x hx).1)
      unfold showRaw at hm
      (repeat' (first | ((first | with_reducible refine st_skip ?_ | with_reducible refine st_exit ?_); (try simp only [seqQ, blockQ, loopQ, forQ, whileQ, reduceIte, Nat.reduceEqDiff])) | (with_reducible refine st_ret ?_; ((try simp only [seqQ, blockQ, loopQ, forQ, whileQ]); first | (with_reducible refine retM_ret ?_) | refine retQ_ret ?_; simp)) | refine st_seq ?_ | refine st_block ?_ | ((first | refine st_reg ?_ | ((with_reducible show callMP _ _ _ _ _ _); refine callM_of (hm ) (by decide) (by first | rfl | simp) (by first | rfl | simp) (by first | rfl | simp) (by first | rfl | simp) (fun rows2 hR2 hl2 => ?_);  obtain ⟨ys, rfl, h1, h2⟩ := hR2) | refine buildP_own ?_) <;> (simp -dsimp; (repeat (simp -dsimp (disch := (first | omega | assumption | (refine Bool.eq_false_iff.1 ?_; assumption))) only [wrap_in, if_pos, if_neg]; (try simp -dsimp))))) | ((first | refine guardP_of (fun hc => ?_) (fun hc => ?_) | refine st_cond rfl (fun hc => ?_) (fun hc => ?_)) <;> (try simp only [decide_eq_true_eq, decide_eq_false_iff_not, Bool.true_eq_false, Bool.false_eq_true, bne_iff_ne, ne_eq, bne_eq_false_iff_eq, beq_iff_eq, beq_eq_false_iff_ne, Bool.not_eq_true, Bool.not_eq_false, Bool.not_eq_eq_eq_not, Bool.not_true, Bool.not_false, Decidable.not_not] at hc) <;> (try (exfalso; first | omega | exact bool_tf hc (by assumption) | exact bool_ft hc (by assumption) | exact absurd (by assumption) hc)) <;> (first | with_reducible show STri _ _ _ _ _ _ | (simp -dsimp [hc]; (repeat (simp -dsimp (disch := (first | omega | assumption | (refine Bool.eq_false_iff.1 ?_; assumption))) only [wrap_in, if_pos, if_neg]; (try simp -dsimp [hc]))))))))
      refine CLe.of_eq ?_
      unfold rShows
      rw [if_pos h, hkk]
      rfl
  · (repeat' (first | ((first | with_reducible refine st_skip ?_ | with_reducible refine st_exit ?_); (try simp only [seqQ, blockQ, loopQ, forQ, whileQ, reduceIte, Nat.reduceEqDiff])) | (with_reducible refine st_ret ?_; ((try simp only [seqQ, blockQ, loopQ, forQ, whileQ]); first | (with_reducible refine retM_ret ?_) | refine retQ_ret ?_; simp [h])) | refine st_seq ?_ | refine st_block ?_ | ((first | refine st_reg ?_ | refine buildP_own ?_ | refine callP_b (sLookNo hw h) rfl ?_) <;> (simp -dsimp [h]; (repeat (simp -dsimp (disch := (first | omega | assumption | (refine Bool.eq_false_iff.1 ?_; assumption))) only [wrap_in, if_pos, if_neg]; (try simp -dsimp [h]))))) | ((first | refine guardP_of (fun hc => ?_) (fun hc => ?_) | refine st_cond rfl (fun hc => ?_) (fun hc => ?_)) <;> (try simp only [decide_eq_true_eq, decide_eq_false_iff_not, Bool.true_eq_false, Bool.false_eq_true, bne_iff_ne, ne_eq, bne_eq_false_iff_eq, beq_iff_eq, beq_eq_false_iff_ne, Bool.not_eq_true, Bool.not_eq_false, Bool.not_eq_eq_eq_not, Bool.not_true, Bool.not_false, Decidable.not_not] at hc) <;> (try (exfalso; first | omega | exact bool_tf hc (by assumption) | exact bool_ft hc (by assumption) | exact absurd (by assumption) hc)) <;> (first | with_reducible show STri _ _ _ _ _ _ | (simp -dsimp [h, hc]; (repeat (simp -dsimp (disch := (first | omega | assumption | (refine Bool.eq_false_iff.1 ?_; assumption))) only [wrap_in, if_pos, if_neg]; (try simp -dsimp [h, hc]))))))))
    unfold rShows
    rw [if_neg h]
    exact .tup _ _ (.cons _ _ _ _ (.nil _) (.cons _ _ _ _ (.refl _) .nil))
end Go.Proofs.YtnfggkopledpcaaGreat
/- Dial: the times at which readings can be right. -/
namespace Go.Proofs.YtnfggkopledpcaaGreat
open Go.RowKit Go.Sort
def allCan (n : Nt) (d : Int) : Bool := n.l.all fun x => canB n x d
def timeAt (n : Nt) (d : Int) : Int × Int := (if d - n.w.ehi > n.nlo then d - n.w.ehi else n.nlo, if d + n.w.jump - 1 - n.w.elo < n.nhi then d + n.w.jump - 1 - n.w.elo else n.nhi)
def stepT (n : Nt) (o : List (Int × Int)) (d : Int) : List (Int × Int) := if allCan n d = true ∧ (timeAt n d).1 ≤ (timeAt n d).2 then o ++ [timeAt n d] else o
def timK (n : Nt) (k : Nat) : List (Int × Int) := ((drL n.w n.nlo n.nhi).take k).foldl (stepT n) []
def timRaw (n : Nt) : List (Int × Int) := timK n (drL n.w n.nlo n.nhi).length
def timL (n : Nt) : List (Int × Int) := joinL (timRaw n)
def rTimes (n : Nt) : CV := if ntErr n = 0 then (if timRaw n = [] then .tup [slS [], I 7] else .tup [slS (timL n), I 0]) else .tup [slS [], I (ntErr n)]
theorem timK_succ {n : Nt} {k : Nat} {d : Int} (h : (drL n.w n.nlo n.nhi)[k]? = some d) : timK n (k + 1) = stepT n (timK n k) d := by
  unfold timK
  rw [List.take_add_one, h, List.foldl_append]; rfl
theorem timK_len (n : Nt) : ∀ k, (timK n k).length ≤ k := by
  intro k
  have : ∀ (l : List Int) (o : List (Int × Int)), (l.foldl (stepT n) o).length ≤ o.length + l.length := by
    intro l
    induction l with
    | nil => intro o; simp
    | cons d l ih =>
      intro o
      have h1 := ih (stepT n o d)
      have h2 : (stepT n o d).length ≤ o.length + 1 := by unfold stepT; split <;> simp
      simp only [List.foldl_cons, List.length_cons]
      omega
  have h1 := this ((drL n.w n.nlo n.nhi).take k) []
  have h2 := List.length_take_le k (drL n.w n.nlo n.nhi)
  simp only [List.length_nil] at h1
  unfold timK
  omega
theorem timRaw_mem {n : Nt} {x : Int × Int} (h : x ∈ timRaw n) : ∃ d ∈ drL n.w n.nlo n.nhi, x = timeAt n d ∧ allCan n d = true ∧ (timeAt n d).1 ≤ (timeAt n d).2 := by
  have : ∀ (l : List Int) (o : List (Int × Int)), x ∈ l.foldl (stepT n) o → x ∈ o ∨ ∃ d ∈ l, x = timeAt n d ∧ allCan n d = true ∧ (timeAt n d).1 ≤ (timeAt n d).2 := by
    intro l
    induction l with
    | nil => intro o h; exact .inl h
    | cons d l ih =>
      intro o h
      rcases ih _ h with h | ⟨e, he, h⟩
      · unfold stepT at h
        split at h
        · rename_i hc
          rcases List.mem_append.1 h with h | h
          · exact .inl h
          · simp at h
            exact .inr ⟨d, by simp, h, hc⟩
        · exact .inl h
      · exact .inr ⟨e, by simp [he], h⟩
  unfold timRaw timK at h
  rw [List.take_length] at h
  rcases this _ _ h with h | h
  · cases h
  · exact h
theorem mem_timRaw {n : Nt} {d : Int} (hd : d ∈ drL n.w n.nlo n.nhi) (h1 : allCan n d = true) (h2 : (timeAt n d).1 ≤ (timeAt n d).2) : timeAt n d ∈ timRaw n := by
  have keep : ∀ (l : List Int) (o : List (Int × Int)) (x : Int × Int), x ∈ o → x ∈ l.foldl (stepT n) o := by
    intro l
    induction l with
    | nil => intro o x h; exact h
    | cons d l ih =>
      intro o x h
      refine ih (stepT n o d) _ ?_
      unfold stepT
      split
      · simp [h]
      · exact h
  have : ∀ (l : List Int) (o : List (Int × Int)), d ∈ l → timeAt n d ∈ l.foldl (stepT n) o := by
    intro l
    induction l with
    | nil => intro o h; cases h
    | cons e l ih =>
      intro o h
      rcases List.mem_cons.1 h with rfl | h
      · refine keep l (stepT n o d) _ ?_
        unfold stepT
        rw [if_pos ⟨h1, h2⟩]; simp
      · exact ih _ h
  unfold timRaw timK
  rw [List.take_length]
  exact this _ _ hd
def CanTo (n : Nt) (d : Int) (k : Nat) : Prop := ∀ x ∈ n.l.take k, canB n x d = true
theorem can_succ {n : Nt} {d : Int} {k : Nat} (hlt : k < n.l.length) (h : CanTo n d k) (hc : canB n n.l[k] d = true) : CanTo n d (k + 1) := fun x hx => by
  rw [List.take_succ_eq_append_getElem hlt, List.mem_append] at hx
  rcases hx with hx | hx
  · exact h x hx
  · simp at hx; subst hx; exact hc
theorem can_all {n : Nt} {d : Int} (h : CanTo n d n.l.length) : allCan n d = true := List.all_eq_true.2 fun x hx => h x (by rw [List.take_length]; exact hx)
theorem can_not {n : Nt} {d : Int} {k : Nat} (hlt : k < n.l.length) (h : canB n n.l[k] d = false) : ¬ allCan n d = true := fun ha => by
  have := List.all_eq_true.1 ha _ (List.getElem_mem hlt)
  rw [h] at this; cases this
theorem sNotesOk {n : Nt} (hw : DwLen n.w) (hl : n.l.length ≤ 1000000) (h : ntErr n = 0) : SC Tryz.prog 28 [cDw n.w, slS n.l, cS n.nlo n.nhi, cS n.wlo n.whi] (.tup [cNotes n, I 0]) := by
  have := sNewNotes n hw hl
  unfold rNotes at this
  rwa [if_pos h] at this
theorem sNotesNo {n : Nt} (hw : DwLen n.w) (hl : n.l.length ≤ 1000000) (h : ¬ ntErr n = 0) : SC Tryz.prog 28 [cDw n.w, slS n.l, cS n.nlo n.nhi, cS n.wlo n.whi] (.tup [cNotes .zero, I (ntErr n)]) := by
  have := sNewNotes n hw hl
  unfold rNotes at this
  rwa [if_neg h] at this
theorem drN_le7 {w : Dw} (hw : DwSm w) {lo hi : Int} (h1 : hi - lo ≤ 7200) : drN w lo hi ≤ 20000 := by
  have j1 := hw.a
  have j2 := hw.b
  have e1 := hw.c
  have e4 := hw.f
  rcases Nat.lt_or_ge 20000 (drN w lo hi) with h | h
  · have h2 := (dr_lt (w := w) (lo := lo) (hi := hi) (by omega)).1 h
    obtain ⟨d1, d2⟩ := down_le (n := lo + w.elo) (b := w.jump) (by omega)
    unfold drAt at h2
    have h3 : ((20000 : Nat) : Int) * 1 ≤ ((20000 : Nat) : Int) * w.jump := Int.mul_le_mul_of_nonneg_left j1 (by omega)
    omega
  · exact h
structure NtOk (n : Nt) : Prop where
  w : dwB n.w = true
  len : n.l.length ≤ 20
  rd : ∀ x ∈ n.l, (0 ≤ x.1 ∧ x.1.toNat < n.w.faces.length) ∧ 0 ≤ x.2 ∧ x.2 ≤ 43199
  n1 : 0 ≤ n.nlo
  n2 : n.nlo ≤ n.nhi
  n3 : n.nhi ≤ 3155760000
  n4 : n.nhi - n.nlo ≤ 7200
  w1 : -10000 ≤ n.wlo
  w2 : n.wlo ≤ n.whi
  w3 : n.whi ≤ 10000
theorem nt_ok {n : Nt} (h : ntErr n = 0) : NtOk n := by
  unfold ntErr at h
  split at h
  · cases h
  rename_i h1
  split at h
  · cases h
  rename_i h2
  split at h
  · exact absurd h (by assumption)
  rename_i h3
  split at h
  · cases h
  rename_i h4
  split at h
  · cases h
  rename_i h5
  simp only [Bool.not_eq_false, Decidable.not_not] at h1 h3 h5
  rw [not_or, Bool.not_eq_false] at h4
  simp only [spanB, Bool.and_eq_true, decide_eq_true_eq] at h4 h5
  refine ⟨h1, by omega, fun x hx => ?_, by omega, by omega, by omega, by omega, by omega, by omega, by omega⟩
  have he : rdE n.w.faces.length x = 0 := by
    unfold rdErr at h3
    split at h3
    · rename_i y hy
      have := List.find?_some hy
      simp at this
      exact absurd h3 this
    · rename_i hy
      have := List.find?_eq_none.1 hy x hx
      simpa using this
  unfold rdE at he
  split at he
  · cases he
  rename_i q1
  split at he
  · cases he
  rename_i q2
  simp only [inB, Bool.not_eq_false, Bool.and_eq_true, decide_eq_true_eq] at q1 q2
  omega
theorem st_scope_ret {cf : Cf} {A : SCode} {T : TL} {H : HL} {rs : List SRes} {r : CV} (h : STri cf A T H (retQ rs r)) : STri cf (.scope A) T H (retQ rs r) :=
  st_scope (h.mono fun e T H hq => by
    cases e with
    | goto l => exact absurd hq.1 (by simp)
    | _ => exact hq)
def tiI (n : Nt) (k : Nat) (R : HL) : Prop := R = [(5, .box 27 [.c (slS n.l)]), (6, .box 23 [.c (I n.nlo), .c (I n.nhi)]), (10, .box 80 ([I n.w.jump, I n.w.elo, I n.w.ehi, slF n.w.faces, slX n.w.faces, slS n.l, I n.nlo, I n.nhi, I n.wlo, I n.whi].map .c)),
  (12, .box 36 [.own 200 (timK n k).length]), (200, .arr 23 2 ((timK n k).map rowS))]
set_option maxHeartbeats 2000000 in
theorem sTimes (n : Nt) (hw : DwLen n.w) (hl : n.l.length ≤ 1000000) : SC Tryz.prog 9 [cDw n.w, slS n.l, cS n.nlo n.nhi, cS n.wlo n.whi] (rTimes n) := by
  refine mlaw_dial_Times _ _ (by simp) ?_
  by_cases h : ntErr n = 0
  · have ok := nt_ok h
    have dw := dw_sm ok.w
    have n1 := ok.n1
    have n2 := ok.n2
    have n3 := ok.n3
    have n4 := ok.n4
    have j1 := dw.a
    have j2 := dw.b
    have e1 := dw.c
    have e2 := dw.d
    have e3 := dw.e
    have e4 := dw.f
    have jn := sNotesOk hw hl h
    have jd := sDriven n.w n.nlo n.nhi
    (repeat' (first | ((first | with_reducible refine st_skip ?_ | with_reducible refine st_exit ?_); (try simp only [seqQ, blockQ, loopQ, forQ, whileQ, reduceIte, Nat.reduceEqDiff])) | (with_reducible refine st_ret ?_; ((try simp only [seqQ, blockQ, loopQ, forQ, whileQ]); first | (with_reducible refine retM_ret ?_) | refine retQ_ret ?_; simp)) | refine st_seq ?_ | refine st_block ?_ | ((first | refine st_reg ?_ | refine buildP_own ?_) <;> (simp -dsimp; (repeat (simp -dsimp (disch := (first | omega | assumption | (refine Bool.eq_false_iff.1 ?_; assumption))) only [wrap_in, if_pos, if_neg]; (try simp -dsimp))))) | ((first | refine guardP_of (fun hc => ?_) (fun hc => ?_) | refine st_cond rfl (fun hc => ?_) (fun hc => ?_)) <;> (try simp only [decide_eq_true_eq, decide_eq_false_iff_not, Bool.true_eq_false, Bool.false_eq_true, bne_iff_ne, ne_eq, bne_eq_false_iff_eq, beq_iff_eq, beq_eq_false_iff_ne, Bool.not_eq_true, Bool.not_eq_false, Bool.not_eq_eq_eq_not, Bool.not_true, Bool.not_false, Decidable.not_not] at hc) <;> (try (exfalso; first | omega | exact bool_tf hc (by assumption) | exact bool_ft hc (by assumption) | exact absurd (by assumption) hc)) <;> (first | with_reducible show STri _ _ _ _ _ _ | (simp -dsimp [hc]; (repeat (simp -dsimp (disch := (first | omega | assumption | (refine Bool.eq_false_iff.1 ?_; assumption))) only [wrap_in, if_pos, if_neg]; (try simp -dsimp [hc]))))))))
    refine st_scope_ret ?_
    have hN := drN_le dw n1 n3
    have hdl : (drL n.w n.nlo n.nhi).length = drN n.w n.nlo n.nhi := by simp [drL]
    (repeat' (first | ((first | with_reducible refine st_skip ?_ | with_reducible refine st_exit ?_); (try simp only [seqQ, blockQ, loopQ, forQ, whileQ, reduceIte, Nat.reduceEqDiff])) | (with_reducible refine st_ret ?_; ((try simp only [seqQ, blockQ, loopQ, forQ, whileQ]); first | (with_reducible refine retM_ret ?_) | refine retQ_ret ?_; simp)) | refine st_seq ?_ | refine st_block ?_ | ((first | refine st_reg ?_ | refine buildP_own ?_ | refine callP_b (jn) rfl ?_ | refine callP_b (jd) rfl ?_) <;> (simp -dsimp; (repeat (simp -dsimp (disch := (first | omega | assumption | (refine Bool.eq_false_iff.1 ?_; assumption))) only [wrap_in, if_pos, if_neg]; (try simp -dsimp))))) | ((first | refine guardP_of (fun hc => ?_) (fun hc => ?_) | refine st_cond rfl (fun hc => ?_) (fun hc => ?_)) <;> (try simp only [decide_eq_true_eq, decide_eq_false_iff_not, Bool.true_eq_false, Bool.false_eq_true, bne_iff_ne, ne_eq, bne_eq_false_iff_eq, beq_iff_eq, beq_eq_false_iff_ne, Bool.not_eq_true, Bool.not_eq_false, Bool.not_eq_eq_eq_not, Bool.not_true, Bool.not_false, Decidable.not_not] at hc) <;> (try (exfalso; first | omega | exact bool_tf hc (by assumption) | exact bool_ft hc (by assumption) | exact absurd (by assumption) hc)) <;> (first | with_reducible show STri _ _ _ _ _ _ | (simp -dsimp [hc]; (repeat (simp -dsimp (disch := (first | omega | assumption | (refine Bool.eq_false_iff.1 ?_; assumption))) only [wrap_in, if_pos, if_neg]; (try simp -dsimp [hc]))))))))
    refine st_nilB 12 0 200 23 2 rfl (by simp) rfl (by simp [newOK]) ?_
    refine st_range (iDriven n.w n.nlo n.nhi dw (by omega) (by omega) (by omega) (by omega)) [5, 6, 10, 12, 200] [] (fun k R => tiI n k R)
      rfl rfl rfl (by kernel_rfl) (by show (0 : Nat) + 1000 ≤ 2000; decide) (fun j hj => by cases hj) (fun row hrow => by obtain ⟨y, _, rfl⟩ := List.mem_map.1 hrow; rfl) (by simp) (by simp) (by simp [tiI, timK]) ?_ ?_
    · rintro k row R rfl hrow Iv1 G1 hGG hin
      obtain ⟨d, hdk, rfl⟩ : ∃ d, (drL n.w n.nlo n.nhi)[k]? = some d ∧ row = [I d] := by
        rw [List.getElem?_map, Option.map_eq_some_iff] at hrow
        obtain ⟨d, h1, h2⟩ := hrow
        exact ⟨d, h1, h2.symm⟩
      obtain ⟨b1, b2⟩ := dr_bd dw hdk
      have hk : k < drN n.w n.nlo n.nhi := by rw [← hdl]; exact (List.getElem?_eq_some_iff.1 hdk).1
      have hs := timK_succ hdk
      have hlen := timK_len n k
      (repeat' (first | ((first | with_reducible refine st_skip ?_ | with_reducible refine st_exit ?_); (try simp only [seqQ, blockQ, loopQ, forQ, whileQ, reduceIte, Nat.reduceEqDiff])) | (with_reducible refine st_ret ?_; ((try simp only [seqQ, blockQ, loopQ, forQ, whileQ]); first | (with_reducible refine retM_ret ?_) | refine retQ_ret ?_; simp)) | refine st_seq ?_ | refine st_block ?_ | ((first | refine st_reg ?_ | refine buildP_own ?_) <;> (simp -dsimp; (repeat (simp -dsimp (disch := (first | omega | assumption | (refine Bool.eq_false_iff.1 ?_; assumption))) only [wrap_in, if_pos, if_neg]; (try simp -dsimp))))) | ((first | refine guardP_of (fun hc => ?_) (fun hc => ?_) | refine st_cond rfl (fun hc => ?_) (fun hc => ?_)) <;> (try simp only [decide_eq_true_eq, decide_eq_false_iff_not, Bool.true_eq_false, Bool.false_eq_true, bne_iff_ne, ne_eq, bne_eq_false_iff_eq, beq_iff_eq, beq_eq_false_iff_ne, Bool.not_eq_true, Bool.not_eq_false, Bool.not_eq_eq_eq_not, Bool.not_true, Bool.not_false, Decidable.not_not] at hc) <;> (try (exfalso; first | omega | exact bool_tf hc (by assumption) | exact bool_ft hc (by assumption) | exact absurd (by assumption) hc)) <;> (first | with_reducible show STri _ _ _ _ _ _ | (simp -dsimp [hc]; (repeat (simp -dsimp (disch := (first | omega | assumption | (refine Bool.eq_false_iff.1 ?_; assumption))) only [wrap_in, if_pos, if_neg]; (try simp -dsimp [hc]))))))))
      refine ⟨rfl, fun Iv2 hin2 => ?_⟩
      (repeat' (first | ((first | with_reducible refine st_skip ?_ | with_reducible refine st_exit ?_); (try simp only [seqQ, blockQ, loopQ, forQ, whileQ, reduceIte, Nat.reduceEqDiff])) | (with_reducible refine st_ret ?_; ((try simp only [seqQ, blockQ, loopQ, forQ, whileQ]); first | (with_reducible refine retM_ret ?_) | refine retQ_ret ?_; simp)) | refine st_seq ?_ | refine st_block ?_ | ((first | refine st_reg ?_ | refine buildP_own ?_) <;> (simp -dsimp; (repeat (simp -dsimp (disch := (first | omega | assumption | (refine Bool.eq_false_iff.1 ?_; assumption))) only [wrap_in, if_pos, if_neg]; (try simp -dsimp))))) | ((first | refine guardP_of (fun hc => ?_) (fun hc => ?_) | refine st_cond rfl (fun hc => ?_) (fun hc => ?_)) <;> (try simp only [decide_eq_true_eq, decide_eq_false_iff_not, Bool.true_eq_false, Bool.false_eq_true, bne_iff_ne, ne_eq, bne_eq_false_iff_eq, beq_iff_eq, beq_eq_false_iff_ne, Bool.not_eq_true, Bool.not_eq_false, Bool.not_eq_eq_eq_not, Bool.not_true, Bool.not_false, Decidable.not_not] at hc) <;> (try (exfalso; first | omega | exact bool_tf hc (by assumption) | exact bool_ft hc (by assumption) | exact absurd (by assumption) hc)) <;> (first | with_reducible show STri _ _ _ _ _ _ | (simp -dsimp [hc]; (repeat (simp -dsimp (disch := (first | omega | assumption | (refine Bool.eq_false_iff.1 ?_; assumption))) only [wrap_in, if_pos, if_neg]; (try simp -dsimp [hc]))))))))
      refine st_for [5, 6, 10, 12, 200] n.l.length (fun i T H => CanTo n d i ∧ T = [(6, .ptr 6 0), (10, .ptr 10 0), (12, .ptr 12 0), (13, .c (I d)), (33, .c (slS n.l)), (34, .c (I n.l.length)), (35, .c (I i))] ∧ tiI n k H) (by simp) ⟨fun x hx => by simp at hx, by simp, by simp [tiI]⟩ ?_
      rintro i T H hi ⟨hcan, rfl, rfl⟩
      by_cases hlt : i < n.l.length
      · have hrd := ok.rd _ (List.getElem_mem hlt)
        have sc := sCan n ok.w n.l[i] d hrd.1.1 hrd.1.2 hrd.2.1 (by omega) ok.w1 (by have := ok.w2; have := ok.w3; omega) (by have := ok.w1; have := ok.w2; omega) ok.w3 (by omega) (by omega)
        (repeat' (first | ((first | with_reducible refine st_skip ?_ | with_reducible refine st_exit ?_); (try simp only [seqQ, blockQ, loopQ, forQ, whileQ, reduceIte, Nat.reduceEqDiff])) | (with_reducible refine st_ret ?_; ((try simp only [seqQ, blockQ, loopQ, forQ, whileQ]); first | (with_reducible refine retM_ret ?_) | refine retQ_ret ?_; simp [hlt])) | refine st_seq ?_ | refine st_block ?_ | ((first | refine st_reg ?_ | refine buildP_own ?_ | refine callP_b (sc) rfl ?_) <;> (simp -dsimp [hlt]; (repeat (simp -dsimp (disch := (first | omega | assumption | (refine Bool.eq_false_iff.1 ?_; assumption))) only [wrap_in, if_pos, if_neg]; (try simp -dsimp [hlt]))))) | ((first | refine guardP_of (fun hc => ?_) (fun hc => ?_) | refine st_cond rfl (fun hc => ?_) (fun hc => ?_)) <;> (try simp only [decide_eq_true_eq, decide_eq_false_iff_not, Bool.true_eq_false, Bool.false_eq_true, bne_iff_ne, ne_eq, bne_eq_false_iff_eq, beq_iff_eq, beq_eq_false_iff_ne, Bool.not_eq_true, Bool.not_eq_false, Bool.not_eq_eq_eq_not, Bool.not_true, Bool.not_false, Decidable.not_not] at hc) <;> (try (exfalso; first | omega | exact bool_tf hc (by assumption) | exact bool_ft hc (by assumption) | exact absurd (by assumption) hc)) <;> (first | with_reducible show STri _ _ _ _ _ _ | (simp -dsimp [hlt, hc]; (repeat (simp -dsimp (disch := (first | omega | assumption | (refine Bool.eq_false_iff.1 ?_; assumption))) only [wrap_in, if_pos, if_neg]; (try simp -dsimp [hlt, hc]))))))))
        · have e : stepT n (timK n k) d = timK n k := by unfold stepT; rw [if_neg (fun hh => can_not hlt hc hh.1)]
          exact ⟨by simp, by simp, by show tiI n (k + 1) _; unfold tiI; rw [hs, e]; simp⟩
        · exact ⟨by omega, by simp, can_succ hlt hcan hc, by simp, by simp [tiI]⟩
      · have : i = n.l.length := by omega
        subst this
        have hall := can_all hcan
        have hA : (timK n k).length + 1 ≤ 9223372036854775807 := by omega
        have hB : ((timK n k).length + 1) * 16 ≤ 140737488355328 := by omega
        (repeat' (first | ((first | with_reducible refine st_skip ?_ | with_reducible refine st_exit ?_); (try simp only [seqQ, blockQ, loopQ, forQ, whileQ, reduceIte, Nat.reduceEqDiff])) | (with_reducible refine st_ret ?_; ((try simp only [seqQ, blockQ, loopQ, forQ, whileQ]); first | (with_reducible refine retM_ret ?_) | refine retQ_ret ?_; simp [hA, hB])) | refine st_seq ?_ | refine st_block ?_ | ((first | refine st_reg ?_ | refine buildP_own ?_) <;> (simp -dsimp [hA, hB]; (repeat (simp -dsimp (disch := (first | omega | assumption | (refine Bool.eq_false_iff.1 ?_; assumption))) only [wrap_in, if_pos, if_neg]; (try simp -dsimp [hA, hB]))))) | ((first | refine guardP_of (fun hc => ?_) (fun hc => ?_) | refine st_cond rfl (fun hc => ?_) (fun hc => ?_)) <;> (try simp only [decide_eq_true_eq, decide_eq_false_iff_not, Bool.true_eq_false, Bool.false_eq_true, bne_iff_ne, ne_eq, bne_eq_false_iff_eq, beq_iff_eq, beq_eq_false_iff_ne, Bool.not_eq_true, Bool.not_eq_false, Bool.not_eq_eq_eq_not, Bool.not_true, Bool.not_false, Decidable.not_not] at hc) <;> (try (exfalso; first | omega | exact bool_tf hc (by assumption) | exact bool_ft hc (by assumption) | exact absurd (by assumption) hc)) <;> (first | with_reducible show STri _ _ _ _ _ _ | (simp -dsimp [hA, hB, hc]; (repeat (simp -dsimp (disch := (first | omega | assumption | (refine Bool.eq_false_iff.1 ?_; assumption))) only [wrap_in, if_pos, if_neg]; (try simp -dsimp [hA, hB, hc]))))))))
        · have e : stepT n (timK n k) d = timK n k ++ [timeAt n d] := by unfold stepT; rw [if_pos ⟨hall, hc⟩]
          exact ⟨by simp, by simp, by show tiI n (k + 1) _; unfold tiI; rw [hs, e]; simp [timeAt]⟩
        · have e : stepT n (timK n k) d = timK n k := by unfold stepT; rw [if_neg (fun hh => hc hh.2)]
          exact ⟨by simp, by simp, by show tiI n (k + 1) _; unfold tiI; rw [hs, e]; simp⟩
    · rintro R rfl
      rw [List.length_map]
      simp only [blockQ, seqQ]
      have hdr := drN_le7 dw n4
      have hlen := timK_len n (drL n.w n.nlo n.nhi).length
      have hbd : ∀ x ∈ timRaw n, x.1 ≤ x.2 ∧ n.nlo ≤ x.1 ∧ x.2 ≤ n.nhi := fun x hx => by
        obtain ⟨d, _, rfl, _, h3⟩ := timRaw_mem hx
        refine ⟨h3, ?_, ?_⟩
        · simp only [timeAt]; split <;> omega
        · simp only [timeAt]; split <;> omega
      have hm := mJoin (timRaw n) (by unfold timRaw; omega) (fun x hx => by have := hbd x hx; omega) (fun x hx => (hbd x hx).1)
      unfold rTimes
      rw [if_pos h]
      by_cases hr : timRaw n = []
      · rw [if_pos hr]
        unfold timRaw at hr
        rw [hr]
        (repeat' (first | ((first | with_reducible refine st_skip ?_ | with_reducible refine st_exit ?_); (try simp only [seqQ, blockQ, loopQ, forQ, whileQ, reduceIte, Nat.reduceEqDiff])) | (with_reducible refine st_ret ?_; ((try simp only [seqQ, blockQ, loopQ, forQ, whileQ]); first | (with_reducible refine retM_ret ?_) | refine retQ_ret ?_; simp)) | refine st_seq ?_ | refine st_block ?_ | ((first | refine st_reg ?_ | refine buildP_own ?_) <;> (simp -dsimp; (repeat (simp -dsimp (disch := (first | omega | assumption | (refine Bool.eq_false_iff.1 ?_; assumption))) only [wrap_in, if_pos, if_neg]; (try simp -dsimp))))) | ((first | refine guardP_of (fun hc => ?_) (fun hc => ?_) | refine st_cond rfl (fun hc => ?_) (fun hc => ?_)) <;> (try simp only [decide_eq_true_eq, decide_eq_false_iff_not, Bool.true_eq_false, Bool.false_eq_true, bne_iff_ne, ne_eq, bne_eq_false_iff_eq, beq_iff_eq, beq_eq_false_iff_ne, Bool.not_eq_true, Bool.not_eq_false, Bool.not_eq_eq_eq_not, Bool.not_true, Bool.not_false, Decidable.not_not] at hc) <;> (try (exfalso; first | omega | exact bool_tf hc (by assumption) | exact bool_ft hc (by assumption) | exact absurd (by assumption) hc)) <;> (first | with_reducible show STri _ _ _ _ _ _ | (simp -dsimp [hc]; (repeat (simp -dsimp (disch := (first | omega | assumption | (refine Bool.eq_false_iff.1 ?_; assumption))) only [wrap_in, if_pos, if_neg]; (try simp -dsimp [hc]))))))))
        exact .tup _ _ (.cons _ _ _ _ (.nil _) (.cons _ _ _ _ (.refl _) .nil))
      · rw [if_neg hr]
        have hpos : ¬ (timRaw n).length = 0 := fun e => hr (List.length_eq_zero_iff.1 e)
        unfold timL timRaw at *
        (repeat' (first | ((first | with_reducible refine st_skip ?_ | with_reducible refine st_exit ?_); (try simp only [seqQ, blockQ, loopQ, forQ, whileQ, reduceIte, Nat.reduceEqDiff])) | (with_reducible refine st_ret ?_; ((try simp only [seqQ, blockQ, loopQ, forQ, whileQ]); first | (with_reducible refine retM_ret ?_) | refine retQ_ret ?_; simp [hpos])) | refine st_seq ?_ | refine st_block ?_ | ((first | refine st_reg ?_ | ((with_reducible show callMP _ _ _ _ _ _); refine callM_of (hm ) (by decide) (by first | rfl | simp) (by first | rfl | simp) (by first | rfl | simp) (by first | rfl | simp) (fun rows2 hR2 hl2 => ?_);  obtain ⟨ys, rfl, h1, h2⟩ := hR2) | refine buildP_own ?_) <;> (simp -dsimp [hpos]; (repeat (simp -dsimp (disch := (first | omega | assumption | (refine Bool.eq_false_iff.1 ?_; assumption))) only [wrap_in, if_pos, if_neg]; (try simp -dsimp [hpos]))))) | ((first | refine guardP_of (fun hc => ?_) (fun hc => ?_) | refine st_cond rfl (fun hc => ?_) (fun hc => ?_)) <;> (try simp only [decide_eq_true_eq, decide_eq_false_iff_not, Bool.true_eq_false, Bool.false_eq_true, bne_iff_ne, ne_eq, bne_eq_false_iff_eq, beq_iff_eq, beq_eq_false_iff_ne, Bool.not_eq_true, Bool.not_eq_false, Bool.not_eq_eq_eq_not, Bool.not_true, Bool.not_false, Decidable.not_not] at hc) <;> (try (exfalso; first | omega | exact bool_tf hc (by assumption) | exact bool_ft hc (by assumption) | exact absurd (by assumption) hc)) <;> (first | with_reducible show STri _ _ _ _ _ _ | (simp -dsimp [hpos, hc]; (repeat (simp -dsimp (disch := (first | omega | assumption | (refine Bool.eq_false_iff.1 ?_; assumption))) only [wrap_in, if_pos, if_neg]; (try simp -dsimp [hpos, hc]))))))))
        exact .refl _
  · have jn := sNotesNo hw hl h
    (repeat' (first | ((first | with_reducible refine st_skip ?_ | with_reducible refine st_exit ?_); (try simp only [seqQ, blockQ, loopQ, forQ, whileQ, reduceIte, Nat.reduceEqDiff])) | (with_reducible refine st_ret ?_; ((try simp only [seqQ, blockQ, loopQ, forQ, whileQ]); first | (with_reducible refine retM_ret ?_) | refine retQ_ret ?_; simp)) | refine st_seq ?_ | refine st_block ?_ | ((first | refine st_reg ?_ | refine buildP_own ?_) <;> (simp -dsimp; (repeat (simp -dsimp (disch := (first | omega | assumption | (refine Bool.eq_false_iff.1 ?_; assumption))) only [wrap_in, if_pos, if_neg]; (try simp -dsimp))))) | ((first | refine guardP_of (fun hc => ?_) (fun hc => ?_) | refine st_cond rfl (fun hc => ?_) (fun hc => ?_)) <;> (try simp only [decide_eq_true_eq, decide_eq_false_iff_not, Bool.true_eq_false, Bool.false_eq_true, bne_iff_ne, ne_eq, bne_eq_false_iff_eq, beq_iff_eq, beq_eq_false_iff_ne, Bool.not_eq_true, Bool.not_eq_false, Bool.not_eq_eq_eq_not, Bool.not_true, Bool.not_false, Decidable.not_not] at hc) <;> (try (exfalso; first | omega | exact bool_tf hc (by assumption) | exact bool_ft hc (by assumption) | exact absurd (by assumption) hc)) <;> (first | with_reducible show STri _ _ _ _ _ _ | (simp -dsimp [hc]; (repeat (simp -dsimp (disch := (first | omega | assumption | (refine Bool.eq_false_iff.1 ?_; assumption))) only [wrap_in, if_pos, if_neg]; (try simp -dsimp [hc]))))))))
    refine st_scope_ret ?_
    (repeat' (first | ((first | with_reducible refine st_skip ?_ | with_reducible refine st_exit ?_); (try simp only [seqQ, blockQ, loopQ, forQ, whileQ, reduceIte, Nat.reduceEqDiff])) | (with_reducible refine st_ret ?_; ((try simp only [seqQ, blockQ, loopQ, forQ, whileQ]); first | (with_reducible refine retM_ret ?_) | refine retQ_ret ?_; simp [h])) | refine st_seq ?_ | refine st_block ?_ | ((first | refine st_reg ?_ | refine buildP_own ?_ | refine callP_b (jn) rfl ?_) <;> (simp -dsimp [h]; (repeat (simp -dsimp (disch := (first | omega | assumption | (refine Bool.eq_false_iff.1 ?_; assumption))) only [wrap_in, if_pos, if_neg]; (try simp -dsimp [h]))))) | ((first | refine guardP_of (fun hc => ?_) (fun hc => ?_) | refine st_cond rfl (fun hc => ?_) (fun hc => ?_)) <;> (try simp only [decide_eq_true_eq, decide_eq_false_iff_not, Bool.true_eq_false, Bool.false_eq_true, bne_iff_ne, ne_eq, bne_eq_false_iff_eq, beq_iff_eq, beq_eq_false_iff_ne, Bool.not_eq_true, Bool.not_eq_false, Bool.not_eq_eq_eq_not, Bool.not_true, Bool.not_false, Decidable.not_not] at hc) <;> (try (exfalso; first | omega | exact bool_tf hc (by assumption) | exact bool_ft hc (by assumption) | exact absurd (by assumption) hc)) <;> (first | with_reducible show STri _ _ _ _ _ _ | (simp -dsimp [h, hc]; (repeat (simp -dsimp (disch := (first | omega | assumption | (refine Bool.eq_false_iff.1 ?_; assumption))) only [wrap_in, if_pos, if_neg]; (try simp -dsimp [h, hc]))))))))
    unfold rTimes
    rw [if_neg h]
    exact .tup _ _ (.cons _ _ _ _ (.nil _) (.cons _ _ _ _ (.refl _) .nil))
end Go.Proofs.YtnfggkopledpcaaGreat
/- Dial: whether two sets of places have one in common. -/
namespace Go.Proofs.YtnfggkopledpcaaGreat
open Go.RowKit Go.Maps Go.MapKept Go.ChangeMaps
theorem cPl_inv {w : World} {NA : Nat → Prop} {l : List Int} {v : Value} (h : RepC w NA (cPl l) v) : (v = .map none ∧ l = []) ∨ ∃ b ents clock, v = .map (some b) ∧ b < w.heap.size ∧ w.heap[b]? = some (.map ents clock) ∧ Ents false .i64 (entsD l) ents clock ∧ ∀ (i : Nat) e, ents[i]? = some e → e.val = .bool true := by
  unfold cPl at h
  generalize he : entsD l = es at h
  cases h with
  | nilm => exact .inl ⟨rfl, by cases l <;> simp [entsD] at he ⊢⟩
  | map _ _ _ b ents clock h1 h2 h3 h4 h5 =>
    refine .inr ⟨b, ents, clock, rfl, h1, h3, h4, fun i e hi => ?_⟩
    have hl : i < es.length := by rw [← h4.size]; exact (Array.getElem?_eq_some_iff.1 hi).1
    have hp := h5 i _ e (List.getElem?_eq_getElem hl) hi
    have : es[i].2 = B true := by subst he; simp [entsD]
    rw [this] at hp
    generalize e.val = u at hp
    cases hp; rfl
theorem getM_ents (l : List Int) (d : Int) : getM (entsD l) [d] = if l.contains d then some (B true) else none := by
  induction l with
  | nil => rfl
  | cons x l ih =>
    unfold entsD getM at *
    rw [List.map_cons, List.find?_cons]
    by_cases hx : x = d
    · subst hx; simp
    · have : (([x], B true).1 == [d]) = false := by simp [hx]
      rw [this]
      simp only
      rw [ih]
      have : ((x :: l).contains d) = l.contains d := by simp [Ne.symm hx]
      rw [this]
theorem lookup_pl {P : Program} {w : World} {NA : Nat → Prop} {l : List Int} {v : Value} (h : RepC w NA (cPl l) v) {t k e : TypeId} (hu : P.underlying t = some (.map k e)) (hk : P.underlying k = some (.int .i64)) (hz : (zeroValue e).run P w = .ok (.bool false) w) (d : Int) :
    (Instr.lookup t v (.int .i64 d) false).run P w = .ok (.bool (l.contains d)) w := by
  rcases cPl_inv h with ⟨rfl, rfl⟩ | ⟨b, ents, clock, rfl, _, hb, hE, hv⟩
  · simp [Instr.lookup, run_underlying hu, checkKey_int hk, Instr.findKey, run_underlying hk, Instr.findNow, hz]
  · obtain ⟨r, hr, hcase⟩ := findNow_ints (kd := .i64) (n := d) (es := entsD l) (ents := ents.toList) 0 (by simpa using hE.size) (fun i p e hp he => (hE.key i p e hp (by simpa using he)).1) (fun p hp => hE.one p hp rfl)
    rcases hcase with ⟨rfl, c2, _⟩ | ⟨i, p, e', rfl, c2, c3, c4, c5⟩
    · rw [getM_ents] at c2
      have hc : l.contains d = false := by
        cases hq : l.contains d with
        | false => rfl
        | true => rw [hq] at c2; simp at c2
      simp [Instr.lookup, run_underlying hu, checkKey_int hk, Instr.findKey, run_underlying hk, get_map hb, hr, hz]
      simpa using hc
    · rw [getM_ents] at c5
      have hc : l.contains d = true := by
        cases hq : l.contains d with
        | true => rfl
        | false => rw [hq] at c5; simp at c5
      have hev := hv i e' (by simpa using c3)
      simp [Instr.lookup, run_underlying hu, checkKey_int hk, Instr.findKey, run_underlying hk, get_map hb, hr, hev]
      simpa using hc
section
variable {P : Program} {w : World} {ops : Array Oper} {rest : List Oper} {o : Oper} {a : Act} {Q : Exit → Act → World → Prop}
end
structure Rng (W : World) (w : World) (Bm r : Nat) (l b : List Int) (cnt : Nat) : Prop where
  ext : Ext W w
  rge : W.heap.size ≤ r
  st : ∃ es clock since seen c0, w.heap[Bm]? = some (.map es clock) ∧ Ents false .i64 (entsD l) es clock ∧ w.heap[r]? = some (.mapIter (some Bm) since seen c0) ∧ (∀ x ∈ es.toList, x.born < since) ∧ (leftOf es seen).size = cnt ∧ since ≤ c0 ∧ since ≤ clock ∧
    ∀ (i : Nat) d e, l[i]? = some d → es[i]? = some e → seen.contains e.born = true → b.contains d = false
theorem Rng.next {P : Program} {W w : World} {Bm r : Nat} {l b : List Int} {cnt : Nat} (h : Rng W w Bm r l b cnt) (hB : Bm < W.heap.size) (ty : TypeId) :
    (cnt = 0 ∧ (Instr.next (.pointer (some ⟨r, 0, none⟩)) false ty).run P w = .ok (.tuple #[.bool false]) w ∧ l.any b.contains = false) ∨
    ∃ d v w' cnt', d ∈ l ∧ (Instr.next (.pointer (some ⟨r, 0, none⟩)) false ty).run P w = .ok (.tuple #[.bool true, .int .i64 d, v]) w' ∧ (Instr.entry (.pointer (some ⟨r, 0, none⟩))).run P w' = .ok (.tuple #[.int .i64 d, v]) w' ∧ Ext W w' ∧ cnt' < cnt ∧ w'.rangeLeft Bm r = cnt' ∧ (b.contains d = false → Rng W w' Bm r l b cnt') := by
  obtain ⟨hext, hrge, es, clock, since, seen, c0, hb, hE, hr, hold, hcnt, hsc, hsk, hseen⟩ := h
  have hne : r ≠ Bm := by omega
  have hlen : es.size = l.length := by rw [hE.size]; simp [entsD]
  rcases run_next_at (P := P) w ty r Bm since c0 seen es clock hr hb hold hsc with ⟨h0, hrun⟩ | ⟨e, he, w1, hal, hrun⟩
  · refine .inl ⟨by omega, hrun, ?_⟩
    rw [List.any_eq_false]
    intro d hd
    obtain ⟨i, hi, rfl⟩ := List.getElem_of_mem hd
    have hi2 : i < es.size := by omega
    have := hseen i l[i] es[i] (List.getElem?_eq_getElem hi) (Array.getElem?_eq_getElem hi2) (all_seen es seen h0 _ (by simp))
    simpa using this
  · obtain ⟨hem, hes⟩ := mem_left he
    obtain ⟨i, hi, hie⟩ := List.getElem_of_mem hem
    have hi2 : i < es.size := by simpa using hi
    have hi3 : i < l.length := by omega
    have hie' : es[i]? = some e := by rw [Array.getElem?_eq_getElem hi2]; simpa using hie
    have hkey : e.key = .int .i64 l[i] := (hE.key i ([l[i]], B true) e (by simp [entsD, hi3]) hie').1
    have hr1 : w1.heap[r]? = some (.mapIter (some Bm) since seen c0) := by rcases hal with rfl | rfl <;> exact hr
    have hb1 : w1.heap[Bm]? = some (.map es clock) := by rcases hal with rfl | rfl <;> exact hb
    have hx1 : Ext W w1 := by
      rcases hal with rfl | rfl
      · exact hext
      · exact hext.drew
    have hset := heap_set (o' := .mapIter (some Bm) since (seen.push e.born) clock) hr1
    have hb' : (setBlock w1 r (.mapIter (some Bm) since (seen.push e.born) clock)).heap[Bm]? = some (.map es clock) := (hset.2 Bm (fun e1 => hne e1.symm)).trans hb1
    have hx' : Ext W (setBlock w1 r (.mapIter (some Bm) since (seen.push e.born) clock)) := ⟨hx1.os, hx1.tape, hx1.output, by have := hx1.size; simpa [setBlock] using this, fun k hk => (hset.2 k (by omega)).trans (hx1.block k hk)⟩
    rw [hkey] at hrun
    have hent := run_entry_at (P := P) _ r Bm since seen es clock e hset.1 hb' hem hE.born
    rw [hkey] at hent
    refine .inr ⟨l[i], e.val, _, (leftOf es (seen.push e.born)).size, List.getElem_mem _, hrun, hent, hx', by rw [← hcnt]; exact left_shrinks es seen e he, ?_, fun hbd => ⟨hx', hrge, es, clock, since, seen.push e.born, clock, hb', hE, hset.1, hold, rfl, hsk, hsk, fun j d e2 hj hj2 hs2 => ?_⟩⟩
    · have hset1 : (setBlock w1 r (.mapIter (some Bm) since (seen.push e.born) clock)).heap[r]? = some (.mapIter (some Bm) since (seen.push e.born) clock) := hset.1
      simp only [World.rangeLeft, hb', hset1]
    · rw [contains_push] at hs2
      cases hq : seen.contains e2.born with
      | true => exact hseen j d e2 hj hj2 hq
      | false =>
        rw [hq, Bool.false_or] at hs2
        have hbe : e2.born = e.born := by simpa using hs2
        have hj3 : j < es.size := (Array.getElem?_eq_some_iff.1 hj2).1
        have hem2 : e2 ∈ es.toList := by
          obtain ⟨hq1, hq2⟩ := Array.getElem?_eq_some_iff.1 hj2
          rw [← hq2]; simp
        have he2 : e2 = e := born_inj hE.born hem2 hem hbe
        have hj4 : j < l.length := by omega
        have hkey2 : e2.key = .int .i64 l[j] := (hE.key j ([l[j]], B true) e2 (by simp [entsD, hj4]) hj2).1
        rw [he2, hkey] at hkey2
        rw [List.getElem?_eq_getElem hj4] at hj
        cases hj
        simp only [Value.int.injEq, true_and] at hkey2
        rw [← hkey2]
        exact hbd
theorem rep_ext {w w' : World} {N : Nat → Prop} (h : Ext w w') {x : CV} {v : Value} (r : RepC w N x v) : RepC w' N x v := r.move ⟨h.size, fun b hb hn => ⟨h.block' hb, hn⟩⟩
set_option maxHeartbeats 1000000 in
theorem meet_any (a b : List Int) (w : World) (NA : Nat → Prop) (va vb : Value) (ha : RepC w NA (cPl a) va) (hb : RepC w NA (cPl b) vb) :
    Calls Tryz.prog 33 #[va, vb] w fun e w' => e = .returned (.bool (a.any b.contains)) ∧ Ext w w' := by
  have HL : ∀ w', Ext w w' → ∀ d, Hid ((Instr.lookup 88 vb (.int .i64 d) false).run Tryz.prog w' = .ok (.bool (b.contains d)) w') := fun w' hx d => lookup_pl (rep_ext hx hb) Tryz.underlying88 Tryz.underlying3 (Tryz.zeroValue4 w') d
  rcases cPl_inv ha with ⟨rfl, rfl⟩ | ⟨Bm, es, clock, rfl, hlt, hbm, hE, hv⟩
  · clear ha hb HL
    have hrg := run_range_nilMap (P := Tryz.prog) w 88 _ _ Tryz.underlying88
    have hnx : ∀ ty, (Instr.next (.pointer (some ⟨w.heap.size, 0, none⟩)) false ty).run Tryz.prog (w.alloc (.mapIter none 0 #[] 0)) = _ := fun ty => run_next_nilMap w ty 0 0 #[]
    go_enter Tryz.func33, Tryz.ntmps33
    go_wp2
    refine wp_loop_rounds 1 ?_
    rw [rounds_succ]
    go_wp2
    go_ret
    exact ⟨rfl, (Ext.refl w).alloc _⟩
  · have hrg := run_range_map (P := Tryz.prog) w 88 _ _ Bm es clock Tryz.underlying88 hbm
    have h0 : Hid (Rng w (w.alloc (.mapIter (some Bm) clock #[] clock)) Bm w.heap.size a b (leftOf es #[]).size) := by
      have hlater := MapKept.heap_alloc w (.mapIter (some Bm) clock #[] clock)
      refine ⟨(Ext.refl w).alloc _, Nat.le_refl _, es, clock, clock, #[], clock, (hlater.2 Bm hlt).trans hbm, hE, hlater.1, fun x hx => ?_, rfl, Nat.le_refl _, Nat.le_refl _, fun i d e _ _ h => by simp at h⟩
      obtain ⟨i, hi, hie⟩ := List.getElem_of_mem hx
      have hi2 : i < es.size := by simpa using hi
      have hi3 : i < (entsD a).length := by have := hE.size; omega
      exact (hE.key i _ x (List.getElem?_eq_getElem hi3) (by rw [Array.getElem?_eq_getElem hi2]; simpa using hie)).2
    have HLT := Lib.hid hlt
    clear ha hb hbm hE hv hlt
    go_enter Tryz.func33, Tryz.ntmps33
    go_wp2
    go_loopw [] (fun wr => ∃ cnt, Rng w wr Bm w.heap.size a b cnt) (fun wr => wr.rangeLeft Bm w.heap.size)
    case atStart => exact ⟨_, h0.out⟩
    case round =>
      obtain ⟨cnt, hr⟩ := hrel
      have hcn : wr.rangeLeft Bm w.heap.size = cnt := by
        obtain ⟨_, _, es, clock, since, seen, c0, q1, _, q2, _, q3, _⟩ := hr
        simp only [World.rangeLeft, q1, q2]
        exact q3
      rcases hr.next (P := Tryz.prog) HLT.out 0 with ⟨_, hrun, hany⟩ | ⟨d, v, w1, cnt1, hd, hrun, hen, hx1, hlt1, hcn1, hnext⟩
      · have hnx : ∀ ty, (Instr.next (.pointer (some ⟨w.heap.size, 0, none⟩)) false ty).run Tryz.prog wr = _ := fun _ => hrun
        have HX := Lib.hid hr.ext
        have HA := Lib.hid hany
        clear hr hany hrun hcn
        go_wp2
        go_ret
        rw [HA.out]
        exact ⟨rfl, HX.out⟩
      · have hnx : ∀ ty, (Instr.next (.pointer (some ⟨w.heap.size, 0, none⟩)) false ty).run Tryz.prog wr = _ := fun _ => hrun
        have hlk := (HL w1 hx1 d).out
        have HX1 := Lib.hid hx1
        have HN := Lib.hid hnext
        have HC := Lib.hid (show w1.rangeLeft Bm w.heap.size < wr.rangeLeft Bm w.heap.size by rw [hcn, hcn1]; exact hlt1)
        have HD := Lib.hid hd
        clear hr hrun hcn hx1 hnext hlt1 hcn1 hd
        cases hbd : b.contains d
        · rw [hbd] at hlk
          have HB := Lib.hid hbd
          clear hbd
          go_wp2
          go_roundw
          case rel => exact ⟨_, HN.out HB.out⟩
          case measure => exact HC.out
        · rw [hbd] at hlk
          have HB := Lib.hid hbd
          clear hbd
          go_wp2
          go_ret
          rw [show a.any b.contains = true from List.any_eq_true.2 ⟨d, HD.out, HB.out⟩]
          exact ⟨rfl, HX1.out⟩
theorem sMeet (a b : List Int) : SC Tryz.prog 33 [cPl a, cPl b] (B (a.any b.contains)) := fun w NA vs _ hs hv => by
  match vs, hs with
  | ⟨[va, vb]⟩, _ =>
  refine (meet_any a b w NA va vb (hv 0 _ va rfl rfl) (hv 1 _ vb rfl rfl)).mono ?_
  rintro e w' ⟨rfl, hx⟩
  exact ⟨_, rfl, .val _, hx⟩
end Go.Proofs.YtnfggkopledpcaaGreat
/- Dial: readings that cannot both be right. -/
namespace Go.Proofs.YtnfggkopledpcaaGreat
open Go.RowKit Go.Sort
def noMeet (n : Nt) (i k : Nat) : Bool := !((plL n (gp n.l k)).any (plL n (gp n.l i)).contains)
def prIn (n : Nt) (i k : Nat) : List (Int × Int) := ((List.range k).filter (noMeet n i)).map fun k : Nat => ((k : Int), (i : Int))
def prOut (n : Nt) (i : Nat) : List (Int × Int) := (List.range i).flatMap fun i' => prIn n i' i'
def prRaw (n : Nt) : List (Int × Int) := prOut n n.l.length
def rPairs (n : Nt) : CV := if ntErr n = 0 then .tup [slS (sortP (prRaw n)), I 0] else .tup [slS [], I (ntErr n)]
theorem prIn_succ (n : Nt) (i k : Nat) : prIn n i (k + 1) = if noMeet n i k then prIn n i k ++ [((k : Int), (i : Int))] else prIn n i k := by
  unfold prIn
  rw [List.range_succ, List.filter_append, List.map_append]
  by_cases h : noMeet n i k = true
  · simp [h]
  · simp [h]
theorem prOut_succ (n : Nt) (i : Nat) : prOut n (i + 1) = prOut n i ++ prIn n i i := by
  unfold prOut
  rw [List.range_succ, List.flatMap_append]; simp
theorem prIn_len (n : Nt) (i k : Nat) : (prIn n i k).length ≤ k := by
  unfold prIn
  rw [List.length_map]
  exact Nat.le_trans (List.length_filter_le _ _) (by simp)
theorem prOut_len (n : Nt) : ∀ i, (prOut n i).length ≤ i * i := by
  intro i
  induction i with
  | zero => simp [prOut]
  | succ i ih =>
    rw [prOut_succ, List.length_append]
    have := prIn_len n i i
    have e : (i + 1) * (i + 1) = i * i + 2 * i + 1 := by rw [Nat.mul_add, Nat.add_mul]; omega
    omega
def plRows (n : Nt) (k : Nat) : List (List CV) := (n.l.take k).map fun x => [cPl (plL n x)]
theorem plRows_succ {n : Nt} {k : Nat} (h : k < n.l.length) : plRows n (k + 1) = plRows n k ++ [[cPl (plL n n.l[k])]] := by
  unfold plRows; rw [List.take_succ_eq_append_getElem h, List.map_append]; rfl
theorem plRows_len {n : Nt} {k : Nat} (h : k ≤ n.l.length) : (plRows n k).length = k := by simp [plRows]; omega
theorem plRows_get {n : Nt} {k : Nat} (h : k < n.l.length) : ∀ hq, (plRows n n.l.length)[k]'hq = [cPl (plL n (gp n.l k))] := fun hq => by
  simp [plRows, gp, h]
def prI (n : Nt) (i k : Nat) (T : TL) (H : HL) : Prop := T = [(1, .c (slS n.l)), (8, .own 201 (prOut n i ++ prIn n i k).length), (11, .own 200 n.l.length), (14, .c (I i)), (41, .c (I n.l.length)), (42, .c (I i)), (48, .c (I i)), (49, .c (I k))] ∧
  H = [(200, .arr 88 1 (plRows n n.l.length)), (201, .arr 50 2 ((prOut n i ++ prIn n i k).map rowS))]
def prO (n : Nt) (i : Nat) (T : TL) (H : HL) : Prop := T = [(1, .c (slS n.l)), (8, .own 201 (prOut n i).length), (11, .own 200 n.l.length), (41, .c (I n.l.length)), (42, .c (I i))] ∧
  H = [(200, .arr 88 1 (plRows n n.l.length)), (201, .arr 50 2 ((prOut n i).map rowS))]
set_option maxHeartbeats 2000000 in
theorem sPairs (n : Nt) (hw : DwLen n.w) (hl : n.l.length ≤ 1000000) (h12 : (prRaw n).length ≤ 12) : SC Tryz.prog 10 [cDw n.w, slS n.l, cS n.nlo n.nhi, cS n.wlo n.whi] (rPairs n) := by
  refine mlaw_dial_Pairs _ _ (by simp) ?_
  by_cases h : ntErr n = 0
  · have ok := nt_ok h
    have n1 := ok.n1
    have n2 := ok.n2
    have n3 := ok.n3
    have hl20 := ok.len
    have jn := sNotesOk hw hl h
    (repeat' (first | ((first | with_reducible refine st_skip ?_ | with_reducible refine st_exit ?_); (try simp only [seqQ, blockQ, loopQ, forQ, whileQ, reduceIte, Nat.reduceEqDiff])) | (with_reducible refine st_ret ?_; ((try simp only [seqQ, blockQ, loopQ, forQ, whileQ]); first | (with_reducible refine retM_ret ?_) | refine retQ_ret ?_; simp)) | refine st_seq ?_ | refine st_block ?_ | ((first | refine st_reg ?_ | refine buildP_own ?_ | refine callP_b (jn) rfl ?_) <;> (simp -dsimp; (repeat (simp -dsimp (disch := (first | omega | assumption | (refine Bool.eq_false_iff.1 ?_; assumption))) only [wrap_in, if_pos, if_neg]; (try simp -dsimp))))) | ((first | refine guardP_of (fun hc => ?_) (fun hc => ?_) | refine st_cond rfl (fun hc => ?_) (fun hc => ?_)) <;> (try simp only [decide_eq_true_eq, decide_eq_false_iff_not, Bool.true_eq_false, Bool.false_eq_true, bne_iff_ne, ne_eq, bne_eq_false_iff_eq, beq_iff_eq, beq_eq_false_iff_ne, Bool.not_eq_true, Bool.not_eq_false, Bool.not_eq_eq_eq_not, Bool.not_true, Bool.not_false, Decidable.not_not] at hc) <;> (try (exfalso; first | omega | exact bool_tf hc (by assumption) | exact bool_ft hc (by assumption) | exact absurd (by assumption) hc)) <;> (first | with_reducible show STri _ _ _ _ _ _ | (simp -dsimp [hc]; (repeat (simp -dsimp (disch := (first | omega | assumption | (refine Bool.eq_false_iff.1 ?_; assumption))) only [wrap_in, if_pos, if_neg]; (try simp -dsimp [hc]))))))))
    refine st_nil 11 200 88 1 rfl (by simp [newOK]) ?_
    refine st_nil 8 201 50 2 rfl (by simp [newOK]) ?_
    refine st_less [(1, .c (slS n.l)), (8, .own 201 0), (10, .ptr 10 0), (11, .own 200 0), (27, .c (slS n.l)), (28, .c (I n.l.length)), (29, .c (I 0))]
      [(10, .box 80 ([I n.w.jump, I n.w.elo, I n.w.ehi, slF n.w.faces, slX n.w.faces, slS n.l, I n.nlo, I n.nhi, I n.wlo, I n.whi].map .c)), (200, .arr 88 1 []), (201, .arr 50 2 [])] (by simp [dropOK]) ?_
    refine st_for [10, 200, 201] n.l.length (fun i T H => T = [(1, .c (slS n.l)), (8, .own 201 0), (10, .ptr 10 0), (11, .own 200 i), (27, .c (slS n.l)), (28, .c (I n.l.length)), (29, .c (I i))] ∧
      H = [(10, .box 80 ([I n.w.jump, I n.w.elo, I n.w.ehi, slF n.w.faces, slX n.w.faces, slS n.l, I n.nlo, I n.nhi, I n.wlo, I n.whi].map .c)), (200, .arr 88 1 (plRows n i)), (201, .arr 50 2 [])]) (by simp) ⟨by simp, by simp [plRows]⟩ ?_
    rintro i T H hi ⟨rfl, rfl⟩
    by_cases hlt : i < n.l.length
    · have hrd := ok.rd _ (List.getElem_mem hlt)
      have sp := sPlaces n ok.w n.l[i] hrd.1.1 hrd.1.2 hrd.2.1 (by omega) ok.w1 (by have := ok.w2; have := ok.w3; omega) (by have := ok.w1; have := ok.w2; omega) ok.w3 n1 (by omega) (by omega) n3
      have hlen := plRows_len hi
      have hsc := plRows_succ hlt
      have hA : i + 1 ≤ 9223372036854775807 := by omega
      have hB : (i + 1) * 8 ≤ 140737488355328 := by omega
      (repeat' (first | ((first | with_reducible refine st_skip ?_ | with_reducible refine st_exit ?_); (try simp only [seqQ, blockQ, loopQ, forQ, whileQ, reduceIte, Nat.reduceEqDiff])) | (with_reducible refine st_ret ?_; ((try simp only [seqQ, blockQ, loopQ, forQ, whileQ]); first | (with_reducible refine retM_ret ?_) | refine retQ_ret ?_; simp [hlt, hlen, hA, hB])) | refine st_seq ?_ | refine st_block ?_ | ((first | refine st_reg ?_ | refine buildP_own ?_ | refine callP_b (sp) rfl ?_) <;> (simp -dsimp [hlt, hlen, hA, hB]; (repeat (simp -dsimp (disch := (first | omega | assumption | (refine Bool.eq_false_iff.1 ?_; assumption))) only [wrap_in, if_pos, if_neg]; (try simp -dsimp [hlt, hlen, hA, hB]))))) | ((first | refine guardP_of (fun hc => ?_) (fun hc => ?_) | refine st_cond rfl (fun hc => ?_) (fun hc => ?_)) <;> (try simp only [decide_eq_true_eq, decide_eq_false_iff_not, Bool.true_eq_false, Bool.false_eq_true, bne_iff_ne, ne_eq, bne_eq_false_iff_eq, beq_iff_eq, beq_eq_false_iff_ne, Bool.not_eq_true, Bool.not_eq_false, Bool.not_eq_eq_eq_not, Bool.not_true, Bool.not_false, Decidable.not_not] at hc) <;> (try (exfalso; first | omega | exact bool_tf hc (by assumption) | exact bool_ft hc (by assumption) | exact absurd (by assumption) hc)) <;> (first | with_reducible show STri _ _ _ _ _ _ | (simp -dsimp [hlt, hlen, hA, hB, hc]; (repeat (simp -dsimp (disch := (first | omega | assumption | (refine Bool.eq_false_iff.1 ?_; assumption))) only [wrap_in, if_pos, if_neg]; (try simp -dsimp [hlt, hlen, hA, hB, hc]))))))))
      all_goals exact ⟨hlt, by simp, by simp, by rw [hsc]; simp⟩
    · have hie : i = n.l.length := by omega
      subst hie
      have hlen := plRows_len (n := n) (Nat.le_refl _)
      (repeat' (first | ((first | with_reducible refine st_skip ?_ | with_reducible refine st_exit ?_); (try simp only [seqQ, blockQ, loopQ, forQ, whileQ, reduceIte, Nat.reduceEqDiff])) | (with_reducible refine st_ret ?_; ((try simp only [seqQ, blockQ, loopQ, forQ, whileQ]); first | (with_reducible refine retM_ret ?_) | refine retQ_ret ?_; simp [hlen])) | refine st_seq ?_ | refine st_block ?_ | ((first | refine st_reg ?_ | refine buildP_own ?_) <;> (simp -dsimp [hlen]; (repeat (simp -dsimp (disch := (first | omega | assumption | (refine Bool.eq_false_iff.1 ?_; assumption))) only [wrap_in, if_pos, if_neg]; (try simp -dsimp [hlen]))))) | ((first | refine guardP_of (fun hc => ?_) (fun hc => ?_) | refine st_cond rfl (fun hc => ?_) (fun hc => ?_)) <;> (try simp only [decide_eq_true_eq, decide_eq_false_iff_not, Bool.true_eq_false, Bool.false_eq_true, bne_iff_ne, ne_eq, bne_eq_false_iff_eq, beq_iff_eq, beq_eq_false_iff_ne, Bool.not_eq_true, Bool.not_eq_false, Bool.not_eq_eq_eq_not, Bool.not_true, Bool.not_false, Decidable.not_not] at hc) <;> (try (exfalso; first | omega | exact bool_tf hc (by assumption) | exact bool_ft hc (by assumption) | exact absurd (by assumption) hc)) <;> (first | with_reducible show STri _ _ _ _ _ _ | (simp -dsimp [hlen, hc]; (repeat (simp -dsimp (disch := (first | omega | assumption | (refine Bool.eq_false_iff.1 ?_; assumption))) only [wrap_in, if_pos, if_neg]; (try simp -dsimp [hlen, hc]))))))))
      refine st_for [200, 201] n.l.length (fun i T H => prO n i T H) (by simp) ⟨by simp [prOut], by simp [prOut]⟩ ?_
      rintro i T H hi ⟨rfl, rfl⟩
      by_cases hlt : i < n.l.length
      · have hmin : min i n.l.length = i := Nat.min_eq_left hi
        have hpl := prOut_len n i
        have hi20 : i ≤ 20 := by omega
        have hpl2 : (prOut n i).length ≤ 400 := Nat.le_trans hpl (Nat.le_trans (Nat.mul_le_mul hi20 hi20) (by decide))
        (repeat' (first | ((first | with_reducible refine st_skip ?_ | with_reducible refine st_exit ?_); (try simp only [seqQ, blockQ, loopQ, forQ, whileQ, reduceIte, Nat.reduceEqDiff])) | (with_reducible refine st_ret ?_; ((try simp only [seqQ, blockQ, loopQ, forQ, whileQ]); first | (with_reducible refine retM_ret ?_) | refine retQ_ret ?_; simp [hlt, hmin])) | refine st_seq ?_ | refine st_block ?_ | ((first | refine st_reg ?_ | refine buildP_own ?_) <;> (simp -dsimp [hlt, hmin]; (repeat (simp -dsimp (disch := (first | omega | assumption | (refine Bool.eq_false_iff.1 ?_; assumption))) only [wrap_in, if_pos, if_neg]; (try simp -dsimp [hlt, hmin]))))) | ((first | refine guardP_of (fun hc => ?_) (fun hc => ?_) | refine st_cond rfl (fun hc => ?_) (fun hc => ?_)) <;> (try simp only [decide_eq_true_eq, decide_eq_false_iff_not, Bool.true_eq_false, Bool.false_eq_true, bne_iff_ne, ne_eq, bne_eq_false_iff_eq, beq_iff_eq, beq_eq_false_iff_ne, Bool.not_eq_true, Bool.not_eq_false, Bool.not_eq_eq_eq_not, Bool.not_true, Bool.not_false, Decidable.not_not] at hc) <;> (try (exfalso; first | omega | exact bool_tf hc (by assumption) | exact bool_ft hc (by assumption) | exact absurd (by assumption) hc)) <;> (first | with_reducible show STri _ _ _ _ _ _ | (simp -dsimp [hlt, hmin, hc]; (repeat (simp -dsimp (disch := (first | omega | assumption | (refine Bool.eq_false_iff.1 ?_; assumption))) only [wrap_in, if_pos, if_neg]; (try simp -dsimp [hlt, hmin, hc]))))))))
        refine st_for [200, 201] i (fun k T H => prI n i k T H) (by simp) ⟨by simp [prIn], by simp [prIn]⟩ ?_
        rintro k T H hk ⟨rfl, rfl⟩
        have hpk := prIn_len n i k
        by_cases hlt2 : k < i
        · have hlt3 : k < n.l.length := by omega
          have g1 := plRows_get hlt
          have g2 := plRows_get hlt3
          have sm := sMeet (plL n (gp n.l k)) (plL n (gp n.l i))
          have hA : (prOut n i).length + (prIn n i k).length + 1 ≤ 9223372036854775807 := by omega
          have hB : ((prOut n i).length + (prIn n i k).length + 1) * 16 ≤ 140737488355328 := by omega
          have hs := prIn_succ n i k
          (repeat' (first | ((first | with_reducible refine st_skip ?_ | with_reducible refine st_exit ?_); (try simp only [seqQ, blockQ, loopQ, forQ, whileQ, reduceIte, Nat.reduceEqDiff])) | (with_reducible refine st_ret ?_; ((try simp only [seqQ, blockQ, loopQ, forQ, whileQ]); first | (with_reducible refine retM_ret ?_) | refine retQ_ret ?_; simp [hlt, hlt2, hlt3, hlen, g1, g2, hA, hB])) | refine st_seq ?_ | refine st_block ?_ | ((first | refine st_reg ?_ | refine buildP_own ?_ | refine callP_b (sm) rfl ?_) <;> (simp -dsimp [hlt, hlt2, hlt3, hlen, g1, g2, hA, hB]; (repeat (simp -dsimp (disch := (first | omega | assumption | (refine Bool.eq_false_iff.1 ?_; assumption))) only [wrap_in, if_pos, if_neg]; (try simp -dsimp [hlt, hlt2, hlt3, hlen, g1, g2, hA, hB]))))) | ((first | refine guardP_of (fun hc => ?_) (fun hc => ?_) | refine st_cond rfl (fun hc => ?_) (fun hc => ?_)) <;> (try simp only [decide_eq_true_eq, decide_eq_false_iff_not, Bool.true_eq_false, Bool.false_eq_true, bne_iff_ne, ne_eq, bne_eq_false_iff_eq, beq_iff_eq, beq_eq_false_iff_ne, Bool.not_eq_true, Bool.not_eq_false, Bool.not_eq_eq_eq_not, Bool.not_true, Bool.not_false, Decidable.not_not] at hc) <;> (try (exfalso; first | omega | exact bool_tf hc (by assumption) | exact bool_ft hc (by assumption) | exact absurd (by assumption) hc)) <;> (first | with_reducible show STri _ _ _ _ _ _ | (simp -dsimp [hlt, hlt2, hlt3, hlen, g1, g2, hA, hB, hc]; (repeat (simp -dsimp (disch := (first | omega | assumption | (refine Bool.eq_false_iff.1 ?_; assumption))) only [wrap_in, if_pos, if_neg]; (try simp -dsimp [hlt, hlt2, hlt3, hlen, g1, g2, hA, hB, hc]))))))))
          · rw [if_pos (by unfold noMeet; rw [hc]; rfl)] at hs
            exact ⟨hlt2, by simp, by simp [hs, Nat.add_assoc], by simp [hs]⟩
          · rw [if_neg (by unfold noMeet; rw [hc]; decide)] at hs
            exact ⟨hlt2, by simp, by simp [hs], by simp [hs]⟩
        · have hke : k = i := by omega
          subst hke
          have hs := prOut_succ n k
          (repeat' (first | ((first | with_reducible refine st_skip ?_ | with_reducible refine st_exit ?_); (try simp only [seqQ, blockQ, loopQ, forQ, whileQ, reduceIte, Nat.reduceEqDiff])) | (with_reducible refine st_ret ?_; ((try simp only [seqQ, blockQ, loopQ, forQ, whileQ]); first | (with_reducible refine retM_ret ?_) | refine retQ_ret ?_; simp)) | refine st_seq ?_ | refine st_block ?_ | ((first | refine st_reg ?_ | refine buildP_own ?_) <;> (simp -dsimp; (repeat (simp -dsimp (disch := (first | omega | assumption | (refine Bool.eq_false_iff.1 ?_; assumption))) only [wrap_in, if_pos, if_neg]; (try simp -dsimp))))) | ((first | refine guardP_of (fun hc => ?_) (fun hc => ?_) | refine st_cond rfl (fun hc => ?_) (fun hc => ?_)) <;> (try simp only [decide_eq_true_eq, decide_eq_false_iff_not, Bool.true_eq_false, Bool.false_eq_true, bne_iff_ne, ne_eq, bne_eq_false_iff_eq, beq_iff_eq, beq_eq_false_iff_ne, Bool.not_eq_true, Bool.not_eq_false, Bool.not_eq_eq_eq_not, Bool.not_true, Bool.not_false, Decidable.not_not] at hc) <;> (try (exfalso; first | omega | exact bool_tf hc (by assumption) | exact bool_ft hc (by assumption) | exact absurd (by assumption) hc)) <;> (first | with_reducible show STri _ _ _ _ _ _ | (simp -dsimp [hc]; (repeat (simp -dsimp (disch := (first | omega | assumption | (refine Bool.eq_false_iff.1 ?_; assumption))) only [wrap_in, if_pos, if_neg]; (try simp -dsimp [hc]))))))))
          all_goals exact ⟨by omega, by simp, by simp [hs], by simp [hs]⟩
      · have hie : i = n.l.length := by omega
        subst hie
        have hm := mSorted (prRaw n) h12
        unfold prRaw at hm
        (repeat' (first | ((first | with_reducible refine st_skip ?_ | with_reducible refine st_exit ?_); (try simp only [seqQ, blockQ, loopQ, forQ, whileQ, reduceIte, Nat.reduceEqDiff])) | (with_reducible refine st_ret ?_; ((try simp only [seqQ, blockQ, loopQ, forQ, whileQ]); first | (with_reducible refine retM_ret ?_) | refine retQ_ret ?_; simp)) | refine st_seq ?_ | refine st_block ?_ | ((first | refine st_reg ?_ | ((with_reducible show callMP _ _ _ _ _ _); refine callM_of (hm ) (by decide) (by first | rfl | simp) (by first | rfl | simp) (by first | rfl | simp) (by first | rfl | simp) (fun rows2 hR2 hl2 => ?_);  obtain rfl := hR2) | refine buildP_own ?_) <;> (simp -dsimp; (repeat (simp -dsimp (disch := (first | omega | assumption | (refine Bool.eq_false_iff.1 ?_; assumption))) only [wrap_in, if_pos, if_neg]; (try simp -dsimp))))) | ((first | refine guardP_of (fun hc => ?_) (fun hc => ?_) | refine st_cond rfl (fun hc => ?_) (fun hc => ?_)) <;> (try simp only [decide_eq_true_eq, decide_eq_false_iff_not, Bool.true_eq_false, Bool.false_eq_true, bne_iff_ne, ne_eq, bne_eq_false_iff_eq, beq_iff_eq, beq_eq_false_iff_ne, Bool.not_eq_true, Bool.not_eq_false, Bool.not_eq_eq_eq_not, Bool.not_true, Bool.not_false, Decidable.not_not] at hc) <;> (try (exfalso; first | omega | exact bool_tf hc (by assumption) | exact bool_ft hc (by assumption) | exact absurd (by assumption) hc)) <;> (first | with_reducible show STri _ _ _ _ _ _ | (simp -dsimp [hc]; (repeat (simp -dsimp (disch := (first | omega | assumption | (refine Bool.eq_false_iff.1 ?_; assumption))) only [wrap_in, if_pos, if_neg]; (try simp -dsimp [hc]))))))))
        have e : (prOut n n.l.length).length = (sortP (prOut n n.l.length)).length := by simpa using hl2.symm
        rw [if_pos e]
        refine ⟨_, rfl, ?_⟩
        unfold rPairs
        rw [if_pos h]
        exact .refl _
  · have jn := sNotesNo hw hl h
    (repeat' (first | ((first | with_reducible refine st_skip ?_ | with_reducible refine st_exit ?_); (try simp only [seqQ, blockQ, loopQ, forQ, whileQ, reduceIte, Nat.reduceEqDiff])) | (with_reducible refine st_ret ?_; ((try simp only [seqQ, blockQ, loopQ, forQ, whileQ]); first | (with_reducible refine retM_ret ?_) | refine retQ_ret ?_; simp [h])) | refine st_seq ?_ | refine st_block ?_ | ((first | refine st_reg ?_ | refine buildP_own ?_ | refine callP_b (jn) rfl ?_) <;> (simp -dsimp [h]; (repeat (simp -dsimp (disch := (first | omega | assumption | (refine Bool.eq_false_iff.1 ?_; assumption))) only [wrap_in, if_pos, if_neg]; (try simp -dsimp [h]))))) | ((first | refine guardP_of (fun hc => ?_) (fun hc => ?_) | refine st_cond rfl (fun hc => ?_) (fun hc => ?_)) <;> (try simp only [decide_eq_true_eq, decide_eq_false_iff_not, Bool.true_eq_false, Bool.false_eq_true, bne_iff_ne, ne_eq, bne_eq_false_iff_eq, beq_iff_eq, beq_eq_false_iff_ne, Bool.not_eq_true, Bool.not_eq_false, Bool.not_eq_eq_eq_not, Bool.not_true, Bool.not_false, Decidable.not_not] at hc) <;> (try (exfalso; first | omega | exact bool_tf hc (by assumption) | exact bool_ft hc (by assumption) | exact absurd (by assumption) hc)) <;> (first | with_reducible show STri _ _ _ _ _ _ | (simp -dsimp [h, hc]; (repeat (simp -dsimp (disch := (first | omega | assumption | (refine Bool.eq_false_iff.1 ?_; assumption))) only [wrap_in, if_pos, if_neg]; (try simp -dsimp [h, hc]))))))))
    unfold rPairs
    rw [if_neg h]
    exact .tup _ _ (.cons _ _ _ _ (.nil _) (.cons _ _ _ _ (.refl _) .nil))
end Go.Proofs.YtnfggkopledpcaaGreat
/- Dial: known(), the document's examples. -/
namespace Go.Proofs.YtnfggkopledpcaaGreat
open Go.RowKit Go.Sort
def thF : Fc := ⟨0, 0, [⟨5, 1, 1⟩], 30, 10⟩
def th : Dw := ⟨30, -2, 3, [thF]⟩
def twoF : Fc := ⟨0, 0, [⟨5, 1, 1⟩, ⟨7, 12, 1⟩], 30, 10⟩
theorem lSpan (a b : Int) : SC Tryz.prog 19 [I a, I b] (cS a b) := by
  refine law_turretlaw04_span _ _ (by simp) ?_
  (repeat' (first | ((first | with_reducible refine st_skip ?_ | with_reducible refine st_exit ?_); (try simp only [seqQ, blockQ, loopQ, forQ, whileQ, reduceIte, Nat.reduceEqDiff])) | (with_reducible refine st_ret ?_; ((try simp only [seqQ, blockQ, loopQ, forQ, whileQ]); first | (with_reducible refine retM_ret ?_) | refine retQ_ret ?_; simp)) | refine st_seq ?_ | refine st_block ?_ | ((first | refine st_reg ?_ | refine buildP_own ?_) <;> (simp -dsimp; (repeat (simp -dsimp (disch := (first | omega | assumption | (refine Bool.eq_false_iff.1 ?_; assumption))) only [wrap_in, if_pos, if_neg]; (try simp -dsimp))))) | ((first | refine guardP_of (fun hc => ?_) (fun hc => ?_) | refine st_cond rfl (fun hc => ?_) (fun hc => ?_)) <;> (try simp only [decide_eq_true_eq, decide_eq_false_iff_not, Bool.true_eq_false, Bool.false_eq_true, bne_iff_ne, ne_eq, bne_eq_false_iff_eq, beq_iff_eq, beq_eq_false_iff_ne, Bool.not_eq_true, Bool.not_eq_false, Bool.not_eq_eq_eq_not, Bool.not_true, Bool.not_false, Decidable.not_not] at hc) <;> (try (exfalso; first | omega | exact bool_tf hc (by assumption) | exact bool_ft hc (by assumption) | exact absurd (by assumption) hc)) <;> (first | with_reducible show STri _ _ _ _ _ _ | (simp -dsimp [hc]; (repeat (simp -dsimp (disch := (first | omega | assumption | (refine Bool.eq_false_iff.1 ?_; assumption))) only [wrap_in, if_pos, if_neg]; (try simp -dsimp [hc]))))))))
  all_goals exact .refl _
theorem lThirty : SC Tryz.prog 16 [] (cDw th) := by
  refine law_turretlaw04_thirty _ _ (by simp) ?_
  have h := lSpan (-2) 3
  (repeat' (first | ((first | with_reducible refine st_skip ?_ | with_reducible refine st_exit ?_); (try simp only [seqQ, blockQ, loopQ, forQ, whileQ, reduceIte, Nat.reduceEqDiff])) | (with_reducible refine st_ret ?_; ((try simp only [seqQ, blockQ, loopQ, forQ, whileQ]); first | (with_reducible refine retM_ret ?_) | refine retQ_ret ?_; simp)) | refine st_seq ?_ | refine st_block ?_ | ((first | refine st_reg ?_ | refine buildP_frz ?_ | refine callP_b (h) rfl ?_) <;> (simp -dsimp; (repeat (simp -dsimp (disch := (first | omega | assumption | (refine Bool.eq_false_iff.1 ?_; assumption))) only [wrap_in, if_pos, if_neg]; (try simp -dsimp))))) | ((first | refine guardP_of (fun hc => ?_) (fun hc => ?_) | refine st_cond rfl (fun hc => ?_) (fun hc => ?_)) <;> (try simp only [decide_eq_true_eq, decide_eq_false_iff_not, Bool.true_eq_false, Bool.false_eq_true, bne_iff_ne, ne_eq, bne_eq_false_iff_eq, beq_iff_eq, beq_eq_false_iff_ne, Bool.not_eq_true, Bool.not_eq_false, Bool.not_eq_eq_eq_not, Bool.not_true, Bool.not_false, Decidable.not_not] at hc) <;> (try (exfalso; first | omega | exact bool_tf hc (by assumption) | exact bool_ft hc (by assumption) | exact absurd (by assumption) hc)) <;> (first | with_reducible show STri _ _ _ _ _ _ | (simp -dsimp [hc]; (repeat (simp -dsimp (disch := (first | omega | assumption | (refine Bool.eq_false_iff.1 ?_; assumption))) only [wrap_in, if_pos, if_neg]; (try simp -dsimp [hc]))))))))
  all_goals exact .refl _
theorem lThirtyX : SC Tryz.prog 16 [] (.agg [I 30, I (-2), I 3, .sl 5 [[I 0, I 0, .slx 3 [[I 5, I 1, I 1]], I 30, I 10]]]) := by
  refine law_turretlaw04_thirty _ _ (by simp) ?_
  have h := lSpan (-2) 3
  (repeat' (first | ((first | with_reducible refine st_skip ?_ | with_reducible refine st_exit ?_); (try simp only [seqQ, blockQ, loopQ, forQ, whileQ, reduceIte, Nat.reduceEqDiff])) | (with_reducible refine st_ret ?_; ((try simp only [seqQ, blockQ, loopQ, forQ, whileQ]); first | (with_reducible refine retM_ret ?_) | refine retQ_ret ?_; simp)) | refine st_seq ?_ | refine st_block ?_ | ((first | refine st_reg ?_ | refine buildP_frx ?_ | refine callP_b (h) rfl ?_) <;> (simp -dsimp; (repeat (simp -dsimp (disch := (first | omega | assumption | (refine Bool.eq_false_iff.1 ?_; assumption))) only [wrap_in, if_pos, if_neg]; (try simp -dsimp))))) | ((first | refine guardP_of (fun hc => ?_) (fun hc => ?_) | refine st_cond rfl (fun hc => ?_) (fun hc => ?_)) <;> (try simp only [decide_eq_true_eq, decide_eq_false_iff_not, Bool.true_eq_false, Bool.false_eq_true, bne_iff_ne, ne_eq, bne_eq_false_iff_eq, beq_iff_eq, beq_eq_false_iff_ne, Bool.not_eq_true, Bool.not_eq_false, Bool.not_eq_eq_eq_not, Bool.not_true, Bool.not_false, Decidable.not_not] at hc) <;> (try (exfalso; first | omega | exact bool_tf hc (by assumption) | exact bool_ft hc (by assumption) | exact absurd (by assumption) hc)) <;> (first | with_reducible show STri _ _ _ _ _ _ | (simp -dsimp [hc]; (repeat (simp -dsimp (disch := (first | omega | assumption | (refine Bool.eq_false_iff.1 ?_; assumption))) only [wrap_in, if_pos, if_neg]; (try simp -dsimp [hc]))))))))
  all_goals exact .agg _ _ (.cons _ _ _ _ (.refl _) (.cons _ _ _ _ (.refl _) (.cons _ _ _ _ (.refl _) (.cons _ _ _ _ (.slx _ _) .nil))))
theorem th_len : DwLen th := ⟨by decide, fun f hf => by simp [th] at hf; subst hf; decide⟩
theorem k1 : rSlack twoF = .tup [I 21, I 0] := by
  have h1 : fcOK twoF = true := by decide +kernel
  have h2 : slackI twoF.links = 21 := by decide +kernel
  unfold rSlack; rw [if_pos h1, h2]
theorem k2 : rOff th 0 2400 (-5) 5 = .tup [cS (-48) (-18), I 0] := by
  have h1 : lookErr th 0 2400 (-5) 5 = 0 := by decide +kernel
  have h2 : offLo (lookOf th 0 2400 (-5) 5) = -48 := by decide +kernel
  have h3 : offHi (lookOf th 0 2400 (-5) 5) = -18 := by decide +kernel
  unfold rOff; rw [if_pos h1, h2, h3]
theorem k3e : lookErr th 0 600 (-25) 5 = 0 := by decide +kernel
def kLo : Lo := ⟨th, thF, 600, -25, 5⟩
theorem k3a : ReachAt kLo false (-2) (-25) := by
  refine ⟨by decide, by decide, fun n h1 h2 => by have : kLo.w.elo = -2 := rfl; omega, by decide +kernel, ⟨by decide, by decide, fun n h1 h2 => by have : kLo.wlo = -25 := rfl; omega, by decide +kernel⟩⟩
theorem k4e : lookErr th 0 600 (-5) 5 = 0 := by decide +kernel
theorem k4r : showRaw (lookOf th 0 600 (-5) 5) = [(570, 570), (600, 600)] := by decide +kernel
theorem k4 : rShows th 0 600 (-5) 5 = .tup [slS [(570, 570), (600, 600)], I 0] := by
  unfold rShows; rw [if_pos k4e]
  unfold showL
  rw [k4r]
  rw [show joinL [(570, 570), (600, 600)] = [(570, 570), (600, 600)] from sep_unique (joinL_sep (by simp)).1 ⟨by simp, by simp⟩ (joinL_sep (by simp)).2]
def nt1 : Nt := ⟨th, [(0, 600)], 500, 700, -5, 5⟩
def nt2 : Nt := ⟨th, [(0, 600), (0, 582)], 500, 700, -5, 5⟩
theorem k5e : ntErr nt1 = 0 := by decide +kernel
theorem k5r : timRaw nt1 = [(597, 631)] := by decide +kernel
theorem k5 : rTimes nt1 = .tup [slS [(597, 631)], I 0] := by
  unfold rTimes; rw [if_pos k5e]
  unfold timL
  rw [k5r, if_neg (by simp)]
  rw [show joinL [(597, 631)] = [(597, 631)] from sep_unique (joinL_sep (by simp)).1 ⟨by simp, by simp⟩ (joinL_sep (by simp)).2]
theorem k6e : ntErr nt2 = 0 := by decide +kernel
theorem k6r : timRaw nt2 = [] := by decide +kernel
theorem k6 : rTimes nt2 = .tup [slS [], I 7] := by
  unfold rTimes; rw [if_pos k6e, if_pos k6r]
theorem k7r : prRaw nt2 = [(0, 1)] := by decide +kernel
theorem k7 : rPairs nt2 = .tup [slS [(0, 1)], I 0] := by
  unfold rPairs; rw [if_pos k6e, k7r, ← sortP_of (xs := [(0, 1)]) (ys := [(0, 1)]) (.refl _) (by simp)]
theorem k8 : rPoise thF (-5) 5 = .tup [I 16, I (-16), I 0] := by
  have h1 : (fcOK thF && spanB (-10000) 10000 (-5) 5) = true := by decide +kernel
  have h2 : ¬ heavyI thF (-5) 5 > 10000 := by decide +kernel
  have h3 : heavyI thF (-5) 5 = 16 := by decide +kernel
  unfold rPoise; rw [if_pos h1, if_neg h2, h3]
theorem kSlack : SC Tryz.prog 17 [cF twoF] (.tup [I 21, I 0]) := by have h := sSlack twoF (by decide); rw [k1] at h; exact h
theorem kOff : SC Tryz.prog 18 [cDw th, I 0, I 2400, cS (-5) 5] (.tup [cS (-48) (-18), I 0]) := by have h := sOff th th_len 0 2400 (-5) 5; rw [k2] at h; exact h
theorem kReach : SC Tryz.prog 20 [cDw th, I 0, I 600, cS (-25) 5, B false] (.tup [.agg [I (-2), I 0, I (-25), I 18], I 0]) := by
  have h := sReachOk th_len false k3e (k := kLo) rfl k3a
  have e1 : endI kLo.f.lo kLo.f.hi false = 0 := by decide +kernel
  have e2 : lagOf kLo (dAt kLo (-2)) false = 18 := by decide +kernel
  rw [e1, e2] at h
  exact h
theorem kShows : SC Tryz.prog 21 [cDw th, I 0, I 600, cS (-5) 5] (.tup [slS [(570, 570), (600, 600)], I 0]) := by have h := sShows th th_len 0 600 (-5) 5; rw [k4] at h; exact h
theorem kTimes1 : SC Tryz.prog 9 [cDw th, slS [(0, 600)], cS 500 700, cS (-5) 5] (.tup [slS [(597, 631)], I 0]) := by have h := sTimes nt1 th_len (by decide); rw [k5] at h; exact h
theorem kTimes2 : SC Tryz.prog 9 [cDw th, slS [(0, 600), (0, 582)], cS 500 700, cS (-5) 5] (.tup [slS [], I 7]) := by have h := sTimes nt2 th_len (by decide); rw [k6] at h; exact h
theorem kPairs : SC Tryz.prog 10 [cDw th, slS [(0, 600), (0, 582)], cS 500 700, cS (-5) 5] (.tup [slS [(0, 1)], I 0]) := by have h := sPairs nt2 th_len (by decide) (by rw [k7r]; decide); rw [k7] at h; exact h
theorem kPoise : SC Tryz.prog 22 [cF thF, cS (-5) 5] (.tup [I 16, I (-16), I 0]) := by have h := sPoise thF (by decide) (-5) 5; rw [k8] at h; exact h
set_option maxRecDepth 100000 in
set_option maxHeartbeats 4000000 in
theorem sKnown : SC Tryz.prog 5 [] (B true) := by
  refine law_turretlaw04_known _ _ (by simp) ?_
  have hT := lThirty
  have s1 := lSpan (-5) 5
  have s2 := lSpan (-25) 5
  have s3 := lSpan 500 700
  have s4 := lSpan (-48) (-18)
  have s5 := lSpan 570 570
  have s6 := lSpan 600 600
  have s7 := lSpan 597 631
  unfold th thF at hT
  (repeat' (first | ((first | with_reducible refine st_skip ?_ | with_reducible refine st_exit ?_); (try simp only [seqQ, blockQ, loopQ, forQ, whileQ, reduceIte, Nat.reduceEqDiff])) | (with_reducible refine st_ret ?_; ((try simp only [seqQ, blockQ, loopQ, forQ, whileQ]); first | (with_reducible refine retM_ret ?_) | refine retQ_ret ?_; simp)) | refine st_seq ?_ | refine st_block ?_ | ((first | refine st_reg ?_ | refine buildP_own ?_) <;> (simp -dsimp; (repeat (simp -dsimp (disch := (first | omega | assumption | (refine Bool.eq_false_iff.1 ?_; assumption))) only [wrap_in, if_pos, if_neg]; (try simp -dsimp))))) | ((first | refine guardP_of (fun hc => ?_) (fun hc => ?_) | refine st_cond rfl (fun hc => ?_) (fun hc => ?_)) <;> (try simp only [decide_eq_true_eq, decide_eq_false_iff_not, Bool.true_eq_false, Bool.false_eq_true, bne_iff_ne, ne_eq, bne_eq_false_iff_eq, beq_iff_eq, beq_eq_false_iff_ne, Bool.not_eq_true, Bool.not_eq_false, Bool.not_eq_eq_eq_not, Bool.not_true, Bool.not_false, Decidable.not_not] at hc) <;> (try (exfalso; first | omega | exact bool_tf hc (by assumption) | exact bool_ft hc (by assumption) | exact absurd (by assumption) hc)) <;> (first | with_reducible show STri _ _ _ _ _ _ | (simp -dsimp [hc]; (repeat (simp -dsimp (disch := (first | omega | assumption | (refine Bool.eq_false_iff.1 ?_; assumption))) only [wrap_in, if_pos, if_neg]; (try simp -dsimp [hc]))))))))
  refine callP_of lThirtyX (.inl rfl) ?_
  (simp -dsimp; (repeat (simp -dsimp (disch := (first | omega | assumption | (refine Bool.eq_false_iff.1 ?_; assumption))) only [wrap_in, if_pos, if_neg]; (try simp -dsimp))))
  (repeat' (first | ((first | with_reducible refine st_skip ?_ | with_reducible refine st_exit ?_); (try simp only [seqQ, blockQ, loopQ, forQ, whileQ, reduceIte, Nat.reduceEqDiff])) | (with_reducible refine st_ret ?_; ((try simp only [seqQ, blockQ, loopQ, forQ, whileQ]); first | (with_reducible refine retM_ret ?_) | refine retQ_ret ?_; simp)) | refine st_seq ?_ | refine st_block ?_ | ((first | refine st_reg ?_ | refine buildP_frz ?_ | refine callP_b (hT) rfl ?_ | refine callP_b (s1) rfl ?_ | refine callP_b (s2) rfl ?_ | refine callP_b (s3) rfl ?_ | refine callP_b (s4) rfl ?_ | refine callP_b (s5) rfl ?_ | refine callP_b (s6) rfl ?_ | refine callP_b (s7) rfl ?_ | refine callP_b (kSlack) rfl ?_ | refine callP_b (kOff) rfl ?_ | refine callP_b (kReach) rfl ?_ | refine callP_b (kShows) rfl ?_ | refine callP_b (kTimes1) rfl ?_ | refine callP_b (kTimes2) rfl ?_ | refine callP_b (kPairs) rfl ?_ | refine callP_b (kPoise) rfl ?_) <;> (simp -dsimp; (repeat (simp -dsimp (disch := (first | omega | assumption | (refine Bool.eq_false_iff.1 ?_; assumption))) only [wrap_in, if_pos, if_neg]; (try simp -dsimp))))) | ((first | refine guardP_of (fun hc => ?_) (fun hc => ?_) | refine st_cond rfl (fun hc => ?_) (fun hc => ?_)) <;> (try simp only [decide_eq_true_eq, decide_eq_false_iff_not, Bool.true_eq_false, Bool.false_eq_true, bne_iff_ne, ne_eq, bne_eq_false_iff_eq, beq_iff_eq, beq_eq_false_iff_ne, Bool.not_eq_true, Bool.not_eq_false, Bool.not_eq_eq_eq_not, Bool.not_true, Bool.not_false, Decidable.not_not] at hc) <;> (try (exfalso; first | omega | exact bool_tf hc (by assumption) | exact bool_ft hc (by assumption) | exact absurd (by assumption) hc)) <;> (first | with_reducible show STri _ _ _ _ _ _ | (simp -dsimp [hc]; (repeat (simp -dsimp (disch := (first | omega | assumption | (refine Bool.eq_false_iff.1 ?_; assumption))) only [wrap_in, if_pos, if_neg]; (try simp -dsimp [hc]))))))))
  all_goals exact .refl _
end Go.Proofs.YtnfggkopledpcaaGreat
/- From a contract by value to a given statement: arguments of plain types are opened, and read again behind the call. -/
namespace Go.Proofs.YtnfggkopledpcaaGreat
open Go.RowKit Go.ChangeShapes Go.WideShapes
section
variable {P : Program}
def tyF (P : Program) (r : TypeId → List CV → Prop) : List Field → List CV → Prop
  | [], cs => cs = []
  | f :: fs, cs => ∃ c1 c2, cs = c1 ++ c2 ∧ r f.type c1 ∧ tyF P r fs c2
def tyA (r : List CV → Prop) : Nat → List CV → Prop
  | 0, cs => cs = []
  | n + 1, cs => ∃ c1 c2, cs = c1 ++ c2 ∧ r c1 ∧ tyA r n c2
def tyC (P : Program) : Nat → TypeId → List CV → Prop
  | 0, _, _ => False
  | d + 1, t, cs => match P.underlying t with
    | some .bool => ∃ b, cs = [.val (.bool b)]
    | some (.int k) => ∃ n, cs = [.val (.int k n)] ∧ (Lit.int k n).wf = true
    | some (.slice e) => ∃ rows, cs = [.sl (P.cellsOf e) rows] ∧ rows.length ≤ maxLen ∧ ∀ row ∈ rows, tyC P d e row
    | some (.struct fs) => tyF P (tyC P d) fs.toList cs
    | some (.array n e) => tyA (tyC P d e) n cs
    | _ => False
theorem tyC_int {d : Nat} {t : TypeId} {k : IntKind} {cs : List CV} (hu : P.underlying t = some (.int k)) (h : tyC P d t cs) : ∃ n, cs = [.val (.int k n)] ∧ (Lit.int k n).wf = true := by
  cases d with
  | zero => exact h.elim
  | succ d => unfold tyC at h; rw [hu] at h; exact h
theorem tyC_slice {d : Nat} {t e : TypeId} {cs : List CV} (hu : P.underlying t = some (.slice e)) (h : tyC P d t cs) : ∃ d' rows, cs = [.sl (P.cellsOf e) rows] ∧ rows.length ≤ maxLen ∧ ∀ row ∈ rows, tyC P d' e row := by
  cases d with
  | zero => exact h.elim
  | succ d => unfold tyC at h; rw [hu] at h; exact ⟨d, h⟩
theorem tyC_struct {d : Nat} {t : TypeId} {fs : Array Field} {cs : List CV} (hu : P.underlying t = some (.struct fs)) (h : tyC P d t cs) : ∃ d', tyF P (tyC P d') fs.toList cs := by
  cases d with
  | zero => exact h.elim
  | succ d => unfold tyC at h; rw [hu] at h; exact ⟨d, h⟩
theorem rows_map {α : Type} {f : α → List CV} : ∀ {rows : List (List CV)}, (∀ row ∈ rows, ∃ x, row = f x) → ∃ xs : List α, rows = xs.map f
  | [], _ => ⟨[], rfl⟩
  | r :: rs, h => by
    obtain ⟨x, rfl⟩ := h r (by simp)
    obtain ⟨xs, rfl⟩ := rows_map (rows := rs) (fun r hr => h r (by simp [hr]))
    exact ⟨x :: xs, rfl⟩
theorem agg_cells {v : Value} (h : v.cells.size ≠ 1) : v = .agg v.cells := by
  cases v <;> first | rfl | (exact absurd rfl h)
def tileB (P : Program) : List Field → Nat → Nat → Bool
  | [], acc, n => acc == n
  | f :: fs, acc, n => f.offset == acc && tileB P fs (acc + P.cellsOf f.type) n
def plainB (P : Program) : Nat → TypeId → Bool
  | 0, _ => false
  | d + 1, t => match P.underlying t with
    | some .bool => P.cellsOf t == 1
    | some (.int _) => P.cellsOf t == 1
    | some (.slice e) => P.cellsOf t == 1 && decide (0 < P.cellsOf e) && plainB P d e
    | some (.struct fs) => tileB P fs.toList 0 (P.cellsOf t) && fs.toList.all fun f => plainB P d f.type
    | some (.array n e) => P.cellsOf t == n * P.cellsOf e && plainB P d e
    | _ => false
theorem tile_le : ∀ {fs : List Field} {acc n : Nat}, tileB P fs acc n = true → acc ≤ n
  | [], _, _, h => by simp [tileB] at h; omega
  | f :: fs, acc, n, h => by
    simp only [tileB, Bool.and_eq_true] at h
    have := tile_le h.2
    omega
theorem tyF_len {fs : List Field} {r : TypeId → List CV → Prop} (hr : ∀ (f : Field) c, f ∈ fs → r f.type c → c.length = P.cellsOf f.type ∧ c.all CV.one = true) : ∀ {fs' : List Field}, (∀ f ∈ fs', f ∈ fs) → ∀ {acc n : Nat} {cs : List CV}, tileB P fs' acc n = true → tyF P r fs' cs → acc + cs.length = n ∧ cs.all CV.one = true
  | [], _, acc, n, cs, ht, h => by simp [tileB] at ht; simp [tyF] at h; subst h; simp [ht]
  | f :: fs', hm, acc, n, cs, ht, h => by
    simp only [tileB, Bool.and_eq_true] at ht
    obtain ⟨c1, c2, rfl, h1, h2⟩ := h
    obtain ⟨l1, o1⟩ := hr f c1 (hm f (by simp)) h1
    obtain ⟨l2, o2⟩ := tyF_len hr (fun g hg => hm g (by simp [hg])) ht.2 h2
    rw [List.length_append, List.all_append, o1, o2]
    exact ⟨by omega, rfl⟩
theorem tyA_len {r : List CV → Prop} {k : Nat} (hr : ∀ c, r c → c.length = k ∧ c.all CV.one = true) : ∀ {n : Nat} {cs : List CV}, tyA r n cs → cs.length = n * k ∧ cs.all CV.one = true
  | 0, cs, h => by simp [tyA] at h; subst h; simp
  | n + 1, cs, h => by
    obtain ⟨c1, c2, rfl, h1, h2⟩ := h
    obtain ⟨l1, o1⟩ := hr c1 h1
    obtain ⟨l2, o2⟩ := tyA_len hr h2
    rw [List.length_append, List.all_append, o1, o2, l1, l2, Nat.succ_mul]
    exact ⟨by omega, rfl⟩
theorem tyC_len : ∀ {d : Nat} {t : TypeId} {cs : List CV}, plainB P d t = true → tyC P d t cs → cs.length = P.cellsOf t ∧ cs.all CV.one = true
  | 0, _, _, hp, _ => by simp [plainB] at hp
  | d + 1, t, cs, hp, h => by
    unfold plainB at hp
    unfold tyC at h
    split at hp <;> rename_i hu
    · rw [hu] at h; obtain ⟨b, rfl⟩ := h; simp at hp; simp [hp, CV.one]
    · rw [hu] at h; obtain ⟨n, rfl, _⟩ := h; simp at hp; simp [hp, CV.one]
    · rw [hu] at h; obtain ⟨rows, rfl, _⟩ := h; simp at hp; simp [hp.1.1, CV.one]
    · rw [hu] at h
      simp only [Bool.and_eq_true, List.all_eq_true] at hp
      obtain ⟨l, o⟩ := tyF_len (P := P) (fun f c hf hc => tyC_len (hp.2 f hf) hc) (fun f hf => hf) hp.1 h
      exact ⟨by omega, o⟩
    · rw [hu] at h
      simp only [Bool.and_eq_true, beq_iff_eq] at hp
      obtain ⟨l, o⟩ := tyA_len (fun c hc => tyC_len hp.2 hc) h
      exact ⟨by rw [l, hp.1], o⟩
    · simp at hp
def RCs (w : World) (cs : List CV) (vs : List Value) : Prop := cs.length = vs.length ∧ ∀ (i : Nat) x v, cs[i]? = some x → vs[i]? = some v → RepC w (fun _ => False) x v
theorem RCs.append {w : World} {a b : List CV} {c d : List Value} (h : RCs w a c) (k : RCs w b d) : RCs w (a ++ b) (c ++ d) := by
  refine ⟨by rw [List.length_append, List.length_append, h.1, k.1], fun i x v hx hv => ?_⟩
  rw [List.getElem?_append] at hx hv
  rw [← h.1] at hv
  split at hx
  · rename_i hi; rw [if_pos hi] at hv; exact h.2 i x v hx hv
  · rename_i hi; rw [if_neg hi] at hv; exact k.2 _ x v hx hv
theorem RCs.one {w : World} {x : CV} {v : Value} (h : RepC w (fun _ => False) x v) : RCs w [x] [v] := ⟨rfl, fun i y u hx hv => by
  cases i with
  | zero => cases hx; cases hv; exact h
  | succ i => simp at hx⟩
section
variable {H : Type} {enc : TypeId × Value → H} {w : World} {spare : Nat → Bool} {held : Bool}
theorem cell_at {w : World} {a : Addr} {k len i j : Nat} {vr : List Value} (ha : a.spot = none) (h : w.cells? 0 (a.add (i * k)) k = some vr) (hj : j < k) : w.cell? ⟨a.block, a.off + i * k + j, none⟩ = vr[j]? := by
  obtain ⟨_, _, h3⟩ := World.cells?_some h
  rw [← h3 j hj]
  have e : ∀ m : Nat, a.add m = ⟨a.block, a.off + m, none⟩ := fun m => by
    unfold Addr.add
    split
    · rename_i h0; subst h0; cases a; simp at ha; simp [ha]
    · rfl
  rw [e]
  unfold Addr.add
  split
  · rename_i h0; subst h0; rfl
  · rfl
theorem open_tyC : ∀ {d n : Nat} {t : TypeId} {vs : List Value} {x : DataW H × List MemPlace}, plainB P d t = true → DataW.trod enc P w 0 spare held n t vs = some x → ∃ cs, tyC P d t cs ∧ RCs w cs vs
  | 0, _, _, _, _, hp, _ => by simp [plainB] at hp
  | d + 1, n, t, vs, x, hp, h => by
    unfold plainB at hp
    split at hp <;> rename_i hu
    · obtain ⟨b, rfl, _⟩ := DataW.trod_bool hu h
      exact ⟨[.val (.bool b)], by unfold tyC; rw [hu]; exact ⟨b, rfl⟩, .one (.val _)⟩
    · rename_i k
      obtain ⟨m, rfl, _, hw⟩ := DataW.trod_int hu h
      exact ⟨[.val (.int k m)], by unfold tyC; rw [hu]; exact ⟨m, rfl, hw⟩, .one (.val _)⟩
    · rename_i e
      simp only [Bool.and_eq_true, beq_iff_eq, decide_eq_true_eq] at hp
      obtain ⟨⟨_, hk⟩, hpe⟩ := hp
      rcases DataW.trod_slice hu h with ⟨rfl, _⟩ | ⟨a, len, cap, elems, rest, m, _, rfl, _, _, hl, hm, hlen, hel, _⟩
      · exact ⟨[.sl (P.cellsOf e) []], by unfold tyC; rw [hu]; exact ⟨[], rfl, Nat.zero_le _, by simp⟩, .one (.nil _ none 0 (Nat.zero_le _))⟩
      · have hrow : ∀ i, i < len → ∃ vr cr, w.cells? 0 (a.add (i * P.cellsOf e)) (P.cellsOf e) = some vr ∧ tyC P d e cr ∧ RCs w cr vr := fun i hi => by
          have h1 := hel i hi
          rw [List.getElem?_eq_getElem (by omega)] at h1
          obtain ⟨vr, h2, h3⟩ := Option.bind_eq_some_iff.1 h1
          obtain ⟨cr, h4, h5⟩ := open_tyC hpe h3
          exact ⟨vr, cr, h2, h4, h5⟩
        by_cases h0 : len = 0
        · subst h0
          exact ⟨[.sl (P.cellsOf e) []], by unfold tyC; rw [hu]; exact ⟨[], rfl, Nat.zero_le _, by simp⟩, .one (.nil _ (some a) cap hm)⟩
        have hch : ∃ (V : Nat → List Value) (C : Nat → List CV), ∀ i, i < len → w.cells? 0 (a.add (i * P.cellsOf e)) (P.cellsOf e) = some (V i) ∧ tyC P d e (C i) ∧ RCs w (C i) (V i) := by
          refine ⟨fun i => if h : i < len then Classical.choose (hrow i h) else [], fun i => if h : i < len then Classical.choose (Classical.choose_spec (hrow i h)) else [], fun i hi => ?_⟩
          simp only [dif_pos hi]
          exact Classical.choose_spec (Classical.choose_spec (hrow i hi))
        obtain ⟨V, C, hVC⟩ := hch
        have hfirst := hVC 0 (by omega)
        have hsp : a.spot = none := by
          obtain ⟨_, l1, h3⟩ := World.cells?_some hfirst.1
          have h4 := h3 0 hk
          rw [List.getElem?_eq_getElem (by omega)] at h4
          simp only [Nat.zero_mul, Addr.add, if_true] at h4
          unfold World.cell? at h4
          split at h4
          · split at h4
            · cases h4
            · rename_i hs; simpa using hs
          · cases h4
        have hblk : a.block < w.heap.size := by
          have := World.cells?_block hfirst.1 hk
          simpa [Addr.add] using this
        have hlenC : ∀ i, i < len → (C i).length = P.cellsOf e ∧ (C i).all CV.one = true := fun i hi => tyC_len hpe (hVC i hi).2.1
        have hget : ∀ (j : Nat) row, ((List.range len).map C)[j]? = some row → j < len ∧ row = C j := fun j row hj => by
          rw [List.getElem?_map] at hj
          obtain ⟨i, hi, rfl⟩ := Option.map_eq_some_iff.1 hj
          obtain ⟨h1, h2⟩ := List.getElem?_eq_some_iff.1 hi
          simp at h1 h2; subst h2; exact ⟨h1, rfl⟩
        have hsl := RepC.sl (w := w) (N := fun _ => False) (P.cellsOf e) ((List.range len).map C) a.block a.off cap (fun j i => ((V j)[i]?).getD undef) (by simpa using hl) hm hblk (fun h => h) (fun j row hj => by obtain ⟨h1, rfl⟩ := hget j row hj; exact hlenC j h1) (fun j row i y hj hy => by
            obtain ⟨h1, rfl⟩ := hget j row hj
            obtain ⟨q1, q2, q3⟩ := hVC j h1
            have hik : i < P.cellsOf e := by rw [← (hlenC j h1).1]; exact (List.getElem?_eq_some_iff.1 hy).1
            rw [cell_at (len := len) hsp q1 hik]
            have : i < (V j).length := by rw [← q3.1, (hlenC j h1).1]; exact hik
            rw [List.getElem?_eq_getElem this]; rfl) (fun j row i y hj hy => by
            obtain ⟨h1, rfl⟩ := hget j row hj
            obtain ⟨q1, q2, q3⟩ := hVC j h1
            have hik : i < P.cellsOf e := by rw [← (hlenC j h1).1]; exact (List.getElem?_eq_some_iff.1 hy).1
            have : i < (V j).length := by rw [← q3.1, (hlenC j h1).1]; exact hik
            refine q3.2 i y _ hy ?_
            rw [List.getElem?_eq_getElem this]; rfl)
        have ea : a = ⟨a.block, a.off, none⟩ := by cases a; simp at hsp; simp [hsp]
        rw [List.length_map, List.length_range, ← ea] at hsl
        have hrows : ∀ row ∈ (List.range len).map C, tyC P d e row := fun row hr => by
          obtain ⟨i, hi, rfl⟩ := List.mem_map.1 hr
          exact (hVC i (by simpa using hi)).2.1
        exact ⟨[.sl (P.cellsOf e) ((List.range len).map C)], by unfold tyC; rw [hu]; exact ⟨_, rfl, by simp; omega, hrows⟩, .one hsl⟩
    · rename_i fs
      simp only [Bool.and_eq_true, List.all_eq_true] at hp
      obtain ⟨xs, m, _, _, hlen, _, hf⟩ := DataW.trod_struct hu h
      have key : ∀ (fs' : List Field) (acc : Nat), (∀ f ∈ fs', plainB P d f.type = true ∧ ∃ y, DataW.trod enc P w 0 spare held m f.type ((vs.drop f.offset).take (P.cellsOf f.type)) = some y) → tileB P fs' acc (P.cellsOf t) = true → acc ≤ P.cellsOf t → ∃ cs, tyF P (tyC P d) fs' cs ∧ RCs w cs (vs.drop acc) := by
        intro fs'
        induction fs' with
        | nil =>
          intro acc _ ht _
          simp [tileB] at ht
          exact ⟨[], by simp [tyF], by constructor <;> simp [← hlen, ht] <;> omega⟩
        | cons f fs' ih =>
          intro acc hall ht hacc
          simp only [tileB, Bool.and_eq_true, beq_iff_eq] at ht
          obtain ⟨hpf, y, hy⟩ := hall f (by simp)
          obtain ⟨c1, t1, r1⟩ := open_tyC hpf hy
          have hlt := tile_le ht.2
          obtain ⟨c2, t2, r2⟩ := ih (acc + P.cellsOf f.type) (fun g hg => hall g (by simp [hg])) ht.2 hlt
          refine ⟨c1 ++ c2, ⟨c1, c2, rfl, t1, t2⟩, ?_⟩
          rw [ht.1] at r1
          have e : vs.drop acc = (vs.drop acc).take (P.cellsOf f.type) ++ vs.drop (acc + P.cellsOf f.type) := by rw [← List.drop_drop, List.take_append_drop]
          rw [e]; exact r1.append r2
      obtain ⟨cs, h1, h2⟩ := key fs.toList 0 (fun f hf' => by
        refine ⟨hp.2 f hf', ?_⟩
        obtain ⟨i, hi, he⟩ := List.getElem_of_mem hf'
        have := hf i f (by simp at hi; simp at he; simp [← he, hi])
        have hxl : i < xs.length := by simp at hi; omega
        rw [List.getElem?_eq_getElem hxl] at this
        exact ⟨_, this⟩) hp.1 (Nat.zero_le _)
      exact ⟨cs, by unfold tyC; rw [hu]; exact h1, by simpa using h2⟩
    · rename_i k e
      simp only [Bool.and_eq_true, beq_iff_eq] at hp
      obtain ⟨xs, m, _, _, hlen, hxs, hf⟩ := DataW.trod_array hu h
      have key : ∀ (r i : Nat), i + r = k → ∃ cs, tyA (tyC P d e) r cs ∧ RCs w cs (vs.drop (i * P.cellsOf e)) := by
        intro r
        induction r with
        | zero =>
          intro i hi
          have : vs.length ≤ i * P.cellsOf e := by rw [hlen, hp.1]; have : i = k := by omega
                                                   subst this; exact Nat.le_refl _
          exact ⟨[], by simp [tyA], by rw [List.drop_of_length_le this]; constructor <;> simp⟩
        | succ r ih =>
          intro i hi
          have h1 := hf i (by omega)
          rw [List.getElem?_eq_getElem (by omega)] at h1
          obtain ⟨c1, t1, r1⟩ := open_tyC hp.2 h1
          obtain ⟨c2, t2, r2⟩ := ih (i + 1) (by omega)
          refine ⟨c1 ++ c2, ⟨c1, c2, rfl, t1, t2⟩, ?_⟩
          have e' : vs.drop (i * P.cellsOf e) = (vs.drop (i * P.cellsOf e)).take (P.cellsOf e) ++ vs.drop ((i + 1) * P.cellsOf e) := by rw [Nat.succ_mul, ← List.drop_drop, List.take_append_drop]
          rw [e']; exact r1.append r2
      obtain ⟨cs, h1, h2⟩ := key k 0 (by omega)
      exact ⟨cs, by unfold tyC; rw [hu]; exact h1, by simpa using h2⟩
    · simp at hp
theorem trodAll_carry {w w' : World} {base : Nat} {spare : Nat → Bool} {held : Bool} : ∀ {ts : List TypeId} {vs : List Value} {ds : List (DataW H)} {ps : List MemPlace}, DataW.TrodAll enc P w base spare held ts vs ds ps → (∀ p ∈ ps, w.sameAt w' p) → DataW.TrodAll enc P w' base spare held ts vs ds ps
  | [], [], [], _, h, _ => h
  | _ :: _, _ :: _, _ :: _, _, ⟨p, q, ⟨n, h1⟩, h2, e⟩, hs =>
    ⟨p, q, ⟨n, DataW.trod_carry n _ _ _ h1 (fun x hx => hs x (by rw [e]; exact List.mem_append_left _ hx))⟩, trodAll_carry h2 (fun x hx => hs x (by rw [e]; exact List.mem_append_right _ hx)), e⟩
theorem post_ext {T : TypeId → Prop} (K : Kids P T) (hz : ∀ t e, T t → P.underlying t = some (.slice e) → 0 < P.cellsOf e) {f : Func} {s : ChangeSpec} {apart fresh handsOn again : Bool} {W W' : World} {args : Array Value} {v : Value} {ds gs : List (DataW H)} {before : List MemPlace}
    (hT : ∀ t ∈ f.params.toList, T t) (hsv : s.vars = []) (hW : DataW.Whole enc P f.params.toList s.vars apart W args.toList ds gs before)
    (hres : ∀ (b : Nat) (sp : Nat → Bool) (hd : Bool), DataW.TrodAll enc P W' b sp hd f.resultTypes.toList (v.resultList f.resultTypes.size) (s.fn H (ds ++ gs)).results [])
    (hargs : (s.fn H (ds ++ gs)).args = ds) (hvars : (s.fn H (ds ++ gs)).vars = []) (hx : Ext W W')
    (hok : ∀ (j : Nat) (t : TypeId) (r : Value), f.resultTypes[j]? = some t → (v.resultList f.resultTypes.size)[j]? = some r → Value.okWide P W' .any 0 t r) :
    s.post enc P f apart fresh handsOn again W args v W' := by
  have hlt := hW.lt
  have hold : ∀ p ∈ before, (fun b => decide (b < W.heap.size)) p.block = true := fun p hp => by simpa using hlt p hp
  have hW0 := hW
  obtain ⟨p, q, hA, hV, e, hfz, hn⟩ := hW
  rw [hsv] at hV
  obtain ⟨hg, hq⟩ := trodVars_none hV
  subst hq
  rw [List.append_nil] at e
  subst e
  have ha : ∀ sp : Nat → Bool, (∀ p ∈ before, sp p.block = true) → DataW.TrodAll enc P W' 0 sp true f.params.toList args.toList (s.fn H (ds ++ gs)).args before := fun sp hsp => by
    rw [hargs]
    exact trodAll_carry (DataW.TrodAll.respare K hz hT hA hsp) (fun p hp => hx.same (hlt p hp))
  have hv : ∀ sp : Nat → Bool, DataW.TrodVars enc P W' sp s.vars (s.fn H (ds ++ gs)).vars [] := fun sp => by rw [hvars, hsv]; exact rfl
  refine ⟨ds, gs, before, [], before, [], hW0, hres _ _ _, ha _ hold, hv _, World.keptBut_mono (fun p hp => ⟨hp, Or.inr (Or.inl hp)⟩) (hx.frame (· ∈ before)), fun _ => ?_⟩
  refine ⟨hok, _, _, ([] ++ before) ++ [], ⟨[] ++ before, [], trodAll_append (ha _ (fun _ _ => rfl)) (hres _ _ _), hv _, rfl, ?_, ?_⟩, ?_⟩
  · intro b off hp
    simp at hp
    rw [Below.frozen hx (p := ⟨b, off, none⟩) (hlt _ hp)]
    exact hfz b off hp
  · intro h
    simpa using hn h
  · intro p hp _
    simpa using hp
end
end
end Go.Proofs.YtnfggkopledpcaaGreat
/- Dial's types opened. -/
namespace Go.Proofs.YtnfggkopledpcaaGreat
open Go.RowKit Go.ChangeShapes Go.WideShapes Go.ChangeAt
structure DwMax (w : Dw) : Prop where
  n : w.faces.length ≤ 9223372036854775807
  l : ∀ f ∈ w.faces, f.links.length ≤ 9223372036854775807
theorem Tryz.own : ownKnob Tryz.prog.godebug = none := by kernel_rfl
theorem Tryz.kids : Kids Tryz.prog (· < Tryz.prog.types.size) := kids_rows (by kernel_rfl) (by kernel_rfl)
theorem Tryz.full : ∀ t e, t < Tryz.prog.types.size → Tryz.prog.underlying t = some (.slice e) → 0 < Tryz.prog.cellsOf e := slices_full_of Tryz.prog (by kernel_rfl)
theorem Tryz.cellsL : Tryz.prog.cellsOf 59 = 3 := by kernel_rfl
theorem Tryz.cellsF : Tryz.prog.cellsOf 54 = 5 := by kernel_rfl
theorem Tryz.plainW : plainB Tryz.prog 8 26 = true := by kernel_rfl
theorem val_inv {w : World} {N : Nat → Prop} {u v : Value} (h : RepC w N (.val u) v) : v = u := by cases h; rfl
theorem ty_I {d : Nat} {cs : List CV} (h : tyC Tryz.prog d 3 cs) : ∃ n, cs = [I n] := by
  obtain ⟨n, h, _⟩ := tyC_int Tryz.underlying3 h; exact ⟨n, h⟩
theorem ty_span {d : Nat} {cs : List CV} (h : tyC Tryz.prog d 23 cs) : ∃ a b, cs = [I a, I b] := by
  obtain ⟨d', c1, c2, rfl, h1, c3, c4, rfl, h2, h3⟩ := tyC_struct Tryz.underlying23 h
  obtain ⟨a, rfl⟩ := ty_I h1
  obtain ⟨b, rfl⟩ := ty_I h2
  have h3 : c4 = [] := h3
  subst h3
  exact ⟨a, b, rfl⟩
theorem ty_ratio {d : Nat} {cs : List CV} (h : tyC Tryz.prog d 57 cs) : ∃ a b, cs = [I a, I b] := by
  obtain ⟨d', c1, c2, rfl, h1, c3, c4, rfl, h2, h3⟩ := tyC_struct Tryz.underlying57 h
  obtain ⟨a, rfl⟩ := ty_I h1
  obtain ⟨b, rfl⟩ := ty_I h2
  have h3 : c4 = [] := h3
  subst h3
  exact ⟨a, b, rfl⟩
theorem ty_link {d : Nat} {cs : List CV} (h : tyC Tryz.prog d 59 cs) : ∃ x, cs = rowL x := by
  obtain ⟨d', c1, c2, rfl, h1, c3, c4, rfl, h2, h3⟩ := tyC_struct Tryz.underlying59 h
  obtain ⟨a, rfl⟩ := ty_I h1
  obtain ⟨b, c, rfl⟩ := ty_ratio h2
  have h3 : c4 = [] := h3
  subst h3
  exact ⟨⟨a, b, c⟩, rfl⟩
theorem ty_links {d : Nat} {cs : List CV} (h : tyC Tryz.prog d 52 cs) : ∃ xs, cs = [slL xs] ∧ xs.length ≤ 9223372036854775807 := by
  obtain ⟨d', rows, h, hl, h2⟩ := tyC_slice Tryz.underlying52 h
  rw [Tryz.cellsL] at h
  obtain ⟨xs, rfl⟩ := rows_map (f := rowL) (fun row hr => ty_link (h2 row hr))
  exact ⟨xs, h, by simpa [maxLen] using hl⟩
theorem ty_face {d : Nat} {cs : List CV} (h : tyC Tryz.prog d 54 cs) : ∃ f, cs = rowF f ∧ f.links.length ≤ 9223372036854775807 := by
  obtain ⟨d', c1, r1, rfl, h1, c2, r2, rfl, h2, c3, r3, rfl, h3, c4, r4, rfl, h4, h5⟩ := tyC_struct Tryz.underlying54 h
  obtain ⟨a, b, rfl⟩ := ty_span h1
  obtain ⟨l, rfl, hl⟩ := ty_links h2
  obtain ⟨c, rfl⟩ := ty_I h3
  obtain ⟨e, rfl⟩ := ty_I h4
  have h5 : r4 = [] := h5
  subst h5
  exact ⟨⟨a, b, l, c, e⟩, rfl, hl⟩
theorem ty_faces {d : Nat} {cs : List CV} (h : tyC Tryz.prog d 24 cs) : ∃ xs, cs = [slF xs] ∧ xs.length ≤ 9223372036854775807 ∧ ∀ f ∈ xs, f.links.length ≤ 9223372036854775807 := by
  obtain ⟨d', rows, h, hl, h2⟩ := tyC_slice Tryz.underlying24 h
  rw [Tryz.cellsF] at h
  obtain ⟨xs, rfl⟩ := rows_map (f := fun f : {f : Fc // f.links.length ≤ 9223372036854775807} => rowF f.1) (fun row hr => by obtain ⟨f, h1, h2⟩ := ty_face (h2 row hr); exact ⟨⟨f, h2⟩, h1⟩)
  refine ⟨xs.map (·.1), by rw [h]; simp [slF], by simpa [maxLen] using hl, fun f hf => ?_⟩
  obtain ⟨x, _, rfl⟩ := List.mem_map.1 hf
  exact x.2
theorem ty_works {d : Nat} {cs : List CV} (h : tyC Tryz.prog d 26 cs) : ∃ w : Dw, cs = [I w.jump, I w.elo, I w.ehi, slF w.faces] ∧ DwMax w := by
  obtain ⟨d', c1, r1, rfl, h1, c2, r2, rfl, h2, c3, r3, rfl, h3, h4⟩ := tyC_struct Tryz.underlying26 h
  obtain ⟨a, rfl⟩ := ty_I h1
  obtain ⟨b, c, rfl⟩ := ty_span h2
  obtain ⟨l, rfl, hl, hll⟩ := ty_faces h3
  have h4 : r3 = [] := h4
  subst h4
  exact ⟨⟨a, b, c, l⟩, rfl, hl, hll⟩
set_option maxRecDepth 100000 in
theorem open_works {H : Type} {enc : TypeId × Value → H} {w : World} {spare : Nat → Bool} {held : Bool} {v : Value} {x : DataW H} {ps : List MemPlace} (h : DataW.Trod enc Tryz.prog w 0 spare held 26 v x ps) : ∃ c : Dw, RepC w (fun _ => False) (cDw c) v ∧ DwMax c := by
  obtain ⟨n, h⟩ := h
  obtain ⟨cs, h1, h2⟩ := open_tyC Tryz.plainW h
  obtain ⟨c, rfl, hm⟩ := ty_works h1
  have hs : v.cells.size = 4 := by have := h2.1; simp at this; omega
  have hv := agg_cells (v := v) (by omega)
  refine ⟨c, ?_, hm⟩
  rw [hv]
  exact .agg _ _ (by simpa using hs) (fun i x u hx hu => h2.2 i x u hx (by simpa using hu))
end Go.Proofs.YtnfggkopledpcaaGreat
