/- Part 5 of a proof: Dq, Ea, Tb0, Tb, Wa, Wb, Wc, Wd, We, Wf, Bit, Wg, CodeB, Bits, Wh, Wi, Wj, Wk, WLay, Wl, Wm. -/
import Derived.Test.YtlodpljdhdhfmaaGreatD4
import Derived.Test.YtlodpljdhdhfmaaGreatD3
import Derived.Shelf.SlSortCmp.Whole1
import Derived.Shelf.SlSortCmp.NoneTotal
import Derived.Shelf.SlicesG.Cmp
import Derived.Test.YtlodpljdhdhfmaaGreatProg
import Derived.StillTailTactics
import Derived.RegionTactic
import Derived.Laws.ResultCell
import Derived.Laws.Rows
set_option linter.unusedSimpArgs false
set_option linter.unusedVariables false
/- Dial: what joined spans are; what a dial can show. -/
namespace Go.Proofs.YtlodpljdhdhfmaaGreat
open Go.RowKit Go.Sort
def Memb (l : List (Int × Int)) (n : Int) : Prop := ∃ x ∈ l, x.1 ≤ n ∧ n ≤ x.2
def Sep (l : List (Int × Int)) : Prop := l.Pairwise (fun x y => x.2 + 1 < y.1) ∧ ∀ x ∈ l, x.1 ≤ x.2
theorem Sep.tail {x : Int × Int} {l : List (Int × Int)} (h : Sep (x :: l)) : Sep l := ⟨(List.pairwise_cons.1 h.1).2, fun y hy => h.2 y (by simp [hy])⟩
theorem sep_low {x : Int × Int} {l : List (Int × Int)} (h : Sep (x :: l)) {n : Int} (hn : Memb (x :: l) n) : x.1 ≤ n := by
  obtain ⟨y, hy, h1, h2⟩ := hn
  rcases List.mem_cons.1 hy with rfl | hy
  · exact h1
  · have := (List.pairwise_cons.1 h.1).1 y hy
    have := h.2 x (by simp)
    omega
theorem sep_gap {x : Int × Int} {l : List (Int × Int)} (h : Sep (x :: l)) : ¬ Memb (x :: l) (x.2 + 1) := fun hn => by
  obtain ⟨y, hy, h1, h2⟩ := hn
  rcases List.mem_cons.1 hy with rfl | hy
  · omega
  · have := (List.pairwise_cons.1 h.1).1 y hy
    omega
theorem memb_tail {x : Int × Int} {l : List (Int × Int)} (h : Sep (x :: l)) (n : Int) : Memb l n ↔ Memb (x :: l) n ∧ x.2 < n := by
  constructor
  · rintro ⟨y, hy, h1, h2⟩
    have := (List.pairwise_cons.1 h.1).1 y hy
    exact ⟨⟨y, by simp [hy], h1, h2⟩, by omega⟩
  · rintro ⟨⟨y, hy, h1, h2⟩, h3⟩
    rcases List.mem_cons.1 hy with rfl | hy
    · omega
    · exact ⟨y, hy, h1, h2⟩
theorem sep_unique : ∀ {a b : List (Int × Int)}, Sep a → Sep b → (∀ n, Memb a n ↔ Memb b n) → a = b
  | [], [], _, _, _ => rfl
  | [], y :: b, _, hb, h => by
    have := (h y.1).2 ⟨y, by simp, Int.le_refl _, hb.2 y (by simp)⟩
    obtain ⟨z, hz, _⟩ := this
    cases hz
  | x :: a, [], ha, _, h => by
    have := (h x.1).1 ⟨x, by simp, Int.le_refl _, ha.2 x (by simp)⟩
    obtain ⟨z, hz, _⟩ := this
    cases hz
  | x :: a, y :: b, ha, hb, h => by
    have mx : Memb (x :: a) x.1 := ⟨x, by simp, Int.le_refl _, ha.2 x (by simp)⟩
    have my : Memb (y :: b) y.1 := ⟨y, by simp, Int.le_refl _, hb.2 y (by simp)⟩
    have e1 : x.1 = y.1 := Int.le_antisymm (sep_low ha ((h _).2 my)) (sep_low hb ((h _).1 mx))
    have lx := ha.2 x (by simp)
    have ly := hb.2 y (by simp)
    have e2 : x.2 = y.2 := by
      rcases Int.lt_trichotomy x.2 y.2 with hlt | he | hgt
      · exact absurd ((h (x.2 + 1)).2 ⟨y, by simp, by omega, by omega⟩) (sep_gap ha)
      · exact he
      · exact absurd ((h (y.2 + 1)).1 ⟨x, by simp, by omega, by omega⟩) (sep_gap hb)
    have exy : x = y := Prod.ext e1 e2
    subst exy
    rw [sep_unique ha.tail hb.tail fun n => by rw [memb_tail ha, memb_tail hb, h n]]
theorem sep_snoc {o : List (Int × Int)} {l : Int × Int} : Sep (o ++ [l]) ↔ Sep o ∧ (∀ x ∈ o, x.2 + 1 < l.1) ∧ l.1 ≤ l.2 := by
  unfold Sep
  rw [List.pairwise_append]
  constructor
  · rintro ⟨⟨h1, _, h2⟩, h3⟩
    exact ⟨⟨h1, fun x hx => h3 x (by simp [hx])⟩, fun x hx => h2 x hx l (by simp), h3 l (by simp)⟩
  · rintro ⟨⟨h1, h2⟩, h3, h4⟩
    refine ⟨⟨h1, List.pairwise_singleton _ _, fun x hx y hy => by simp at hy; subst hy; exact h3 x hx⟩, fun x hx => ?_⟩
    rcases List.mem_append.1 hx with hx | hx
    · exact h2 x hx
    · simp at hx; subst hx; exact h4
theorem memb_snoc {o : List (Int × Int)} {l : Int × Int} {n : Int} : Memb (o ++ [l]) n ↔ Memb o n ∨ (l.1 ≤ n ∧ n ≤ l.2) := by
  constructor
  · rintro ⟨x, hx, h1, h2⟩
    rcases List.mem_append.1 hx with hx | hx
    · exact .inl ⟨x, hx, h1, h2⟩
    · simp at hx; subst hx; exact .inr ⟨h1, h2⟩
  · rintro (⟨x, hx, h1, h2⟩ | ⟨h1, h2⟩)
    · exact ⟨x, by simp [hx], h1, h2⟩
    · exact ⟨l, by simp, h1, h2⟩
def LowTo (o : List (Int × Int)) (m : Int) : Prop := ∀ x ∈ o, x.1 ≤ m
theorem stepJ_sep {o : List (Int × Int)} {s : Int × Int} (h : Sep o) (hl : LowTo o s.1) (hs : s.1 ≤ s.2) : Sep (stepJ o s) ∧ (∀ n, Memb (stepJ o s) n ↔ Memb o n ∨ (s.1 ≤ n ∧ n ≤ s.2)) ∧ LowTo (stepJ o s) s.1 := by
  rcases List.eq_nil_or_concat o with rfl | ⟨o, l, rfl⟩
  · refine ⟨⟨by simp [stepJ], fun x hx => by simp [stepJ] at hx; subst hx; exact hs⟩, fun n => ?_, fun x hx => by simp [stepJ] at hx; subst hx; exact Int.le_refl _⟩
    simp [stepJ, Memb]
  · rw [List.concat_eq_append] at *
    obtain ⟨h1, h2, h3⟩ := sep_snoc.1 h
    have hll := hl l (by simp)
    unfold stepJ
    simp only [List.getLast?_append, List.getLast?_singleton, Option.some_or, List.dropLast_concat]
    by_cases hc : s.1 ≤ l.2 + 1
    · rw [if_pos hc]
      refine ⟨sep_snoc.2 ⟨h1, h2, ?_⟩, fun n => ?_, fun x hx => ?_⟩
      · simp only; split <;> omega
      · rw [memb_snoc, memb_snoc]
        simp only
        by_cases hm : Memb o n
        · simp [hm]
        · simp only [hm, false_or]
          split <;> omega
      · rcases List.mem_append.1 hx with hx | hx
        · exact hl x (by simp [hx])
        · simp at hx; subst hx; exact hll
    · rw [if_neg hc]
      refine ⟨sep_snoc.2 ⟨h, fun x hx => ?_, hs⟩, fun n => memb_snoc, fun x hx => ?_⟩
      · rcases List.mem_append.1 hx with hx | hx
        · have := h2 x hx; omega
        · simp at hx; subst hx; omega
      · rcases List.mem_append.1 hx with hx | hx
        · exact hl x hx
        · simp at hx; subst hx; exact Int.le_refl _
theorem joinK_sep {ys : List (Int × Int)} (h : ys.Pairwise fun x y => ltS y x = false) (hx : ∀ x ∈ ys, x.1 ≤ x.2) : ∀ {k : Nat}, k ≤ ys.length → Sep (joinK ys k) ∧ (∀ n, Memb (joinK ys k) n ↔ Memb (ys.take k) n) ∧ ∀ (j : Nat) (hj : j < ys.length), k ≤ j → LowTo (joinK ys k) ys[j].1 := by
  intro k
  induction k with
  | zero => intro _; exact ⟨⟨by simp [joinK], fun x hx => by simp [joinK] at hx⟩, fun n => by simp [joinK], fun j hj _ x hx => by simp [joinK] at hx⟩
  | succ k ih =>
    intro hk
    obtain ⟨h1, h2, h3⟩ := ih (by omega)
    have hlt : k < ys.length := by omega
    obtain ⟨g1, g2, g3⟩ := stepJ_sep (s := ys[k]) h1 (h3 k hlt (Nat.le_refl _)) (hx _ (List.getElem_mem _))
    rw [joinK_succ hlt]
    refine ⟨g1, fun n => ?_, fun j hj hkj x hxm => ?_⟩
    · rw [g2, h2, List.take_succ_eq_append_getElem hlt, memb_snoc]
    · have := List.pairwise_iff_getElem.1 h k j hlt hj (by omega)
      simp [ltS] at this
      have := g3 x hxm
      omega
def joinL (xs : List (Int × Int)) : List (Int × Int) := joinK (xs.mergeSort fun x y => !ltS y x) xs.length
theorem joinL_sep {xs : List (Int × Int)} (hx : ∀ x ∈ xs, x.1 ≤ x.2) : Sep (joinL xs) ∧ ∀ n, Memb (joinL xs) n ↔ Memb xs n := by
  have hp := List.mergeSort_perm xs fun x y => !ltS y x
  have hs : (xs.mergeSort fun x y => !ltS y x).Pairwise fun x y => ltS y x = false := (List.pairwise_mergeSort (le := fun x y => !ltS y x) (fun x y z h1 h2 => by simp [ltS] at *; omega) (fun x y => by simp [ltS]; omega) xs).imp fun h => by simpa using h
  obtain ⟨h1, h2, _⟩ := joinK_sep hs (fun x hm => hx x (hp.subset hm)) (k := xs.length) (by rw [hp.length_eq]; exact Nat.le_refl _)
  refine ⟨h1, fun n => (h2 n).trans ?_⟩
  rw [List.take_of_length_le (by rw [hp.length_eq]; exact Nat.le_refl _)]
  exact ⟨fun ⟨x, hm, q⟩ => ⟨x, hp.subset hm, q⟩, fun ⟨x, hm, q⟩ => ⟨x, hp.symm.subset hm, q⟩⟩
theorem mJoin (xs : List (Int × Int)) (hl : xs.length ≤ 1000000) (hs : SmS xs) (hx : ∀ x ∈ xs, x.1 ≤ x.2) : MC Tryz.prog 39 34 2 (xs.map rowSd) [] (Sorts ltS xs) (some (slS (joinL xs))) := by
  obtain ⟨j1, j2⟩ := joinL_sep hx
  refine mJoined xs (joinL xs) hl hs fun ys hp hsrt => ?_
  obtain ⟨h1, h2, _⟩ := joinK_sep hsrt (fun x hm => hx x (hp.subset hm)) (Nat.le_refl _)
  refine sep_unique h1 j1 fun n => (h2 n).trans (Iff.trans ?_ (j2 n).symm)
  rw [List.take_length]
  exact ⟨fun ⟨x, hm, q⟩ => ⟨x, hp.subset hm, q⟩, fun ⟨x, hm, q⟩ => ⟨x, hp.symm.subset hm, q⟩⟩
end Go.Proofs.YtlodpljdhdhfmaaGreat
/- Dial: what a dial can show. -/
namespace Go.Proofs.YtlodpljdhdhfmaaGreat
open Go.RowKit Go.Sort
def cutS (x : Int × Int) : List (Int × Int) := if 0 ≤ x.1 % 43200 + (x.2 - x.1) - 43200 then [(x.1 % 43200, if x.1 % 43200 + (x.2 - x.1) < 43199 then x.1 % 43200 + (x.2 - x.1) else 43199), (0, x.1 % 43200 + (x.2 - x.1) - 43200)]
  else [(x.1 % 43200, if x.1 % 43200 + (x.2 - x.1) < 43199 then x.1 % 43200 + (x.2 - x.1) else 43199)]
def cutK (l : List (Int × Int)) (k : Nat) : List (Int × Int) := (l.take k).flatMap cutS
def showRaw (k : Lo) : List (Int × Int) := cutK (haL k) (haL k).length
def showL (k : Lo) : List (Int × Int) := joinL (showRaw k)
def rShows (w : Dw) (n at' wlo whi : Int) : CV := if lookErr w n at' wlo whi = 0 then .tup [slS (showL (lookOf w n at' wlo whi)), I 0] else .tup [slS [], I (lookErr w n at' wlo whi)]
theorem cutK_succ {l : List (Int × Int)} {k : Nat} {x : Int × Int} (h : l[k]? = some x) : cutK l (k + 1) = cutK l k ++ cutS x := by
  unfold cutK
  rw [List.take_add_one, h]; simp
theorem cutS_len (x : Int × Int) : (cutS x).length ≤ 2 := by unfold cutS; split <;> simp
theorem cutK_len (l : List (Int × Int)) : ∀ k, (cutK l k).length ≤ 2 * k := by
  intro k
  unfold cutK
  have : ∀ m : List (Int × Int), (m.flatMap cutS).length ≤ 2 * m.length := fun m => by
    induction m with
    | nil => simp
    | cons x m ih => rw [List.flatMap_cons, List.length_append, List.length_cons]; have := cutS_len x; omega
  have := this (l.take k)
  have := List.length_take_le k l
  omega
theorem haL_wide {k : Lo} (hk : LoSm k) (hf : k.f.lo ≤ k.f.hi) {x : Int × Int} (hx : x ∈ haL k) : x.1 ≤ x.2 ∧ x.2 ≤ x.1 + 10800 := by
  obtain ⟨d, _, rfl⟩ := List.mem_map.1 hx
  have h1 := hk.f.a
  have h2 := hk.f.d
  have h3 := hk.f.j
  have h4 := hk.f.k
  simp only [handLo, handHi, lagLo, lagHi]
  (repeat' split) <;> omega
theorem cutS_ok {x : Int × Int} (h1 : x.1 ≤ x.2) (h2 : x.2 ≤ x.1 + 10800) : ∀ y ∈ cutS x, y.1 ≤ y.2 ∧ 0 ≤ y.1 ∧ y.2 ≤ 43199 := by
  have g1 := Int.emod_nonneg x.1 (show (43200 : Int) ≠ 0 by decide)
  have g2 := Int.emod_lt_of_pos x.1 (show (0 : Int) < 43200 by decide)
  intro y hy
  unfold cutS at hy
  split at hy
  · simp at hy
    rcases hy with rfl | rfl
    · simp only; split <;> omega
    · simp only; omega
  · simp at hy
    subst hy
    simp only; split <;> omega
theorem showRaw_ok {k : Lo} (hk : LoSm k) (hf : k.f.lo ≤ k.f.hi) : ∀ y ∈ showRaw k, y.1 ≤ y.2 ∧ 0 ≤ y.1 ∧ y.2 ≤ 43199 := fun y hy => by
  unfold showRaw cutK at hy
  rw [List.take_length] at hy
  obtain ⟨x, hx, hy⟩ := List.mem_flatMap.1 hy
  obtain ⟨a, b⟩ := haL_wide hk hf hx
  exact cutS_ok a b y hy
def shI (k : Lo) (j : Nat) (R : HL) : Prop := R = [(12, .box 65 [.own 200 (cutK (haL k) j).length]), (200, .arr 34 2 ((cutK (haL k) j).map rowSd))]
set_option maxHeartbeats 2000000 in
theorem sShows (w : Dw) (hw : DwLen w) (n at' wlo whi : Int) : SC Tryz.prog 19 [cDw w, I n, I at', cS wlo whi] (rShows w n at' wlo whi) := by
  refine mlaw_dial_Shows _ _ (by simp) ?_
  by_cases h : lookErr w n at' wlo whi = 0
  · have hk := look_sm h
    generalize hkk : lookOf w n at' wlo whi = k at hk
    have hlk := sLookOk hw h
    rw [hkk] at hlk
    have hcl : cLook k = .agg [I k.w.jump, I k.w.elo, I k.w.ehi, slF k.w.faces, slX k.w.faces, I k.f.lo, I k.f.hi, slLd k.f.links, I k.f.weight, I k.f.friction, I (slackI k.f.links), I k.at', I k.wlo, I k.whi] := rfl
    obtain ⟨l1, l2⟩ := haL_len hk
    have a1 := hk.a
    have a2 := hk.b
    have hlh : k.f.lo ≤ k.f.hi := by
      obtain ⟨b1, ⟨b2, b3⟩, _⟩ := look_ok h
      have : k.f = w.faces[n.toNat] := by rw [← hkk]; simp [lookOf, b3]
      rw [this]
      have hfo := dw_face b1 (List.getElem_mem b3)
      simp only [fcOK, fcB, spanB, Bool.and_eq_true, decide_eq_true_eq] at hfo
      exact hfo.1.1.1.1.1.1.2
    (repeat' (first | ((first | with_reducible refine st_skip ?_ | with_reducible refine st_exit ?_); (try simp only [seqQ, blockQ, loopQ, forQ, whileQ, reduceIte, Nat.reduceEqDiff])) | (with_reducible refine st_ret ?_; ((try simp only [seqQ, blockQ, loopQ, forQ, whileQ]); first | (with_reducible refine retM_ret ?_) | refine retQ_ret ?_; simp)) | refine st_seq ?_ | refine st_block ?_ | ((with_reducible show (STri _ _ _ _ _) ∧ (STri _ _ _ _ _)); refine And.intro ?_ ?_) | ((first | refine st_reg ?_ | refine buildP_own ?_ | refine appP_own ?_ | refine callP_b (hlk) rfl ?_) <;> (simp -dsimp; (repeat (simp -dsimp (disch := (first | omega | assumption | (refine Bool.eq_false_iff.1 ?_; assumption))) only [wrap_in, if_pos, if_neg]; (try simp -dsimp))))) | ((first | refine guardP_of (fun hc => ?_) (fun hc => ?_) | refine st_cond rfl (fun hc => ?_) (fun hc => ?_)) <;> (try simp only [lqA, lqB, lqC, lqD, lqE, lqF, lqG, lqH, lqI, lqJ, lqK, lqL, lqM, lqN, lqO] at hc) <;> (try (exfalso; first | omega | exact bool_tf hc (by assumption) | exact bool_ft hc (by assumption) | exact absurd (by assumption) hc)) <;> (first | with_reducible show STri _ _ _ _ _ _ | (simp -dsimp [hc]; (repeat (simp -dsimp (disch := (first | omega | assumption | (refine Bool.eq_false_iff.1 ?_; assumption))) only [wrap_in, if_pos, if_neg]; (try simp -dsimp [hc]))))))))
    refine st_nilB 12 0 200 34 2 rfl (by simp) rfl (by simp [newOK]) ?_
    refine st_range (iAllD k hk) [12, 200] [] (fun j R => shI k j R)
      rfl rfl rfl (by kernel_rfl) (by show (0 : Nat) + 1000 ≤ 1000; decide) (fun j hj => by cases hj) (fun row hrow => by obtain ⟨x, _, rfl⟩ := List.mem_map.1 hrow; rfl) (by simp) (by simp) (by simp [shI, cutK]) ?_ ?_
    · rintro j row R rfl hrow Iv1 G1 hGG hin
      obtain ⟨x, hx, rfl⟩ : ∃ x, (haL k)[j]? = some x ∧ row = rowPd x := by
        rw [List.getElem?_map, Option.map_eq_some_iff] at hrow
        obtain ⟨d, h1, h2⟩ := hrow
        exact ⟨d, h1, h2.symm⟩
      have hj : j < (haL k).length := (List.getElem?_eq_some_iff.1 hx).1
      have hlen := cutK_len (haL k) j
      have hs := cutK_succ hx
      have hxm : x ∈ haL k := List.mem_of_getElem? hx
      obtain ⟨x1, x2⟩ := haL_wide hk hlh hxm
      obtain ⟨x3, x4⟩ := haL_bd hk hxm
      have g1 := Int.emod_nonneg x.1 (show (43200 : Int) ≠ 0 by decide)
      have g2 := Int.emod_lt_of_pos x.1 (show (0 : Int) < 43200 by decide)
      have hmd := sModulo x.1 43200 (by decide) (by decide)
      (repeat' (first | ((first | with_reducible refine st_skip ?_ | with_reducible refine st_exit ?_); (try simp only [seqQ, blockQ, loopQ, forQ, whileQ, reduceIte, Nat.reduceEqDiff])) | (with_reducible refine st_ret ?_; ((try simp only [seqQ, blockQ, loopQ, forQ, whileQ]); first | (with_reducible refine retM_ret ?_) | refine retQ_ret ?_; simp)) | refine st_seq ?_ | refine st_block ?_ | ((with_reducible show (STri _ _ _ _ _) ∧ (STri _ _ _ _ _)); refine And.intro ?_ ?_) | ((first | refine st_reg ?_ | refine buildP_own ?_ | refine appP_own ?_) <;> (simp -dsimp; (repeat (simp -dsimp (disch := (first | omega | assumption | (refine Bool.eq_false_iff.1 ?_; assumption))) only [wrap_in, if_pos, if_neg]; (try simp -dsimp))))) | ((first | refine guardP_of (fun hc => ?_) (fun hc => ?_) | refine st_cond rfl (fun hc => ?_) (fun hc => ?_)) <;> (try simp only [lqA, lqB, lqC, lqD, lqE, lqF, lqG, lqH, lqI, lqJ, lqK, lqL, lqM, lqN, lqO] at hc) <;> (try (exfalso; first | omega | exact bool_tf hc (by assumption) | exact bool_ft hc (by assumption) | exact absurd (by assumption) hc)) <;> (first | with_reducible show STri _ _ _ _ _ _ | (simp -dsimp [hc]; (repeat (simp -dsimp (disch := (first | omega | assumption | (refine Bool.eq_false_iff.1 ?_; assumption))) only [wrap_in, if_pos, if_neg]; (try simp -dsimp [hc]))))))))
      refine ⟨rfl, fun Iv2 hin2 => ?_⟩
      have hA : (cutK (haL k) j).length + 1 ≤ 9223372036854775807 := by omega
      have hB : ((cutK (haL k) j).length + 1) * 16 ≤ 140737488355328 := by omega
      have hA2 : (cutK (haL k) j).length + 1 + 1 ≤ 9223372036854775807 := by omega
      have hB2 : ((cutK (haL k) j).length + 1 + 1) * 16 ≤ 140737488355328 := by omega
      by_cases hq : 43200 ≤ x.1 % 43200 + (x.2 - x.1)
      · have e1 : cutS x = [(x.1 % 43200, 43199), (0, x.1 % 43200 + (x.2 - x.1) - 43200)] := by
          unfold cutS; rw [if_pos (by omega), if_neg (by omega)]
        (repeat' (first | ((first | with_reducible refine st_skip ?_ | with_reducible refine st_exit ?_); (try simp only [seqQ, blockQ, loopQ, forQ, whileQ, reduceIte, Nat.reduceEqDiff])) | (with_reducible refine st_ret ?_; ((try simp only [seqQ, blockQ, loopQ, forQ, whileQ]); first | (with_reducible refine retM_ret ?_) | refine retQ_ret ?_; simp [hA, hB, hA2, hB2, hq])) | refine st_seq ?_ | refine st_block ?_ | ((with_reducible show (STri _ _ _ _ _) ∧ (STri _ _ _ _ _)); refine And.intro ?_ ?_) | ((first | refine st_reg ?_ | refine buildP_own ?_ | refine appP_own ?_ | refine callP_b (hmd) rfl ?_) <;> (simp -dsimp [hA, hB, hA2, hB2, hq]; (repeat (simp -dsimp (disch := (first | omega | assumption | (refine Bool.eq_false_iff.1 ?_; assumption))) only [wrap_in, if_pos, if_neg]; (try simp -dsimp [hA, hB, hA2, hB2, hq]))))) | ((first | refine guardP_of (fun hc => ?_) (fun hc => ?_) | refine st_cond rfl (fun hc => ?_) (fun hc => ?_)) <;> (try simp only [lqA, lqB, lqC, lqD, lqE, lqF, lqG, lqH, lqI, lqJ, lqK, lqL, lqM, lqN, lqO] at hc) <;> (try (exfalso; first | omega | exact bool_tf hc (by assumption) | exact bool_ft hc (by assumption) | exact absurd (by assumption) hc)) <;> (first | with_reducible show STri _ _ _ _ _ _ | (simp -dsimp [hA, hB, hA2, hB2, hq, hc]; (repeat (simp -dsimp (disch := (first | omega | assumption | (refine Bool.eq_false_iff.1 ?_; assumption))) only [wrap_in, if_pos, if_neg]; (try simp -dsimp [hA, hB, hA2, hB2, hq, hc]))))))))
        exact ⟨by simp, by simp, by show shI k (j + 1) _; unfold shI; rw [hs, e1]; simp⟩
      · have e1 : cutS x = [(x.1 % 43200, if x.1 % 43200 + (x.2 - x.1) < 43199 then x.1 % 43200 + (x.2 - x.1) else 43199)] := by
          unfold cutS; rw [if_neg (by omega)]
        (repeat' (first | ((first | with_reducible refine st_skip ?_ | with_reducible refine st_exit ?_); (try simp only [seqQ, blockQ, loopQ, forQ, whileQ, reduceIte, Nat.reduceEqDiff])) | (with_reducible refine st_ret ?_; ((try simp only [seqQ, blockQ, loopQ, forQ, whileQ]); first | (with_reducible refine retM_ret ?_) | refine retQ_ret ?_; simp [hA, hB, hA2, hB2, hq])) | refine st_seq ?_ | refine st_block ?_ | ((with_reducible show (STri _ _ _ _ _) ∧ (STri _ _ _ _ _)); refine And.intro ?_ ?_) | ((first | refine st_reg ?_ | refine buildP_own ?_ | refine appP_own ?_ | refine callP_b (hmd) rfl ?_) <;> (simp -dsimp [hA, hB, hA2, hB2, hq]; (repeat (simp -dsimp (disch := (first | omega | assumption | (refine Bool.eq_false_iff.1 ?_; assumption))) only [wrap_in, if_pos, if_neg]; (try simp -dsimp [hA, hB, hA2, hB2, hq]))))) | ((first | refine guardP_of (fun hc => ?_) (fun hc => ?_) | refine st_cond rfl (fun hc => ?_) (fun hc => ?_)) <;> (try simp only [lqA, lqB, lqC, lqD, lqE, lqF, lqG, lqH, lqI, lqJ, lqK, lqL, lqM, lqN, lqO] at hc) <;> (try (exfalso; first | omega | exact bool_tf hc (by assumption) | exact bool_ft hc (by assumption) | exact absurd (by assumption) hc)) <;> (first | with_reducible show STri _ _ _ _ _ _ | (simp -dsimp [hA, hB, hA2, hB2, hq, hc]; (repeat (simp -dsimp (disch := (first | omega | assumption | (refine Bool.eq_false_iff.1 ?_; assumption))) only [wrap_in, if_pos, if_neg]; (try simp -dsimp [hA, hB, hA2, hB2, hq, hc]))))))))
        exact ⟨by simp, by simp, by show shI k (j + 1) _; unfold shI; rw [hs, e1]; simp⟩
    · rintro R rfl
      rw [List.length_map]
      simp only [blockQ, seqQ]
      have hm := mJoin (showRaw k) (by unfold showRaw; have := cutK_len (haL k) (haL k).length; omega) (fun x hx => by have := showRaw_ok hk hlh x hx; omega) (fun x hx => (showRaw_ok hk hlh x hx).1)
      unfold showRaw at hm
      (repeat' (first | ((first | with_reducible refine st_skip ?_ | with_reducible refine st_exit ?_); (try simp only [seqQ, blockQ, loopQ, forQ, whileQ, reduceIte, Nat.reduceEqDiff])) | (with_reducible refine st_ret ?_; ((try simp only [seqQ, blockQ, loopQ, forQ, whileQ]); first | (with_reducible refine retM_ret ?_) | refine retQ_ret ?_; simp)) | refine st_seq ?_ | refine st_block ?_ | ((with_reducible show (STri _ _ _ _ _) ∧ (STri _ _ _ _ _)); refine And.intro ?_ ?_) | ((first | refine st_reg ?_ | ((with_reducible show callMP _ _ _ _ _ _); refine callM_of (hm ) (by decide) (by first | rfl | simp) (by first | rfl | simp) (by first | rfl | simp) (by first | rfl | simp) (fun rows2 hR2 hl2 => ?_);  obtain ⟨ys, rfl, h1, h2⟩ := hR2) | refine buildP_own ?_ | refine appP_own ?_) <;> (simp -dsimp; (repeat (simp -dsimp (disch := (first | omega | assumption | (refine Bool.eq_false_iff.1 ?_; assumption))) only [wrap_in, if_pos, if_neg]; (try simp -dsimp))))) | ((first | refine guardP_of (fun hc => ?_) (fun hc => ?_) | refine st_cond rfl (fun hc => ?_) (fun hc => ?_)) <;> (try simp only [lqA, lqB, lqC, lqD, lqE, lqF, lqG, lqH, lqI, lqJ, lqK, lqL, lqM, lqN, lqO] at hc) <;> (try (exfalso; first | omega | exact bool_tf hc (by assumption) | exact bool_ft hc (by assumption) | exact absurd (by assumption) hc)) <;> (first | with_reducible show STri _ _ _ _ _ _ | (simp -dsimp [hc]; (repeat (simp -dsimp (disch := (first | omega | assumption | (refine Bool.eq_false_iff.1 ?_; assumption))) only [wrap_in, if_pos, if_neg]; (try simp -dsimp [hc]))))))))
      refine CLe.of_eq ?_
      unfold rShows
      rw [if_pos h, hkk]
      rfl
  · (repeat' (first | ((first | with_reducible refine st_skip ?_ | with_reducible refine st_exit ?_); (try simp only [seqQ, blockQ, loopQ, forQ, whileQ, reduceIte, Nat.reduceEqDiff])) | (with_reducible refine st_ret ?_; ((try simp only [seqQ, blockQ, loopQ, forQ, whileQ]); first | (with_reducible refine retM_ret ?_) | refine retQ_ret ?_; simp [h])) | refine st_seq ?_ | refine st_block ?_ | ((with_reducible show (STri _ _ _ _ _) ∧ (STri _ _ _ _ _)); refine And.intro ?_ ?_) | ((first | refine st_reg ?_ | refine buildP_own ?_ | refine appP_own ?_ | refine callP_b (sLookNo hw h) rfl ?_) <;> (simp -dsimp [h]; (repeat (simp -dsimp (disch := (first | omega | assumption | (refine Bool.eq_false_iff.1 ?_; assumption))) only [wrap_in, if_pos, if_neg]; (try simp -dsimp [h]))))) | ((first | refine guardP_of (fun hc => ?_) (fun hc => ?_) | refine st_cond rfl (fun hc => ?_) (fun hc => ?_)) <;> (try simp only [lqA, lqB, lqC, lqD, lqE, lqF, lqG, lqH, lqI, lqJ, lqK, lqL, lqM, lqN, lqO] at hc) <;> (try (exfalso; first | omega | exact bool_tf hc (by assumption) | exact bool_ft hc (by assumption) | exact absurd (by assumption) hc)) <;> (first | with_reducible show STri _ _ _ _ _ _ | (simp -dsimp [h, hc]; (repeat (simp -dsimp (disch := (first | omega | assumption | (refine Bool.eq_false_iff.1 ?_; assumption))) only [wrap_in, if_pos, if_neg]; (try simp -dsimp [h, hc]))))))))
    unfold rShows
    rw [if_neg h]
    exact .tup _ _ (.cons _ _ _ _ (.nil _) (.cons _ _ _ _ (.refl _) .nil))
end Go.Proofs.YtlodpljdhdhfmaaGreat
/- Declarations picked out of other texts. -/
namespace Go.Proofs.YtlodpljdhdhfmaaGreat
open Go.RowKit
theorem selMin {l : List (Int × Int)} : ∀ {k : Nat}, 1 ≤ k → k ≤ l.length → ∀ (i : Nat) (h : i < l.length), i < k → (selK (minB fun x y => x.1 - y.1) l k).1 ≤ l[i].1
  | 0, h, _, _, _, _ => by omega
  | 1, _, hl, i, h, hi => by
    have : i = 0 := by omega
    subst this
    rw [selK_one _ h]; exact Int.le_refl _
  | k + 2, _, hl, i, h, hi => by
    have ih := selMin (l := l) (k := k + 1) (by omega) (by omega)
    rw [selK_succ _ (by omega) (by omega)]
    by_cases hc : (minB fun x y => x.1 - y.1) l[k + 1] (selK (minB fun x y => x.1 - y.1) l (k + 1)) = true
    · rw [if_pos hc]
      simp only [minB, decide_eq_true_eq] at hc
      by_cases hik : i = k + 1
      · subst hik; exact Int.le_refl _
      · have := ih i h (by omega); omega
    · rw [if_neg hc]
      simp only [minB, decide_eq_true_eq] at hc
      by_cases hik : i = k + 1
      · subst hik; omega
      · exact ih i h (by omega)
theorem selMax {l : List (Int × Int)} : ∀ {k : Nat}, 1 ≤ k → k ≤ l.length → ∀ (i : Nat) (h : i < l.length), i < k → l[i].2 ≤ (selK (maxB fun x y => x.2 - y.2) l k).2
  | 0, h, _, _, _, _ => by omega
  | 1, _, hl, i, h, hi => by
    have : i = 0 := by omega
    subst this
    rw [selK_one _ h]; exact Int.le_refl _
  | k + 2, _, hl, i, h, hi => by
    have ih := selMax (l := l) (k := k + 1) (by omega) (by omega)
    rw [selK_succ _ (by omega) (by omega)]
    by_cases hc : (maxB fun x y => x.2 - y.2) l[k + 1] (selK (maxB fun x y => x.2 - y.2) l (k + 1)) = true
    · rw [if_pos hc]
      simp only [maxB, decide_eq_true_eq] at hc
      by_cases hik : i = k + 1
      · subst hik; exact Int.le_refl _
      · have := ih i h (by omega); omega
    · rw [if_neg hc]
      simp only [maxB, decide_eq_true_eq] at hc
      by_cases hik : i = k + 1
      · subst hik; omega
      · exact ih i h (by omega)
theorem cutS_memb {x : Int × Int} (h1 : x.1 ≤ x.2) (h2 : x.2 ≤ x.1 + 10800) (n : Int) : Memb (cutS x) n ↔ (0 ≤ n ∧ n < 43200) ∧ ∃ m, x.1 ≤ m ∧ m ≤ x.2 ∧ m % 43200 = n := by
  have g1 := Int.emod_nonneg x.1 (show (43200 : Int) ≠ 0 by decide)
  have g2 := Int.emod_lt_of_pos x.1 (show (0 : Int) < 43200 by decide)
  unfold cutS Memb
  constructor
  · rintro ⟨y, hy, l1, l2⟩
    split at hy
    · simp at hy
      rcases hy with rfl | rfl
      · simp only at l1 l2
        split at l2
        · exact ⟨by omega, x.1 + (n - x.1 % 43200), by omega, by omega, by omega⟩
        · exact ⟨by omega, x.1 + (n - x.1 % 43200), by omega, by omega, by omega⟩
      · simp only at l1 l2
        exact ⟨by omega, x.1 + (n + 43200 - x.1 % 43200), by omega, by omega, by omega⟩
    · simp at hy
      subst hy
      simp only at l1 l2
      split at l2
      · exact ⟨by omega, x.1 + (n - x.1 % 43200), by omega, by omega, by omega⟩
      · exact ⟨by omega, x.1 + (n - x.1 % 43200), by omega, by omega, by omega⟩
  · rintro ⟨⟨n1, n2⟩, m, m1, m2, rfl⟩
    by_cases hw : x.1 % 43200 + (m - x.1) < 43200
    · split
      · refine ⟨_, .head _, by simp only; omega, ?_⟩
        simp only; split <;> omega
      · refine ⟨_, .head _, by simp only; omega, ?_⟩
        simp only; split <;> omega
    · rw [if_pos (by omega)]
      exact ⟨_, .tail _ (.head _), by simp only; omega, by simp only; omega⟩
theorem showRaw_memb {k : Lo} (hk : LoSm k) (hf : k.f.lo ≤ k.f.hi) (n : Int) : Memb (showRaw k) n ↔ (0 ≤ n ∧ n < 43200) ∧ ∃ x ∈ haL k, ∃ m, x.1 ≤ m ∧ m ≤ x.2 ∧ m % 43200 = n := by
  unfold showRaw cutK
  rw [List.take_length]
  constructor
  · rintro ⟨y, hy, l1, l2⟩
    obtain ⟨x, hx, hy⟩ := List.mem_flatMap.1 hy
    obtain ⟨a, b⟩ := haL_wide hk hf hx
    obtain ⟨p, m, q⟩ := (cutS_memb a b n).1 ⟨y, hy, l1, l2⟩
    exact ⟨p, x, hx, m, q⟩
  · rintro ⟨p, x, hx, m, q⟩
    obtain ⟨a, b⟩ := haL_wide hk hf hx
    obtain ⟨y, hy, l⟩ := (cutS_memb a b n).2 ⟨p, m, q⟩
    exact ⟨y, List.mem_flatMap.2 ⟨x, hx, hy⟩, l⟩
end Go.Proofs.YtlodpljdhdhfmaaGreat
/- A dial with one face and one link: by how much it is off, and what it shows. -/
namespace Go.Proofs.YtlodpljdhdhfmaaGreat
open Go.RowKit
def dlF (s w fr : Int) : Fc := ⟨0, 0, [⟨s, 1, 1⟩], w, fr⟩
theorem slack_one (s : Int) (h : 0 ≤ s) : slackI [⟨s, 1, 1⟩] = (s * 3600 + 999) / 1000 := by
  have h1 : denK [⟨s, 1, 1⟩] 1 = 1 := by
    show (1 : Int).tdiv (Int.gcd 1 1) * 1 = 1
    decide
  have h2 : numK [⟨s, 1, 1⟩] 1 = s * 3600 := by
    show stepN (denK [⟨s, 1, 1⟩] 1) 0 ⟨s, 1, 1⟩ = s * 3600
    rw [h1]
    unfold stepN
    simp
  unfold slackI overI
  show (numK [⟨s, 1, 1⟩] 1 + 1000 * denK [⟨s, 1, 1⟩] 1 - 1).tdiv (1000 * denK [⟨s, 1, 1⟩] 1) = _
  rw [h1, h2, Int.tdiv_eq_ediv_of_nonneg (by omega)]
  congr 1
  omega
def dlW (j el eh s w fr : Int) : Dw := ⟨j, el, eh, [dlF s w fr]⟩
structure DlOk (j el eh s w fr : Int) : Prop where
  j : j = 1 ∨ j = 10 ∨ j = 20 ∨ j = 30 ∨ j = 60
  e0 : -3600 ≤ el
  e1 : el ≤ eh
  e2 : eh ≤ 3600
  s0 : 0 ≤ s
  s1 : s ≤ 1000
  w0 : -10000 ≤ w
  w1 : w ≤ 10000
  f0 : 0 ≤ fr
  f1 : fr ≤ 10000
theorem dl_fc {j el eh s w fr : Int} (h : DlOk j el eh s w fr) : fcOK (dlF s w fr) = true := by
  have h1 := h.s0
  have h2 := h.s1
  have h3 := h.w0
  have h4 := h.w1
  have h5 := h.f0
  have h6 := h.f1
  unfold fcOK dlF
  simp only
  rw [slack_one s h.s0]
  unfold fcB spanB inB lkB inB
  simp
  omega
theorem dl_ok {j el eh s w fr : Int} (h : DlOk j el eh s w fr) : dwB (dlW j el eh s w fr) = true := by
  have h1 := h.e0
  have h2 := h.e1
  have h3 := h.e2
  have hf := dl_fc h
  have hj : inB 1 3600 j = true ∧ (3600 % j == 0) = true := by
    rcases h.j with e | e | e | e | e <;> subst e <;> decide
  unfold dwB dlW
  simp only
  rw [hj.1, hj.2]
  unfold spanB
  simp [hf, inB]
  omega
theorem dl_len (j el eh s w fr : Int) : DwLen (dlW j el eh s w fr) := ⟨by simp [dlW], fun f hf => by
  unfold dlW at hf
  rw [List.mem_singleton.1 hf]
  simp [dlF]⟩
theorem dl_look {j el eh s w fr : Int} (h : DlOk j el eh s w fr) {t wlo whi : Int} (t0 : 0 ≤ t) (t1 : t ≤ 3155760000) (w0 : -10000 ≤ wlo) (w1 : wlo ≤ whi) (w2 : whi ≤ 10000) : lookErr (dlW j el eh s w fr) 0 t wlo whi = 0 := by
  have h1 : inB 0 (((dlW j el eh s w fr).faces.length : Int) - 1) 0 = true := by simp [dlW, inB]
  have h2 : inB 0 3155760000 t = true := by simp [inB]; omega
  have h3 : spanB (-10000) 10000 wlo whi = true := by simp [spanB]; omega
  unfold lookErr
  rw [dl_ok h, h1, h2, h3]
  simp
theorem look_le {k : Lo} {x : Int × Int} (hx : x ∈ haL k) : k.at' + offLo k ≤ x.1 ∧ x.2 ≤ k.at' + offHi k := by
  obtain ⟨i, hi, rfl⟩ := List.mem_iff_getElem.1 hx
  have a := selMin (l := haL k) (k := (haL k).length) (by omega) (Nat.le_refl _) i hi hi
  have b := selMax (l := haL k) (k := (haL k).length) (by omega) (Nat.le_refl _) i hi hi
  unfold offLo offHi
  omega
theorem look_bd {k : Lo} (hk : LoSm k) {x : Int × Int} (hx : x ∈ haL k) : k.at' + k.w.elo - k.w.jump + k.f.lo - slackI k.f.links ≤ x.1 ∧ x.2 ≤ k.at' + k.w.ehi + k.f.hi := by
  unfold haL at hx
  obtain ⟨d, hd, rfl⟩ := List.mem_map.1 hx
  unfold drL at hd
  obtain ⟨i, hi, rfl⟩ := List.mem_map.1 hd
  have hi := List.mem_range.1 hi
  have j1 := hk.w.a
  have h2 := (dr_lt (by omega)).1 hi
  obtain ⟨d1, d2⟩ := down_le (n := k.at' + k.w.elo) (b := k.w.jump) (by omega)
  have h3 : 0 ≤ (i : Int) * k.w.jump := Int.mul_nonneg (by omega) (by omega)
  obtain ⟨g1, g2, g3, g4⟩ := lag_le k.f (slackI k.f.links) (drAt k.w k.at' i) k.wlo k.whi hk.f.j
  simp only [handLo, handHi]
  unfold drAt at *
  omega
theorem look_off {k : Lo} (hk : LoSm k) (hf : k.f.lo ≤ k.f.hi) : k.w.elo - k.w.jump + k.f.lo - slackI k.f.links ≤ offLo k ∧ offLo k ≤ offHi k ∧ offHi k ≤ k.w.ehi + k.f.hi := by
  obtain ⟨l1, l2⟩ := haL_len hk
  have m1 := selK_mem (minB fun x y => x.1 - y.1) l1 (k := (haL k).length) (by omega) (Nat.le_refl _)
  have m2 := selK_mem (maxB fun x y => x.2 - y.2) l1 (k := (haL k).length) (by omega) (Nat.le_refl _)
  have b1 := look_bd hk m1
  have b2 := look_bd hk m2
  have c1 := look_le m1
  have c2 := (haL_wide hk hf m1).1
  unfold offLo offHi at *
  omega
theorem show_in {k : Lo} (hk : LoSm k) (hf : k.f.lo ≤ k.f.hi) {n : Int} (h : Memb (showL k) n) : (0 ≤ n ∧ n < 43200) ∧ ∃ m, k.at' + offLo k ≤ m ∧ m ≤ k.at' + offHi k ∧ m % 43200 = n := by
  have hj := (joinL_sep (fun x hx => (showRaw_ok hk hf x hx).1)).2 n
  obtain ⟨a, x, hx, m, m1, m2, m3⟩ := (showRaw_memb hk hf n).1 (hj.1 h)
  have := look_le hx
  exact ⟨a, m, by omega, by omega, m3⟩
theorem show_row {k : Lo} (hk : LoSm k) (hf : k.f.lo ≤ k.f.hi) {y : Int × Int} (h : y ∈ showL k) : Memb (showL k) y.1 ∧ Memb (showL k) y.2 := by
  have hs := (joinL_sep (fun x hx => (showRaw_ok hk hf x hx).1)).1.2 y h
  exact ⟨⟨y, h, Int.le_refl _, hs⟩, ⟨y, h, hs, Int.le_refl _⟩⟩
theorem show_ne {k : Lo} (hk : LoSm k) (hf : k.f.lo ≤ k.f.hi) : 0 < (showL k).length := by
  obtain ⟨l1, l2⟩ := haL_len hk
  have hx : (haL k)[0] ∈ haL k := List.getElem_mem l1
  have hj := (joinL_sep (fun x hx => (showRaw_ok hk hf x hx).1)).2 ((haL k)[0].1 % 43200)
  have hw := haL_wide hk hf hx
  obtain ⟨y, hy, _⟩ := hj.2 ((showRaw_memb hk hf _).2 ⟨by omega, _, hx, (haL k)[0].1, Int.le_refl _, hw.1, rfl⟩)
  exact List.length_pos_of_mem hy
end Go.Proofs.YtlodpljdhdhfmaaGreat
/- Wire, I: small functions. -/
namespace Go.Proofs.YtlodpljdhdhfmaaGreat
open Go.RowKit
theorem sWithin1W (n lo hi : Int) : SC Tryz.prog 105 [I n, .ref [I lo], .ref [I hi]] (B (outB lo hi n)) := by
  refine law_wire_within_1 _ _ (by simp) ?_
  unfold outB
  (repeat' (first | ((first | with_reducible refine st_skip ?_ | with_reducible refine st_exit ?_); (try simp only [seqQ, blockQ, loopQ, forQ, whileQ, reduceIte, Nat.reduceEqDiff])) | (with_reducible refine st_ret ?_; ((try simp only [seqQ, blockQ, loopQ, forQ, whileQ]); first | (with_reducible refine retM_ret ?_) | refine retQ_ret ?_; simp)) | refine st_seq ?_ | refine st_block ?_ | ((with_reducible show (STri _ _ _ _ _) ∧ (STri _ _ _ _ _)); refine And.intro ?_ ?_) | ((first | refine st_reg ?_ | refine buildP_own ?_ | refine appP_own ?_) <;> (simp -dsimp; (repeat (simp -dsimp (disch := (first | omega | assumption | (refine Bool.eq_false_iff.1 ?_; assumption))) only [wrap_in, if_pos, if_neg]; (try simp -dsimp))))) | ((first | refine guardP_of (fun hc => ?_) (fun hc => ?_) | refine st_cond rfl (fun hc => ?_) (fun hc => ?_)) <;> (try simp only [lqA, lqB, lqC, lqD, lqE, lqF, lqG, lqH, lqI, lqJ, lqK, lqL, lqM, lqN, lqO] at hc) <;> (try (exfalso; first | omega | exact bool_tf hc (by assumption) | exact bool_ft hc (by assumption) | exact absurd (by assumption) hc)) <;> (first | with_reducible show STri _ _ _ _ _ _ | (simp -dsimp [hc]; (repeat (simp -dsimp (disch := (first | omega | assumption | (refine Bool.eq_false_iff.1 ?_; assumption))) only [wrap_in, if_pos, if_neg]; (try simp -dsimp [hc]))))))))
  all_goals (refine CLe.bool ?_; rw [Bool.eq_iff_iff]; simp; try omega)
theorem sWithinW (lo hi : Int) (l : List Int) (hl : l.length ≤ 1000000) : SC Tryz.prog 78 [I lo, I hi, slI l] (B (allIn lo hi l)) := by
  refine law_wire_within _ _ (by simp) ?_
  (repeat' (first | ((first | with_reducible refine st_skip ?_ | with_reducible refine st_exit ?_); (try simp only [seqQ, blockQ, loopQ, forQ, whileQ, reduceIte, Nat.reduceEqDiff])) | (with_reducible refine st_ret ?_; ((try simp only [seqQ, blockQ, loopQ, forQ, whileQ]); first | (with_reducible refine retM_ret ?_) | refine retQ_ret ?_; simp)) | refine st_seq ?_ | refine st_block ?_ | ((with_reducible show (STri _ _ _ _ _) ∧ (STri _ _ _ _ _)); refine And.intro ?_ ?_) | ((first | refine st_reg ?_ | refine buildP_own ?_ | refine appP_own ?_ | refine callP_b (sContainsFunc l 105 [] [.ref [I lo], .ref [I hi]] (outB lo hi) hl ⟨by kernel_rfl⟩ (fun x _ => sWithin1W x lo hi)) rfl ?_) <;> (simp -dsimp; (repeat (simp -dsimp (disch := (first | omega | assumption | (refine Bool.eq_false_iff.1 ?_; assumption))) only [wrap_in, if_pos, if_neg]; (try simp -dsimp))))) | ((first | refine guardP_of (fun hc => ?_) (fun hc => ?_) | refine st_cond rfl (fun hc => ?_) (fun hc => ?_)) <;> (try simp only [lqA, lqB, lqC, lqD, lqE, lqF, lqG, lqH, lqI, lqJ, lqK, lqL, lqM, lqN, lqO] at hc) <;> (try (exfalso; first | omega | exact bool_tf hc (by assumption) | exact bool_ft hc (by assumption) | exact absurd (by assumption) hc)) <;> (first | with_reducible show STri _ _ _ _ _ _ | (simp -dsimp [hc]; (repeat (simp -dsimp (disch := (first | omega | assumption | (refine Bool.eq_false_iff.1 ?_; assumption))) only [wrap_in, if_pos, if_neg]; (try simp -dsimp [hc]))))))))
  all_goals (refine CLe.bool ?_; exact allIn_eq lo hi l)
def spanW (lo hi most : Int) : Bool := decide (-most ≤ lo) && decide (lo ≤ hi) && decide (hi ≤ most)
theorem sIsSpanW (lo hi most : Int) (h : 0 ≤ most) (h2 : most ≤ 1000000) : SC Tryz.prog 80 [.agg [I lo, I hi], I most] (B (spanW lo hi most)) := by
  refine law_wire_isSpan _ _ (by simp) ?_
  have e : (allIn (-most) most [lo, hi] && decide (lo ≤ hi)) = spanW lo hi most := by
    unfold allIn inB spanW
    rw [Bool.eq_iff_iff]; simp; omega
  (repeat' (first | ((first | with_reducible refine st_skip ?_ | with_reducible refine st_exit ?_); (try simp only [seqQ, blockQ, loopQ, forQ, whileQ, reduceIte, Nat.reduceEqDiff])) | (with_reducible refine st_ret ?_; ((try simp only [seqQ, blockQ, loopQ, forQ, whileQ]); first | (with_reducible refine retM_ret ?_) | refine retQ_ret ?_; simp)) | refine st_seq ?_ | refine st_block ?_ | ((with_reducible show (STri _ _ _ _ _) ∧ (STri _ _ _ _ _)); refine And.intro ?_ ?_) | ((first | refine st_reg ?_ | refine buildP_own ?_ | refine appP_own ?_ | refine callP_b (sWithinW (-most) most [lo, hi] (by simp)) rfl ?_) <;> (simp -dsimp; (repeat (simp -dsimp (disch := (first | omega | assumption | (refine Bool.eq_false_iff.1 ?_; assumption))) only [wrap_in, if_pos, if_neg]; (try simp -dsimp))))) | ((first | refine guardP_of (fun hc => ?_) (fun hc => ?_) | refine st_cond rfl (fun hc => ?_) (fun hc => ?_)) <;> (try simp only [lqA, lqB, lqC, lqD, lqE, lqF, lqG, lqH, lqI, lqJ, lqK, lqL, lqM, lqN, lqO] at hc) <;> (try (exfalso; first | omega | exact bool_tf hc (by assumption) | exact bool_ft hc (by assumption) | exact absurd (by assumption) hc)) <;> (first | with_reducible show STri _ _ _ _ _ _ | (simp -dsimp [hc]; (repeat (simp -dsimp (disch := (first | omega | assumption | (refine Bool.eq_false_iff.1 ?_; assumption))) only [wrap_in, if_pos, if_neg]; (try simp -dsimp [hc]))))))))
  all_goals (refine CLe.bool ?_; simp_all)
theorem sModuloW (n b : Int) (h3 : 0 < b) (h4 : b ≤ 1000000000000) : SC Tryz.prog 173 [I n, I b] (I (n % b)) := by
  refine law_wire_modulo _ _ (by simp) ?_
  have hne : ¬ b = 0 := by omega
  have hb : IntKind.i64.wrap (n.tmod b + b) = n.tmod b + b := by
    have := tmod_lt n b h3
    exact wrap_in _ (by omega) (by omega)
  have he := mod_eq n b h3
  (repeat' (first | ((first | with_reducible refine st_skip ?_ | with_reducible refine st_exit ?_); (try simp only [seqQ, blockQ, loopQ, forQ, whileQ, reduceIte, Nat.reduceEqDiff])) | (with_reducible refine st_ret ?_; ((try simp only [seqQ, blockQ, loopQ, forQ, whileQ]); first | (with_reducible refine retM_ret ?_) | refine retQ_ret ?_; simp [hne, hb, he])) | refine st_seq ?_ | refine st_block ?_ | ((with_reducible show (STri _ _ _ _ _) ∧ (STri _ _ _ _ _)); refine And.intro ?_ ?_) | ((first | refine st_reg ?_ | refine buildP_own ?_ | refine appP_own ?_) <;> (simp -dsimp [hne, hb, he]; (repeat (simp -dsimp (disch := (first | omega | assumption | (refine Bool.eq_false_iff.1 ?_; assumption))) only [wrap_in, if_pos, if_neg]; (try simp -dsimp [hne, hb, he]))))) | ((first | refine guardP_of (fun hc => ?_) (fun hc => ?_) | refine st_cond rfl (fun hc => ?_) (fun hc => ?_)) <;> (try simp only [lqA, lqB, lqC, lqD, lqE, lqF, lqG, lqH, lqI, lqJ, lqK, lqL, lqM, lqN, lqO] at hc) <;> (try (exfalso; first | omega | exact bool_tf hc (by assumption) | exact bool_ft hc (by assumption) | exact absurd (by assumption) hc)) <;> (first | with_reducible show STri _ _ _ _ _ _ | (simp -dsimp [hne, hb, he, hc]; (repeat (simp -dsimp (disch := (first | omega | assumption | (refine Bool.eq_false_iff.1 ?_; assumption))) only [wrap_in, if_pos, if_neg]; (try simp -dsimp [hne, hb, he, hc]))))))))
  exact .refl _
theorem sDownW (n b : Int) (h1 : -1000000000000000000 ≤ n) (h2 : n ≤ 1000000000000000000) (h3 : 0 < b) (h4 : b ≤ 1000000000000) : SC Tryz.prog 171 [I n, I b] (I (n / b)) := by
  refine law_wire_down _ _ (by simp) ?_
  have hne : ¬ b = 0 := by omega
  have h5 := Int.emod_nonneg n (show b ≠ 0 by omega)
  have h6 := Int.emod_lt_of_pos n h3
  have h7 : (n - n % b).tdiv b = n / b := by
    have e : n - n % b = b * (n / b) := by have := Int.emod_add_mul_ediv n b; omega
    rw [e, Int.mul_tdiv_cancel_left _ hne]
  have h8 : IntKind.i64.wrap (n / b) = n / b := by
    have e := Int.natAbs_tdiv_le_natAbs (n - n % b) b
    rw [h7] at e
    exact wrap_in _ (by omega) (by omega)
  (repeat' (first | ((first | with_reducible refine st_skip ?_ | with_reducible refine st_exit ?_); (try simp only [seqQ, blockQ, loopQ, forQ, whileQ, reduceIte, Nat.reduceEqDiff])) | (with_reducible refine st_ret ?_; ((try simp only [seqQ, blockQ, loopQ, forQ, whileQ]); first | (with_reducible refine retM_ret ?_) | refine retQ_ret ?_; simp [hne, h7, h8])) | refine st_seq ?_ | refine st_block ?_ | ((with_reducible show (STri _ _ _ _ _) ∧ (STri _ _ _ _ _)); refine And.intro ?_ ?_) | ((first | refine st_reg ?_ | refine buildP_own ?_ | refine appP_own ?_ | refine callP_b (sModuloW n b h3 h4) rfl ?_) <;> (simp -dsimp [hne, h7, h8]; (repeat (simp -dsimp (disch := (first | omega | assumption | (refine Bool.eq_false_iff.1 ?_; assumption))) only [wrap_in, if_pos, if_neg]; (try simp -dsimp [hne, h7, h8]))))) | ((first | refine guardP_of (fun hc => ?_) (fun hc => ?_) | refine st_cond rfl (fun hc => ?_) (fun hc => ?_)) <;> (try simp only [lqA, lqB, lqC, lqD, lqE, lqF, lqG, lqH, lqI, lqJ, lqK, lqL, lqM, lqN, lqO] at hc) <;> (try (exfalso; first | omega | exact bool_tf hc (by assumption) | exact bool_ft hc (by assumption) | exact absurd (by assumption) hc)) <;> (first | with_reducible show STri _ _ _ _ _ _ | (simp -dsimp [hne, h7, h8, hc]; (repeat (simp -dsimp (disch := (first | omega | assumption | (refine Bool.eq_false_iff.1 ?_; assumption))) only [wrap_in, if_pos, if_neg]; (try simp -dsimp [hne, h7, h8, hc]))))))))
  exact .refl _
def upI (n b : Int) : Int := -(-n / b)
theorem sUpW (n b : Int) (h1 : -1000000000000000000 ≤ n) (h2 : n ≤ 1000000000000000000) (h3 : 0 < b) (h4 : b ≤ 1000000000000) : SC Tryz.prog 172 [I n, I b] (I (upI n b)) := by
  refine law_wire_up _ _ (by simp) ?_
  unfold upI
  have e := Int.natAbs_ediv_le_natAbs (-n) b
  (repeat' (first | ((first | with_reducible refine st_skip ?_ | with_reducible refine st_exit ?_); (try simp only [seqQ, blockQ, loopQ, forQ, whileQ, reduceIte, Nat.reduceEqDiff])) | (with_reducible refine st_ret ?_; ((try simp only [seqQ, blockQ, loopQ, forQ, whileQ]); first | (with_reducible refine retM_ret ?_) | refine retQ_ret ?_; simp)) | refine st_seq ?_ | refine st_block ?_ | ((with_reducible show (STri _ _ _ _ _) ∧ (STri _ _ _ _ _)); refine And.intro ?_ ?_) | ((first | refine st_reg ?_ | refine buildP_own ?_ | refine appP_own ?_ | refine callP_b (sDownW (-n) b (by omega) (by omega) h3 h4) rfl ?_) <;> (simp -dsimp; (repeat (simp -dsimp (disch := (first | omega | assumption | (refine Bool.eq_false_iff.1 ?_; assumption))) only [wrap_in, if_pos, if_neg]; (try simp -dsimp))))) | ((first | refine guardP_of (fun hc => ?_) (fun hc => ?_) | refine st_cond rfl (fun hc => ?_) (fun hc => ?_)) <;> (try simp only [lqA, lqB, lqC, lqD, lqE, lqF, lqG, lqH, lqI, lqJ, lqK, lqL, lqM, lqN, lqO] at hc) <;> (try (exfalso; first | omega | exact bool_tf hc (by assumption) | exact bool_ft hc (by assumption) | exact absurd (by assumption) hc)) <;> (first | with_reducible show STri _ _ _ _ _ _ | (simp -dsimp [hc]; (repeat (simp -dsimp (disch := (first | omega | assumption | (refine Bool.eq_false_iff.1 ?_; assumption))) only [wrap_in, if_pos, if_neg]; (try simp -dsimp [hc]))))))))
  exact .refl _
end Go.Proofs.YtlodpljdhdhfmaaGreat
/- Wire, II: sources. -/
namespace Go.Proofs.YtlodpljdhdhfmaaGreat
open Go.RowKit
structure Wsrc where
  (kind elo ehi at' dlo dhi every : Int) (table : List Int)
structure Wnt where
  (src tick said : Int)
def rowSr (s : Wsrc) : List CV := [I s.kind, I s.elo, I s.ehi, I s.at', I s.dlo, I s.dhi, I s.every, slI s.table]
def cSr (s : Wsrc) : CV := .agg (rowSr s)
def slSr (w : List Wsrc) : CV := .sl 8 (w.map rowSr)
def rowN (n : Wnt) : List CV := [I n.src, I n.tick, I n.said]
def cN (n : Wnt) : CV := .agg (rowN n)
def slN (l : List Wnt) : CV := .sl 3 (l.map rowN)
attribute [simp] rowSr cSr slSr rowN cN slN
def within1 (lo hi n : Int) : Bool := decide (lo ≤ n) && decide (n ≤ hi)
theorem allIn_one (lo hi n : Int) : allIn lo hi [n] = within1 lo hi n := by simp [allIn, inB, within1]
def clockV (s : Wsrc) : Bool := within1 0 3155760000 s.at' && spanW s.dlo s.dhi 100000
def eventV (s : Wsrc) : Bool := within1 0 3155760000 s.at' && within1 1 3155760000 s.every
def sunV (s : Wsrc) : Bool := within1 1 366 s.table.length && allIn (-3600) 3600 s.table
theorem sClockV (s : Wsrc) : SC Tryz.prog 170 [cSr s] (B (clockV s)) := by
  refine law_wire_clock_isValid _ _ (by simp) ?_
  unfold clockV
  (repeat' (first | ((first | with_reducible refine st_skip ?_ | with_reducible refine st_exit ?_); (try simp only [seqQ, blockQ, loopQ, forQ, whileQ, reduceIte, Nat.reduceEqDiff])) | (with_reducible refine st_ret ?_; ((try simp only [seqQ, blockQ, loopQ, forQ, whileQ]); first | (with_reducible refine retM_ret ?_) | refine retQ_ret ?_; simp)) | refine st_seq ?_ | refine st_block ?_ | ((with_reducible show (STri _ _ _ _ _) ∧ (STri _ _ _ _ _)); refine And.intro ?_ ?_) | ((first | refine st_reg ?_ | refine buildP_own ?_ | refine appP_own ?_ | refine callP_b (sWithinW 0 3155760000 [s.at'] (by simp)) rfl ?_ | refine callP_b (sIsSpanW s.dlo s.dhi 100000 (by omega) (by omega)) rfl ?_) <;> (simp -dsimp; (repeat (simp -dsimp (disch := (first | omega | assumption | (refine Bool.eq_false_iff.1 ?_; assumption))) only [wrap_in, if_pos, if_neg]; (try simp -dsimp))))) | ((first | refine guardP_of (fun hc => ?_) (fun hc => ?_) | refine st_cond rfl (fun hc => ?_) (fun hc => ?_)) <;> (try simp only [lqA, lqB, lqC, lqD, lqE, lqF, lqG, lqH, lqI, lqJ, lqK, lqL, lqM, lqN, lqO] at hc) <;> (try (exfalso; first | omega | exact bool_tf hc (by assumption) | exact bool_ft hc (by assumption) | exact absurd (by assumption) hc)) <;> (first | with_reducible show STri _ _ _ _ _ _ | (simp -dsimp [hc]; (repeat (simp -dsimp (disch := (first | omega | assumption | (refine Bool.eq_false_iff.1 ?_; assumption))) only [wrap_in, if_pos, if_neg]; (try simp -dsimp [hc]))))))))
  all_goals (refine CLe.bool ?_; rw [allIn_one] at hc; simp [hc])
theorem sEventV (s : Wsrc) : SC Tryz.prog 176 [cSr s] (B (eventV s)) := by
  refine law_wire_event_isValid _ _ (by simp) ?_
  unfold eventV
  (repeat' (first | ((first | with_reducible refine st_skip ?_ | with_reducible refine st_exit ?_); (try simp only [seqQ, blockQ, loopQ, forQ, whileQ, reduceIte, Nat.reduceEqDiff])) | (with_reducible refine st_ret ?_; ((try simp only [seqQ, blockQ, loopQ, forQ, whileQ]); first | (with_reducible refine retM_ret ?_) | refine retQ_ret ?_; simp)) | refine st_seq ?_ | refine st_block ?_ | ((with_reducible show (STri _ _ _ _ _) ∧ (STri _ _ _ _ _)); refine And.intro ?_ ?_) | ((first | refine st_reg ?_ | refine buildP_own ?_ | refine appP_own ?_ | refine callP_b (sWithinW 0 3155760000 [s.at'] (by simp)) rfl ?_ | refine callP_b (sWithinW 1 3155760000 [s.every] (by simp)) rfl ?_) <;> (simp -dsimp; (repeat (simp -dsimp (disch := (first | omega | assumption | (refine Bool.eq_false_iff.1 ?_; assumption))) only [wrap_in, if_pos, if_neg]; (try simp -dsimp))))) | ((first | refine guardP_of (fun hc => ?_) (fun hc => ?_) | refine st_cond rfl (fun hc => ?_) (fun hc => ?_)) <;> (try simp only [lqA, lqB, lqC, lqD, lqE, lqF, lqG, lqH, lqI, lqJ, lqK, lqL, lqM, lqN, lqO] at hc) <;> (try (exfalso; first | omega | exact bool_tf hc (by assumption) | exact bool_ft hc (by assumption) | exact absurd (by assumption) hc)) <;> (first | with_reducible show STri _ _ _ _ _ _ | (simp -dsimp [hc]; (repeat (simp -dsimp (disch := (first | omega | assumption | (refine Bool.eq_false_iff.1 ?_; assumption))) only [wrap_in, if_pos, if_neg]; (try simp -dsimp [hc]))))))))
  all_goals (refine CLe.bool ?_; rw [allIn_one] at hc; simp [hc, allIn_one])
theorem sSunV (s : Wsrc) (h : s.table.length ≤ 1000000) : SC Tryz.prog 180 [cSr s] (B (sunV s)) := by
  refine law_wire_sun_isValid _ _ (by simp) ?_
  unfold sunV
  (repeat' (first | ((first | with_reducible refine st_skip ?_ | with_reducible refine st_exit ?_); (try simp only [seqQ, blockQ, loopQ, forQ, whileQ, reduceIte, Nat.reduceEqDiff])) | (with_reducible refine st_ret ?_; ((try simp only [seqQ, blockQ, loopQ, forQ, whileQ]); first | (with_reducible refine retM_ret ?_) | refine retQ_ret ?_; simp)) | refine st_seq ?_ | refine st_block ?_ | ((with_reducible show (STri _ _ _ _ _) ∧ (STri _ _ _ _ _)); refine And.intro ?_ ?_) | ((first | refine st_reg ?_ | refine buildP_own ?_ | refine appP_own ?_ | refine callP_b (sWithinW 1 366 [(s.table.length : Int)] (by simp)) rfl ?_ | refine callP_b (sWithinW (-3600) 3600 s.table h) rfl ?_) <;> (simp -dsimp; (repeat (simp -dsimp (disch := (first | omega | assumption | (refine Bool.eq_false_iff.1 ?_; assumption))) only [wrap_in, if_pos, if_neg]; (try simp -dsimp))))) | ((first | refine guardP_of (fun hc => ?_) (fun hc => ?_) | refine st_cond rfl (fun hc => ?_) (fun hc => ?_)) <;> (try simp only [lqA, lqB, lqC, lqD, lqE, lqF, lqG, lqH, lqI, lqJ, lqK, lqL, lqM, lqN, lqO] at hc) <;> (try (exfalso; first | omega | exact bool_tf hc (by assumption) | exact bool_ft hc (by assumption) | exact absurd (by assumption) hc)) <;> (first | with_reducible show STri _ _ _ _ _ _ | (simp -dsimp [hc]; (repeat (simp -dsimp (disch := (first | omega | assumption | (refine Bool.eq_false_iff.1 ?_; assumption))) only [wrap_in, if_pos, if_neg]; (try simp -dsimp [hc]))))))))
  all_goals (refine CLe.bool ?_; rw [allIn_one] at hc; simp [hc])
theorem sSignalV (s : Wsrc) : SC Tryz.prog 185 [cSr s] (B true) := by
  refine law_wire_signal_isValid _ _ (by simp) ?_
  (repeat' (first | ((first | with_reducible refine st_skip ?_ | with_reducible refine st_exit ?_); (try simp only [seqQ, blockQ, loopQ, forQ, whileQ, reduceIte, Nat.reduceEqDiff])) | (with_reducible refine st_ret ?_; ((try simp only [seqQ, blockQ, loopQ, forQ, whileQ]); first | (with_reducible refine retM_ret ?_) | refine retQ_ret ?_; simp)) | refine st_seq ?_ | refine st_block ?_ | ((with_reducible show (STri _ _ _ _ _) ∧ (STri _ _ _ _ _)); refine And.intro ?_ ?_) | ((first | refine st_reg ?_ | refine buildP_own ?_ | refine appP_own ?_) <;> (simp -dsimp; (repeat (simp -dsimp (disch := (first | omega | assumption | (refine Bool.eq_false_iff.1 ?_; assumption))) only [wrap_in, if_pos, if_neg]; (try simp -dsimp))))) | ((first | refine guardP_of (fun hc => ?_) (fun hc => ?_) | refine st_cond rfl (fun hc => ?_) (fun hc => ?_)) <;> (try simp only [lqA, lqB, lqC, lqD, lqE, lqF, lqG, lqH, lqI, lqJ, lqK, lqL, lqM, lqN, lqO] at hc) <;> (try (exfalso; first | omega | exact bool_tf hc (by assumption) | exact bool_ft hc (by assumption) | exact absurd (by assumption) hc)) <;> (first | with_reducible show STri _ _ _ _ _ _ | (simp -dsimp [hc]; (repeat (simp -dsimp (disch := (first | omega | assumption | (refine Bool.eq_false_iff.1 ?_; assumption))) only [wrap_in, if_pos, if_neg]; (try simp -dsimp [hc]))))))))
  exact .refl _
theorem sClockS (s : Wsrc) (n : Int) : SC Tryz.prog 169 [cSr s, I n] (B (within1 0 43199 n)) := by
  refine law_wire_clock_isSaid _ _ (by simp) ?_
  (repeat' (first | ((first | with_reducible refine st_skip ?_ | with_reducible refine st_exit ?_); (try simp only [seqQ, blockQ, loopQ, forQ, whileQ, reduceIte, Nat.reduceEqDiff])) | (with_reducible refine st_ret ?_; ((try simp only [seqQ, blockQ, loopQ, forQ, whileQ]); first | (with_reducible refine retM_ret ?_) | refine retQ_ret ?_; simp)) | refine st_seq ?_ | refine st_block ?_ | ((with_reducible show (STri _ _ _ _ _) ∧ (STri _ _ _ _ _)); refine And.intro ?_ ?_) | ((first | refine st_reg ?_ | refine buildP_own ?_ | refine appP_own ?_ | refine callP_b (sWithinW 0 43199 [n] (by simp)) rfl ?_) <;> (simp -dsimp; (repeat (simp -dsimp (disch := (first | omega | assumption | (refine Bool.eq_false_iff.1 ?_; assumption))) only [wrap_in, if_pos, if_neg]; (try simp -dsimp))))) | ((first | refine guardP_of (fun hc => ?_) (fun hc => ?_) | refine st_cond rfl (fun hc => ?_) (fun hc => ?_)) <;> (try simp only [lqA, lqB, lqC, lqD, lqE, lqF, lqG, lqH, lqI, lqJ, lqK, lqL, lqM, lqN, lqO] at hc) <;> (try (exfalso; first | omega | exact bool_tf hc (by assumption) | exact bool_ft hc (by assumption) | exact absurd (by assumption) hc)) <;> (first | with_reducible show STri _ _ _ _ _ _ | (simp -dsimp [hc]; (repeat (simp -dsimp (disch := (first | omega | assumption | (refine Bool.eq_false_iff.1 ?_; assumption))) only [wrap_in, if_pos, if_neg]; (try simp -dsimp [hc]))))))))
  all_goals (refine CLe.bool ?_; exact allIn_one _ _ _)
theorem sNothingS (n : Int) : SC Tryz.prog 177 [.agg [], I n] (B (decide (n = 0))) := by
  refine law_wire_nothing_isSaid _ _ (by simp) ?_
  (repeat' (first | ((first | with_reducible refine st_skip ?_ | with_reducible refine st_exit ?_); (try simp only [seqQ, blockQ, loopQ, forQ, whileQ, reduceIte, Nat.reduceEqDiff])) | (with_reducible refine st_ret ?_; ((try simp only [seqQ, blockQ, loopQ, forQ, whileQ]); first | (with_reducible refine retM_ret ?_) | refine retQ_ret ?_; simp)) | refine st_seq ?_ | refine st_block ?_ | ((with_reducible show (STri _ _ _ _ _) ∧ (STri _ _ _ _ _)); refine And.intro ?_ ?_) | ((first | refine st_reg ?_ | refine buildP_own ?_ | refine appP_own ?_) <;> (simp -dsimp; (repeat (simp -dsimp (disch := (first | omega | assumption | (refine Bool.eq_false_iff.1 ?_; assumption))) only [wrap_in, if_pos, if_neg]; (try simp -dsimp))))) | ((first | refine guardP_of (fun hc => ?_) (fun hc => ?_) | refine st_cond rfl (fun hc => ?_) (fun hc => ?_)) <;> (try simp only [lqA, lqB, lqC, lqD, lqE, lqF, lqG, lqH, lqI, lqJ, lqK, lqL, lqM, lqN, lqO] at hc) <;> (try (exfalso; first | omega | exact bool_tf hc (by assumption) | exact bool_ft hc (by assumption) | exact absurd (by assumption) hc)) <;> (first | with_reducible show STri _ _ _ _ _ _ | (simp -dsimp [hc]; (repeat (simp -dsimp (disch := (first | omega | assumption | (refine Bool.eq_false_iff.1 ?_; assumption))) only [wrap_in, if_pos, if_neg]; (try simp -dsimp [hc]))))))))
  all_goals (refine CLe.bool ?_; rw [Bool.eq_iff_iff]; simp)
theorem sEventS (s : Wsrc) (n : Int) : SC Tryz.prog 175 [cSr s, I n] (B (decide (n = 0))) := by
  refine law_wire_event_isSaid _ _ (by simp) ?_
  (repeat' (first | ((first | with_reducible refine st_skip ?_ | with_reducible refine st_exit ?_); (try simp only [seqQ, blockQ, loopQ, forQ, whileQ, reduceIte, Nat.reduceEqDiff])) | (with_reducible refine st_ret ?_; ((try simp only [seqQ, blockQ, loopQ, forQ, whileQ]); first | (with_reducible refine retM_ret ?_) | refine retQ_ret ?_; simp)) | refine st_seq ?_ | refine st_block ?_ | ((with_reducible show (STri _ _ _ _ _) ∧ (STri _ _ _ _ _)); refine And.intro ?_ ?_) | ((first | refine st_reg ?_ | refine buildP_own ?_ | refine appP_own ?_ | refine callP_b (sNothingS n) rfl ?_) <;> (simp -dsimp; (repeat (simp -dsimp (disch := (first | omega | assumption | (refine Bool.eq_false_iff.1 ?_; assumption))) only [wrap_in, if_pos, if_neg]; (try simp -dsimp))))) | ((first | refine guardP_of (fun hc => ?_) (fun hc => ?_) | refine st_cond rfl (fun hc => ?_) (fun hc => ?_)) <;> (try simp only [lqA, lqB, lqC, lqD, lqE, lqF, lqG, lqH, lqI, lqJ, lqK, lqL, lqM, lqN, lqO] at hc) <;> (try (exfalso; first | omega | exact bool_tf hc (by assumption) | exact bool_ft hc (by assumption) | exact absurd (by assumption) hc)) <;> (first | with_reducible show STri _ _ _ _ _ _ | (simp -dsimp [hc]; (repeat (simp -dsimp (disch := (first | omega | assumption | (refine Bool.eq_false_iff.1 ?_; assumption))) only [wrap_in, if_pos, if_neg]; (try simp -dsimp [hc]))))))))
  all_goals exact .refl _
theorem sSunS (s : Wsrc) (n : Int) : SC Tryz.prog 179 [cSr s, I n] (B (decide (n = 0))) := by
  refine law_wire_sun_isSaid _ _ (by simp) ?_
  (repeat' (first | ((first | with_reducible refine st_skip ?_ | with_reducible refine st_exit ?_); (try simp only [seqQ, blockQ, loopQ, forQ, whileQ, reduceIte, Nat.reduceEqDiff])) | (with_reducible refine st_ret ?_; ((try simp only [seqQ, blockQ, loopQ, forQ, whileQ]); first | (with_reducible refine retM_ret ?_) | refine retQ_ret ?_; simp)) | refine st_seq ?_ | refine st_block ?_ | ((with_reducible show (STri _ _ _ _ _) ∧ (STri _ _ _ _ _)); refine And.intro ?_ ?_) | ((first | refine st_reg ?_ | refine buildP_own ?_ | refine appP_own ?_ | refine callP_b (sNothingS n) rfl ?_) <;> (simp -dsimp; (repeat (simp -dsimp (disch := (first | omega | assumption | (refine Bool.eq_false_iff.1 ?_; assumption))) only [wrap_in, if_pos, if_neg]; (try simp -dsimp))))) | ((first | refine guardP_of (fun hc => ?_) (fun hc => ?_) | refine st_cond rfl (fun hc => ?_) (fun hc => ?_)) <;> (try simp only [lqA, lqB, lqC, lqD, lqE, lqF, lqG, lqH, lqI, lqJ, lqK, lqL, lqM, lqN, lqO] at hc) <;> (try (exfalso; first | omega | exact bool_tf hc (by assumption) | exact bool_ft hc (by assumption) | exact absurd (by assumption) hc)) <;> (first | with_reducible show STri _ _ _ _ _ _ | (simp -dsimp [hc]; (repeat (simp -dsimp (disch := (first | omega | assumption | (refine Bool.eq_false_iff.1 ?_; assumption))) only [wrap_in, if_pos, if_neg]; (try simp -dsimp [hc]))))))))
  all_goals exact .refl _
theorem sSignalS (s : Wsrc) (n : Int) : SC Tryz.prog 184 [cSr s, I n] (B (within1 0 3155760000 n)) := by
  refine law_wire_signal_isSaid _ _ (by simp) ?_
  (repeat' (first | ((first | with_reducible refine st_skip ?_ | with_reducible refine st_exit ?_); (try simp only [seqQ, blockQ, loopQ, forQ, whileQ, reduceIte, Nat.reduceEqDiff])) | (with_reducible refine st_ret ?_; ((try simp only [seqQ, blockQ, loopQ, forQ, whileQ]); first | (with_reducible refine retM_ret ?_) | refine retQ_ret ?_; simp)) | refine st_seq ?_ | refine st_block ?_ | ((with_reducible show (STri _ _ _ _ _) ∧ (STri _ _ _ _ _)); refine And.intro ?_ ?_) | ((first | refine st_reg ?_ | refine buildP_own ?_ | refine appP_own ?_ | refine callP_b (sWithinW 0 3155760000 [n] (by simp)) rfl ?_) <;> (simp -dsimp; (repeat (simp -dsimp (disch := (first | omega | assumption | (refine Bool.eq_false_iff.1 ?_; assumption))) only [wrap_in, if_pos, if_neg]; (try simp -dsimp))))) | ((first | refine guardP_of (fun hc => ?_) (fun hc => ?_) | refine st_cond rfl (fun hc => ?_) (fun hc => ?_)) <;> (try simp only [lqA, lqB, lqC, lqD, lqE, lqF, lqG, lqH, lqI, lqJ, lqK, lqL, lqM, lqN, lqO] at hc) <;> (try (exfalso; first | omega | exact bool_tf hc (by assumption) | exact bool_ft hc (by assumption) | exact absurd (by assumption) hc)) <;> (first | with_reducible show STri _ _ _ _ _ _ | (simp -dsimp [hc]; (repeat (simp -dsimp (disch := (first | omega | assumption | (refine Bool.eq_false_iff.1 ?_; assumption))) only [wrap_in, if_pos, if_neg]; (try simp -dsimp [hc]))))))))
  all_goals (refine CLe.bool ?_; exact allIn_one _ _ _)
structure TSm (t said elo ehi : Int) : Prop where
  t0 : -10000000000 ≤ t
  t1 : t ≤ 10000000000
  s0 : -10000000000 ≤ said
  s1 : said ≤ 10000000000
  l0 : -100000 ≤ elo
  l1 : elo ≤ 100000
  h0 : -100000 ≤ ehi
  h1 : ehi ≤ 100000
def clLo (s : Wsrc) (t elo : Int) : Int := elo + s.dlo * (t - s.at') / 86400000
def clHi (s : Wsrc) (t ehi : Int) : Int := ehi + upI (s.dhi * (t - s.at')) 86400000
def clockR (s : Wsrc) (t said elo ehi : Int) : Bool := decide (0 ≤ t - s.at') && decide ((said - t - clLo s t elo) % 43200 ≤ clHi s t ehi - clLo s t elo)
theorem mul_bd {a b : Int} (A B : Nat) (ha : a.natAbs ≤ A) (hb : b.natAbs ≤ B) : -((A * B : Nat) : Int) ≤ a * b ∧ a * b ≤ ((A * B : Nat) : Int) := by
  have h : (a * b).natAbs ≤ A * B := by rw [Int.natAbs_mul]; exact Nat.mul_le_mul ha hb
  omega
theorem div_bd (n b : Int) : -(n.natAbs : Int) ≤ n / b ∧ n / b ≤ n.natAbs := by
  have := Int.natAbs_ediv_le_natAbs n b
  omega
theorem clockV_is {s : Wsrc} (h : clockV s = true) : 0 ≤ s.at' ∧ s.at' ≤ 3155760000 ∧ -100000 ≤ s.dlo ∧ s.dlo ≤ s.dhi ∧ s.dhi ≤ 100000 := by
  unfold clockV within1 spanW at h
  simp at h
  omega
theorem cl_bd {s : Wsrc} (h : clockV s = true) {t said elo ehi : Int} (ht : TSm t said elo ehi) : -2000000000000000 ≤ s.dlo * (t - s.at') ∧ s.dlo * (t - s.at') ≤ 2000000000000000 ∧ -2000000000000000 ≤ s.dhi * (t - s.at') ∧ s.dhi * (t - s.at') ≤ 2000000000000000 := by
  obtain ⟨h1, h2, h3, h4, h5⟩ := clockV_is h
  have t0 := ht.t0
  have t1 := ht.t1
  have b1 := mul_bd (a := s.dlo) (b := t - s.at') 100000 20000000000 (by omega) (by omega)
  have b2 := mul_bd (a := s.dhi) (b := t - s.at') 100000 20000000000 (by omega) (by omega)
  omega
theorem sClockR (s : Wsrc) (hs : clockV s = true) (t said elo ehi : Int) (ht : TSm t said elo ehi) : SC Tryz.prog 168 [cSr s, I t, I said, .agg [I elo, I ehi]] (B (clockR s t said elo ehi)) := by
  refine law_wire_clock_isRight _ _ (by simp) ?_
  obtain ⟨h1, h2, h3, h4, h5⟩ := clockV_is hs
  obtain ⟨b1, b2, b3, b4⟩ := cl_bd hs ht
  obtain ⟨t0, t1, s0, s1, l0, l1, e0, e1⟩ := ht
  have c1 := div_bd (s.dlo * (t - s.at')) 86400000
  have c2 := div_bd (-(s.dhi * (t - s.at'))) 86400000
  unfold clockR clLo clHi
  generalize hx : s.dlo * (t - s.at') = x at *
  generalize hy : s.dhi * (t - s.at') = y at *
  have hu : upI y 86400000 = -(-y / 86400000) := rfl
  generalize hX : x / 86400000 = X at *
  generalize hY : upI y 86400000 = Y at *
  have sd := sDownW x 86400000 (by omega) (by omega) (by omega) (by omega)
  have su := sUpW y 86400000 (by omega) (by omega) (by omega) (by omega)
  rw [hX] at sd
  rw [hY] at su
  (repeat' (first | ((first | with_reducible refine st_skip ?_ | with_reducible refine st_exit ?_); (try simp only [seqQ, blockQ, loopQ, forQ, whileQ, reduceIte, Nat.reduceEqDiff])) | (with_reducible refine st_ret ?_; ((try simp only [seqQ, blockQ, loopQ, forQ, whileQ]); first | (with_reducible refine retM_ret ?_) | refine retQ_ret ?_; simp [hx, hy])) | refine st_seq ?_ | refine st_block ?_ | ((with_reducible show (STri _ _ _ _ _) ∧ (STri _ _ _ _ _)); refine And.intro ?_ ?_) | ((first | refine st_reg ?_ | refine buildP_own ?_ | refine appP_own ?_ | refine callP_b (sd) rfl ?_ | refine callP_b (su) rfl ?_ | refine callP_b (sModuloW (said - t - (elo + X)) 43200 (by omega) (by omega)) rfl ?_) <;> (simp -dsimp [hx, hy]; (repeat (simp -dsimp (disch := (first | omega | assumption | (refine Bool.eq_false_iff.1 ?_; assumption))) only [wrap_in, if_pos, if_neg]; (try simp -dsimp [hx, hy]))))) | ((first | refine guardP_of (fun hc => ?_) (fun hc => ?_) | refine st_cond rfl (fun hc => ?_) (fun hc => ?_)) <;> (try simp only [lqA, lqB, lqC, lqD, lqE, lqF, lqG, lqH, lqI, lqJ, lqK, lqL, lqM, lqN, lqO] at hc) <;> (try (exfalso; first | omega | exact bool_tf hc (by assumption) | exact bool_ft hc (by assumption) | exact absurd (by assumption) hc)) <;> (first | with_reducible show STri _ _ _ _ _ _ | (simp -dsimp [hx, hy, hc]; (repeat (simp -dsimp (disch := (first | omega | assumption | (refine Bool.eq_false_iff.1 ?_; assumption))) only [wrap_in, if_pos, if_neg]; (try simp -dsimp [hx, hy, hc]))))))))
  all_goals (refine CLe.bool ?_; simp_all; try (intros; omega))
def eventR (s : Wsrc) (t elo ehi : Int) : Bool := decide (max 0 (upI (t - s.at' - ehi) s.every) ≤ (t - s.at' - elo) / s.every)
theorem eventV_is {s : Wsrc} (h : eventV s = true) : 0 ≤ s.at' ∧ s.at' ≤ 3155760000 ∧ 1 ≤ s.every ∧ s.every ≤ 3155760000 := by
  unfold eventV within1 at h
  simp at h
  omega
theorem sEventR (s : Wsrc) (hs : eventV s = true) (t said elo ehi : Int) (ht : TSm t said elo ehi) : SC Tryz.prog 174 [cSr s, I t, I said, .agg [I elo, I ehi]] (B (eventR s t elo ehi)) := by
  refine law_wire_event_isRight _ _ (by simp) ?_
  obtain ⟨h1, h2, h3, h4⟩ := eventV_is hs
  obtain ⟨t0, t1, s0, s1, l0, l1, e0, e1⟩ := ht
  unfold eventR
  have sd := sDownW (t - s.at' - elo) s.every (by omega) (by omega) (by omega) (by omega)
  have su := sUpW (t - s.at' - ehi) s.every (by omega) (by omega) (by omega) (by omega)
  generalize hX : (t - s.at' - elo) / s.every = X at *
  generalize hY : upI (t - s.at' - ehi) s.every = Y at *
  (repeat' (first | ((first | with_reducible refine st_skip ?_ | with_reducible refine st_exit ?_); (try simp only [seqQ, blockQ, loopQ, forQ, whileQ, reduceIte, Nat.reduceEqDiff])) | (with_reducible refine st_ret ?_; ((try simp only [seqQ, blockQ, loopQ, forQ, whileQ]); first | (with_reducible refine retM_ret ?_) | refine retQ_ret ?_; simp)) | refine st_seq ?_ | refine st_block ?_ | ((with_reducible show (STri _ _ _ _ _) ∧ (STri _ _ _ _ _)); refine And.intro ?_ ?_) | ((first | refine st_reg ?_ | refine buildP_own ?_ | refine appP_own ?_ | refine callP_b (sd) rfl ?_ | refine callP_b (su) rfl ?_) <;> (simp -dsimp; (repeat (simp -dsimp (disch := (first | omega | assumption | (refine Bool.eq_false_iff.1 ?_; assumption))) only [wrap_in, if_pos, if_neg]; (try simp -dsimp))))) | ((first | refine guardP_of (fun hc => ?_) (fun hc => ?_) | refine st_cond rfl (fun hc => ?_) (fun hc => ?_)) <;> (try simp only [lqA, lqB, lqC, lqD, lqE, lqF, lqG, lqH, lqI, lqJ, lqK, lqL, lqM, lqN, lqO] at hc) <;> (try (exfalso; first | omega | exact bool_tf hc (by assumption) | exact bool_ft hc (by assumption) | exact absurd (by assumption) hc)) <;> (first | with_reducible show STri _ _ _ _ _ _ | (simp -dsimp [hc]; (repeat (simp -dsimp (disch := (first | omega | assumption | (refine Bool.eq_false_iff.1 ?_; assumption))) only [wrap_in, if_pos, if_neg]; (try simp -dsimp [hc]))))))))
  all_goals (refine CLe.bool ?_; rw [Bool.eq_iff_iff]; simp; try omega)
def signalR (t said elo ehi : Int) : Bool := within1 elo ehi (t - said)
theorem sSignalR (s : Wsrc) (t said elo ehi : Int) (ht : TSm t said elo ehi) : SC Tryz.prog 183 [cSr s, I t, I said, .agg [I elo, I ehi]] (B (signalR t said elo ehi)) := by
  refine law_wire_signal_isRight _ _ (by simp) ?_
  obtain ⟨t0, t1, s0, s1, l0, l1, e0, e1⟩ := ht
  (repeat' (first | ((first | with_reducible refine st_skip ?_ | with_reducible refine st_exit ?_); (try simp only [seqQ, blockQ, loopQ, forQ, whileQ, reduceIte, Nat.reduceEqDiff])) | (with_reducible refine st_ret ?_; ((try simp only [seqQ, blockQ, loopQ, forQ, whileQ]); first | (with_reducible refine retM_ret ?_) | refine retQ_ret ?_; simp)) | refine st_seq ?_ | refine st_block ?_ | ((with_reducible show (STri _ _ _ _ _) ∧ (STri _ _ _ _ _)); refine And.intro ?_ ?_) | ((first | refine st_reg ?_ | refine buildP_own ?_ | refine appP_own ?_ | refine callP_b (sWithinW elo ehi [t - said] (by simp)) rfl ?_) <;> (simp -dsimp; (repeat (simp -dsimp (disch := (first | omega | assumption | (refine Bool.eq_false_iff.1 ?_; assumption))) only [wrap_in, if_pos, if_neg]; (try simp -dsimp))))) | ((first | refine guardP_of (fun hc => ?_) (fun hc => ?_) | refine st_cond rfl (fun hc => ?_) (fun hc => ?_)) <;> (try simp only [lqA, lqB, lqC, lqD, lqE, lqF, lqG, lqH, lqI, lqJ, lqK, lqL, lqM, lqN, lqO] at hc) <;> (try (exfalso; first | omega | exact bool_tf hc (by assumption) | exact bool_ft hc (by assumption) | exact absurd (by assumption) hc)) <;> (first | with_reducible show STri _ _ _ _ _ _ | (simp -dsimp [hc]; (repeat (simp -dsimp (disch := (first | omega | assumption | (refine Bool.eq_false_iff.1 ?_; assumption))) only [wrap_in, if_pos, if_neg]; (try simp -dsimp [hc]))))))))
  all_goals (refine CLe.bool ?_; exact allIn_one _ _ _)
end Go.Proofs.YtlodpljdhdhfmaaGreat
/- Wire, III: suns. -/
namespace Go.Proofs.YtlodpljdhdhfmaaGreat
open Go.RowKit
def dayLo (t : Int) : Int := max 0 (t / 86400 - 1)
def noonI (s : Wsrc) (d : Int) : Int := d * 86400 + s.table.getD (d % s.table.length).toNat 0
def dayN (t : Int) : Nat := (t / 86400 + 2 - dayLo t).toNat
def dayL (s : Wsrc) (t : Int) : List (Int × Int) := (List.range (dayN t)).map fun (k : Nat) => (dayLo t + k, noonI s (dayLo t + k))
def rowD (x : Int × Int) : List CV := [I x.1, I x.2]
def sunR (s : Wsrc) (t elo ehi : Int) : Bool := (dayL s t).any fun x => within1 elo ehi (t - x.2)
theorem sunV_is {s : Wsrc} (h : sunV s = true) : 1 ≤ s.table.length ∧ s.table.length ≤ 366 ∧ ∀ x ∈ s.table, -3600 ≤ x ∧ x ≤ 3600 := by
  unfold sunV within1 allIn inB at h
  simp at h
  exact ⟨by omega, by omega, h.2⟩
theorem sDays (s : Wsrc) (t : Int) : SC Tryz.prog 181 [cSr s, I t] (.fn 182 [] [.ref [I t], .ref (rowSr s)]) := by
  refine law_wire_sun_days _ _ (by simp) ?_
  (repeat' (first | ((first | with_reducible refine st_skip ?_ | with_reducible refine st_exit ?_); (try simp only [seqQ, blockQ, loopQ, forQ, whileQ, reduceIte, Nat.reduceEqDiff])) | (with_reducible refine st_ret ?_; ((try simp only [seqQ, blockQ, loopQ, forQ, whileQ]); first | (with_reducible refine retM_ret ?_) | refine retQ_ret ?_; simp)) | refine st_seq ?_ | refine st_block ?_ | ((with_reducible show (STri _ _ _ _ _) ∧ (STri _ _ _ _ _)); refine And.intro ?_ ?_) | ((first | refine st_reg ?_ | refine buildP_own ?_ | refine appP_own ?_) <;> (simp -dsimp; (repeat (simp -dsimp (disch := (first | omega | assumption | (refine Bool.eq_false_iff.1 ?_; assumption))) only [wrap_in, if_pos, if_neg]; (try simp -dsimp))))) | ((first | refine guardP_of (fun hc => ?_) (fun hc => ?_) | refine st_cond rfl (fun hc => ?_) (fun hc => ?_)) <;> (try simp only [lqA, lqB, lqC, lqD, lqE, lqF, lqG, lqH, lqI, lqJ, lqK, lqL, lqM, lqN, lqO] at hc) <;> (try (exfalso; first | omega | exact bool_tf hc (by assumption) | exact bool_ft hc (by assumption) | exact absurd (by assumption) hc)) <;> (first | with_reducible show STri _ _ _ _ _ _ | (simp -dsimp [hc]; (repeat (simp -dsimp (disch := (first | omega | assumption | (refine Bool.eq_false_iff.1 ?_; assumption))) only [wrap_in, if_pos, if_neg]; (try simp -dsimp [hc]))))))))
  exact .refl _
theorem iDays (s : Wsrc) (hs : sunV s = true) (t : Int) (h0 : 0 ≤ t) (h1 : t ≤ 10000000000) : IterL Tryz.prog 182 1000 [] [.ref [I t], .ref (rowSr s)] ((dayL s t).map rowD) := by
  obtain ⟨l1, l2, l3⟩ := sunV_is hs
  refine ilaw_wire_sun_days_1 1000 _ _ _ (by omega) (by simp) (fun Iv A G id hG hY => ?_)
  have hlen : ((dayL s t).map rowD).length = dayN t := by simp [dayL]
  have ht : t.tdiv 86400 = t / 86400 := Int.tdiv_eq_ediv_of_nonneg h0
  have hD : dayLo t = max 0 (t / 86400 - 1) := rfl
  have hq0 : 0 ≤ t / 86400 := Int.ediv_nonneg h0 (by omega)
  have hq1 : t / 86400 ≤ 10000000000 := by omega
  have hN : (dayN t : Int) = t / 86400 + 2 - dayLo t := by unfold dayN; omega
  generalize hq : t / 86400 = q at *
  have hmx : (if 1 < q then q - 1 else 0) = dayLo t := by rw [hD]; split <;> omega
  have hd0 : 0 ≤ dayLo t := by omega
  have hd1 : dayLo t ≤ q := by omega
  (repeat' (first | ((first | with_reducible refine st_skip ?_ | with_reducible refine st_exit ?_); (try simp only [seqQ, blockQ, loopQ, forQ, whileQ, reduceIte, Nat.reduceEqDiff])) | (with_reducible refine st_ret ?_; ((try simp only [seqQ, blockQ, loopQ, forQ, whileQ]); first | (with_reducible refine retM_ret ?_) | refine retQ_ret ?_; simp [ht, hmx])) | refine st_seq ?_ | refine st_block ?_ | ((with_reducible show (STri _ _ _ _ _) ∧ (STri _ _ _ _ _)); refine And.intro ?_ ?_) | ((first | refine st_reg ?_ | refine buildP_own ?_ | refine appP_own ?_) <;> (simp -dsimp [ht, hmx]; (repeat (simp -dsimp (disch := (first | omega | assumption | (refine Bool.eq_false_iff.1 ?_; assumption))) only [wrap_in, if_pos, if_neg]; (try simp -dsimp [ht, hmx]))))) | ((first | refine guardP_of (fun hc => ?_) (fun hc => ?_) | refine st_cond rfl (fun hc => ?_) (fun hc => ?_)) <;> (try simp only [lqA, lqB, lqC, lqD, lqE, lqF, lqG, lqH, lqI, lqJ, lqK, lqL, lqM, lqN, lqO] at hc) <;> (try (exfalso; first | omega | exact bool_tf hc (by assumption) | exact bool_ft hc (by assumption) | exact absurd (by assumption) hc)) <;> (first | with_reducible show STri _ _ _ _ _ _ | (simp -dsimp [ht, hmx, hc]; (repeat (simp -dsimp (disch := (first | omega | assumption | (refine Bool.eq_false_iff.1 ?_; assumption))) only [wrap_in, if_pos, if_neg]; (try simp -dsimp [ht, hmx, hc]))))))))
  refine st_for [1000001000] (dayN t) (fun k T H => T = [(0, .yl id), (1, .c (.ref [I t])), (2, .c (.ref (rowSr s))), (4, .c (I (dayLo t + k)))] ∧ H = [(1000001000, .gh k false)]) (by simp) ⟨by simp, by simp⟩ ?_
  rintro k T H hk ⟨rfl, rfl⟩
  by_cases hlt : k < dayN t
  · have hle : dayLo t + k ≤ q + 1 := by omega
    have hrow : ((dayL s t).map rowD)[k]? = some [I (dayLo t + k), I (noonI s (dayLo t + k))] := by simp [dayL, hlt, rowD]
    have hm : (dayLo t + k).tmod s.table.length = (dayLo t + k) % s.table.length := Int.tmod_eq_emod_of_nonneg (by omega)
    have hm0 := Int.emod_nonneg (dayLo t + k) (show (s.table.length : Int) ≠ 0 by omega)
    have hm1 := Int.emod_lt_of_pos (dayLo t + k) (show (0 : Int) < s.table.length by omega)
    have hne : ¬ (s.table.length : Int) = 0 := by omega
    have hne2 : ¬ s.table = [] := fun e => by rw [e] at l1; simp at l1
    generalize hj : (dayLo t + k) % s.table.length = j at *
    have hjl : j.toNat < s.table.length := by omega
    have hx := l3 _ (List.getElem_mem hjl)
    have hno : noonI s (dayLo t + k) = (dayLo t + k) * 86400 + s.table[j.toNat]'hjl := by
      unfold noonI
      rw [hj]
      simp [hjl]
    rw [hno] at hrow
    (repeat' (first | ((first | with_reducible refine st_skip ?_ | with_reducible refine st_exit ?_); (try simp only [seqQ, blockQ, loopQ, forQ, whileQ, reduceIte, Nat.reduceEqDiff])) | (with_reducible refine st_ret ?_; ((try simp only [seqQ, blockQ, loopQ, forQ, whileQ]); first | (with_reducible refine retM_ret ?_) | refine retQ_ret ?_; simp [hle, ht, hq, hm, hm0, hne, hne2, hjl])) | refine st_seq ?_ | refine st_block ?_ | ((with_reducible show (STri _ _ _ _ _) ∧ (STri _ _ _ _ _)); refine And.intro ?_ ?_) | ((first | refine st_reg ?_ | ((with_reducible show callVP _ _ _ _ _ _ _); refine callV_yl (hY k _ hrow) [] (by first | rfl | simp) (fun j hj => by cases hj) rfl ?_ ?_) | refine buildP_own ?_ | refine appP_own ?_) <;> (simp -dsimp [hle, ht, hq, hm, hm0, hne, hne2, hjl]; (repeat (simp -dsimp (disch := (first | omega | assumption | (refine Bool.eq_false_iff.1 ?_; assumption))) only [wrap_in, if_pos, if_neg]; (try simp -dsimp [hle, ht, hq, hm, hm0, hne, hne2, hjl]))))) | ((first | refine guardP_of (fun hc => ?_) (fun hc => ?_) | refine st_cond rfl (fun hc => ?_) (fun hc => ?_)) <;> (try simp only [lqA, lqB, lqC, lqD, lqE, lqF, lqG, lqH, lqI, lqJ, lqK, lqL, lqM, lqN, lqO] at hc) <;> (try (exfalso; first | omega | exact bool_tf hc (by assumption) | exact bool_ft hc (by assumption) | exact absurd (by assumption) hc)) <;> (first | with_reducible show STri _ _ _ _ _ _ | (simp -dsimp [hle, ht, hq, hm, hm0, hne, hne2, hjl, hc]; (repeat (simp -dsimp (disch := (first | omega | assumption | (refine Bool.eq_false_iff.1 ?_; assumption))) only [wrap_in, if_pos, if_neg]; (try simp -dsimp [hle, ht, hq, hm, hm0, hne, hne2, hjl, hc]))))))))
    · exact ⟨hlt, by simp, by simp; omega, by simp⟩
    · exact st_ret ⟨.inr rfl, k + 1, true, rfl, fun h => by cases h⟩
  · have hle : ¬ dayLo t + k ≤ q + 1 := by omega
    (repeat' (first | ((first | with_reducible refine st_skip ?_ | with_reducible refine st_exit ?_); (try simp only [seqQ, blockQ, loopQ, forQ, whileQ, reduceIte, Nat.reduceEqDiff])) | (with_reducible refine st_ret ?_; ((try simp only [seqQ, blockQ, loopQ, forQ, whileQ]); first | (with_reducible refine retM_ret ?_) | refine retQ_ret ?_; simp [hle, ht, hq])) | refine st_seq ?_ | refine st_block ?_ | ((with_reducible show (STri _ _ _ _ _) ∧ (STri _ _ _ _ _)); refine And.intro ?_ ?_) | ((first | refine st_reg ?_ | refine buildP_own ?_ | refine appP_own ?_) <;> (simp -dsimp [hle, ht, hq]; (repeat (simp -dsimp (disch := (first | omega | assumption | (refine Bool.eq_false_iff.1 ?_; assumption))) only [wrap_in, if_pos, if_neg]; (try simp -dsimp [hle, ht, hq]))))) | ((first | refine guardP_of (fun hc => ?_) (fun hc => ?_) | refine st_cond rfl (fun hc => ?_) (fun hc => ?_)) <;> (try simp only [lqA, lqB, lqC, lqD, lqE, lqF, lqG, lqH, lqI, lqJ, lqK, lqL, lqM, lqN, lqO] at hc) <;> (try (exfalso; first | omega | exact bool_tf hc (by assumption) | exact bool_ft hc (by assumption) | exact absurd (by assumption) hc)) <;> (first | with_reducible show STri _ _ _ _ _ _ | (simp -dsimp [hle, ht, hq, hc]; (repeat (simp -dsimp (disch := (first | omega | assumption | (refine Bool.eq_false_iff.1 ?_; assumption))) only [wrap_in, if_pos, if_neg]; (try simp -dsimp [hle, ht, hq, hc]))))))))
    exact ⟨.inl rfl, k, false, rfl, fun _ => by rw [hlen]; omega⟩
def NoSun (s : Wsrc) (t elo ehi : Int) (k : Nat) : Prop := ∀ x ∈ (dayL s t).take k, within1 elo ehi (t - x.2) = false
theorem noon_bd {s : Wsrc} (hs : sunV s = true) (d : Int) (h0 : -100000 ≤ d) (h1 : d ≤ 1000000) : -10000000000 ≤ noonI s d ∧ noonI s d ≤ 100000000000 := by
  obtain ⟨l1, l2, l3⟩ := sunV_is hs
  have : -3600 ≤ s.table.getD (d % s.table.length).toNat 0 ∧ s.table.getD (d % s.table.length).toNat 0 ≤ 3600 := by
    rw [List.getD_eq_getElem?_getD]
    cases h : s.table[(d % s.table.length).toNat]? with
    | none => simp
    | some x => simpa using l3 x (List.mem_of_getElem? h)
  unfold noonI; omega
theorem sSunR (s : Wsrc) (hs : sunV s = true) (t said elo ehi : Int) (h0 : 0 ≤ t) (ht : TSm t said elo ehi) : SC Tryz.prog 178 [cSr s, I t, I said, .agg [I elo, I ehi]] (B (sunR s t elo ehi)) := by
  refine law_wire_sun_isRight _ _ (by simp) ?_
  obtain ⟨t0, t1, s0, s1, l0, l1, e0, e1⟩ := ht
  have hq0 : 0 ≤ t / 86400 := Int.ediv_nonneg h0 (by omega)
  have hq1 : t / 86400 ≤ 1000000 := by omega
  have hD : dayLo t = max 0 (t / 86400 - 1) := rfl
  (repeat' (first | ((first | with_reducible refine st_skip ?_ | with_reducible refine st_exit ?_); (try simp only [seqQ, blockQ, loopQ, forQ, whileQ, reduceIte, Nat.reduceEqDiff])) | (with_reducible refine st_ret ?_; ((try simp only [seqQ, blockQ, loopQ, forQ, whileQ]); first | (with_reducible refine retM_ret ?_) | refine retQ_ret ?_; simp)) | refine st_seq ?_ | refine st_block ?_ | ((with_reducible show (STri _ _ _ _ _) ∧ (STri _ _ _ _ _)); refine And.intro ?_ ?_) | ((first | refine st_reg ?_ | refine buildP_own ?_ | refine appP_own ?_ | refine callP_b (sDays s t) rfl ?_) <;> (simp -dsimp; (repeat (simp -dsimp (disch := (first | omega | assumption | (refine Bool.eq_false_iff.1 ?_; assumption))) only [wrap_in, if_pos, if_neg]; (try simp -dsimp))))) | ((first | refine guardP_of (fun hc => ?_) (fun hc => ?_) | refine st_cond rfl (fun hc => ?_) (fun hc => ?_)) <;> (try simp only [lqA, lqB, lqC, lqD, lqE, lqF, lqG, lqH, lqI, lqJ, lqK, lqL, lqM, lqN, lqO] at hc) <;> (try (exfalso; first | omega | exact bool_tf hc (by assumption) | exact bool_ft hc (by assumption) | exact absurd (by assumption) hc)) <;> (first | with_reducible show STri _ _ _ _ _ _ | (simp -dsimp [hc]; (repeat (simp -dsimp (disch := (first | omega | assumption | (refine Bool.eq_false_iff.1 ?_; assumption))) only [wrap_in, if_pos, if_neg]; (try simp -dsimp [hc]))))))))
  refine st_range (iDays s hs t h0 t1) [5, 7, 8] [] (fun k R => NoSun s t elo ehi k ∧ R = [(5, .box 3 [.c (I t)]), (7, .box 34 [.c (I elo), .c (I ehi)]), (8, .box 4 [.c (B false)])])
    rfl rfl rfl (by kernel_rfl) (by show (0 : Nat) + 1000 ≤ 1000; decide) (fun j hj => by cases hj) (fun row hrow => by obtain ⟨y, _, rfl⟩ := List.mem_map.1 hrow; rfl) (by simp) (by simp) ⟨fun x hx => by simp at hx, by simp⟩ ?_ ?_
  · rintro k row R ⟨hno, rfl⟩ hrow Iv1 G1 hGG hin
    obtain ⟨d, hdk, rfl⟩ : ∃ d, (dayL s t)[k]? = some d ∧ row = rowD d := by
      rw [List.getElem?_map, Option.map_eq_some_iff] at hrow
      obtain ⟨d, h1, h2⟩ := hrow
      exact ⟨d, h1, h2.symm⟩
    have hk : k < (dayL s t).length := (List.getElem?_eq_some_iff.1 hdk).1
    have hkd : (dayL s t)[k] = d := (List.getElem?_eq_some_iff.1 hdk).2
    have hbd : -10000000000 ≤ d.2 ∧ d.2 ≤ 100000000000 := by
      unfold dayL at hdk
      rw [List.getElem?_map, Option.map_eq_some_iff] at hdk
      obtain ⟨i, hi1, rfl⟩ := hdk
      have hi := List.mem_range.1 (List.mem_of_getElem? hi1)
      unfold dayN at hi
      exact noon_bd hs _ (by omega) (by omega)
    obtain ⟨b1, b2⟩ := hbd
    unfold rowD
    (repeat' (first | ((first | with_reducible refine st_skip ?_ | with_reducible refine st_exit ?_); (try simp only [seqQ, blockQ, loopQ, forQ, whileQ, reduceIte, Nat.reduceEqDiff])) | (with_reducible refine st_ret ?_; ((try simp only [seqQ, blockQ, loopQ, forQ, whileQ]); first | (with_reducible refine retM_ret ?_) | refine retQ_ret ?_; simp)) | refine st_seq ?_ | refine st_block ?_ | ((with_reducible show (STri _ _ _ _ _) ∧ (STri _ _ _ _ _)); refine And.intro ?_ ?_) | ((first | refine st_reg ?_ | refine buildP_own ?_ | refine appP_own ?_) <;> (simp -dsimp; (repeat (simp -dsimp (disch := (first | omega | assumption | (refine Bool.eq_false_iff.1 ?_; assumption))) only [wrap_in, if_pos, if_neg]; (try simp -dsimp))))) | ((first | refine guardP_of (fun hc => ?_) (fun hc => ?_) | refine st_cond rfl (fun hc => ?_) (fun hc => ?_)) <;> (try simp only [lqA, lqB, lqC, lqD, lqE, lqF, lqG, lqH, lqI, lqJ, lqK, lqL, lqM, lqN, lqO] at hc) <;> (try (exfalso; first | omega | exact bool_tf hc (by assumption) | exact bool_ft hc (by assumption) | exact absurd (by assumption) hc)) <;> (first | with_reducible show STri _ _ _ _ _ _ | (simp -dsimp [hc]; (repeat (simp -dsimp (disch := (first | omega | assumption | (refine Bool.eq_false_iff.1 ?_; assumption))) only [wrap_in, if_pos, if_neg]; (try simp -dsimp [hc]))))))))
    refine ⟨rfl, fun Iv2 hin2 => ?_⟩
    (repeat' (first | ((first | with_reducible refine st_skip ?_ | with_reducible refine st_exit ?_); (try simp only [seqQ, blockQ, loopQ, forQ, whileQ, reduceIte, Nat.reduceEqDiff])) | (with_reducible refine st_ret ?_; ((try simp only [seqQ, blockQ, loopQ, forQ, whileQ]); first | (with_reducible refine retM_ret ?_) | refine retQ_ret ?_; simp)) | refine st_seq ?_ | refine st_block ?_ | ((with_reducible show (STri _ _ _ _ _) ∧ (STri _ _ _ _ _)); refine And.intro ?_ ?_) | ((first | refine st_reg ?_ | refine buildP_own ?_ | refine appP_own ?_ | refine callP_b (sWithinW elo ehi [t - d.2] (by simp)) rfl ?_) <;> (simp -dsimp; (repeat (simp -dsimp (disch := (first | omega | assumption | (refine Bool.eq_false_iff.1 ?_; assumption))) only [wrap_in, if_pos, if_neg]; (try simp -dsimp))))) | ((first | refine guardP_of (fun hc => ?_) (fun hc => ?_) | refine st_cond rfl (fun hc => ?_) (fun hc => ?_)) <;> (try simp only [lqA, lqB, lqC, lqD, lqE, lqF, lqG, lqH, lqI, lqJ, lqK, lqL, lqM, lqN, lqO] at hc) <;> (try (exfalso; first | omega | exact bool_tf hc (by assumption) | exact bool_ft hc (by assumption) | exact absurd (by assumption) hc)) <;> (first | with_reducible show STri _ _ _ _ _ _ | (simp -dsimp [hc]; (repeat (simp -dsimp (disch := (first | omega | assumption | (refine Bool.eq_false_iff.1 ?_; assumption))) only [wrap_in, if_pos, if_neg]; (try simp -dsimp [hc]))))))))
    · rw [allIn_one] at hc
      refine st_ret ⟨by simp, by simp, ?_⟩
      show retQ _ _ _ _ _
      refine retQ_ret ?_
      simp
      have : sunR s t elo ehi = true := by
        unfold sunR
        rw [List.any_eq_true]
        exact ⟨d, hkd ▸ List.getElem_mem hk, hc⟩
      rw [this]
      exact .refl _
    · rw [allIn_one] at hc
      refine ⟨by simp, by simp, fun x hx => ?_, by simp⟩
      rw [List.take_succ_eq_append_getElem hk, List.mem_append] at hx
      rcases hx with hx | hx
      · exact hno x hx
      · simp only [List.mem_singleton] at hx
        rw [hx, hkd]; exact hc
  · rintro R ⟨hno, rfl⟩
    simp only [blockQ, seqQ]
    have : sunR s t elo ehi = false := by
      unfold sunR
      rw [List.any_eq_false]
      intro x hx
      have := hno x (by rw [List.length_map, List.take_length]; exact hx)
      rw [this]; decide
    rw [this]
    (repeat' (first | ((first | with_reducible refine st_skip ?_ | with_reducible refine st_exit ?_); (try simp only [seqQ, blockQ, loopQ, forQ, whileQ, reduceIte, Nat.reduceEqDiff])) | (with_reducible refine st_ret ?_; ((try simp only [seqQ, blockQ, loopQ, forQ, whileQ]); first | (with_reducible refine retM_ret ?_) | refine retQ_ret ?_; simp)) | refine st_seq ?_ | refine st_block ?_ | ((with_reducible show (STri _ _ _ _ _) ∧ (STri _ _ _ _ _)); refine And.intro ?_ ?_) | ((first | refine st_reg ?_ | refine buildP_own ?_ | refine appP_own ?_) <;> (simp -dsimp; (repeat (simp -dsimp (disch := (first | omega | assumption | (refine Bool.eq_false_iff.1 ?_; assumption))) only [wrap_in, if_pos, if_neg]; (try simp -dsimp))))) | ((first | refine guardP_of (fun hc => ?_) (fun hc => ?_) | refine st_cond rfl (fun hc => ?_) (fun hc => ?_)) <;> (try simp only [lqA, lqB, lqC, lqD, lqE, lqF, lqG, lqH, lqI, lqJ, lqK, lqL, lqM, lqN, lqO] at hc) <;> (try (exfalso; first | omega | exact bool_tf hc (by assumption) | exact bool_ft hc (by assumption) | exact absurd (by assumption) hc)) <;> (first | with_reducible show STri _ _ _ _ _ _ | (simp -dsimp [hc]; (repeat (simp -dsimp (disch := (first | omega | assumption | (refine Bool.eq_false_iff.1 ?_; assumption))) only [wrap_in, if_pos, if_neg]; (try simp -dsimp [hc]))))))))
    exact .refl _
end Go.Proofs.YtlodpljdhdhfmaaGreat
/- Wire, IV: a source of any kind. -/
namespace Go.Proofs.YtlodpljdhdhfmaaGreat
open Go.RowKit
def tyK (k : Int) : TypeId := if k = 1 then 209 else if k = 2 then 210 else if k = 3 then 211 else 212
def cI (s : Wsrc) : CV := .ifc (tyK s.kind) (cSr s)
def kindOK (k : Int) : Bool := decide (k = 1) || decide (k = 2) || decide (k = 3) || decide (k = 4)
theorem kind_cases {k : Int} (h : kindOK k = true) : k = 1 ∨ k = 2 ∨ k = 3 ∨ k = 4 := by
  unfold kindOK at h; simp at h; omega
def useV (s : Wsrc) : Bool := if s.kind = 1 then clockV s else if s.kind = 2 then eventV s else if s.kind = 3 then sunV s else true
def saidB (s : Wsrc) (n : Int) : Bool := if s.kind = 1 then within1 0 43199 n else if s.kind = 2 ∨ s.kind = 3 then decide (n = 0) else within1 0 3155760000 n
def rightB (s : Wsrc) (t said elo ehi : Int) : Bool := if s.kind = 1 then clockR s t said elo ehi else if s.kind = 2 then eventR s t elo ehi else if s.kind = 3 then sunR s t elo ehi else signalR t said elo ehi
theorem mValid (s : Wsrc) (hk : kindOK s.kind = true) (hl : s.table.length ≤ 1000000) : MethS Tryz.prog "turret/wire.isValid" (tyK s.kind) (cSr s) [] (B (useV s)) := by
  unfold useV tyK
  rcases kind_cases hk with h | h | h | h <;> rw [h]
  · exact ⟨_, by kernel_rfl, by kernel_rfl, sClockV s⟩
  · exact ⟨_, by kernel_rfl, by kernel_rfl, sEventV s⟩
  · exact ⟨_, by kernel_rfl, by kernel_rfl, sSunV s hl⟩
  · exact ⟨_, by kernel_rfl, by kernel_rfl, sSignalV s⟩
theorem mSaid (s : Wsrc) (hk : kindOK s.kind = true) (n : Int) : MethS Tryz.prog "turret/wire.isSaid" (tyK s.kind) (cSr s) [I n] (B (saidB s n)) := by
  unfold saidB tyK
  rcases kind_cases hk with h | h | h | h <;> rw [h]
  · exact ⟨_, by kernel_rfl, by kernel_rfl, sClockS s n⟩
  · exact ⟨_, by kernel_rfl, by kernel_rfl, sEventS s n⟩
  · exact ⟨_, by kernel_rfl, by kernel_rfl, sSunS s n⟩
  · exact ⟨_, by kernel_rfl, by kernel_rfl, sSignalS s n⟩
theorem mRight (s : Wsrc) (hk : kindOK s.kind = true) (hu : useV s = true) (t said elo ehi : Int) (h0 : 0 ≤ t) (ht : TSm t said elo ehi) :
    MethS Tryz.prog "turret/wire.isRight" (tyK s.kind) (cSr s) [I t, I said, .agg [I elo, I ehi]] (B (rightB s t said elo ehi)) := by
  unfold rightB tyK
  unfold useV at hu
  rcases kind_cases hk with h | h | h | h <;> rw [h] at hu ⊢
  · exact ⟨_, by kernel_rfl, by kernel_rfl, sClockR s hu t said elo ehi ht⟩
  · exact ⟨_, by kernel_rfl, by kernel_rfl, sEventR s hu t said elo ehi ht⟩
  · exact ⟨_, by kernel_rfl, by kernel_rfl, sSunR s hu t said elo ehi h0 ht⟩
  · exact ⟨_, by kernel_rfl, by kernel_rfl, sSignalR s t said elo ehi ht⟩
def kindsM : List (List Int × CV) := [([1], .fn 128 [] []), ([2], .fn 129 [] []), ([3], .fn 130 [] []), ([4], .fn 131 [] [])]
theorem sKinds : SC Tryz.prog 106 [] (.map false .i64 kindsM) := by
  refine law_wire_kinds _ _ (by simp) ?_
  unfold kindsM
  (repeat' (first | ((first | with_reducible refine st_skip ?_ | with_reducible refine st_exit ?_); (try simp only [seqQ, blockQ, loopQ, forQ, whileQ, reduceIte, Nat.reduceEqDiff])) | (with_reducible refine st_ret ?_; ((try simp only [seqQ, blockQ, loopQ, forQ, whileQ]); first | (with_reducible refine retM_ret ?_) | refine retQ_ret ?_; simp)) | refine st_seq ?_ | refine st_block ?_ | ((with_reducible show (STri _ _ _ _ _) ∧ (STri _ _ _ _ _)); refine And.intro ?_ ?_) | ((first | refine st_reg ?_ | refine buildP_own ?_ | refine appP_own ?_) <;> (simp -dsimp; (repeat (simp -dsimp (disch := (first | omega | assumption | (refine Bool.eq_false_iff.1 ?_; assumption))) only [wrap_in, if_pos, if_neg]; (try simp -dsimp))))) | ((first | refine guardP_of (fun hc => ?_) (fun hc => ?_) | refine st_cond rfl (fun hc => ?_) (fun hc => ?_)) <;> (try simp only [lqA, lqB, lqC, lqD, lqE, lqF, lqG, lqH, lqI, lqJ, lqK, lqL, lqM, lqN, lqO] at hc) <;> (try (exfalso; first | omega | exact bool_tf hc (by assumption) | exact bool_ft hc (by assumption) | exact absurd (by assumption) hc)) <;> (first | with_reducible show STri _ _ _ _ _ _ | (simp -dsimp [hc]; (repeat (simp -dsimp (disch := (first | omega | assumption | (refine Bool.eq_false_iff.1 ?_; assumption))) only [wrap_in, if_pos, if_neg]; (try simp -dsimp [hc]))))))))
  exact .refl _
theorem sKind1 (s : Wsrc) : SC Tryz.prog 128 [cSr s] (.ifc (tyK 1) (cSr s)) := by
  refine law_wire_kinds_1 _ _ (by simp) ?_
  (repeat' (first | ((first | with_reducible refine st_skip ?_ | with_reducible refine st_exit ?_); (try simp only [seqQ, blockQ, loopQ, forQ, whileQ, reduceIte, Nat.reduceEqDiff])) | (with_reducible refine st_ret ?_; ((try simp only [seqQ, blockQ, loopQ, forQ, whileQ]); first | (with_reducible refine retM_ret ?_) | refine retQ_ret ?_; simp)) | refine st_seq ?_ | refine st_block ?_ | ((with_reducible show (STri _ _ _ _ _) ∧ (STri _ _ _ _ _)); refine And.intro ?_ ?_) | ((first | refine st_reg ?_ | refine buildP_own ?_ | refine appP_own ?_) <;> (simp -dsimp; (repeat (simp -dsimp (disch := (first | omega | assumption | (refine Bool.eq_false_iff.1 ?_; assumption))) only [wrap_in, if_pos, if_neg]; (try simp -dsimp))))) | ((first | refine guardP_of (fun hc => ?_) (fun hc => ?_) | refine st_cond rfl (fun hc => ?_) (fun hc => ?_)) <;> (try simp only [lqA, lqB, lqC, lqD, lqE, lqF, lqG, lqH, lqI, lqJ, lqK, lqL, lqM, lqN, lqO] at hc) <;> (try (exfalso; first | omega | exact bool_tf hc (by assumption) | exact bool_ft hc (by assumption) | exact absurd (by assumption) hc)) <;> (first | with_reducible show STri _ _ _ _ _ _ | (simp -dsimp [hc]; (repeat (simp -dsimp (disch := (first | omega | assumption | (refine Bool.eq_false_iff.1 ?_; assumption))) only [wrap_in, if_pos, if_neg]; (try simp -dsimp [hc]))))))))
  exact .refl _
theorem sKind2 (s : Wsrc) : SC Tryz.prog 129 [cSr s] (.ifc (tyK 2) (cSr s)) := by
  refine law_wire_kinds_2 _ _ (by simp) ?_
  (repeat' (first | ((first | with_reducible refine st_skip ?_ | with_reducible refine st_exit ?_); (try simp only [seqQ, blockQ, loopQ, forQ, whileQ, reduceIte, Nat.reduceEqDiff])) | (with_reducible refine st_ret ?_; ((try simp only [seqQ, blockQ, loopQ, forQ, whileQ]); first | (with_reducible refine retM_ret ?_) | refine retQ_ret ?_; simp)) | refine st_seq ?_ | refine st_block ?_ | ((with_reducible show (STri _ _ _ _ _) ∧ (STri _ _ _ _ _)); refine And.intro ?_ ?_) | ((first | refine st_reg ?_ | refine buildP_own ?_ | refine appP_own ?_) <;> (simp -dsimp; (repeat (simp -dsimp (disch := (first | omega | assumption | (refine Bool.eq_false_iff.1 ?_; assumption))) only [wrap_in, if_pos, if_neg]; (try simp -dsimp))))) | ((first | refine guardP_of (fun hc => ?_) (fun hc => ?_) | refine st_cond rfl (fun hc => ?_) (fun hc => ?_)) <;> (try simp only [lqA, lqB, lqC, lqD, lqE, lqF, lqG, lqH, lqI, lqJ, lqK, lqL, lqM, lqN, lqO] at hc) <;> (try (exfalso; first | omega | exact bool_tf hc (by assumption) | exact bool_ft hc (by assumption) | exact absurd (by assumption) hc)) <;> (first | with_reducible show STri _ _ _ _ _ _ | (simp -dsimp [hc]; (repeat (simp -dsimp (disch := (first | omega | assumption | (refine Bool.eq_false_iff.1 ?_; assumption))) only [wrap_in, if_pos, if_neg]; (try simp -dsimp [hc]))))))))
  exact .refl _
theorem sKind3 (s : Wsrc) : SC Tryz.prog 130 [cSr s] (.ifc (tyK 3) (cSr s)) := by
  refine law_wire_kinds_3 _ _ (by simp) ?_
  (repeat' (first | ((first | with_reducible refine st_skip ?_ | with_reducible refine st_exit ?_); (try simp only [seqQ, blockQ, loopQ, forQ, whileQ, reduceIte, Nat.reduceEqDiff])) | (with_reducible refine st_ret ?_; ((try simp only [seqQ, blockQ, loopQ, forQ, whileQ]); first | (with_reducible refine retM_ret ?_) | refine retQ_ret ?_; simp)) | refine st_seq ?_ | refine st_block ?_ | ((with_reducible show (STri _ _ _ _ _) ∧ (STri _ _ _ _ _)); refine And.intro ?_ ?_) | ((first | refine st_reg ?_ | refine buildP_own ?_ | refine appP_own ?_) <;> (simp -dsimp; (repeat (simp -dsimp (disch := (first | omega | assumption | (refine Bool.eq_false_iff.1 ?_; assumption))) only [wrap_in, if_pos, if_neg]; (try simp -dsimp))))) | ((first | refine guardP_of (fun hc => ?_) (fun hc => ?_) | refine st_cond rfl (fun hc => ?_) (fun hc => ?_)) <;> (try simp only [lqA, lqB, lqC, lqD, lqE, lqF, lqG, lqH, lqI, lqJ, lqK, lqL, lqM, lqN, lqO] at hc) <;> (try (exfalso; first | omega | exact bool_tf hc (by assumption) | exact bool_ft hc (by assumption) | exact absurd (by assumption) hc)) <;> (first | with_reducible show STri _ _ _ _ _ _ | (simp -dsimp [hc]; (repeat (simp -dsimp (disch := (first | omega | assumption | (refine Bool.eq_false_iff.1 ?_; assumption))) only [wrap_in, if_pos, if_neg]; (try simp -dsimp [hc]))))))))
  exact .refl _
theorem sKind4 (s : Wsrc) : SC Tryz.prog 131 [cSr s] (.ifc (tyK 4) (cSr s)) := by
  refine law_wire_kinds_4 _ _ (by simp) ?_
  (repeat' (first | ((first | with_reducible refine st_skip ?_ | with_reducible refine st_exit ?_); (try simp only [seqQ, blockQ, loopQ, forQ, whileQ, reduceIte, Nat.reduceEqDiff])) | (with_reducible refine st_ret ?_; ((try simp only [seqQ, blockQ, loopQ, forQ, whileQ]); first | (with_reducible refine retM_ret ?_) | refine retQ_ret ?_; simp)) | refine st_seq ?_ | refine st_block ?_ | ((with_reducible show (STri _ _ _ _ _) ∧ (STri _ _ _ _ _)); refine And.intro ?_ ?_) | ((first | refine st_reg ?_ | refine buildP_own ?_ | refine appP_own ?_) <;> (simp -dsimp; (repeat (simp -dsimp (disch := (first | omega | assumption | (refine Bool.eq_false_iff.1 ?_; assumption))) only [wrap_in, if_pos, if_neg]; (try simp -dsimp))))) | ((first | refine guardP_of (fun hc => ?_) (fun hc => ?_) | refine st_cond rfl (fun hc => ?_) (fun hc => ?_)) <;> (try simp only [lqA, lqB, lqC, lqD, lqE, lqF, lqG, lqH, lqI, lqJ, lqK, lqL, lqM, lqN, lqO] at hc) <;> (try (exfalso; first | omega | exact bool_tf hc (by assumption) | exact bool_ft hc (by assumption) | exact absurd (by assumption) hc)) <;> (first | with_reducible show STri _ _ _ _ _ _ | (simp -dsimp [hc]; (repeat (simp -dsimp (disch := (first | omega | assumption | (refine Bool.eq_false_iff.1 ?_; assumption))) only [wrap_in, if_pos, if_neg]; (try simp -dsimp [hc]))))))))
  exact .refl _
end Go.Proofs.YtlodpljdhdhfmaaGreat
/- Wire, V: sources are made. -/
namespace Go.Proofs.YtlodpljdhdhfmaaGreat
open Go.RowKit
def baseV (s : Wsrc) : Bool := kindOK s.kind && spanW s.elo s.ehi 3600
def validV (s : Wsrc) : Bool := baseV s && useV s
def srcX (s : Wsrc) : CV := if baseV s = true then cI s else .val .nilIface
theorem findK1 : kindsM.find? (fun p => p.1 == [1]) = some ([1], .fn 128 [] []) := rfl
theorem findK2 : kindsM.find? (fun p => p.1 == [2]) = some ([2], .fn 129 [] []) := rfl
theorem findK3 : kindsM.find? (fun p => p.1 == [3]) = some ([3], .fn 130 [] []) := rfl
theorem findK4 : kindsM.find? (fun p => p.1 == [4]) = some ([4], .fn 131 [] []) := rfl
theorem findK0 {k : Int} (h : ¬ kindOK k = true) : kindsM.find? (fun p => p.1 == [k]) = none := by
  unfold kindOK at h
  simp at h
  unfold kindsM
  have a1 : ¬ 1 = k := fun e => by omega
  have a2 : ¬ 2 = k := fun e => by omega
  have a3 : ¬ 3 = k := fun e => by omega
  have a4 : ¬ 4 = k := fun e => by omega
  simp [a1, a2, a3, a4]
theorem sNewSource (s : Wsrc) (hl : s.table.length ≤ 1000000) : SC Tryz.prog 79 [cSr s] (.tup [srcX s, B (validV s)]) := by
  refine law_wire_newSource _ _ (by simp) ?_
  have hs := sIsSpanW s.elo s.ehi 3600 (by omega) (by omega)
  by_cases hk : kindOK s.kind = true
  · have hm := mValid s hk hl
    have hv : validV s = (spanW s.elo s.ehi 3600 && useV s) := by unfold validV baseV; rw [hk]; rfl
    have hx : srcX s = if spanW s.elo s.ehi 3600 = true then .ifc (tyK s.kind) (cSr s) else .val .nilIface := by unfold srcX baseV cI; rw [hk]; simp
    rw [hv, hx]
    generalize spanW s.elo s.ehi 3600 = sp at *
    generalize useV s = uv at *
    obtain ⟨kind, elo, ehi, at', dlo, dhi, every, table⟩ := s
    simp only at hk hl
    rcases kind_cases hk with h | h | h | h <;> subst h
    · (repeat' (first | ((first | with_reducible refine st_skip ?_ | with_reducible refine st_exit ?_); (try simp only [seqQ, blockQ, loopQ, forQ, whileQ, reduceIte, Nat.reduceEqDiff])) | (with_reducible refine st_ret ?_; ((try simp only [seqQ, blockQ, loopQ, forQ, whileQ]); first | (with_reducible refine retM_ret ?_) | refine retQ_ret ?_; simp [findK1])) | refine st_seq ?_ | refine st_block ?_ | ((with_reducible show (STri _ _ _ _ _) ∧ (STri _ _ _ _ _)); refine And.intro ?_ ?_) | ((first | refine st_reg ?_ | ((with_reducible show callVP _ _ _ _ _ _ _); refine callV_b (by first | exact Ent.h (by assumption) | kernel_rfl) (sKind1 ⟨1, elo, ehi, at', dlo, dhi, every, table⟩) rfl ?_) | refine buildP_own ?_ | refine appP_own ?_ | ((with_reducible show callIP _ _ _ _ _ _ _); refine callI_m (hm) rfl ?_) | refine callP_b (sKinds) rfl ?_ | refine callP_b (hs) rfl ?_) <;> (simp -dsimp [findK1]; (repeat (simp -dsimp (disch := (first | omega | assumption | (refine Bool.eq_false_iff.1 ?_; assumption))) only [wrap_in, if_pos, if_neg]; (try simp -dsimp [findK1]))))) | ((first | refine guardP_of (fun hc => ?_) (fun hc => ?_) | refine st_cond rfl (fun hc => ?_) (fun hc => ?_)) <;> (try simp only [lqA, lqB, lqC, lqD, lqE, lqF, lqG, lqH, lqI, lqJ, lqK, lqL, lqM, lqN, lqO] at hc) <;> (try (exfalso; first | omega | exact bool_tf hc (by assumption) | exact bool_ft hc (by assumption) | exact absurd (by assumption) hc)) <;> (first | with_reducible show STri _ _ _ _ _ _ | (simp -dsimp [findK1, hc]; (repeat (simp -dsimp (disch := (first | omega | assumption | (refine Bool.eq_false_iff.1 ?_; assumption))) only [wrap_in, if_pos, if_neg]; (try simp -dsimp [findK1, hc]))))))))
      all_goals (subst hc; first | exact .refl _ | (simp; exact .refl _))
    · (repeat' (first | ((first | with_reducible refine st_skip ?_ | with_reducible refine st_exit ?_); (try simp only [seqQ, blockQ, loopQ, forQ, whileQ, reduceIte, Nat.reduceEqDiff])) | (with_reducible refine st_ret ?_; ((try simp only [seqQ, blockQ, loopQ, forQ, whileQ]); first | (with_reducible refine retM_ret ?_) | refine retQ_ret ?_; simp [findK2])) | refine st_seq ?_ | refine st_block ?_ | ((with_reducible show (STri _ _ _ _ _) ∧ (STri _ _ _ _ _)); refine And.intro ?_ ?_) | ((first | refine st_reg ?_ | ((with_reducible show callVP _ _ _ _ _ _ _); refine callV_b (by first | exact Ent.h (by assumption) | kernel_rfl) (sKind2 ⟨2, elo, ehi, at', dlo, dhi, every, table⟩) rfl ?_) | refine buildP_own ?_ | refine appP_own ?_ | ((with_reducible show callIP _ _ _ _ _ _ _); refine callI_m (hm) rfl ?_) | refine callP_b (sKinds) rfl ?_ | refine callP_b (hs) rfl ?_) <;> (simp -dsimp [findK2]; (repeat (simp -dsimp (disch := (first | omega | assumption | (refine Bool.eq_false_iff.1 ?_; assumption))) only [wrap_in, if_pos, if_neg]; (try simp -dsimp [findK2]))))) | ((first | refine guardP_of (fun hc => ?_) (fun hc => ?_) | refine st_cond rfl (fun hc => ?_) (fun hc => ?_)) <;> (try simp only [lqA, lqB, lqC, lqD, lqE, lqF, lqG, lqH, lqI, lqJ, lqK, lqL, lqM, lqN, lqO] at hc) <;> (try (exfalso; first | omega | exact bool_tf hc (by assumption) | exact bool_ft hc (by assumption) | exact absurd (by assumption) hc)) <;> (first | with_reducible show STri _ _ _ _ _ _ | (simp -dsimp [findK2, hc]; (repeat (simp -dsimp (disch := (first | omega | assumption | (refine Bool.eq_false_iff.1 ?_; assumption))) only [wrap_in, if_pos, if_neg]; (try simp -dsimp [findK2, hc]))))))))
      all_goals (subst hc; first | exact .refl _ | (simp; exact .refl _))
    · (repeat' (first | ((first | with_reducible refine st_skip ?_ | with_reducible refine st_exit ?_); (try simp only [seqQ, blockQ, loopQ, forQ, whileQ, reduceIte, Nat.reduceEqDiff])) | (with_reducible refine st_ret ?_; ((try simp only [seqQ, blockQ, loopQ, forQ, whileQ]); first | (with_reducible refine retM_ret ?_) | refine retQ_ret ?_; simp [findK3])) | refine st_seq ?_ | refine st_block ?_ | ((with_reducible show (STri _ _ _ _ _) ∧ (STri _ _ _ _ _)); refine And.intro ?_ ?_) | ((first | refine st_reg ?_ | ((with_reducible show callVP _ _ _ _ _ _ _); refine callV_b (by first | exact Ent.h (by assumption) | kernel_rfl) (sKind3 ⟨3, elo, ehi, at', dlo, dhi, every, table⟩) rfl ?_) | refine buildP_own ?_ | refine appP_own ?_ | ((with_reducible show callIP _ _ _ _ _ _ _); refine callI_m (hm) rfl ?_) | refine callP_b (sKinds) rfl ?_ | refine callP_b (hs) rfl ?_) <;> (simp -dsimp [findK3]; (repeat (simp -dsimp (disch := (first | omega | assumption | (refine Bool.eq_false_iff.1 ?_; assumption))) only [wrap_in, if_pos, if_neg]; (try simp -dsimp [findK3]))))) | ((first | refine guardP_of (fun hc => ?_) (fun hc => ?_) | refine st_cond rfl (fun hc => ?_) (fun hc => ?_)) <;> (try simp only [lqA, lqB, lqC, lqD, lqE, lqF, lqG, lqH, lqI, lqJ, lqK, lqL, lqM, lqN, lqO] at hc) <;> (try (exfalso; first | omega | exact bool_tf hc (by assumption) | exact bool_ft hc (by assumption) | exact absurd (by assumption) hc)) <;> (first | with_reducible show STri _ _ _ _ _ _ | (simp -dsimp [findK3, hc]; (repeat (simp -dsimp (disch := (first | omega | assumption | (refine Bool.eq_false_iff.1 ?_; assumption))) only [wrap_in, if_pos, if_neg]; (try simp -dsimp [findK3, hc]))))))))
      all_goals (subst hc; first | exact .refl _ | (simp; exact .refl _))
    · (repeat' (first | ((first | with_reducible refine st_skip ?_ | with_reducible refine st_exit ?_); (try simp only [seqQ, blockQ, loopQ, forQ, whileQ, reduceIte, Nat.reduceEqDiff])) | (with_reducible refine st_ret ?_; ((try simp only [seqQ, blockQ, loopQ, forQ, whileQ]); first | (with_reducible refine retM_ret ?_) | refine retQ_ret ?_; simp [findK4])) | refine st_seq ?_ | refine st_block ?_ | ((with_reducible show (STri _ _ _ _ _) ∧ (STri _ _ _ _ _)); refine And.intro ?_ ?_) | ((first | refine st_reg ?_ | ((with_reducible show callVP _ _ _ _ _ _ _); refine callV_b (by first | exact Ent.h (by assumption) | kernel_rfl) (sKind4 ⟨4, elo, ehi, at', dlo, dhi, every, table⟩) rfl ?_) | refine buildP_own ?_ | refine appP_own ?_ | ((with_reducible show callIP _ _ _ _ _ _ _); refine callI_m (hm) rfl ?_) | refine callP_b (sKinds) rfl ?_ | refine callP_b (hs) rfl ?_) <;> (simp -dsimp [findK4]; (repeat (simp -dsimp (disch := (first | omega | assumption | (refine Bool.eq_false_iff.1 ?_; assumption))) only [wrap_in, if_pos, if_neg]; (try simp -dsimp [findK4]))))) | ((first | refine guardP_of (fun hc => ?_) (fun hc => ?_) | refine st_cond rfl (fun hc => ?_) (fun hc => ?_)) <;> (try simp only [lqA, lqB, lqC, lqD, lqE, lqF, lqG, lqH, lqI, lqJ, lqK, lqL, lqM, lqN, lqO] at hc) <;> (try (exfalso; first | omega | exact bool_tf hc (by assumption) | exact bool_ft hc (by assumption) | exact absurd (by assumption) hc)) <;> (first | with_reducible show STri _ _ _ _ _ _ | (simp -dsimp [findK4, hc]; (repeat (simp -dsimp (disch := (first | omega | assumption | (refine Bool.eq_false_iff.1 ?_; assumption))) only [wrap_in, if_pos, if_neg]; (try simp -dsimp [findK4, hc]))))))))
      all_goals (subst hc; first | exact .refl _ | (simp; exact .refl _))
  · have hb : baseV s = false := by unfold baseV; simp [hk]
    have hv : validV s = false := by unfold validV; rw [hb]; rfl
    have hx : srcX s = .val .nilIface := by unfold srcX; rw [hb]; rfl
    have hg2 := findK0 hk
    rw [hv, hx]
    (repeat' (first | ((first | with_reducible refine st_skip ?_ | with_reducible refine st_exit ?_); (try simp only [seqQ, blockQ, loopQ, forQ, whileQ, reduceIte, Nat.reduceEqDiff])) | (with_reducible refine st_ret ?_; ((try simp only [seqQ, blockQ, loopQ, forQ, whileQ]); first | (with_reducible refine retM_ret ?_) | refine retQ_ret ?_; simp [hg2])) | refine st_seq ?_ | refine st_block ?_ | ((with_reducible show (STri _ _ _ _ _) ∧ (STri _ _ _ _ _)); refine And.intro ?_ ?_) | ((first | refine st_reg ?_ | refine buildP_own ?_ | refine appP_own ?_ | refine callP_b (sKinds) rfl ?_) <;> (simp -dsimp [hg2]; (repeat (simp -dsimp (disch := (first | omega | assumption | (refine Bool.eq_false_iff.1 ?_; assumption))) only [wrap_in, if_pos, if_neg]; (try simp -dsimp [hg2]))))) | ((first | refine guardP_of (fun hc => ?_) (fun hc => ?_) | refine st_cond rfl (fun hc => ?_) (fun hc => ?_)) <;> (try simp only [lqA, lqB, lqC, lqD, lqE, lqF, lqG, lqH, lqI, lqJ, lqK, lqL, lqM, lqN, lqO] at hc) <;> (try (exfalso; first | omega | exact bool_tf hc (by assumption) | exact bool_ft hc (by assumption) | exact absurd (by assumption) hc)) <;> (first | with_reducible show STri _ _ _ _ _ _ | (simp -dsimp [hg2, hc]; (repeat (simp -dsimp (disch := (first | omega | assumption | (refine Bool.eq_false_iff.1 ?_; assumption))) only [wrap_in, if_pos, if_neg]; (try simp -dsimp [hg2, hc]))))))))
    exact .refl _
end Go.Proofs.YtlodpljdhdhfmaaGreat
/- Wire, VI: books. -/
namespace Go.Proofs.YtlodpljdhdhfmaaGreat
open Go.RowKit
structure Wbk where
  (srcs : List Wsrc) (errs : List (Int × Int)) (notes : List Wnt) (nlo nhi : Int)
def rowS (s : Wsrc) : List CV := [cI s]
def rowE (e : Int × Int) : List CV := [I e.1, I e.2]
def rowBk (b : Wbk) : List CV := [.sl 1 (b.srcs.map rowS), .sl 2 (b.errs.map rowE), slN b.notes, I b.nlo, I b.nhi]
def cBk (b : Wbk) : CV := .agg (rowBk b)
attribute [simp] rowS rowE rowBk cBk cI
def errOf (s : Wsrc) : Int × Int := (s.elo, s.ehi)
def bare (w : List Wsrc) : Wbk := ⟨w, w.map errOf, [], 0, 0⟩
def sizeW (w : List Wsrc) : Bool := within1 1 10 w.length
def noteErr (w : List Wsrc) (n : Wnt) : Int :=
  if within1 0 (w.length - 1) n.src = true then (if within1 0 3155760000 n.tick = true ∧ (w.map fun s => saidB s n.said).getD n.src.toNat false = true then 0 else 2) else 7
def notesErr (w : List Wsrc) (l : List Wnt) : Int := match l.find? (fun n => decide (noteErr w n ≠ 0)) with
  | some n => noteErr w n
  | none => 0
def newErr (w : List Wsrc) (l : List Wnt) (nlo nhi : Int) : Int :=
  if ¬ sizeW w = true then 2 else if ¬ w.all validV = true then 2 else if 60 < l.length then 5 else if ¬ notesErr w l = 0 then notesErr w l else if spanW nlo nhi 7200 = true then 0 else 3
def newBk (w : List Wsrc) (l : List Wnt) (nlo nhi : Int) : Wbk :=
  if ¬ sizeW w = true then bare [] else if ¬ w.all validV = true then bare (w.takeWhile validV) else if newErr w l nlo nhi = 0 then ⟨w, w.map errOf, l, nlo, nhi⟩ else bare w
def AllV (w : List Wsrc) (k : Nat) : Prop := ∀ s ∈ w.take k, validV s = true
theorem allV_succ {w : List Wsrc} {k : Nat} (hlt : k < w.length) (h : AllV w k) (hv : validV w[k] = true) : AllV w (k + 1) := fun s hs => by
  rw [List.take_succ_eq_append_getElem hlt, List.mem_append] at hs
  rcases hs with hs | hs
  · exact h s hs
  · simp at hs; rw [hs]; exact hv
theorem allV_all {w : List Wsrc} (h : AllV w w.length) : w.all validV = true := List.all_eq_true.2 fun s hs => h s (by rw [List.take_length]; exact hs)
theorem allV_stop : ∀ {w : List Wsrc} {k : Nat} (hlt : k < w.length), AllV w k → validV w[k] = false → w.takeWhile validV = w.take k ∧ ¬ w.all validV = true
  | s :: w, 0, _, _, hv => by
    have : validV s = false := hv
    simp [this]
  | s :: w, k + 1, hlt, h, hv => by
    have h1 : validV s = true := h s (by simp)
    obtain ⟨e1, e2⟩ := allV_stop (w := w) (k := k) (by simpa using hlt) (fun x hx => h x (by simp [hx])) (by simpa using hv)
    exact ⟨by simp [h1, e1], by simp only [List.all_cons, h1, Bool.true_and]; exact e2⟩
theorem valid_X {s : Wsrc} (h : validV s = true) : srcX s = cI s := by
  unfold validV at h
  unfold srcX
  rw [if_pos (by simp at h; exact h.1)]
def NotesTo (w : List Wsrc) (l : List Wnt) (k : Nat) : Prop := ∀ n ∈ l.take k, noteErr w n = 0
theorem notes_succ {w : List Wsrc} {l : List Wnt} {k : Nat} (hlt : k < l.length) (h : NotesTo w l k) (hv : noteErr w l[k] = 0) : NotesTo w l (k + 1) := fun s hs => by
  rw [List.take_succ_eq_append_getElem hlt, List.mem_append] at hs
  rcases hs with hs | hs
  · exact h s hs
  · simp at hs; rw [hs]; exact hv
theorem notes_all {w : List Wsrc} {l : List Wnt} (h : NotesTo w l l.length) : notesErr w l = 0 := by
  unfold notesErr
  rw [List.find?_eq_none.2 (fun n hn => by simpa using h n (by rw [List.take_length]; exact hn))]
theorem notes_stop : ∀ {w : List Wsrc} {l : List Wnt} {k : Nat} (hlt : k < l.length), NotesTo w l k → ¬ noteErr w l[k] = 0 → notesErr w l = noteErr w l[k]
  | w, n :: l, 0, _, _, hv => by
    unfold notesErr
    have : ¬ noteErr w n = 0 := hv
    simp [this]
  | w, n :: l, k + 1, hlt, h, hv => by
    have h1 : noteErr w n = 0 := h n (by simp)
    have ih := notes_stop (w := w) (l := l) (k := k) (by simpa using hlt) (fun x hx => h x (by simp [hx])) (by simpa using hv)
    unfold notesErr at ih ⊢
    simp [h1] at ih ⊢
    exact ih
theorem take_map_succ {α β : Type} (f : α → β) {w : List α} {k : Nat} (hlt : k < w.length) : (w.map f).take (k + 1) = (w.map f).take k ++ [f w[k]] := by
  rw [List.take_succ_eq_append_getElem (by simpa using hlt), List.getElem_map]
structure WLen (w : List Wsrc) : Prop where
  h : ∀ s ∈ w, s.table.length ≤ 1000000
theorem sNewBook (w : List Wsrc) (hw : WLen w) (l : List Wnt) (hl : l.length ≤ 1000000) (nlo nhi : Int) :
    SC Tryz.prog 41 [slSr w, slN l, .agg [I nlo, I nhi]] (.tup [cBk (newBk w l nlo nhi), I (newErr w l nlo nhi)]) := by
  refine law_wire_newBook _ _ (by simp) ?_
  have s1 := sWithinW 1 10 [(w.length : Int)] (by simp)
  rw [allIn_one] at s1
  change SC _ _ _ (B (sizeW w)) at s1
  by_cases hz : sizeW w = true
  case neg =>
    have e1 : newBk w l nlo nhi = bare [] := by unfold newBk; rw [if_pos hz]
    have e2 : newErr w l nlo nhi = 2 := by unfold newErr; rw [if_pos hz]
    rw [e1, e2]
    unfold bare
    (repeat' (first | (refine st_nilB 6 0 200 157 1 rfl (by simp) rfl (by simp [newOK]) ?_) | (refine st_nilB 6 1 201 34 2 rfl (by simp) rfl (by simp [newOK]) ?_) | (refine st_nilB 6 2 202 81 3 rfl (by simp) rfl (by simp [newOK]) ?_) | ((first | with_reducible refine st_skip ?_ | with_reducible refine st_exit ?_); (try simp only [seqQ, blockQ, loopQ, forQ, whileQ, reduceIte, Nat.reduceEqDiff])) | (with_reducible refine st_ret ?_; ((try simp only [seqQ, blockQ, loopQ, forQ, whileQ]); first | (with_reducible refine retM_ret ?_) | refine retQ_ret ?_; simp [hz])) | refine st_seq ?_ | refine st_block ?_ | ((with_reducible show (STri _ _ _ _ _) ∧ (STri _ _ _ _ _)); refine And.intro ?_ ?_) | ((first | refine st_reg ?_ | refine buildP_own ?_ | refine appP_own ?_ | refine callP_b (s1) rfl ?_) <;> (simp -dsimp [hz]; (repeat (simp -dsimp (disch := (first | omega | assumption | (refine Bool.eq_false_iff.1 ?_; assumption))) only [wrap_in, if_pos, if_neg]; (try simp -dsimp [hz]))))) | ((first | refine guardP_of (fun hc => ?_) (fun hc => ?_) | refine st_cond rfl (fun hc => ?_) (fun hc => ?_)) <;> (try simp only [lqA, lqB, lqC, lqD, lqE, lqF, lqG, lqH, lqI, lqJ, lqK, lqL, lqM, lqN, lqO] at hc) <;> (try (exfalso; first | omega | exact bool_tf hc (by assumption) | exact bool_ft hc (by assumption) | exact absurd (by assumption) hc)) <;> (first | with_reducible show STri _ _ _ _ _ _ | (simp -dsimp [hz, hc]; (repeat (simp -dsimp (disch := (first | omega | assumption | (refine Bool.eq_false_iff.1 ?_; assumption))) only [wrap_in, if_pos, if_neg]; (try simp -dsimp [hz, hc]))))))))
    all_goals exact .refl _
  have hlen : 1 ≤ w.length ∧ w.length ≤ 10 := by
    unfold sizeW within1 at hz; simp at hz; omega
  (repeat' (first | (refine st_nilB 6 0 200 157 1 rfl (by simp) rfl (by simp [newOK]) ?_) | (refine st_nilB 6 1 201 34 2 rfl (by simp) rfl (by simp [newOK]) ?_) | (refine st_nilB 6 2 202 81 3 rfl (by simp) rfl (by simp [newOK]) ?_) | ((first | with_reducible refine st_skip ?_ | with_reducible refine st_exit ?_); (try simp only [seqQ, blockQ, loopQ, forQ, whileQ, reduceIte, Nat.reduceEqDiff])) | (with_reducible refine st_ret ?_; ((try simp only [seqQ, blockQ, loopQ, forQ, whileQ]); first | (with_reducible refine retM_ret ?_) | refine retQ_ret ?_; simp [hz])) | refine st_seq ?_ | refine st_block ?_ | ((with_reducible show (STri _ _ _ _ _) ∧ (STri _ _ _ _ _)); refine And.intro ?_ ?_) | ((first | refine st_reg ?_ | refine buildP_own ?_ | refine appP_own ?_ | refine callP_b (s1) rfl ?_) <;> (simp -dsimp [hz]; (repeat (simp -dsimp (disch := (first | omega | assumption | (refine Bool.eq_false_iff.1 ?_; assumption))) only [wrap_in, if_pos, if_neg]; (try simp -dsimp [hz]))))) | ((first | refine guardP_of (fun hc => ?_) (fun hc => ?_) | refine st_cond rfl (fun hc => ?_) (fun hc => ?_)) <;> (try simp only [lqA, lqB, lqC, lqD, lqE, lqF, lqG, lqH, lqI, lqJ, lqK, lqL, lqM, lqN, lqO] at hc) <;> (try (exfalso; first | omega | exact bool_tf hc (by assumption) | exact bool_ft hc (by assumption) | exact absurd (by assumption) hc)) <;> (first | with_reducible show STri _ _ _ _ _ _ | (simp -dsimp [hz, hc]; (repeat (simp -dsimp (disch := (first | omega | assumption | (refine Bool.eq_false_iff.1 ?_; assumption))) only [wrap_in, if_pos, if_neg]; (try simp -dsimp [hz, hc]))))))))
  refine st_for [5, 6, 200, 201, 202] w.length (fun k T H => AllV w k ∧ T = [(0, .c (slSr w)), (1, .c (slN l)), (5, .ptr 5 0), (6, .ptr 6 0), (20, .c (slSr w)), (21, .c (I w.length)), (22, .c (I k))] ∧
    H = [(5, .box 34 [.c (I nlo), .c (I nhi)]), (6, .box 118 [.own 200 k, .own 201 k, .own 202 0, .c (I 0), .c (I 0)]), (200, .arr 157 1 ((w.take k).map rowS)), (201, .arr 34 2 (((w.take k).map errOf).map rowE)), (202, .arr 81 3 [])]) (by simp) ⟨fun s hs => by simp at hs, by simp, by simp⟩ ?_
  rintro k T H hk ⟨hall, rfl, rfl⟩
  by_cases hlt : k < w.length
  · have sn := sNewSource w[k] (hw.h _ (List.getElem_mem hlt))
    have hkl : (w.take k).length = k := by rw [List.length_take]; omega
    have hm : min k w.length = k := by omega
    have hA : k ≤ 9223372036854775806 := by omega
    have hB : (k + 1) * 16 ≤ 140737488355328 := by omega
    by_cases hv : validV w[k] = true
    · rw [valid_X hv, hv] at sn
      (repeat' (first | ((first | with_reducible refine st_skip ?_ | with_reducible refine st_exit ?_); (try simp only [seqQ, blockQ, loopQ, forQ, whileQ, reduceIte, Nat.reduceEqDiff])) | (with_reducible refine st_ret ?_; ((try simp only [seqQ, blockQ, loopQ, forQ, whileQ]); first | (with_reducible refine retM_ret ?_) | refine retQ_ret ?_; simp [hlt, hm, hA, hB])) | refine st_seq ?_ | refine st_block ?_ | ((with_reducible show (STri _ _ _ _ _) ∧ (STri _ _ _ _ _)); refine And.intro ?_ ?_) | ((first | refine st_reg ?_ | refine buildP_own ?_ | refine appP_own ?_ | refine callP_b (sn) rfl ?_) <;> (simp -dsimp [hlt, hm, hA, hB]; (repeat (simp -dsimp (disch := (first | omega | assumption | (refine Bool.eq_false_iff.1 ?_; assumption))) only [wrap_in, if_pos, if_neg]; (try simp -dsimp [hlt, hm, hA, hB]))))) | ((first | refine guardP_of (fun hc => ?_) (fun hc => ?_) | refine st_cond rfl (fun hc => ?_) (fun hc => ?_)) <;> (try simp only [lqA, lqB, lqC, lqD, lqE, lqF, lqG, lqH, lqI, lqJ, lqK, lqL, lqM, lqN, lqO] at hc) <;> (try (exfalso; first | omega | exact bool_tf hc (by assumption) | exact bool_ft hc (by assumption) | exact absurd (by assumption) hc)) <;> (first | with_reducible show STri _ _ _ _ _ _ | (simp -dsimp [hlt, hm, hA, hB, hc]; (repeat (simp -dsimp (disch := (first | omega | assumption | (refine Bool.eq_false_iff.1 ?_; assumption))) only [wrap_in, if_pos, if_neg]; (try simp -dsimp [hlt, hm, hA, hB, hc]))))))))
      exact ⟨hlt, by simp, allV_succ hlt hall hv, by simp, by simp [take_map_succ _ hlt, hm, errOf]⟩
    · rw [Bool.not_eq_true] at hv
      rw [hv] at sn
      obtain ⟨e3, e4⟩ := allV_stop hlt hall hv
      have e1 : newBk w l nlo nhi = bare (w.take k) := by unfold newBk; rw [if_neg (by rw [hz]; decide), if_pos e4, e3]
      have e2 : newErr w l nlo nhi = 2 := by unfold newErr; rw [if_neg (by rw [hz]; decide), if_pos e4]
      rw [e1, e2]
      unfold bare
      (repeat' (first | ((first | with_reducible refine st_skip ?_ | with_reducible refine st_exit ?_); (try simp only [seqQ, blockQ, loopQ, forQ, whileQ, reduceIte, Nat.reduceEqDiff])) | (with_reducible refine st_ret ?_; ((try simp only [seqQ, blockQ, loopQ, forQ, whileQ]); first | (with_reducible refine retM_ret ?_) | refine retQ_ret ?_; simp [hlt, hm])) | refine st_seq ?_ | refine st_block ?_ | ((with_reducible show (STri _ _ _ _ _) ∧ (STri _ _ _ _ _)); refine And.intro ?_ ?_) | ((first | refine st_reg ?_ | refine buildP_own ?_ | refine appP_own ?_ | refine callP_b (sn) rfl ?_) <;> (simp -dsimp [hlt, hm]; (repeat (simp -dsimp (disch := (first | omega | assumption | (refine Bool.eq_false_iff.1 ?_; assumption))) only [wrap_in, if_pos, if_neg]; (try simp -dsimp [hlt, hm]))))) | ((first | refine guardP_of (fun hc => ?_) (fun hc => ?_) | refine st_cond rfl (fun hc => ?_) (fun hc => ?_)) <;> (try simp only [lqA, lqB, lqC, lqD, lqE, lqF, lqG, lqH, lqI, lqJ, lqK, lqL, lqM, lqN, lqO] at hc) <;> (try (exfalso; first | omega | exact bool_tf hc (by assumption) | exact bool_ft hc (by assumption) | exact absurd (by assumption) hc)) <;> (first | with_reducible show STri _ _ _ _ _ _ | (simp -dsimp [hlt, hm, hc]; (repeat (simp -dsimp (disch := (first | omega | assumption | (refine Bool.eq_false_iff.1 ?_; assumption))) only [wrap_in, if_pos, if_neg]; (try simp -dsimp [hlt, hm, hc]))))))))
      exact .refl _
  have hkw : k = w.length := by omega
  subst hkw
  have hav := allV_all hall
  have hz1 : ¬ ¬ sizeW w = true := by rw [hz]; decide
  have hz2 : ¬ ¬ w.all validV = true := by rw [hav]; decide
  have hbk : newBk w l nlo nhi = if newErr w l nlo nhi = 0 then ⟨w, w.map errOf, l, nlo, nhi⟩ else bare w := by unfold newBk; rw [if_neg hz1, if_neg hz2]
  have her : newErr w l nlo nhi = if 60 < l.length then 5 else if ¬ notesErr w l = 0 then notesErr w l else if spanW nlo nhi 7200 = true then 0 else 3 := by unfold newErr; rw [if_neg hz1, if_neg hz2]
  rw [List.take_length]
  by_cases h60 : 60 < l.length
  · rw [if_pos h60] at her
    rw [hbk, her, if_neg (by decide)]
    unfold bare
    (repeat' (first | ((first | with_reducible refine st_skip ?_ | with_reducible refine st_exit ?_); (try simp only [seqQ, blockQ, loopQ, forQ, whileQ, reduceIte, Nat.reduceEqDiff])) | (with_reducible refine st_ret ?_; ((try simp only [seqQ, blockQ, loopQ, forQ, whileQ]); first | (with_reducible refine retM_ret ?_) | refine retQ_ret ?_; simp [hlt, h60])) | refine st_seq ?_ | refine st_block ?_ | ((with_reducible show (STri _ _ _ _ _) ∧ (STri _ _ _ _ _)); refine And.intro ?_ ?_) | ((first | refine st_reg ?_ | refine buildP_own ?_ | refine appP_own ?_) <;> (simp -dsimp [hlt, h60]; (repeat (simp -dsimp (disch := (first | omega | assumption | (refine Bool.eq_false_iff.1 ?_; assumption))) only [wrap_in, if_pos, if_neg]; (try simp -dsimp [hlt, h60]))))) | ((first | refine guardP_of (fun hc => ?_) (fun hc => ?_) | refine st_cond rfl (fun hc => ?_) (fun hc => ?_)) <;> (try simp only [lqA, lqB, lqC, lqD, lqE, lqF, lqG, lqH, lqI, lqJ, lqK, lqL, lqM, lqN, lqO] at hc) <;> (try (exfalso; first | omega | exact bool_tf hc (by assumption) | exact bool_ft hc (by assumption) | exact absurd (by assumption) hc)) <;> (first | with_reducible show STri _ _ _ _ _ _ | (simp -dsimp [hlt, h60, hc]; (repeat (simp -dsimp (disch := (first | omega | assumption | (refine Bool.eq_false_iff.1 ?_; assumption))) only [wrap_in, if_pos, if_neg]; (try simp -dsimp [hlt, h60, hc]))))))))
    exact .refl _
  rw [if_neg h60] at her
  (repeat' (first | ((first | with_reducible refine st_skip ?_ | with_reducible refine st_exit ?_); (try simp only [seqQ, blockQ, loopQ, forQ, whileQ, reduceIte, Nat.reduceEqDiff])) | (with_reducible refine st_ret ?_; ((try simp only [seqQ, blockQ, loopQ, forQ, whileQ]); first | (with_reducible refine retM_ret ?_) | refine retQ_ret ?_; simp [hlt, h60])) | refine st_seq ?_ | refine st_block ?_ | ((with_reducible show (STri _ _ _ _ _) ∧ (STri _ _ _ _ _)); refine And.intro ?_ ?_) | ((first | refine st_reg ?_ | refine buildP_own ?_ | refine appP_own ?_) <;> (simp -dsimp [hlt, h60]; (repeat (simp -dsimp (disch := (first | omega | assumption | (refine Bool.eq_false_iff.1 ?_; assumption))) only [wrap_in, if_pos, if_neg]; (try simp -dsimp [hlt, h60]))))) | ((first | refine guardP_of (fun hc => ?_) (fun hc => ?_) | refine st_cond rfl (fun hc => ?_) (fun hc => ?_)) <;> (try simp only [lqA, lqB, lqC, lqD, lqE, lqF, lqG, lqH, lqI, lqJ, lqK, lqL, lqM, lqN, lqO] at hc) <;> (try (exfalso; first | omega | exact bool_tf hc (by assumption) | exact bool_ft hc (by assumption) | exact absurd (by assumption) hc)) <;> (first | with_reducible show STri _ _ _ _ _ _ | (simp -dsimp [hlt, h60, hc]; (repeat (simp -dsimp (disch := (first | omega | assumption | (refine Bool.eq_false_iff.1 ?_; assumption))) only [wrap_in, if_pos, if_neg]; (try simp -dsimp [hlt, h60, hc]))))))))
  refine st_for [5, 6, 200, 201, 202] l.length (fun j T H => NotesTo w l j ∧ T = [(0, .c (slSr w)), (1, .c (slN l)), (5, .ptr 5 0), (6, .ptr 6 0), (52, .c (slN l)), (53, .c (I l.length)), (54, .c (I j))] ∧
    H = [(5, .box 34 [.c (I nlo), .c (I nhi)]), (6, .box 118 [.own 200 w.length, .own 201 w.length, .own 202 0, .c (I 0), .c (I 0)]), (200, .arr 157 1 (w.map rowS)), (201, .arr 34 2 ((w.map errOf).map rowE)), (202, .arr 81 3 [])]) (by simp) ⟨fun s hs => by simp at hs, by simp, by simp⟩ ?_
  rintro j T H hj ⟨hno, rfl, rfl⟩
  by_cases hlt2 : j < l.length
  · have s1 := sWithinW 0 (w.length - 1) [l[j].src] (by simp)
    have s2 := sWithinW 0 3155760000 [l[j].tick] (by simp)
    rw [allIn_one] at s1 s2
    by_cases b1 : within1 0 (w.length - 1) l[j].src = true
    · rw [b1] at s1
      have hr : 0 ≤ l[j].src ∧ l[j].src.toNat < w.length := by
        unfold within1 at b1; simp at b1; omega
      obtain ⟨r1, r2⟩ := hr
      have hsv := List.all_eq_true.1 hav _ (List.getElem_mem r2)
      have hbase : kindOK (w[l[j].src.toNat]).kind = true := by
        unfold validV baseV at hsv; simp at hsv; exact hsv.1.1
      have hm := mSaid _ hbase l[j].said
      have hget : (w.map fun s => saidB s l[j].said).getD l[j].src.toNat false = saidB (w[l[j].src.toNat]) l[j].said := by simp [r2]
      have hne : noteErr w l[j] = if within1 0 3155760000 l[j].tick = true ∧ saidB (w[l[j].src.toNat]) l[j].said = true then 0 else 2 := by unfold noteErr; rw [if_pos b1, hget]
      by_cases b2 : within1 0 3155760000 l[j].tick = true
      · rw [b2] at s2 hne
        by_cases b3 : saidB (w[l[j].src.toNat]) l[j].said = true
        · rw [b3] at hm hne
          rw [if_pos ⟨rfl, rfl⟩] at hne
          (repeat' (first | ((first | with_reducible refine st_skip ?_ | with_reducible refine st_exit ?_); (try simp only [seqQ, blockQ, loopQ, forQ, whileQ, reduceIte, Nat.reduceEqDiff])) | (with_reducible refine st_ret ?_; ((try simp only [seqQ, blockQ, loopQ, forQ, whileQ]); first | (with_reducible refine retM_ret ?_) | refine retQ_ret ?_; simp [hlt2, r1, r2])) | refine st_seq ?_ | refine st_block ?_ | ((with_reducible show (STri _ _ _ _ _) ∧ (STri _ _ _ _ _)); refine And.intro ?_ ?_) | ((first | refine st_reg ?_ | refine buildP_own ?_ | refine appP_own ?_ | ((with_reducible show callIP _ _ _ _ _ _ _); refine callI_m (hm) rfl ?_) | refine callP_b (s1) rfl ?_ | refine callP_b (s2) rfl ?_) <;> (simp -dsimp [hlt2, r1, r2]; (repeat (simp -dsimp (disch := (first | omega | assumption | (refine Bool.eq_false_iff.1 ?_; assumption))) only [wrap_in, if_pos, if_neg]; (try simp -dsimp [hlt2, r1, r2]))))) | ((first | refine guardP_of (fun hc => ?_) (fun hc => ?_) | refine st_cond rfl (fun hc => ?_) (fun hc => ?_)) <;> (try simp only [lqA, lqB, lqC, lqD, lqE, lqF, lqG, lqH, lqI, lqJ, lqK, lqL, lqM, lqN, lqO] at hc) <;> (try (exfalso; first | omega | exact bool_tf hc (by assumption) | exact bool_ft hc (by assumption) | exact absurd (by assumption) hc)) <;> (first | with_reducible show STri _ _ _ _ _ _ | (simp -dsimp [hlt2, r1, r2, hc]; (repeat (simp -dsimp (disch := (first | omega | assumption | (refine Bool.eq_false_iff.1 ?_; assumption))) only [wrap_in, if_pos, if_neg]; (try simp -dsimp [hlt2, r1, r2, hc]))))))))
          exact ⟨hlt2, by simp, notes_succ hlt2 hno hne, by simp, by simp⟩
        · rw [Bool.not_eq_true] at b3
          rw [b3] at hm hne
          rw [if_neg (by simp)] at hne
          have h2 := notes_stop hlt2 hno (by omega)
          rw [hne] at h2
          rw [h2] at her
          rw [hbk, her]
          unfold bare
          (repeat' (first | ((first | with_reducible refine st_skip ?_ | with_reducible refine st_exit ?_); (try simp only [seqQ, blockQ, loopQ, forQ, whileQ, reduceIte, Nat.reduceEqDiff])) | (with_reducible refine st_ret ?_; ((try simp only [seqQ, blockQ, loopQ, forQ, whileQ]); first | (with_reducible refine retM_ret ?_) | refine retQ_ret ?_; simp [hlt2, r1, r2])) | refine st_seq ?_ | refine st_block ?_ | ((with_reducible show (STri _ _ _ _ _) ∧ (STri _ _ _ _ _)); refine And.intro ?_ ?_) | ((first | refine st_reg ?_ | refine buildP_own ?_ | refine appP_own ?_ | ((with_reducible show callIP _ _ _ _ _ _ _); refine callI_m (hm) rfl ?_) | refine callP_b (s1) rfl ?_ | refine callP_b (s2) rfl ?_) <;> (simp -dsimp [hlt2, r1, r2]; (repeat (simp -dsimp (disch := (first | omega | assumption | (refine Bool.eq_false_iff.1 ?_; assumption))) only [wrap_in, if_pos, if_neg]; (try simp -dsimp [hlt2, r1, r2]))))) | ((first | refine guardP_of (fun hc => ?_) (fun hc => ?_) | refine st_cond rfl (fun hc => ?_) (fun hc => ?_)) <;> (try simp only [lqA, lqB, lqC, lqD, lqE, lqF, lqG, lqH, lqI, lqJ, lqK, lqL, lqM, lqN, lqO] at hc) <;> (try (exfalso; first | omega | exact bool_tf hc (by assumption) | exact bool_ft hc (by assumption) | exact absurd (by assumption) hc)) <;> (first | with_reducible show STri _ _ _ _ _ _ | (simp -dsimp [hlt2, r1, r2, hc]; (repeat (simp -dsimp (disch := (first | omega | assumption | (refine Bool.eq_false_iff.1 ?_; assumption))) only [wrap_in, if_pos, if_neg]; (try simp -dsimp [hlt2, r1, r2, hc]))))))))
          exact .refl _
      · rw [Bool.not_eq_true] at b2
        rw [b2] at s2 hne
        rw [if_neg (by simp)] at hne
        have h2 := notes_stop hlt2 hno (by omega)
        rw [hne] at h2
        rw [h2] at her
        rw [hbk, her]
        unfold bare
        (repeat' (first | ((first | with_reducible refine st_skip ?_ | with_reducible refine st_exit ?_); (try simp only [seqQ, blockQ, loopQ, forQ, whileQ, reduceIte, Nat.reduceEqDiff])) | (with_reducible refine st_ret ?_; ((try simp only [seqQ, blockQ, loopQ, forQ, whileQ]); first | (with_reducible refine retM_ret ?_) | refine retQ_ret ?_; simp [hlt2])) | refine st_seq ?_ | refine st_block ?_ | ((with_reducible show (STri _ _ _ _ _) ∧ (STri _ _ _ _ _)); refine And.intro ?_ ?_) | ((first | refine st_reg ?_ | refine buildP_own ?_ | refine appP_own ?_ | refine callP_b (s1) rfl ?_ | refine callP_b (s2) rfl ?_) <;> (simp -dsimp [hlt2]; (repeat (simp -dsimp (disch := (first | omega | assumption | (refine Bool.eq_false_iff.1 ?_; assumption))) only [wrap_in, if_pos, if_neg]; (try simp -dsimp [hlt2]))))) | ((first | refine guardP_of (fun hc => ?_) (fun hc => ?_) | refine st_cond rfl (fun hc => ?_) (fun hc => ?_)) <;> (try simp only [lqA, lqB, lqC, lqD, lqE, lqF, lqG, lqH, lqI, lqJ, lqK, lqL, lqM, lqN, lqO] at hc) <;> (try (exfalso; first | omega | exact bool_tf hc (by assumption) | exact bool_ft hc (by assumption) | exact absurd (by assumption) hc)) <;> (first | with_reducible show STri _ _ _ _ _ _ | (simp -dsimp [hlt2, hc]; (repeat (simp -dsimp (disch := (first | omega | assumption | (refine Bool.eq_false_iff.1 ?_; assumption))) only [wrap_in, if_pos, if_neg]; (try simp -dsimp [hlt2, hc]))))))))
        exact .refl _
    · have hne : noteErr w l[j] = 7 := by unfold noteErr; rw [if_neg b1]
      rw [Bool.not_eq_true] at b1
      rw [b1] at s1
      have h2 := notes_stop hlt2 hno (by omega)
      rw [hne] at h2
      rw [h2] at her
      rw [hbk, her]
      unfold bare
      (repeat' (first | ((first | with_reducible refine st_skip ?_ | with_reducible refine st_exit ?_); (try simp only [seqQ, blockQ, loopQ, forQ, whileQ, reduceIte, Nat.reduceEqDiff])) | (with_reducible refine st_ret ?_; ((try simp only [seqQ, blockQ, loopQ, forQ, whileQ]); first | (with_reducible refine retM_ret ?_) | refine retQ_ret ?_; simp [hlt2])) | refine st_seq ?_ | refine st_block ?_ | ((with_reducible show (STri _ _ _ _ _) ∧ (STri _ _ _ _ _)); refine And.intro ?_ ?_) | ((first | refine st_reg ?_ | refine buildP_own ?_ | refine appP_own ?_ | refine callP_b (s1) rfl ?_) <;> (simp -dsimp [hlt2]; (repeat (simp -dsimp (disch := (first | omega | assumption | (refine Bool.eq_false_iff.1 ?_; assumption))) only [wrap_in, if_pos, if_neg]; (try simp -dsimp [hlt2]))))) | ((first | refine guardP_of (fun hc => ?_) (fun hc => ?_) | refine st_cond rfl (fun hc => ?_) (fun hc => ?_)) <;> (try simp only [lqA, lqB, lqC, lqD, lqE, lqF, lqG, lqH, lqI, lqJ, lqK, lqL, lqM, lqN, lqO] at hc) <;> (try (exfalso; first | omega | exact bool_tf hc (by assumption) | exact bool_ft hc (by assumption) | exact absurd (by assumption) hc)) <;> (first | with_reducible show STri _ _ _ _ _ _ | (simp -dsimp [hlt2, hc]; (repeat (simp -dsimp (disch := (first | omega | assumption | (refine Bool.eq_false_iff.1 ?_; assumption))) only [wrap_in, if_pos, if_neg]; (try simp -dsimp [hlt2, hc]))))))))
      exact .refl _
  · have hjl : j = l.length := by omega
    subst hjl
    have h2 := notes_all hno
    have s3 := sIsSpanW nlo nhi 7200 (by omega) (by omega)
    rw [h2] at her
    rw [if_neg (by decide)] at her
    rw [hbk, her]
    by_cases b4 : spanW nlo nhi 7200 = true
    · rw [b4] at s3
      (repeat' (first | ((first | with_reducible refine st_skip ?_ | with_reducible refine st_exit ?_); (try simp only [seqQ, blockQ, loopQ, forQ, whileQ, reduceIte, Nat.reduceEqDiff])) | (with_reducible refine st_ret ?_; ((try simp only [seqQ, blockQ, loopQ, forQ, whileQ]); first | (with_reducible refine retM_ret ?_) | refine retQ_ret ?_; simp [hlt2, b4])) | refine st_seq ?_ | refine st_block ?_ | ((with_reducible show (STri _ _ _ _ _) ∧ (STri _ _ _ _ _)); refine And.intro ?_ ?_) | ((first | refine st_reg ?_ | refine buildP_own ?_ | refine appP_own ?_ | refine callP_b (s3) rfl ?_) <;> (simp -dsimp [hlt2, b4]; (repeat (simp -dsimp (disch := (first | omega | assumption | (refine Bool.eq_false_iff.1 ?_; assumption))) only [wrap_in, if_pos, if_neg]; (try simp -dsimp [hlt2, b4]))))) | ((first | refine guardP_of (fun hc => ?_) (fun hc => ?_) | refine st_cond rfl (fun hc => ?_) (fun hc => ?_)) <;> (try simp only [lqA, lqB, lqC, lqD, lqE, lqF, lqG, lqH, lqI, lqJ, lqK, lqL, lqM, lqN, lqO] at hc) <;> (try (exfalso; first | omega | exact bool_tf hc (by assumption) | exact bool_ft hc (by assumption) | exact absurd (by assumption) hc)) <;> (first | with_reducible show STri _ _ _ _ _ _ | (simp -dsimp [hlt2, b4, hc]; (repeat (simp -dsimp (disch := (first | omega | assumption | (refine Bool.eq_false_iff.1 ?_; assumption))) only [wrap_in, if_pos, if_neg]; (try simp -dsimp [hlt2, b4, hc]))))))))
      exact .refl _
    · rw [Bool.not_eq_true] at b4
      rw [b4] at s3
      unfold bare
      (repeat' (first | ((first | with_reducible refine st_skip ?_ | with_reducible refine st_exit ?_); (try simp only [seqQ, blockQ, loopQ, forQ, whileQ, reduceIte, Nat.reduceEqDiff])) | (with_reducible refine st_ret ?_; ((try simp only [seqQ, blockQ, loopQ, forQ, whileQ]); first | (with_reducible refine retM_ret ?_) | refine retQ_ret ?_; simp [hlt2, b4])) | refine st_seq ?_ | refine st_block ?_ | ((with_reducible show (STri _ _ _ _ _) ∧ (STri _ _ _ _ _)); refine And.intro ?_ ?_) | ((first | refine st_reg ?_ | refine buildP_own ?_ | refine appP_own ?_ | refine callP_b (s3) rfl ?_) <;> (simp -dsimp [hlt2, b4]; (repeat (simp -dsimp (disch := (first | omega | assumption | (refine Bool.eq_false_iff.1 ?_; assumption))) only [wrap_in, if_pos, if_neg]; (try simp -dsimp [hlt2, b4]))))) | ((first | refine guardP_of (fun hc => ?_) (fun hc => ?_) | refine st_cond rfl (fun hc => ?_) (fun hc => ?_)) <;> (try simp only [lqA, lqB, lqC, lqD, lqE, lqF, lqG, lqH, lqI, lqJ, lqK, lqL, lqM, lqN, lqO] at hc) <;> (try (exfalso; first | omega | exact bool_tf hc (by assumption) | exact bool_ft hc (by assumption) | exact absurd (by assumption) hc)) <;> (first | with_reducible show STri _ _ _ _ _ _ | (simp -dsimp [hlt2, b4, hc]; (repeat (simp -dsimp (disch := (first | omega | assumption | (refine Bool.eq_false_iff.1 ?_; assumption))) only [wrap_in, if_pos, if_neg]; (try simp -dsimp [hlt2, b4, hc]))))))))
      exact .refl _
end Go.Proofs.YtlodpljdhdhfmaaGreat
/- Sets of small numbers as bits of an unsigned integer. -/
namespace Go.Proofs.YtlodpljdhdhfmaaGreat
open Go.RowKit
theorem shr_nat (a i : Nat) (hi : i ≤ 64) : shiftI false .u64 (a : Int) (i : Int) = some (.int .u64 ((a >>> i : Nat) : Int)) := by
  unfold shiftI
  rw [if_neg (by omega)]
  simp only [Bool.false_eq_true, if_false, Int.toNat_natCast]
  rw [Nat.min_eq_left (by exact hi), Nat.shiftRight_eq_div_pow]
  have e : (2 : Int) ^ i = ((2 ^ i : Nat) : Int) := by simp
  rw [e, Int.fdiv_eq_ediv_of_nonneg _ (Int.natCast_nonneg _)]
  rfl
theorem wrapU {n : Int} (h0 : 0 ≤ n) (h1 : n < 18446744073709551616) : IntKind.u64.wrap n = n := by
  simp [IntKind.wrap, IntKind.bits, IntKind.signed]
  omega
theorem shl_one (i : Nat) (hi : i < 64) : shiftI true .u64 1 (i : Int) = some (.int .u64 ((2 ^ i : Nat) : Int)) := by
  unfold shiftI
  rw [if_neg (by omega)]
  simp only [if_true, Int.toNat_natCast, Int.one_mul]
  rw [Nat.min_eq_left (by show i ≤ 64; omega)]
  have e : (2 : Int) ^ i = ((2 ^ i : Nat) : Int) := by simp
  have hp : 2 ^ i < 2 ^ 64 := Nat.pow_lt_pow_right (by omega) hi
  rw [e, wrapU (Int.natCast_nonneg _) (by omega)]
theorem and_one (a i : Nat) : IntKind.u64.wrap ((((a : Int) >>> i % 2 ^ IntKind.u64.bits).toNat &&& 1 % 2 ^ IntKind.u64.bits : Nat) : Int) = ((a >>> i % 2 : Nat) : Int) := by
  have e1 : ((a : Int) >>> i % 2 ^ IntKind.u64.bits).toNat = a >>> i % 2 ^ 64 := by
    show ((a : Int) >>> i % 2 ^ 64).toNat = a >>> i % 2 ^ 64
    have e2 : (a : Int) >>> i = ((a >>> i : Nat) : Int) := rfl
    rw [e2]
    generalize a >>> i = z at *
    omega
  rw [e1]
  have e3 : 1 % 2 ^ IntKind.u64.bits = 1 := rfl
  rw [e3, Nat.and_one_is_mod, wrapU (by omega) (by omega)]
  generalize a >>> i = z at *
  omega
theorem or_two {a i : Nat} (ha : a < 2 ^ 64) (hi : i < 64) : IntKind.u64.wrap ((a % 2 ^ IntKind.u64.bits ||| ((2 : Int) ^ i % 2 ^ IntKind.u64.bits).toNat : Nat) : Int) = ((a ||| 2 ^ i : Nat) : Int) := by
  have hp : 2 ^ i < 2 ^ 64 := Nat.pow_lt_pow_right (by omega) hi
  have e1 : ((2 : Int) ^ i % 2 ^ IntKind.u64.bits).toNat = 2 ^ i := by
    show ((2 : Int) ^ i % 2 ^ 64).toNat = 2 ^ i
    have e2 : (2 : Int) ^ i = ((2 ^ i : Nat) : Int) := by simp
    rw [e2]
    generalize 2 ^ i = z at *
    omega
  have e2 : a % 2 ^ IntKind.u64.bits = a := Nat.mod_eq_of_lt ha
  have h3 : a ||| 2 ^ i < 2 ^ 64 := Nat.or_lt_two_pow ha hp
  rw [e1, e2, wrapU (Int.natCast_nonneg _) (by omega)]
theorem bit_odd (a i : Nat) : (a >>> i % 2 = 1) = (a.testBit i = true) := by
  rw [Nat.testBit, Nat.shiftRight_eq_div_pow, bne_iff_ne, Nat.one_and_eq_mod_two]
  simp
theorem bitI (a i : Nat) : ((a : Int) >>> i % 2 = 0) = (a.testBit i = false) := by
  have e : (a : Int) >>> i = ((a >>> i : Nat) : Int) := rfl
  have := bit_odd a i
  rw [e]
  cases h : a.testBit i with
  | true => rw [h] at this; simp at this ⊢; omega
  | false => rw [h] at this; simp at this ⊢; omega
theorem or_self {a i : Nat} (h : a.testBit i = true) : a ||| 2 ^ i = a := by
  apply Nat.eq_of_testBit_eq
  intro j
  rw [Nat.testBit_or, Nat.testBit_two_pow]
  by_cases e : i = j
  · subst e; simp [h]
  · simp [e]
end Go.Proofs.YtlodpljdhdhfmaaGreat
/- Wire, VII: notes that are right; sets of sources that are wrong. -/
namespace Go.Proofs.YtlodpljdhdhfmaaGreat
open Go.RowKit
structure BkOK (b : Wbk) : Prop where
  len : b.srcs.length ≤ 10
  el : b.errs.length = b.srcs.length
  va : ∀ s ∈ b.srcs, validV s = true
  er : ∀ e ∈ b.errs, -20000 ≤ e.1 ∧ e.1 ≤ 20000 ∧ -20000 ≤ e.2 ∧ e.2 ≤ 20000
  nl : b.notes.length ≤ 60
  no : ∀ n ∈ b.notes, 0 ≤ n.src ∧ n.src < b.srcs.length ∧ 0 ≤ n.tick ∧ n.tick ≤ 3155760000 ∧ 0 ≤ n.said ∧ n.said ≤ 3155760000
  n0 : -7200 ≤ b.nlo
  n1 : b.nlo ≤ b.nhi
  n2 : b.nhi ≤ 7200
def noSrc : Wsrc := ⟨0, 0, 0, 0, 0, 0, 0, []⟩
def rightN (b : Wbk) (n : Wnt) (y : Int) : Bool :=
  within1 0 3155760000 (n.tick + y) && rightB (b.srcs.getD n.src.toNat noSrc) (n.tick + y) n.said (b.errs.getD n.src.toNat (0, 0)).1 (b.errs.getD n.src.toNat (0, 0)).2
theorem sIsRight (b : Wbk) (hb : BkOK b) (n : Wnt) (hn : n ∈ b.notes) (y : Int) (y0 : -7200 ≤ y) (y1 : y ≤ 7200) : SC Tryz.prog 146 [cBk b, cN n, I y] (B (rightN b n y)) := by
  refine law_wire_book_isRight _ _ (by simp) ?_
  obtain ⟨n1, n2, n3, n4, n5, n6⟩ := hb.no n hn
  have hs : n.src.toNat < b.srcs.length := by omega
  have he : n.src.toNat < b.errs.length := by rw [hb.el]; omega
  have hE := hb.er _ (List.getElem_mem he)
  have hv := hb.va _ (List.getElem_mem hs)
  have e1 : b.srcs.getD n.src.toNat noSrc = b.srcs[n.src.toNat] := by simp [hs]
  have e2 : b.errs.getD n.src.toNat (0, 0) = b.errs[n.src.toNat] := by simp [he]
  unfold rightN
  rw [e1, e2]
  have s1 := sWithinW 0 3155760000 [n.tick + y] (by simp)
  rw [allIn_one] at s1
  unfold validV at hv
  rw [Bool.and_eq_true] at hv
  have hk : kindOK (b.srcs[n.src.toNat]).kind = true := by
    have := hv.1
    unfold baseV at this
    simp at this; exact this.1
  by_cases hw : within1 0 3155760000 (n.tick + y) = true
  · rw [hw] at s1 ⊢
    have hw' : 0 ≤ n.tick + y ∧ n.tick + y ≤ 3155760000 := by unfold within1 at hw; simp at hw; exact hw
    have hm := mRight _ hk hv.2 (n.tick + y) n.said (b.errs[n.src.toNat]).1 (b.errs[n.src.toNat]).2 hw'.1 ⟨by omega, by omega, by omega, by omega, by omega, by omega, by omega, by omega⟩
    (repeat' (first | ((first | with_reducible refine st_skip ?_ | with_reducible refine st_exit ?_); (try simp only [seqQ, blockQ, loopQ, forQ, whileQ, reduceIte, Nat.reduceEqDiff])) | (with_reducible refine st_ret ?_; ((try simp only [seqQ, blockQ, loopQ, forQ, whileQ]); first | (with_reducible refine retM_ret ?_) | refine retQ_ret ?_; simp [hs, he, n1])) | refine st_seq ?_ | refine st_block ?_ | ((with_reducible show (STri _ _ _ _ _) ∧ (STri _ _ _ _ _)); refine And.intro ?_ ?_) | ((first | refine st_reg ?_ | refine buildP_own ?_ | refine appP_own ?_ | ((with_reducible show callIP _ _ _ _ _ _ _); refine callI_m (hm) rfl ?_) | refine callP_b (s1) rfl ?_) <;> (simp -dsimp [hs, he, n1]; (repeat (simp -dsimp (disch := (first | omega | assumption | (refine Bool.eq_false_iff.1 ?_; assumption))) only [wrap_in, if_pos, if_neg]; (try simp -dsimp [hs, he, n1]))))) | ((first | refine guardP_of (fun hc => ?_) (fun hc => ?_) | refine st_cond rfl (fun hc => ?_) (fun hc => ?_)) <;> (try simp only [lqA, lqB, lqC, lqD, lqE, lqF, lqG, lqH, lqI, lqJ, lqK, lqL, lqM, lqN, lqO] at hc) <;> (try (exfalso; first | omega | exact bool_tf hc (by assumption) | exact bool_ft hc (by assumption) | exact absurd (by assumption) hc)) <;> (first | with_reducible show STri _ _ _ _ _ _ | (simp -dsimp [hs, he, n1, hc]; (repeat (simp -dsimp (disch := (first | omega | assumption | (refine Bool.eq_false_iff.1 ?_; assumption))) only [wrap_in, if_pos, if_neg]; (try simp -dsimp [hs, he, n1, hc]))))))))
    exact .refl _
  · rw [Bool.not_eq_true] at hw
    rw [hw] at s1 ⊢
    (repeat' (first | ((first | with_reducible refine st_skip ?_ | with_reducible refine st_exit ?_); (try simp only [seqQ, blockQ, loopQ, forQ, whileQ, reduceIte, Nat.reduceEqDiff])) | (with_reducible refine st_ret ?_; ((try simp only [seqQ, blockQ, loopQ, forQ, whileQ]); first | (with_reducible refine retM_ret ?_) | refine retQ_ret ?_; simp [hs, he, n1])) | refine st_seq ?_ | refine st_block ?_ | ((with_reducible show (STri _ _ _ _ _) ∧ (STri _ _ _ _ _)); refine And.intro ?_ ?_) | ((first | refine st_reg ?_ | refine buildP_own ?_ | refine appP_own ?_ | refine callP_b (s1) rfl ?_) <;> (simp -dsimp [hs, he, n1]; (repeat (simp -dsimp (disch := (first | omega | assumption | (refine Bool.eq_false_iff.1 ?_; assumption))) only [wrap_in, if_pos, if_neg]; (try simp -dsimp [hs, he, n1]))))) | ((first | refine guardP_of (fun hc => ?_) (fun hc => ?_) | refine st_cond rfl (fun hc => ?_) (fun hc => ?_)) <;> (try simp only [lqA, lqB, lqC, lqD, lqE, lqF, lqG, lqH, lqI, lqJ, lqK, lqL, lqM, lqN, lqO] at hc) <;> (try (exfalso; first | omega | exact bool_tf hc (by assumption) | exact bool_ft hc (by assumption) | exact absurd (by assumption) hc)) <;> (first | with_reducible show STri _ _ _ _ _ _ | (simp -dsimp [hs, he, n1, hc]; (repeat (simp -dsimp (disch := (first | omega | assumption | (refine Bool.eq_false_iff.1 ?_; assumption))) only [wrap_in, if_pos, if_neg]; (try simp -dsimp [hs, he, n1, hc]))))))))
    exact .refl _
def wrongTo (b : Wbk) (y : Int) (k : Nat) : Nat := (b.notes.take k).foldl (fun a n => if rightN b n y = true then a else a ||| 2 ^ n.src.toNat) 0
def wrongN (b : Wbk) (y : Int) : Nat := wrongTo b y b.notes.length
theorem wrongTo_succ {b : Wbk} {y : Int} {k : Nat} (hlt : k < b.notes.length) : wrongTo b y (k + 1) = if rightN b b.notes[k] y = true then wrongTo b y k else wrongTo b y k ||| 2 ^ (b.notes[k]).src.toNat := by
  unfold wrongTo
  rw [List.take_succ_eq_append_getElem hlt, List.foldl_append]
  rfl
def wrongB (b : Wbk) (y : Int) (k i : Nat) : Bool := (b.notes.take k).any fun n => decide (n.src.toNat = i) && !rightN b n y
theorem wrongTo_bit (b : Wbk) (y : Int) (k i : Nat) (hk : k ≤ b.notes.length) : (wrongTo b y k).testBit i = wrongB b y k i := by
  induction k with
  | zero => simp [wrongTo, wrongB]
  | succ k ih =>
    have hlt : k < b.notes.length := by omega
    have e : wrongB b y (k + 1) i = (wrongB b y k i || (decide ((b.notes[k]).src.toNat = i) && !rightN b b.notes[k] y)) := by
      unfold wrongB
      rw [List.take_succ_eq_append_getElem hlt, List.any_append]
      simp
    rw [wrongTo_succ hlt, e, ← ih (by omega)]
    by_cases hr : rightN b b.notes[k] y = true
    · rw [if_pos hr]; simp [hr]
    · rw [if_neg hr, Nat.testBit_or, Nat.testBit_two_pow]
      simp [hr]
theorem wrongTo_lt {b : Wbk} (hb : BkOK b) (y : Int) (k : Nat) (hk : k ≤ b.notes.length) : wrongTo b y k < 2 ^ b.srcs.length := by
  apply Nat.lt_pow_two_of_testBit
  intro i hi
  rw [wrongTo_bit b y k i hk]
  unfold wrongB
  rw [List.any_eq_false]
  intro n hn
  have := hb.no n (List.mem_of_mem_take hn)
  have : ¬ n.src.toNat = i := by omega
  simp [this]
theorem sWrong (b : Wbk) (hb : BkOK b) (y : Int) (y0 : -7200 ≤ y) (y1 : y ≤ 7200) : SC Tryz.prog 127 [cBk b, I y] (.val (.int .u64 (wrongN b y))) := by
  refine law_wire_book_wrong _ _ (by simp) ?_
  have hl := hb.nl
  (repeat' (first | ((first | with_reducible refine st_skip ?_ | with_reducible refine st_exit ?_); (try simp only [seqQ, blockQ, loopQ, forQ, whileQ, reduceIte, Nat.reduceEqDiff])) | (with_reducible refine st_ret ?_; ((try simp only [seqQ, blockQ, loopQ, forQ, whileQ]); first | (with_reducible refine retM_ret ?_) | refine retQ_ret ?_; simp)) | refine st_seq ?_ | refine st_block ?_ | ((with_reducible show (STri _ _ _ _ _) ∧ (STri _ _ _ _ _)); refine And.intro ?_ ?_) | ((first | refine st_reg ?_ | refine buildP_own ?_ | refine appP_own ?_) <;> (simp -dsimp; (repeat (simp -dsimp (disch := (first | omega | assumption | (refine Bool.eq_false_iff.1 ?_; assumption))) only [wrap_in, if_pos, if_neg]; (try simp -dsimp))))) | ((first | refine guardP_of (fun hc => ?_) (fun hc => ?_) | refine st_cond rfl (fun hc => ?_) (fun hc => ?_)) <;> (try simp only [lqA, lqB, lqC, lqD, lqE, lqF, lqG, lqH, lqI, lqJ, lqK, lqL, lqM, lqN, lqO] at hc) <;> (try (exfalso; first | omega | exact bool_tf hc (by assumption) | exact bool_ft hc (by assumption) | exact absurd (by assumption) hc)) <;> (first | with_reducible show STri _ _ _ _ _ _ | (simp -dsimp [hc]; (repeat (simp -dsimp (disch := (first | omega | assumption | (refine Bool.eq_false_iff.1 ?_; assumption))) only [wrap_in, if_pos, if_neg]; (try simp -dsimp [hc]))))))))
  refine st_for [2] b.notes.length (fun k T H => T = [(1, .c (I y)), (2, .ptr 2 0), (4, .c (.val (.int .u64 (wrongTo b y k)))), (8, .c (slN b.notes)), (9, .c (I b.notes.length)), (10, .c (I k))] ∧ H = [(2, .box 118 ((rowBk b).map .c))]) (by simp) ⟨by simp [wrongTo], by simp⟩ ?_
  rintro k T H hk ⟨rfl, rfl⟩
  by_cases hlt : k < b.notes.length
  · have sr := sIsRight b hb b.notes[k] (List.getElem_mem hlt) y y0 y1
    obtain ⟨n1, n2, n3, n4, n5, n6⟩ := hb.no b.notes[k] (List.getElem_mem hlt)
    have hws := wrongTo_succ (y := y) hlt
    obtain ⟨i, hi⟩ : ∃ i : Nat, (b.notes[k]).src = i := ⟨(b.notes[k]).src.toNat, by omega⟩
    have hi2 : i ≤ 64 := by have := hb.len; omega
    have f1 := shr_nat (wrongTo b y k) i hi2
    simp only [cN, rowN, hi] at sr
    have ha : wrongTo b y k < 2 ^ 64 := Nat.lt_of_lt_of_le (wrongTo_lt hb y k hk) (Nat.pow_le_pow_right (by omega) (by have := hb.len; omega))
    have f3 := and_one (wrongTo b y k) i
    have f2 := shl_one i (by have := hb.len; omega)
    (repeat' (first | ((first | with_reducible refine st_skip ?_ | with_reducible refine st_exit ?_); (try simp only [seqQ, blockQ, loopQ, forQ, whileQ, reduceIte, Nat.reduceEqDiff])) | (with_reducible refine st_ret ?_; ((try simp only [seqQ, blockQ, loopQ, forQ, whileQ]); first | (with_reducible refine retM_ret ?_) | refine retQ_ret ?_; simp [hlt, hi, f1, f2, f3])) | refine st_seq ?_ | refine st_block ?_ | ((with_reducible show (STri _ _ _ _ _) ∧ (STri _ _ _ _ _)); refine And.intro ?_ ?_) | ((first | refine st_reg ?_ | refine buildP_own ?_ | refine appP_own ?_ | refine callP_b (sr) rfl ?_) <;> (simp -dsimp [hlt, hi, f1, f2, f3]; (repeat (simp -dsimp (disch := (first | omega | assumption | (refine Bool.eq_false_iff.1 ?_; assumption))) only [wrap_in, if_pos, if_neg]; (try simp -dsimp [hlt, hi, f1, f2, f3]))))) | ((first | refine guardP_of (fun hc => ?_) (fun hc => ?_) | refine st_cond rfl (fun hc => ?_) (fun hc => ?_)) <;> (try simp only [lqA, lqB, lqC, lqD, lqE, lqF, lqG, lqH, lqI, lqJ, lqK, lqL, lqM, lqN, lqO] at hc) <;> (try (exfalso; first | omega | exact bool_tf hc (by assumption) | exact bool_ft hc (by assumption) | exact absurd (by assumption) hc)) <;> (first | with_reducible show STri _ _ _ _ _ _ | (simp -dsimp [hlt, hi, f1, f2, f3, hc]; (repeat (simp -dsimp (disch := (first | omega | assumption | (refine Bool.eq_false_iff.1 ?_; assumption))) only [wrap_in, if_pos, if_neg]; (try simp -dsimp [hlt, hi, f1, f2, f3, hc]))))))))
    · rw [hi, Int.toNat_natCast, if_neg (by rw [hc]; decide)] at hws
      have hi3 : i < 64 := by have := hb.len; omega
      refine ⟨hlt, by simp, ?_, by simp⟩
      rw [or_two ha hi3, hws]
      simp
    · rw [if_pos hc] at hws
      exact ⟨hlt, by simp, by rw [hws]; simp, by simp⟩
    · rename_i h0 _ _ _ _
      rw [bitI, Bool.not_eq_false] at h0
      rw [hi, Int.toNat_natCast, or_self h0] at hws
      refine ⟨hlt, by simp, ?_, by simp⟩
      rw [hws]
      simp
  · (repeat' (first | ((first | with_reducible refine st_skip ?_ | with_reducible refine st_exit ?_); (try simp only [seqQ, blockQ, loopQ, forQ, whileQ, reduceIte, Nat.reduceEqDiff])) | (with_reducible refine st_ret ?_; ((try simp only [seqQ, blockQ, loopQ, forQ, whileQ]); first | (with_reducible refine retM_ret ?_) | refine retQ_ret ?_; simp [hlt])) | refine st_seq ?_ | refine st_block ?_ | ((with_reducible show (STri _ _ _ _ _) ∧ (STri _ _ _ _ _)); refine And.intro ?_ ?_) | ((first | refine st_reg ?_ | refine buildP_own ?_ | refine appP_own ?_) <;> (simp -dsimp [hlt]; (repeat (simp -dsimp (disch := (first | omega | assumption | (refine Bool.eq_false_iff.1 ?_; assumption))) only [wrap_in, if_pos, if_neg]; (try simp -dsimp [hlt]))))) | ((first | refine guardP_of (fun hc => ?_) (fun hc => ?_) | refine st_cond rfl (fun hc => ?_) (fun hc => ?_)) <;> (try simp only [lqA, lqB, lqC, lqD, lqE, lqF, lqG, lqH, lqI, lqJ, lqK, lqL, lqM, lqN, lqO] at hc) <;> (try (exfalso; first | omega | exact bool_tf hc (by assumption) | exact bool_ft hc (by assumption) | exact absurd (by assumption) hc)) <;> (first | with_reducible show STri _ _ _ _ _ _ | (simp -dsimp [hlt, hc]; (repeat (simp -dsimp (disch := (first | omega | assumption | (refine Bool.eq_false_iff.1 ?_; assumption))) only [wrap_in, if_pos, if_neg]; (try simp -dsimp [hlt, hc]))))))))
    have : k = b.notes.length := by omega
    subst this
    exact .refl _
end Go.Proofs.YtlodpljdhdhfmaaGreat
/- The shadow code of functions, as the kit's translation has them. -/
namespace Go.Proofs.YtlodpljdhdhfmaaGreat
open Go.RowKit
def len8s : ByteArray := ⟨#[0, 1, 2, 2, 3, 3, 3, 3, 4, 4, 4, 4, 4, 4, 4, 4, 5, 5, 5, 5, 5, 5, 5, 5, 5, 5, 5, 5, 5, 5, 5, 5, 6, 6, 6, 6, 6, 6, 6, 6, 6, 6, 6, 6, 6, 6, 6, 6, 6, 6, 6, 6, 6, 6, 6, 6, 6, 6, 6, 6, 6, 6, 6, 6, 7, 7, 7, 7, 7, 7, 7, 7, 7, 7, 7, 7, 7, 7, 7, 7, 7, 7, 7, 7, 7, 7, 7, 7, 7, 7, 7, 7, 7, 7, 7, 7, 7, 7, 7, 7, 7, 7, 7, 7, 7, 7, 7, 7, 7, 7, 7, 7, 7, 7, 7, 7, 7, 7, 7, 7, 7, 7, 7, 7, 7, 7, 7, 7, 8, 8, 8, 8, 8, 8, 8, 8, 8, 8, 8, 8, 8, 8, 8, 8, 8, 8, 8, 8, 8, 8, 8, 8, 8, 8, 8, 8, 8, 8, 8, 8, 8, 8, 8, 8, 8, 8, 8, 8, 8, 8, 8, 8, 8, 8, 8, 8, 8, 8, 8, 8, 8, 8, 8, 8, 8, 8, 8, 8, 8, 8, 8, 8, 8, 8, 8, 8, 8, 8, 8, 8, 8, 8, 8, 8, 8, 8, 8, 8, 8, 8, 8, 8, 8, 8, 8, 8, 8, 8, 8, 8, 8, 8, 8, 8, 8, 8, 8, 8, 8, 8, 8, 8, 8, 8, 8, 8, 8, 8, 8, 8, 8, 8, 8, 8, 8, 8, 8, 8, 8, 8, 8, 8, 8, 8, 8, 8]⟩
def k65_0 : SCode := .reg [⟨some 2, none, .mov (.const (.int .i64 0)), [], false⟩] [0]
def k65_1 : SCode := .reg [⟨some 3, none, .mov (.tmp 0), [], false⟩, ⟨some 4, none, .conv .u32 (.tmp 3), [], false⟩, ⟨some 5, none, .call 107 [(.tmp 4)], [], false⟩, ⟨some 2, none, .mov (.tmp 5), [], false⟩] [2]
def k65_2 : SCode := .seq k65_1 .ret
def k65_3 : SCode := .cond (.const (.bool false)) k65_2 .skip
def k65_4 : SCode := .reg [⟨some 6, none, .mov (.tmp 0), [], false⟩, ⟨some 7, none, .call 108 [(.tmp 6)], [], false⟩, ⟨some 2, none, .mov (.tmp 7), [], false⟩] [2]
def k65_5 : SCode := .seq k65_4 .ret
def k65_6 : SCode := .seq k65_3 k65_5
def k65_7 : SCode := .seq k65_0 k65_6
@[simp] def rs_math_bits_OnesCount : List SRes := [.tmp 2]
theorem law_math_bits_OnesCount (cs : List CV) (r : CV) (hl : cs.length ≤ 8) (h : STri (cfF Tryz.prog [] 8) k65_7 (initT 0 cs) [] (retQ rs_math_bits_OnesCount r)) : SC Tryz.prog 83 cs r :=
  sc_of [] follows Tryz.func83 rfl Tryz.ntmps83 (by decide) (by kernel_rfl) (by kernel_rfl) hl h
def k66_0 : SCode := .reg [⟨some 2, none, .mov (.const (.int .i64 0)), [], false⟩] [0]
def k66_1 : SCode := .reg [⟨some 3, none, .mov (.tmp 0), [], false⟩, ⟨some 4, none, .shift false (.tmp 3) (.const (.int .u64 1)), [], false⟩, ⟨some 5, none, .bin .and (.tmp 4) (.const (.int .u64 6148914691236517205)), [], false⟩, ⟨some 6, none, .mov (.tmp 0), [], false⟩, ⟨some 7, none, .bin .and (.tmp 6) (.const (.int .u64 6148914691236517205)), [], false⟩, ⟨some 8, none, .bin .add (.tmp 5) (.tmp 7), [], false⟩, ⟨some 0, none, .mov (.tmp 8), [], false⟩] [0]
def k66_2 : SCode := .reg [⟨some 9, none, .mov (.tmp 0), [], false⟩, ⟨some 10, none, .shift false (.tmp 9) (.const (.int .u64 2)), [], false⟩, ⟨some 11, none, .bin .and (.tmp 10) (.const (.int .u64 3689348814741910323)), [], false⟩, ⟨some 12, none, .mov (.tmp 0), [], false⟩, ⟨some 13, none, .bin .and (.tmp 12) (.const (.int .u64 3689348814741910323)), [], false⟩, ⟨some 14, none, .bin .add (.tmp 11) (.tmp 13), [], false⟩, ⟨some 0, none, .mov (.tmp 14), [], false⟩] [0]
def k66_3 : SCode := .reg [⟨some 15, none, .mov (.tmp 0), [], false⟩, ⟨some 16, none, .shift false (.tmp 15) (.const (.int .u64 4)), [], false⟩, ⟨some 17, none, .mov (.tmp 0), [], false⟩, ⟨some 18, none, .bin .add (.tmp 16) (.tmp 17), [], false⟩, ⟨some 19, none, .bin .and (.tmp 18) (.const (.int .u64 1085102592571150095)), [], false⟩, ⟨some 0, none, .mov (.tmp 19), [], false⟩] [0]
def k66_4 : SCode := .reg [⟨some 20, none, .mov (.tmp 0), [], false⟩, ⟨some 21, none, .mov (.tmp 0), [], false⟩, ⟨some 22, none, .shift false (.tmp 21) (.const (.int .u64 8)), [], false⟩, ⟨some 23, none, .bin .add (.tmp 20) (.tmp 22), [], false⟩, ⟨some 0, none, .mov (.tmp 23), [], false⟩] [0]
def k66_5 : SCode := .reg [⟨some 24, none, .mov (.tmp 0), [], false⟩, ⟨some 25, none, .mov (.tmp 0), [], false⟩, ⟨some 26, none, .shift false (.tmp 25) (.const (.int .u64 16)), [], false⟩, ⟨some 27, none, .bin .add (.tmp 24) (.tmp 26), [], false⟩, ⟨some 0, none, .mov (.tmp 27), [], false⟩] [0]
def k66_6 : SCode := .reg [⟨some 28, none, .mov (.tmp 0), [], false⟩, ⟨some 29, none, .mov (.tmp 0), [], false⟩, ⟨some 30, none, .shift false (.tmp 29) (.const (.int .u64 32)), [], false⟩, ⟨some 31, none, .bin .add (.tmp 28) (.tmp 30), [], false⟩, ⟨some 0, none, .mov (.tmp 31), [], false⟩] [0]
def k66_7 : SCode := .reg [⟨some 32, none, .mov (.tmp 0), [], false⟩, ⟨some 33, none, .conv .i64 (.tmp 32), [], false⟩, ⟨some 34, none, .bin .and (.tmp 33) (.const (.int .i64 127)), [], false⟩, ⟨some 2, none, .mov (.tmp 34), [], false⟩] [2]
def k66_8 : SCode := .seq k66_7 .ret
def k66_9 : SCode := .seq k66_6 k66_8
def k66_10 : SCode := .seq k66_5 k66_9
def k66_11 : SCode := .seq k66_4 k66_10
def k66_12 : SCode := .seq k66_3 k66_11
def k66_13 : SCode := .seq k66_2 k66_12
def k66_14 : SCode := .seq k66_1 k66_13
def k66_15 : SCode := .seq k66_0 k66_14
@[simp] def rs_math_bits_OnesCount64 : List SRes := [.tmp 2]
theorem law_math_bits_OnesCount64 (cs : List CV) (r : CV) (hl : cs.length ≤ 35) (h : STri (cfF Tryz.prog [] 35) k66_15 (initT 0 cs) [] (retQ rs_math_bits_OnesCount64 r)) : SC Tryz.prog 108 cs r :=
  sc_of [] follows Tryz.func108 rfl Tryz.ntmps108 (by decide) (by kernel_rfl) (by kernel_rfl) hl h
def k67_0 : SCode := .reg [⟨some 2, none, .mov (.const (.int .i64 0)), [], false⟩] [0]
def k67_1 : SCode := .reg [⟨some 3, none, .mov (.tmp 0), [], false⟩, ⟨some 4, none, .conv .u32 (.tmp 3), [], false⟩, ⟨some 5, none, .call 125 [(.tmp 4)], [], false⟩, ⟨some 2, none, .mov (.tmp 5), [], false⟩] [2]
def k67_2 : SCode := .seq k67_1 .ret
def k67_3 : SCode := .cond (.const (.bool false)) k67_2 .skip
def k67_4 : SCode := .reg [⟨some 6, none, .mov (.tmp 0), [], false⟩, ⟨some 7, none, .call 126 [(.tmp 6)], [], false⟩, ⟨some 2, none, .mov (.tmp 7), [], false⟩] [2]
def k67_5 : SCode := .seq k67_4 .ret
def k67_6 : SCode := .seq k67_3 k67_5
def k67_7 : SCode := .seq k67_0 k67_6
@[simp] def rs_math_bits_Len : List SRes := [.tmp 2]
theorem law_math_bits_Len (cs : List CV) (r : CV) (hl : cs.length ≤ 8) (h : STri (cfF Tryz.prog [] 8) k67_7 (initT 0 cs) [] (retQ rs_math_bits_Len r)) : SC Tryz.prog 103 cs r :=
  sc_of [] follows Tryz.func103 rfl Tryz.ntmps103 (by decide) (by kernel_rfl) (by kernel_rfl) hl h
def k68_0 : SCode := .reg [⟨some 2, none, .mov (.const (.int .i64 0)), [], false⟩] [0, 2]
def k68_1 : SCode := .reg [⟨some 3, none, .mov (.tmp 0), [], false⟩, ⟨some 4, none, .bin .geq (.tmp 3) (.const (.int .u64 4294967296)), [], false⟩] [0, 2, 4]
def k68_2 : SCode := .reg [⟨some 5, none, .mov (.tmp 0), [], false⟩, ⟨some 6, none, .shift false (.tmp 5) (.const (.int .u64 32)), [], false⟩, ⟨some 0, none, .mov (.tmp 6), [], false⟩] [0]
def k68_3 : SCode := .reg [⟨some 2, none, .mov (.const (.int .i64 32)), [], false⟩] [0, 2]
def k68_4 : SCode := .seq k68_2 k68_3
def k68_5 : SCode := .cond (.tmp 4) k68_4 .skip
def k68_6 : SCode := .seq k68_1 k68_5
def k68_7 : SCode := .reg [⟨some 7, none, .mov (.tmp 0), [], false⟩, ⟨some 8, none, .bin .geq (.tmp 7) (.const (.int .u64 65536)), [], false⟩] [0, 2, 8]
def k68_8 : SCode := .reg [⟨some 9, none, .mov (.tmp 0), [], false⟩, ⟨some 10, none, .shift false (.tmp 9) (.const (.int .u64 16)), [], false⟩, ⟨some 0, none, .mov (.tmp 10), [], false⟩] [0, 2]
def k68_9 : SCode := .reg [⟨some 11, none, .mov (.tmp 2), [], false⟩, ⟨some 12, none, .bin .add (.tmp 11) (.const (.int .i64 16)), [], false⟩, ⟨some 2, none, .mov (.tmp 12), [], false⟩] [0, 2]
def k68_10 : SCode := .seq k68_8 k68_9
def k68_11 : SCode := .cond (.tmp 8) k68_10 .skip
def k68_12 : SCode := .seq k68_7 k68_11
def k68_13 : SCode := .reg [⟨some 13, none, .mov (.tmp 0), [], false⟩, ⟨some 14, none, .bin .geq (.tmp 13) (.const (.int .u64 256)), [], false⟩] [0, 2, 14]
def k68_14 : SCode := .reg [⟨some 15, none, .mov (.tmp 0), [], false⟩, ⟨some 16, none, .shift false (.tmp 15) (.const (.int .u64 8)), [], false⟩, ⟨some 0, none, .mov (.tmp 16), [], false⟩] [0, 2]
def k68_15 : SCode := .reg [⟨some 17, none, .mov (.tmp 2), [], false⟩, ⟨some 18, none, .bin .add (.tmp 17) (.const (.int .i64 8)), [], false⟩, ⟨some 2, none, .mov (.tmp 18), [], false⟩] [0, 2]
def k68_16 : SCode := .seq k68_14 k68_15
def k68_17 : SCode := .cond (.tmp 14) k68_16 .skip
def k68_18 : SCode := .seq k68_13 k68_17
def k68_19 : SCode := .reg [⟨some 19, none, .mov (.tmp 2), [], false⟩, ⟨some 20, none, .mov (.tmp 0), [], false⟩, ⟨some 21, none, .conv .u8 (.tmp 20), [], false⟩, ⟨some 22, none, .strAt (.const (.string len8s)) (.tmp 21), [], false⟩, ⟨some 23, none, .conv .i64 (.tmp 22), [], false⟩, ⟨some 24, none, .bin .add (.tmp 19) (.tmp 23), [], false⟩, ⟨some 2, none, .mov (.tmp 24), [], false⟩] [2]
def k68_20 : SCode := .seq k68_19 .ret
def k68_21 : SCode := .seq k68_18 k68_20
def k68_22 : SCode := .seq k68_12 k68_21
def k68_23 : SCode := .seq k68_6 k68_22
def k68_24 : SCode := .seq k68_0 k68_23
@[simp] def rs_math_bits_Len64 : List SRes := [.tmp 2]
theorem law_math_bits_Len64 (cs : List CV) (r : CV) (hl : cs.length ≤ 25) (h : STri (cfF Tryz.prog [] 25) k68_24 (initT 0 cs) [] (retQ rs_math_bits_Len64 r)) : SC Tryz.prog 126 cs r :=
  sc_of [] follows Tryz.func126 rfl Tryz.ntmps126 (by decide) (by kernel_rfl) (by kernel_rfl) hl h
end Go.Proofs.YtlodpljdhdhfmaaGreat
/- Counts of bits. -/
namespace Go.Proofs.YtlodpljdhdhfmaaGreat
open Go.RowKit
def U (n : Nat) : CV := .val (.int .u64 n)
attribute [simp] U
def popN (x : Nat) : Nat := ((List.range 10).filter fun i => x.testBit i).length
def lenN (x : Nat) : Nat := if x = 0 then 0 else x.log2 + 1
theorem sOnes64 (x : Nat) (hx : x < 1024) : SC Tryz.prog 108 [U x] (I (popN x)) := by
  refine law_math_bits_OnesCount64 _ _ (by simp) ?_
  (repeat' (first | ((first | with_reducible refine st_skip ?_ | with_reducible refine st_exit ?_); (try simp only [seqQ, blockQ, loopQ, forQ, whileQ, reduceIte, Nat.reduceEqDiff])) | (with_reducible refine st_ret ?_; ((try simp only [seqQ, blockQ, loopQ, forQ, whileQ]); first | (with_reducible refine retM_ret ?_) | refine retQ_ret ?_; simp [shiftI])) | refine st_seq ?_ | refine st_block ?_ | ((with_reducible show (STri _ _ _ _ _) ∧ (STri _ _ _ _ _)); refine And.intro ?_ ?_) | ((first | refine st_reg ?_ | refine buildP_own ?_ | refine appP_own ?_) <;> (simp -dsimp [shiftI]; (repeat (simp -dsimp (disch := (first | omega | assumption | (refine Bool.eq_false_iff.1 ?_; assumption))) only [wrap_in, if_pos, if_neg]; (try simp -dsimp [shiftI]))))) | ((first | refine guardP_of (fun hc => ?_) (fun hc => ?_) | refine st_cond rfl (fun hc => ?_) (fun hc => ?_)) <;> (try simp only [lqA, lqB, lqC, lqD, lqE, lqF, lqG, lqH, lqI, lqJ, lqK, lqL, lqM, lqN, lqO] at hc) <;> (try (exfalso; first | omega | exact bool_tf hc (by assumption) | exact bool_ft hc (by assumption) | exact absurd (by assumption) hc)) <;> (first | with_reducible show STri _ _ _ _ _ _ | (simp -dsimp [shiftI, hc]; (repeat (simp -dsimp (disch := (first | omega | assumption | (refine Bool.eq_false_iff.1 ?_; assumption))) only [wrap_in, if_pos, if_neg]; (try simp -dsimp [shiftI, hc]))))))))
  refine CLe.int ?_
  revert x
  decide +kernel
theorem sOnes (x : Nat) (hx : x < 1024) : SC Tryz.prog 83 [U x] (I (popN x)) := by
  refine law_math_bits_OnesCount _ _ (by simp) ?_
  (repeat' (first | ((first | with_reducible refine st_skip ?_ | with_reducible refine st_exit ?_); (try simp only [seqQ, blockQ, loopQ, forQ, whileQ, reduceIte, Nat.reduceEqDiff])) | (with_reducible refine st_ret ?_; ((try simp only [seqQ, blockQ, loopQ, forQ, whileQ]); first | (with_reducible refine retM_ret ?_) | refine retQ_ret ?_; simp)) | refine st_seq ?_ | refine st_block ?_ | ((with_reducible show (STri _ _ _ _ _) ∧ (STri _ _ _ _ _)); refine And.intro ?_ ?_) | ((first | refine st_reg ?_ | refine buildP_own ?_ | refine appP_own ?_ | refine callP_b (sOnes64 x hx) rfl ?_) <;> (simp -dsimp; (repeat (simp -dsimp (disch := (first | omega | assumption | (refine Bool.eq_false_iff.1 ?_; assumption))) only [wrap_in, if_pos, if_neg]; (try simp -dsimp))))) | ((first | refine guardP_of (fun hc => ?_) (fun hc => ?_) | refine st_cond rfl (fun hc => ?_) (fun hc => ?_)) <;> (try simp only [lqA, lqB, lqC, lqD, lqE, lqF, lqG, lqH, lqI, lqJ, lqK, lqL, lqM, lqN, lqO] at hc) <;> (try (exfalso; first | omega | exact bool_tf hc (by assumption) | exact bool_ft hc (by assumption) | exact absurd (by assumption) hc)) <;> (first | with_reducible show STri _ _ _ _ _ _ | (simp -dsimp [hc]; (repeat (simp -dsimp (disch := (first | omega | assumption | (refine Bool.eq_false_iff.1 ?_; assumption))) only [wrap_in, if_pos, if_neg]; (try simp -dsimp [hc]))))))))
  all_goals exact .refl _
theorem len8 : ∀ x : Nat, x < 256 → len8s[x]? = some (UInt8.ofNat (lenN x)) := by decide +kernel
theorem len_small : ∀ x : Nat, x < 256 → (lenN x : Int) = (UInt8.ofNat (lenN x)).toNat ∧ lenN x ≤ 8 := by decide +kernel
theorem len_shift : ∀ x : Nat, x < 1024 → 256 ≤ x → lenN x = 8 + lenN (x / 256) := by decide +kernel
theorem sLen64 (x : Nat) (hx : x < 1024) : SC Tryz.prog 126 [U x] (I (lenN x)) := by
  refine law_math_bits_Len64 _ _ (by simp) ?_
  by_cases h : 256 ≤ x
  · have hs := len_shift x hx h
    have hf : shiftI false .u64 (x : Int) 8 = some (.int .u64 ((x / 256 : Nat) : Int)) := by
      have := shr_nat x 8 (by omega)
      rwa [Nat.shiftRight_eq_div_pow] at this
    have hy : x / 256 < 256 := by omega
    generalize x / 256 = y at *
    have hg := len8 y hy
    obtain ⟨g1, g2⟩ := len_small y hy
    have hw : IntKind.u8.wrap (y : Int) = (y : Int) := by
      simp [IntKind.wrap, IntKind.bits, IntKind.signed]; omega
    have h2 : 256 ≤ (x : Int) := by omega
    clear g1
    rw [hs]
    (repeat' (first | ((first | with_reducible refine st_skip ?_ | with_reducible refine st_exit ?_); (try simp only [seqQ, blockQ, loopQ, forQ, whileQ, reduceIte, Nat.reduceEqDiff])) | (with_reducible refine st_ret ?_; ((try simp only [seqQ, blockQ, loopQ, forQ, whileQ]); first | (with_reducible refine retM_ret ?_) | refine retQ_ret ?_; simp [h2, hf, hw, hg])) | refine st_seq ?_ | refine st_block ?_ | ((with_reducible show (STri _ _ _ _ _) ∧ (STri _ _ _ _ _)); refine And.intro ?_ ?_) | ((first | refine st_reg ?_ | refine buildP_own ?_ | refine appP_own ?_) <;> (simp -dsimp [h2, hf, hw, hg]; (repeat (simp -dsimp (disch := (first | omega | assumption | (refine Bool.eq_false_iff.1 ?_; assumption))) only [wrap_in, if_pos, if_neg]; (try simp -dsimp [h2, hf, hw, hg]))))) | ((first | refine guardP_of (fun hc => ?_) (fun hc => ?_) | refine st_cond rfl (fun hc => ?_) (fun hc => ?_)) <;> (try simp only [lqA, lqB, lqC, lqD, lqE, lqF, lqG, lqH, lqI, lqJ, lqK, lqL, lqM, lqN, lqO] at hc) <;> (try (exfalso; first | omega | exact bool_tf hc (by assumption) | exact bool_ft hc (by assumption) | exact absurd (by assumption) hc)) <;> (first | with_reducible show STri _ _ _ _ _ _ | (simp -dsimp [h2, hf, hw, hg, hc]; (repeat (simp -dsimp (disch := (first | omega | assumption | (refine Bool.eq_false_iff.1 ?_; assumption))) only [wrap_in, if_pos, if_neg]; (try simp -dsimp [h2, hf, hw, hg, hc]))))))))
    all_goals (refine CLe.int ?_; omega)
  · have hg := len8 x (by omega)
    obtain ⟨g1, g2⟩ := len_small x (by omega)
    have hw : IntKind.u8.wrap (x : Int) = (x : Int) := by
      simp [IntKind.wrap, IntKind.bits, IntKind.signed]; omega
    (repeat' (first | ((first | with_reducible refine st_skip ?_ | with_reducible refine st_exit ?_); (try simp only [seqQ, blockQ, loopQ, forQ, whileQ, reduceIte, Nat.reduceEqDiff])) | (with_reducible refine st_ret ?_; ((try simp only [seqQ, blockQ, loopQ, forQ, whileQ]); first | (with_reducible refine retM_ret ?_) | refine retQ_ret ?_; simp [h, hw, hg])) | refine st_seq ?_ | refine st_block ?_ | ((with_reducible show (STri _ _ _ _ _) ∧ (STri _ _ _ _ _)); refine And.intro ?_ ?_) | ((first | refine st_reg ?_ | refine buildP_own ?_ | refine appP_own ?_) <;> (simp -dsimp [h, hw, hg]; (repeat (simp -dsimp (disch := (first | omega | assumption | (refine Bool.eq_false_iff.1 ?_; assumption))) only [wrap_in, if_pos, if_neg]; (try simp -dsimp [h, hw, hg]))))) | ((first | refine guardP_of (fun hc => ?_) (fun hc => ?_) | refine st_cond rfl (fun hc => ?_) (fun hc => ?_)) <;> (try simp only [lqA, lqB, lqC, lqD, lqE, lqF, lqG, lqH, lqI, lqJ, lqK, lqL, lqM, lqN, lqO] at hc) <;> (try (exfalso; first | omega | exact bool_tf hc (by assumption) | exact bool_ft hc (by assumption) | exact absurd (by assumption) hc)) <;> (first | with_reducible show STri _ _ _ _ _ _ | (simp -dsimp [h, hw, hg, hc]; (repeat (simp -dsimp (disch := (first | omega | assumption | (refine Bool.eq_false_iff.1 ?_; assumption))) only [wrap_in, if_pos, if_neg]; (try simp -dsimp [h, hw, hg, hc]))))))))
    all_goals (refine CLe.int ?_; omega)
theorem sLen (x : Nat) (hx : x < 1024) : SC Tryz.prog 103 [U x] (I (lenN x)) := by
  refine law_math_bits_Len _ _ (by simp) ?_
  (repeat' (first | ((first | with_reducible refine st_skip ?_ | with_reducible refine st_exit ?_); (try simp only [seqQ, blockQ, loopQ, forQ, whileQ, reduceIte, Nat.reduceEqDiff])) | (with_reducible refine st_ret ?_; ((try simp only [seqQ, blockQ, loopQ, forQ, whileQ]); first | (with_reducible refine retM_ret ?_) | refine retQ_ret ?_; simp)) | refine st_seq ?_ | refine st_block ?_ | ((with_reducible show (STri _ _ _ _ _) ∧ (STri _ _ _ _ _)); refine And.intro ?_ ?_) | ((first | refine st_reg ?_ | refine buildP_own ?_ | refine appP_own ?_ | refine callP_b (sLen64 x hx) rfl ?_) <;> (simp -dsimp; (repeat (simp -dsimp (disch := (first | omega | assumption | (refine Bool.eq_false_iff.1 ?_; assumption))) only [wrap_in, if_pos, if_neg]; (try simp -dsimp))))) | ((first | refine guardP_of (fun hc => ?_) (fun hc => ?_) | refine st_cond rfl (fun hc => ?_) (fun hc => ?_)) <;> (try simp only [lqA, lqB, lqC, lqD, lqE, lqF, lqG, lqH, lqI, lqJ, lqK, lqL, lqM, lqN, lqO] at hc) <;> (try (exfalso; first | omega | exact bool_tf hc (by assumption) | exact bool_ft hc (by assumption) | exact absurd (by assumption) hc)) <;> (first | with_reducible show STri _ _ _ _ _ _ | (simp -dsimp [hc]; (repeat (simp -dsimp (disch := (first | omega | assumption | (refine Bool.eq_false_iff.1 ?_; assumption))) only [wrap_in, if_pos, if_neg]; (try simp -dsimp [hc]))))))))
  all_goals exact .refl _
end Go.Proofs.YtlodpljdhdhfmaaGreat
/- Wire, VIII: all corrections; spans of them. -/
namespace Go.Proofs.YtlodpljdhdhfmaaGreat
open Go.RowKit
def bookN (b : Wbk) : Nat := (b.nhi + 1 - b.nlo).toNat
def allL (b : Wbk) : List (Int × Nat) := (List.range (bookN b)).map fun (k : Nat) => (b.nlo + k, wrongN b (b.nlo + k))
def rowA (x : Int × Nat) : List CV := [I x.1, U x.2]
theorem allL_get {b : Wbk} {k : Nat} (h : k < bookN b) : (allL b)[k]? = some (b.nlo + k, wrongN b (b.nlo + k)) := by simp [allL, h]
theorem allL_len (b : Wbk) : (allL b).length = bookN b := by simp [allL]
theorem iAll (b : Wbk) (hb : BkOK b) : IterL Tryz.prog 104 1000 [cBk b] [] ((allL b).map rowA) := by
  refine ilaw_wire_book_all 1000 _ _ _ (by omega) (by simp) (fun Iv A G id hG hY => ?_)
  have hlen : ((allL b).map rowA).length = bookN b := by simp [allL]
  have n0 := hb.n0
  have n1 := hb.n1
  have n2 := hb.n2
  have hN : (bookN b : Int) = b.nhi + 1 - b.nlo := by unfold bookN; omega
  (repeat' (first | ((first | with_reducible refine st_skip ?_ | with_reducible refine st_exit ?_); (try simp only [seqQ, blockQ, loopQ, forQ, whileQ, reduceIte, Nat.reduceEqDiff])) | (with_reducible refine st_ret ?_; ((try simp only [seqQ, blockQ, loopQ, forQ, whileQ]); first | (with_reducible refine retM_ret ?_) | refine retQ_ret ?_; simp)) | refine st_seq ?_ | refine st_block ?_ | ((with_reducible show (STri _ _ _ _ _) ∧ (STri _ _ _ _ _)); refine And.intro ?_ ?_) | ((first | refine st_reg ?_ | refine buildP_own ?_ | refine appP_own ?_) <;> (simp -dsimp; (repeat (simp -dsimp (disch := (first | omega | assumption | (refine Bool.eq_false_iff.1 ?_; assumption))) only [wrap_in, if_pos, if_neg]; (try simp -dsimp))))) | ((first | refine guardP_of (fun hc => ?_) (fun hc => ?_) | refine st_cond rfl (fun hc => ?_) (fun hc => ?_)) <;> (try simp only [lqA, lqB, lqC, lqD, lqE, lqF, lqG, lqH, lqI, lqJ, lqK, lqL, lqM, lqN, lqO] at hc) <;> (try (exfalso; first | omega | exact bool_tf hc (by assumption) | exact bool_ft hc (by assumption) | exact absurd (by assumption) hc)) <;> (first | with_reducible show STri _ _ _ _ _ _ | (simp -dsimp [hc]; (repeat (simp -dsimp (disch := (first | omega | assumption | (refine Bool.eq_false_iff.1 ?_; assumption))) only [wrap_in, if_pos, if_neg]; (try simp -dsimp [hc]))))))))
  refine st_for [1000001000, 1002] (bookN b) (fun k T H => T = [(1, .yl id), (2, .ptr 1002 0), (4, .c (I (b.nlo + k)))] ∧ H = [(1000001000, .gh k false), (1002, .box 118 ((rowBk b).map .c))]) (by simp) ⟨by simp, by simp⟩ ?_
  rintro k T H hk ⟨rfl, rfl⟩
  by_cases hlt : k < bookN b
  · have hle : b.nlo + k ≤ b.nhi := by omega
    have hrow : ((allL b).map rowA)[k]? = some [I (b.nlo + k), .val (.int .u64 (wrongN b (b.nlo + k)))] := by rw [List.getElem?_map, allL_get hlt]; rfl
    have sw := sWrong b hb (b.nlo + k) (by omega) (by omega)
    (repeat' (first | ((first | with_reducible refine st_skip ?_ | with_reducible refine st_exit ?_); (try simp only [seqQ, blockQ, loopQ, forQ, whileQ, reduceIte, Nat.reduceEqDiff])) | (with_reducible refine st_ret ?_; ((try simp only [seqQ, blockQ, loopQ, forQ, whileQ]); first | (with_reducible refine retM_ret ?_) | refine retQ_ret ?_; simp [hle])) | refine st_seq ?_ | refine st_block ?_ | ((with_reducible show (STri _ _ _ _ _) ∧ (STri _ _ _ _ _)); refine And.intro ?_ ?_) | ((first | refine st_reg ?_ | ((with_reducible show callVP _ _ _ _ _ _ _); refine callV_yl (hY k _ hrow) [] (by first | rfl | simp) (fun j hj => by cases hj) rfl ?_ ?_) | refine buildP_own ?_ | refine appP_own ?_ | refine callP_b (sw) rfl ?_) <;> (simp -dsimp [hle]; (repeat (simp -dsimp (disch := (first | omega | assumption | (refine Bool.eq_false_iff.1 ?_; assumption))) only [wrap_in, if_pos, if_neg]; (try simp -dsimp [hle]))))) | ((first | refine guardP_of (fun hc => ?_) (fun hc => ?_) | refine st_cond rfl (fun hc => ?_) (fun hc => ?_)) <;> (try simp only [lqA, lqB, lqC, lqD, lqE, lqF, lqG, lqH, lqI, lqJ, lqK, lqL, lqM, lqN, lqO] at hc) <;> (try (exfalso; first | omega | exact bool_tf hc (by assumption) | exact bool_ft hc (by assumption) | exact absurd (by assumption) hc)) <;> (first | with_reducible show STri _ _ _ _ _ _ | (simp -dsimp [hle, hc]; (repeat (simp -dsimp (disch := (first | omega | assumption | (refine Bool.eq_false_iff.1 ?_; assumption))) only [wrap_in, if_pos, if_neg]; (try simp -dsimp [hle, hc]))))))))
    · exact ⟨hlt, by simp, by simp; omega, by simp⟩
    · exact st_ret ⟨.inr rfl, k + 1, true, rfl, fun h => by cases h⟩
  · have hle : ¬ b.nlo + k ≤ b.nhi := by omega
    (repeat' (first | ((first | with_reducible refine st_skip ?_ | with_reducible refine st_exit ?_); (try simp only [seqQ, blockQ, loopQ, forQ, whileQ, reduceIte, Nat.reduceEqDiff])) | (with_reducible refine st_ret ?_; ((try simp only [seqQ, blockQ, loopQ, forQ, whileQ]); first | (with_reducible refine retM_ret ?_) | refine retQ_ret ?_; simp [hle])) | refine st_seq ?_ | refine st_block ?_ | ((with_reducible show (STri _ _ _ _ _) ∧ (STri _ _ _ _ _)); refine And.intro ?_ ?_) | ((first | refine st_reg ?_ | refine buildP_own ?_ | refine appP_own ?_) <;> (simp -dsimp [hle]; (repeat (simp -dsimp (disch := (first | omega | assumption | (refine Bool.eq_false_iff.1 ?_; assumption))) only [wrap_in, if_pos, if_neg]; (try simp -dsimp [hle]))))) | ((first | refine guardP_of (fun hc => ?_) (fun hc => ?_) | refine st_cond rfl (fun hc => ?_) (fun hc => ?_)) <;> (try simp only [lqA, lqB, lqC, lqD, lqE, lqF, lqG, lqH, lqI, lqJ, lqK, lqL, lqM, lqN, lqO] at hc) <;> (try (exfalso; first | omega | exact bool_tf hc (by assumption) | exact bool_ft hc (by assumption) | exact absurd (by assumption) hc)) <;> (first | with_reducible show STri _ _ _ _ _ _ | (simp -dsimp [hle, hc]; (repeat (simp -dsimp (disch := (first | omega | assumption | (refine Bool.eq_false_iff.1 ?_; assumption))) only [wrap_in, if_pos, if_neg]; (try simp -dsimp [hle, hc]))))))))
    exact ⟨.inl rfl, k, false, rfl, fun _ => by rw [hlen]; omega⟩
def spanStep (p : Nat → Bool) (acc : List (Int × Int)) (x : Int × Nat) : List (Int × Int) :=
  if p x.2 = true then match acc.getLast? with
    | some l => if l.2 = x.1 - 1 then acc.dropLast ++ [(l.1, x.1)] else acc ++ [(x.1, x.1)]
    | none => [(x.1, x.1)]
  else acc
def spansTo (b : Wbk) (p : Nat → Bool) (k : Nat) : List (Int × Int) := ((allL b).take k).foldl (spanStep p) []
def spansL (b : Wbk) (p : Nat → Bool) : List (Int × Int) := (allL b).foldl (spanStep p) []
def slE (l : List (Int × Int)) : CV := .sl 2 (l.map rowE)
attribute [simp] slE
theorem spansTo_succ {b : Wbk} {p : Nat → Bool} {k : Nat} (h : k < (allL b).length) : spansTo b p (k + 1) = spanStep p (spansTo b p k) (allL b)[k] := by
  unfold spansTo
  rw [List.take_succ_eq_append_getElem h, List.foldl_append]
  rfl
theorem step_len (p : Nat → Bool) (acc : List (Int × Int)) (x : Int × Nat) : (spanStep p acc x).length ≤ acc.length + 1 := by
  unfold spanStep
  split
  · split
    · split <;> simp <;> omega
    · simp
  · omega
theorem spansTo_len (b : Wbk) (p : Nat → Bool) (k : Nat) (hk : k ≤ (allL b).length) : (spansTo b p k).length ≤ k := by
  induction k with
  | zero => simp [spansTo]
  | succ k ih =>
    rw [spansTo_succ (by omega)]
    have := step_len p (spansTo b p k) ((allL b)[k]'(by omega))
    have := ih (by omega)
    omega
def spI (b : Wbk) (p : Nat → Bool) (f : CV) (k : Nat) (R : HL) : Prop := R = [(3, .box 155 [.c f]), (4, .box 65 [.own 200 (spansTo b p k).length]), (200, .arr 34 2 ((spansTo b p k).map rowE))]
theorem sSpansL (b : Wbk) (hb : BkOK b) (p : Nat → Bool) (f : FuncId) (fs es : List CV) (he : Ent Tryz.prog f) (hp : ∀ x ∈ allL b, SC Tryz.prog f (fs ++ [U x.2] ++ es) (B (p x.2))) : SC Tryz.prog 76 [cBk b, .fn f fs es] (slE (spansL b p)) := by
  refine law_wire_book_spans _ _ (by simp) ?_
  have n0 := hb.n0
  have n1 := hb.n1
  have n2 := hb.n2
  have hlen := allL_len b
  have hN : (bookN b : Int) = b.nhi + 1 - b.nlo := by unfold bookN; omega
  (repeat' (first | (refine st_nilB 4 0 200 34 2 rfl (by simp) rfl (by simp [newOK]) ?_) | ((first | with_reducible refine st_skip ?_ | with_reducible refine st_exit ?_); (try simp only [seqQ, blockQ, loopQ, forQ, whileQ, reduceIte, Nat.reduceEqDiff])) | (with_reducible refine st_ret ?_; ((try simp only [seqQ, blockQ, loopQ, forQ, whileQ]); first | (with_reducible refine retM_ret ?_) | refine retQ_ret ?_; simp)) | refine st_seq ?_ | refine st_block ?_ | ((with_reducible show (STri _ _ _ _ _) ∧ (STri _ _ _ _ _)); refine And.intro ?_ ?_) | ((first | refine st_reg ?_ | refine buildP_own ?_ | refine appP_own ?_) <;> (simp -dsimp; (repeat (simp -dsimp (disch := (first | omega | assumption | (refine Bool.eq_false_iff.1 ?_; assumption))) only [wrap_in, if_pos, if_neg]; (try simp -dsimp))))) | ((first | refine guardP_of (fun hc => ?_) (fun hc => ?_) | refine st_cond rfl (fun hc => ?_) (fun hc => ?_)) <;> (try simp only [lqA, lqB, lqC, lqD, lqE, lqF, lqG, lqH, lqI, lqJ, lqK, lqL, lqM, lqN, lqO] at hc) <;> (try (exfalso; first | omega | exact bool_tf hc (by assumption) | exact bool_ft hc (by assumption) | exact absurd (by assumption) hc)) <;> (first | with_reducible show STri _ _ _ _ _ _ | (simp -dsimp [hc]; (repeat (simp -dsimp (disch := (first | omega | assumption | (refine Bool.eq_false_iff.1 ?_; assumption))) only [wrap_in, if_pos, if_neg]; (try simp -dsimp [hc]))))))))
  refine st_range (iAll b hb) [3, 4, 200] [] (fun k R => spI b p (.fn f fs es) k R)
    rfl rfl rfl (by kernel_rfl) (by show (0 : Nat) + 1000 ≤ 1000; decide) (fun j hj => by cases hj) (fun row hrow => by obtain ⟨y, _, rfl⟩ := List.mem_map.1 hrow; rfl) (by simp) (by simp) (by simp [spI, spansTo]) ?_ ?_
  · rintro k row R rfl hrow Iv1 G1 hGG hin
    obtain ⟨d, hdk, rfl⟩ : ∃ d, (allL b)[k]? = some d ∧ row = rowA d := by
      rw [List.getElem?_map, Option.map_eq_some_iff] at hrow
      obtain ⟨d, h1, h2⟩ := hrow
      exact ⟨d, h1, h2.symm⟩
    have hk : k < (allL b).length := (List.getElem?_eq_some_iff.1 hdk).1
    have hkd : (allL b)[k] = d := (List.getElem?_eq_some_iff.1 hdk).2
    have hs := spansTo_succ (p := p) hk
    rw [hkd] at hs
    have hcl := hp d (hkd ▸ List.getElem_mem hk)
    have hd1 : d.1 = b.nlo + k := by
      rw [allL_get (by omega)] at hdk; cases hdk; rfl
    have hsl := spansTo_len b p k (by omega)
    unfold rowA
    (repeat' (first | ((first | with_reducible refine st_skip ?_ | with_reducible refine st_exit ?_); (try simp only [seqQ, blockQ, loopQ, forQ, whileQ, reduceIte, Nat.reduceEqDiff])) | (with_reducible refine st_ret ?_; ((try simp only [seqQ, blockQ, loopQ, forQ, whileQ]); first | (with_reducible refine retM_ret ?_) | refine retQ_ret ?_; simp)) | refine st_seq ?_ | refine st_block ?_ | ((with_reducible show (STri _ _ _ _ _) ∧ (STri _ _ _ _ _)); refine And.intro ?_ ?_) | ((first | refine st_reg ?_ | refine buildP_own ?_ | refine appP_own ?_) <;> (simp -dsimp; (repeat (simp -dsimp (disch := (first | omega | assumption | (refine Bool.eq_false_iff.1 ?_; assumption))) only [wrap_in, if_pos, if_neg]; (try simp -dsimp))))) | ((first | refine guardP_of (fun hc => ?_) (fun hc => ?_) | refine st_cond rfl (fun hc => ?_) (fun hc => ?_)) <;> (try simp only [lqA, lqB, lqC, lqD, lqE, lqF, lqG, lqH, lqI, lqJ, lqK, lqL, lqM, lqN, lqO] at hc) <;> (try (exfalso; first | omega | exact bool_tf hc (by assumption) | exact bool_ft hc (by assumption) | exact absurd (by assumption) hc)) <;> (first | with_reducible show STri _ _ _ _ _ _ | (simp -dsimp [hc]; (repeat (simp -dsimp (disch := (first | omega | assumption | (refine Bool.eq_false_iff.1 ?_; assumption))) only [wrap_in, if_pos, if_neg]; (try simp -dsimp [hc]))))))))
    refine ⟨rfl, fun Iv2 hin2 => ?_⟩
    show STri _ _ _ _ (rangeQ _ _ _ (fun k R => spI b p (.fn f fs es) k R) _ _ _)
    generalize hq : spansTo b p k = acc at *
    by_cases hpd : p d.2 = true
    · unfold spanStep at hs
      rw [hpd] at hcl
      rw [if_pos hpd] at hs
      rcases List.eq_nil_or_concat acc with rfl | ⟨ini, l, rfl⟩
      · simp only [List.getLast?_nil] at hs
        (repeat' (first | ((first | with_reducible refine st_skip ?_ | with_reducible refine st_exit ?_); (try simp only [seqQ, blockQ, loopQ, forQ, whileQ, reduceIte, Nat.reduceEqDiff])) | (with_reducible refine st_ret ?_; ((try simp only [seqQ, blockQ, loopQ, forQ, whileQ]); first | (with_reducible refine retM_ret ?_) | refine retQ_ret ?_; simp)) | refine st_seq ?_ | refine st_block ?_ | ((with_reducible show (STri _ _ _ _ _) ∧ (STri _ _ _ _ _)); refine And.intro ?_ ?_) | ((first | refine st_reg ?_ | ((with_reducible show callVP _ _ _ _ _ _ _); refine callV_b (by first | exact Ent.h (by assumption) | kernel_rfl) (hcl) rfl ?_) | refine buildP_own ?_ | refine appP_own ?_) <;> (simp -dsimp; (repeat (simp -dsimp (disch := (first | omega | assumption | (refine Bool.eq_false_iff.1 ?_; assumption))) only [wrap_in, if_pos, if_neg]; (try simp -dsimp))))) | ((first | refine guardP_of (fun hc => ?_) (fun hc => ?_) | refine st_cond rfl (fun hc => ?_) (fun hc => ?_)) <;> (try simp only [lqA, lqB, lqC, lqD, lqE, lqF, lqG, lqH, lqI, lqJ, lqK, lqL, lqM, lqN, lqO] at hc) <;> (try (exfalso; first | omega | exact bool_tf hc (by assumption) | exact bool_ft hc (by assumption) | exact absurd (by assumption) hc)) <;> (first | with_reducible show STri _ _ _ _ _ _ | (simp -dsimp [hc]; (repeat (simp -dsimp (disch := (first | omega | assumption | (refine Bool.eq_false_iff.1 ?_; assumption))) only [wrap_in, if_pos, if_neg]; (try simp -dsimp [hc]))))))))
        exact ⟨by simp, by simp, by simp [spI, hs]⟩
      · rw [List.concat_eq_append] at *
        simp only [List.getLast?_append, List.getLast?_singleton, Option.some_or, List.dropLast_concat] at hs
        have hA : ini.length + 1 ≤ 9223372036854775806 := by simp at hsl; omega
        have hB : (ini.length + 1 + 1) * 16 ≤ 140737488355328 := by simp at hsl; omega
        have hget : (ini.map rowE ++ [rowE l])[ini.length]? = some (rowE l) := by simp
        have hset : ∀ r, (ini.map rowE ++ [rowE l]).set ini.length r = ini.map rowE ++ [r] := fun r => by simp
        by_cases hl : l.2 = d.1 - 1
        · rw [if_pos hl] at hs
          (repeat' (first | ((first | with_reducible refine st_skip ?_ | with_reducible refine st_exit ?_); (try simp only [seqQ, blockQ, loopQ, forQ, whileQ, reduceIte, Nat.reduceEqDiff])) | (with_reducible refine st_ret ?_; ((try simp only [seqQ, blockQ, loopQ, forQ, whileQ]); first | (with_reducible refine retM_ret ?_) | refine retQ_ret ?_; simp [hl, hget, hset])) | refine st_seq ?_ | refine st_block ?_ | ((with_reducible show (STri _ _ _ _ _) ∧ (STri _ _ _ _ _)); refine And.intro ?_ ?_) | ((first | refine st_reg ?_ | ((with_reducible show callVP _ _ _ _ _ _ _); refine callV_b (by first | exact Ent.h (by assumption) | kernel_rfl) (hcl) rfl ?_) | refine buildP_own ?_ | refine appP_own ?_) <;> (simp -dsimp [hl, hget, hset]; (repeat (simp -dsimp (disch := (first | omega | assumption | (refine Bool.eq_false_iff.1 ?_; assumption))) only [wrap_in, if_pos, if_neg]; (try simp -dsimp [hl, hget, hset]))))) | ((first | refine guardP_of (fun hc => ?_) (fun hc => ?_) | refine st_cond rfl (fun hc => ?_) (fun hc => ?_)) <;> (try simp only [lqA, lqB, lqC, lqD, lqE, lqF, lqG, lqH, lqI, lqJ, lqK, lqL, lqM, lqN, lqO] at hc) <;> (try (exfalso; first | omega | exact bool_tf hc (by assumption) | exact bool_ft hc (by assumption) | exact absurd (by assumption) hc)) <;> (first | with_reducible show STri _ _ _ _ _ _ | (simp -dsimp [hl, hget, hset, hc]; (repeat (simp -dsimp (disch := (first | omega | assumption | (refine Bool.eq_false_iff.1 ?_; assumption))) only [wrap_in, if_pos, if_neg]; (try simp -dsimp [hl, hget, hset, hc]))))))))
          exact ⟨by simp, by simp, by simp [spI, hs]⟩
        · rw [if_neg hl] at hs
          (repeat' (first | ((first | with_reducible refine st_skip ?_ | with_reducible refine st_exit ?_); (try simp only [seqQ, blockQ, loopQ, forQ, whileQ, reduceIte, Nat.reduceEqDiff])) | (with_reducible refine st_ret ?_; ((try simp only [seqQ, blockQ, loopQ, forQ, whileQ]); first | (with_reducible refine retM_ret ?_) | refine retQ_ret ?_; simp [hl, hget, hA, hB])) | refine st_seq ?_ | refine st_block ?_ | ((with_reducible show (STri _ _ _ _ _) ∧ (STri _ _ _ _ _)); refine And.intro ?_ ?_) | ((first | refine st_reg ?_ | ((with_reducible show callVP _ _ _ _ _ _ _); refine callV_b (by first | exact Ent.h (by assumption) | kernel_rfl) (hcl) rfl ?_) | refine buildP_own ?_ | refine appP_own ?_) <;> (simp -dsimp [hl, hget, hA, hB]; (repeat (simp -dsimp (disch := (first | omega | assumption | (refine Bool.eq_false_iff.1 ?_; assumption))) only [wrap_in, if_pos, if_neg]; (try simp -dsimp [hl, hget, hA, hB]))))) | ((first | refine guardP_of (fun hc => ?_) (fun hc => ?_) | refine st_cond rfl (fun hc => ?_) (fun hc => ?_)) <;> (try simp only [lqA, lqB, lqC, lqD, lqE, lqF, lqG, lqH, lqI, lqJ, lqK, lqL, lqM, lqN, lqO] at hc) <;> (try (exfalso; first | omega | exact bool_tf hc (by assumption) | exact bool_ft hc (by assumption) | exact absurd (by assumption) hc)) <;> (first | with_reducible show STri _ _ _ _ _ _ | (simp -dsimp [hl, hget, hA, hB, hc]; (repeat (simp -dsimp (disch := (first | omega | assumption | (refine Bool.eq_false_iff.1 ?_; assumption))) only [wrap_in, if_pos, if_neg]; (try simp -dsimp [hl, hget, hA, hB, hc]))))))))
          exact ⟨by simp, by simp, by simp [spI, hs]⟩
    · unfold spanStep at hs
      rw [if_neg hpd] at hs
      rw [Bool.not_eq_true] at hpd
      rw [hpd] at hcl
      (repeat' (first | ((first | with_reducible refine st_skip ?_ | with_reducible refine st_exit ?_); (try simp only [seqQ, blockQ, loopQ, forQ, whileQ, reduceIte, Nat.reduceEqDiff])) | (with_reducible refine st_ret ?_; ((try simp only [seqQ, blockQ, loopQ, forQ, whileQ]); first | (with_reducible refine retM_ret ?_) | refine retQ_ret ?_; simp)) | refine st_seq ?_ | refine st_block ?_ | ((with_reducible show (STri _ _ _ _ _) ∧ (STri _ _ _ _ _)); refine And.intro ?_ ?_) | ((first | refine st_reg ?_ | ((with_reducible show callVP _ _ _ _ _ _ _); refine callV_b (by first | exact Ent.h (by assumption) | kernel_rfl) (hcl) rfl ?_) | refine buildP_own ?_ | refine appP_own ?_) <;> (simp -dsimp; (repeat (simp -dsimp (disch := (first | omega | assumption | (refine Bool.eq_false_iff.1 ?_; assumption))) only [wrap_in, if_pos, if_neg]; (try simp -dsimp))))) | ((first | refine guardP_of (fun hc => ?_) (fun hc => ?_) | refine st_cond rfl (fun hc => ?_) (fun hc => ?_)) <;> (try simp only [lqA, lqB, lqC, lqD, lqE, lqF, lqG, lqH, lqI, lqJ, lqK, lqL, lqM, lqN, lqO] at hc) <;> (try (exfalso; first | omega | exact bool_tf hc (by assumption) | exact bool_ft hc (by assumption) | exact absurd (by assumption) hc)) <;> (first | with_reducible show STri _ _ _ _ _ _ | (simp -dsimp [hc]; (repeat (simp -dsimp (disch := (first | omega | assumption | (refine Bool.eq_false_iff.1 ?_; assumption))) only [wrap_in, if_pos, if_neg]; (try simp -dsimp [hc]))))))))
      exact ⟨by simp, by simp, by simp [spI, hs]⟩
  · rintro R rfl
    simp only [blockQ, seqQ]
    have e : spansTo b p ((allL b).map rowA).length = spansL b p := by unfold spansTo spansL; rw [List.length_map, List.take_length]
    rw [e]
    (repeat' (first | ((first | with_reducible refine st_skip ?_ | with_reducible refine st_exit ?_); (try simp only [seqQ, blockQ, loopQ, forQ, whileQ, reduceIte, Nat.reduceEqDiff])) | (with_reducible refine st_ret ?_; ((try simp only [seqQ, blockQ, loopQ, forQ, whileQ]); first | (with_reducible refine retM_ret ?_) | refine retQ_ret ?_; simp)) | refine st_seq ?_ | refine st_block ?_ | ((with_reducible show (STri _ _ _ _ _) ∧ (STri _ _ _ _ _)); refine And.intro ?_ ?_) | ((first | refine st_reg ?_ | refine buildP_own ?_ | refine appP_own ?_) <;> (simp -dsimp; (repeat (simp -dsimp (disch := (first | omega | assumption | (refine Bool.eq_false_iff.1 ?_; assumption))) only [wrap_in, if_pos, if_neg]; (try simp -dsimp))))) | ((first | refine guardP_of (fun hc => ?_) (fun hc => ?_) | refine st_cond rfl (fun hc => ?_) (fun hc => ?_)) <;> (try simp only [lqA, lqB, lqC, lqD, lqE, lqF, lqG, lqH, lqI, lqJ, lqK, lqL, lqM, lqN, lqO] at hc) <;> (try (exfalso; first | omega | exact bool_tf hc (by assumption) | exact bool_ft hc (by assumption) | exact absurd (by assumption) hc)) <;> (first | with_reducible show STri _ _ _ _ _ _ | (simp -dsimp [hc]; (repeat (simp -dsimp (disch := (first | omega | assumption | (refine Bool.eq_false_iff.1 ?_; assumption))) only [wrap_in, if_pos, if_neg]; (try simp -dsimp [hc]))))))))
    exact .refl _
theorem sNobody (n : Nat) : SC Tryz.prog 77 [U n] (B (decide (n = 0))) := by
  refine law_wire_nobody _ _ (by simp) ?_
  (repeat' (first | ((first | with_reducible refine st_skip ?_ | with_reducible refine st_exit ?_); (try simp only [seqQ, blockQ, loopQ, forQ, whileQ, reduceIte, Nat.reduceEqDiff])) | (with_reducible refine st_ret ?_; ((try simp only [seqQ, blockQ, loopQ, forQ, whileQ]); first | (with_reducible refine retM_ret ?_) | refine retQ_ret ?_; simp)) | refine st_seq ?_ | refine st_block ?_ | ((with_reducible show (STri _ _ _ _ _) ∧ (STri _ _ _ _ _)); refine And.intro ?_ ?_) | ((first | refine st_reg ?_ | refine buildP_own ?_ | refine appP_own ?_) <;> (simp -dsimp; (repeat (simp -dsimp (disch := (first | omega | assumption | (refine Bool.eq_false_iff.1 ?_; assumption))) only [wrap_in, if_pos, if_neg]; (try simp -dsimp))))) | ((first | refine guardP_of (fun hc => ?_) (fun hc => ?_) | refine st_cond rfl (fun hc => ?_) (fun hc => ?_)) <;> (try simp only [lqA, lqB, lqC, lqD, lqE, lqF, lqG, lqH, lqI, lqJ, lqK, lqL, lqM, lqN, lqO] at hc) <;> (try (exfalso; first | omega | exact bool_tf hc (by assumption) | exact bool_ft hc (by assumption) | exact absurd (by assumption) hc)) <;> (first | with_reducible show STri _ _ _ _ _ _ | (simp -dsimp [hc]; (repeat (simp -dsimp (disch := (first | omega | assumption | (refine Bool.eq_false_iff.1 ?_; assumption))) only [wrap_in, if_pos, if_neg]; (try simp -dsimp [hc]))))))))
  all_goals (refine CLe.bool ?_; rw [Bool.eq_iff_iff]; simp)
theorem new_ok {w : List Wsrc} {l : List Wnt} {nlo nhi : Int} (h : newErr w l nlo nhi = 0) : newBk w l nlo nhi = ⟨w, w.map errOf, l, nlo, nhi⟩ ∧ sizeW w = true ∧ w.all validV = true ∧ l.length ≤ 60 ∧ notesErr w l = 0 ∧ spanW nlo nhi 7200 = true := by
  have h0 := h
  unfold newErr at h
  split at h
  · cases h
  rename_i h1
  split at h
  · cases h
  rename_i h2
  split at h
  · cases h
  rename_i h3
  split at h
  · rename_i h4; exact absurd h h4
  rename_i h4
  split at h
  case isFalse => cases h
  rename_i h5
  refine ⟨by unfold newBk; rw [if_neg h1, if_neg h2, if_pos h0], by simpa using h1, by simpa using h2, by omega, by simpa using h4, h5⟩
theorem noteErr_zero {w : List Wsrc} {n : Wnt} (h : noteErr w n = 0) : 0 ≤ n.src ∧ n.src < w.length ∧ 0 ≤ n.tick ∧ n.tick ≤ 3155760000 ∧ (w.map fun s => saidB s n.said).getD n.src.toNat false = true := by
  unfold noteErr at h
  split at h
  case isFalse => cases h
  rename_i h1
  split at h
  case isFalse => cases h
  rename_i h2
  unfold within1 at h1 h2
  simp only [Bool.and_eq_true, decide_eq_true_eq] at h1 h2
  exact ⟨h1.1, by omega, h2.1.1, h2.1.2, h2.2⟩
theorem notesErr_zero {w : List Wsrc} {l : List Wnt} (h : notesErr w l = 0) : ∀ n ∈ l, noteErr w n = 0 := by
  unfold notesErr at h
  cases hf : l.find? (fun n => decide (noteErr w n ≠ 0)) with
  | none => intro n hn; simpa using List.find?_eq_none.1 hf n hn
  | some n =>
    rw [hf] at h
    have := List.find?_some hf
    simp at this
    exact absurd h this
theorem said_bd {s : Wsrc} {n : Int} (h : saidB s n = true) : 0 ≤ n ∧ n ≤ 3155760000 := by
  unfold saidB within1 at h
  split at h
  · simp at h; omega
  · split at h <;> simp at h <;> omega
theorem new_bk {w : List Wsrc} {l : List Wnt} {nlo nhi : Int} (h : newErr w l nlo nhi = 0) : BkOK (newBk w l nlo nhi) := by
  obtain ⟨e, h1, h2, h3, h4, h5⟩ := new_ok h
  rw [e]
  have hz : 1 ≤ w.length ∧ w.length ≤ 10 := by unfold sizeW within1 at h1; simp at h1; omega
  have hv : ∀ s ∈ w, validV s = true := List.all_eq_true.1 h2
  have hsp : -7200 ≤ nlo ∧ nlo ≤ nhi ∧ nhi ≤ 7200 := by unfold spanW at h5; simp at h5; omega
  refine ⟨hz.2, by simp, hv, fun x hx => ?_, h3, fun n hn => ?_, hsp.1, hsp.2.1, hsp.2.2⟩
  · obtain ⟨s, hs, rfl⟩ := List.mem_map.1 hx
    have := hv s hs
    unfold validV baseV spanW at this
    simp at this
    show -20000 ≤ s.elo ∧ s.elo ≤ 20000 ∧ -20000 ≤ s.ehi ∧ s.ehi ≤ 20000
    omega
  · obtain ⟨g1, g2, g3, g4, g5⟩ := noteErr_zero (notesErr_zero h4 n hn)
    have hlt : n.src.toNat < w.length := by omega
    have h6 : saidB (w[n.src.toNat]) n.said = true := by simpa [hlt] using g5
    have := said_bd h6
    exact ⟨g1, g2, g3, g4, this.1, this.2⟩
theorem sSpans (w : List Wsrc) (hw : WLen w) (n : Wnt) (nlo nhi : Int) : SC Tryz.prog 40 [slSr w, cN n, .agg [I nlo, I nhi]] (.tup [slE (if newErr w [n] nlo nhi = 0 then spansL (newBk w [n] nlo nhi) (fun m => decide (m = 0)) else []), I (newErr w [n] nlo nhi)]) := by
  refine law_wire_Spans _ _ (by simp) ?_
  have sb := sNewBook w hw [n] (by simp) nlo nhi
  by_cases h : newErr w [n] nlo nhi = 0
  · have hb := new_bk h
    have ss := sSpansL _ hb (fun m => decide (m = 0)) 77 [] [] ⟨by kernel_rfl⟩ (fun x _ => sNobody x.2)
    rw [if_pos h]
    rw [h] at sb ⊢
    generalize newBk w [n] nlo nhi = b at *
    generalize spansL b (fun m => decide (m = 0)) = r at *
    (repeat' (first | ((first | with_reducible refine st_skip ?_ | with_reducible refine st_exit ?_); (try simp only [seqQ, blockQ, loopQ, forQ, whileQ, reduceIte, Nat.reduceEqDiff])) | (with_reducible refine st_ret ?_; ((try simp only [seqQ, blockQ, loopQ, forQ, whileQ]); first | (with_reducible refine retM_ret ?_) | refine retQ_ret ?_; simp)) | refine st_seq ?_ | refine st_block ?_ | ((with_reducible show (STri _ _ _ _ _) ∧ (STri _ _ _ _ _)); refine And.intro ?_ ?_) | ((first | refine st_reg ?_ | refine buildP_frz ?_ | refine appP_own ?_ | refine callP_b (sb) rfl ?_ | refine callP_b (ss) rfl ?_) <;> (simp -dsimp; (repeat (simp -dsimp (disch := (first | omega | assumption | (refine Bool.eq_false_iff.1 ?_; assumption))) only [wrap_in, if_pos, if_neg]; (try simp -dsimp))))) | ((first | refine guardP_of (fun hc => ?_) (fun hc => ?_) | refine st_cond rfl (fun hc => ?_) (fun hc => ?_)) <;> (try simp only [lqA, lqB, lqC, lqD, lqE, lqF, lqG, lqH, lqI, lqJ, lqK, lqL, lqM, lqN, lqO] at hc) <;> (try (exfalso; first | omega | exact bool_tf hc (by assumption) | exact bool_ft hc (by assumption) | exact absurd (by assumption) hc)) <;> (first | with_reducible show STri _ _ _ _ _ _ | (simp -dsimp [hc]; (repeat (simp -dsimp (disch := (first | omega | assumption | (refine Bool.eq_false_iff.1 ?_; assumption))) only [wrap_in, if_pos, if_neg]; (try simp -dsimp [hc]))))))))
    all_goals exact .refl _
  · rw [if_neg h]
    generalize newErr w [n] nlo nhi = e at *
    generalize newBk w [n] nlo nhi = b at *
    (repeat' (first | ((first | with_reducible refine st_skip ?_ | with_reducible refine st_exit ?_); (try simp only [seqQ, blockQ, loopQ, forQ, whileQ, reduceIte, Nat.reduceEqDiff])) | (with_reducible refine st_ret ?_; ((try simp only [seqQ, blockQ, loopQ, forQ, whileQ]); first | (with_reducible refine retM_ret ?_) | refine retQ_ret ?_; simp [h])) | refine st_seq ?_ | refine st_block ?_ | ((with_reducible show (STri _ _ _ _ _) ∧ (STri _ _ _ _ _)); refine And.intro ?_ ?_) | ((first | refine st_reg ?_ | refine buildP_frz ?_ | refine appP_own ?_ | refine callP_b (sb) rfl ?_) <;> (simp -dsimp [h]; (repeat (simp -dsimp (disch := (first | omega | assumption | (refine Bool.eq_false_iff.1 ?_; assumption))) only [wrap_in, if_pos, if_neg]; (try simp -dsimp [h]))))) | ((first | refine guardP_of (fun hc => ?_) (fun hc => ?_) | refine st_cond rfl (fun hc => ?_) (fun hc => ?_)) <;> (try simp only [lqA, lqB, lqC, lqD, lqE, lqF, lqG, lqH, lqI, lqJ, lqK, lqL, lqM, lqN, lqO] at hc) <;> (try (exfalso; first | omega | exact bool_tf hc (by assumption) | exact bool_ft hc (by assumption) | exact absurd (by assumption) hc)) <;> (first | with_reducible show STri _ _ _ _ _ _ | (simp -dsimp [h, hc]; (repeat (simp -dsimp (disch := (first | omega | assumption | (refine Bool.eq_false_iff.1 ?_; assumption))) only [wrap_in, if_pos, if_neg]; (try simp -dsimp [h, hc]))))))))
    all_goals exact cle_nilT 2 _
theorem sFits (w : List Wsrc) (hw : WLen w) (l : List Wnt) (hl : l.length ≤ 1000000) (nlo nhi : Int) : SC Tryz.prog 43 [slSr w, slN l, .agg [I nlo, I nhi]]
    (.tup [slE (if newErr w l nlo nhi = 0 then spansL (newBk w l nlo nhi) (fun m => decide (m = 0)) else []), I (if newErr w l nlo nhi = 0 then (if spansL (newBk w l nlo nhi) (fun m => decide (m = 0)) = [] then 7 else 0) else newErr w l nlo nhi)]) := by
  refine law_wire_Fits _ _ (by simp) ?_
  have sb := sNewBook w hw l hl nlo nhi
  by_cases h : newErr w l nlo nhi = 0
  · have hb := new_bk h
    have ss := sSpansL _ hb (fun m => decide (m = 0)) 77 [] [] ⟨by kernel_rfl⟩ (fun x _ => sNobody x.2)
    rw [if_pos h, if_pos h]
    rw [h] at sb
    generalize newBk w l nlo nhi = b at *
    generalize spansL b (fun m => decide (m = 0)) = r at *
    by_cases hr : r = []
    · subst hr
      (repeat' (first | ((first | with_reducible refine st_skip ?_ | with_reducible refine st_exit ?_); (try simp only [seqQ, blockQ, loopQ, forQ, whileQ, reduceIte, Nat.reduceEqDiff])) | (with_reducible refine st_ret ?_; ((try simp only [seqQ, blockQ, loopQ, forQ, whileQ]); first | (with_reducible refine retM_ret ?_) | refine retQ_ret ?_; simp)) | refine st_seq ?_ | refine st_block ?_ | ((with_reducible show (STri _ _ _ _ _) ∧ (STri _ _ _ _ _)); refine And.intro ?_ ?_) | ((first | refine st_reg ?_ | refine buildP_own ?_ | refine appP_own ?_ | refine callP_b (sb) rfl ?_ | refine callP_b (ss) rfl ?_) <;> (simp -dsimp; (repeat (simp -dsimp (disch := (first | omega | assumption | (refine Bool.eq_false_iff.1 ?_; assumption))) only [wrap_in, if_pos, if_neg]; (try simp -dsimp))))) | ((first | refine guardP_of (fun hc => ?_) (fun hc => ?_) | refine st_cond rfl (fun hc => ?_) (fun hc => ?_)) <;> (try simp only [lqA, lqB, lqC, lqD, lqE, lqF, lqG, lqH, lqI, lqJ, lqK, lqL, lqM, lqN, lqO] at hc) <;> (try (exfalso; first | omega | exact bool_tf hc (by assumption) | exact bool_ft hc (by assumption) | exact absurd (by assumption) hc)) <;> (first | with_reducible show STri _ _ _ _ _ _ | (simp -dsimp [hc]; (repeat (simp -dsimp (disch := (first | omega | assumption | (refine Bool.eq_false_iff.1 ?_; assumption))) only [wrap_in, if_pos, if_neg]; (try simp -dsimp [hc]))))))))
      exact cle_nilT 2 _
    · have hr2 : ¬ r.length = 0 := fun e => hr (List.length_eq_zero_iff.1 e)
      (repeat' (first | ((first | with_reducible refine st_skip ?_ | with_reducible refine st_exit ?_); (try simp only [seqQ, blockQ, loopQ, forQ, whileQ, reduceIte, Nat.reduceEqDiff])) | (with_reducible refine st_ret ?_; ((try simp only [seqQ, blockQ, loopQ, forQ, whileQ]); first | (with_reducible refine retM_ret ?_) | refine retQ_ret ?_; simp [hr, hr2])) | refine st_seq ?_ | refine st_block ?_ | ((with_reducible show (STri _ _ _ _ _) ∧ (STri _ _ _ _ _)); refine And.intro ?_ ?_) | ((first | refine st_reg ?_ | refine buildP_own ?_ | refine appP_own ?_ | refine callP_b (sb) rfl ?_ | refine callP_b (ss) rfl ?_) <;> (simp -dsimp [hr, hr2]; (repeat (simp -dsimp (disch := (first | omega | assumption | (refine Bool.eq_false_iff.1 ?_; assumption))) only [wrap_in, if_pos, if_neg]; (try simp -dsimp [hr, hr2]))))) | ((first | refine guardP_of (fun hc => ?_) (fun hc => ?_) | refine st_cond rfl (fun hc => ?_) (fun hc => ?_)) <;> (try simp only [lqA, lqB, lqC, lqD, lqE, lqF, lqG, lqH, lqI, lqJ, lqK, lqL, lqM, lqN, lqO] at hc) <;> (try (exfalso; first | omega | exact bool_tf hc (by assumption) | exact bool_ft hc (by assumption) | exact absurd (by assumption) hc)) <;> (first | with_reducible show STri _ _ _ _ _ _ | (simp -dsimp [hr, hr2, hc]; (repeat (simp -dsimp (disch := (first | omega | assumption | (refine Bool.eq_false_iff.1 ?_; assumption))) only [wrap_in, if_pos, if_neg]; (try simp -dsimp [hr, hr2, hc]))))))))
      all_goals exact .refl _
  · rw [if_neg h, if_neg h]
    generalize newErr w l nlo nhi = e at *
    generalize newBk w l nlo nhi = b at *
    (repeat' (first | ((first | with_reducible refine st_skip ?_ | with_reducible refine st_exit ?_); (try simp only [seqQ, blockQ, loopQ, forQ, whileQ, reduceIte, Nat.reduceEqDiff])) | (with_reducible refine st_ret ?_; ((try simp only [seqQ, blockQ, loopQ, forQ, whileQ]); first | (with_reducible refine retM_ret ?_) | refine retQ_ret ?_; simp [h])) | refine st_seq ?_ | refine st_block ?_ | ((with_reducible show (STri _ _ _ _ _) ∧ (STri _ _ _ _ _)); refine And.intro ?_ ?_) | ((first | refine st_reg ?_ | refine buildP_own ?_ | refine appP_own ?_ | refine callP_b (sb) rfl ?_) <;> (simp -dsimp [h]; (repeat (simp -dsimp (disch := (first | omega | assumption | (refine Bool.eq_false_iff.1 ?_; assumption))) only [wrap_in, if_pos, if_neg]; (try simp -dsimp [h]))))) | ((first | refine guardP_of (fun hc => ?_) (fun hc => ?_) | refine st_cond rfl (fun hc => ?_) (fun hc => ?_)) <;> (try simp only [lqA, lqB, lqC, lqD, lqE, lqF, lqG, lqH, lqI, lqJ, lqK, lqL, lqM, lqN, lqO] at hc) <;> (try (exfalso; first | omega | exact bool_tf hc (by assumption) | exact bool_ft hc (by assumption) | exact absurd (by assumption) hc)) <;> (first | with_reducible show STri _ _ _ _ _ _ | (simp -dsimp [h, hc]; (repeat (simp -dsimp (disch := (first | omega | assumption | (refine Bool.eq_false_iff.1 ?_; assumption))) only [wrap_in, if_pos, if_neg]; (try simp -dsimp [h, hc]))))))))
    all_goals exact cle_nilT 2 _
end Go.Proofs.YtlodpljdhdhfmaaGreat
/- Wire, IX: the sets of sources that are wrong. -/
namespace Go.Proofs.YtlodpljdhdhfmaaGreat
open Go.RowKit
def entU (w : Nat) : List Int × CV := ([(w : Int)], .val (.bool true))
attribute [simp] entU
def entsU (l : List Nat) : List (List Int × CV) := l.map entU
def addU (l : List Nat) (w : Nat) : List Nat := if w ∈ l then l else l ++ [w]
def setsTo (b : Wbk) (k : Nat) : List Nat := ((allL b).take k).foldl (fun l x => addU l x.2) []
def setsL (b : Wbk) : List Nat := (allL b).foldl (fun l x => addU l x.2) []
theorem putU (l : List Nat) (w : Nat) : putM (entsU l) [(w : Int)] (.val (.bool true)) = entsU (addU l w) := by
  have hany : (entsU l).any (fun p => p.1 == [(w : Int)]) = decide (w ∈ l) := by
    rw [Bool.eq_iff_iff]
    simp only [entsU, List.any_map, List.any_eq_true, Function.comp_def, entU, decide_eq_true_eq, beq_iff_eq, List.cons.injEq, and_true]
    constructor
    · rintro ⟨x, hx, h⟩
      have : x = w := by omega
      rw [← this]; exact hx
    · exact fun h => ⟨w, h, rfl⟩
  unfold putM addU
  rw [hany]
  by_cases h : w ∈ l
  · rw [if_pos h, if_pos (by simpa using h)]
    unfold entsU
    rw [List.map_map]
    refine List.map_congr_left fun x _ => ?_
    simp only [Function.comp_def, entU]
    exact ite_self _
  · rw [if_neg h, if_neg (by simpa using h)]
    simp [entsU, entU]
theorem setsTo_succ {b : Wbk} {k : Nat} (h : k < (allL b).length) : setsTo b (k + 1) = addU (setsTo b k) (allL b)[k].2 := by
  unfold setsTo
  rw [List.take_succ_eq_append_getElem h, List.foldl_append]
  rfl
theorem addU_len (l : List Nat) (w : Nat) : (addU l w).length ≤ l.length + 1 := by
  unfold addU; split <;> simp
theorem setsTo_len (b : Wbk) (k : Nat) (hk : k ≤ (allL b).length) : (setsTo b k).length ≤ k := by
  induction k with
  | zero => simp [setsTo]
  | succ k ih =>
    rw [setsTo_succ (by omega)]
    have := addU_len (setsTo b k) ((allL b)[k]'(by omega)).2
    have := ih (by omega)
    omega
theorem mem_addU {l : List Nat} {w x : Nat} : x ∈ addU l w ↔ x ∈ l ∨ x = w := by
  unfold addU
  split
  · rename_i h
    constructor
    · exact fun hx => .inl hx
    · rintro (hx | rfl)
      · exact hx
      · exact h
  · simp
theorem mem_fold : ∀ (xs : List (Int × Nat)) (l : List Nat) (x : Nat), x ∈ xs.foldl (fun l x => addU l x.2) l ↔ x ∈ l ∨ ∃ y ∈ xs, y.2 = x
  | [], l, x => by simp
  | y :: xs, l, x => by
    rw [List.foldl_cons, mem_fold xs, mem_addU]
    constructor
    · rintro ((h | h) | ⟨z, hz, h⟩)
      · exact .inl h
      · exact .inr ⟨y, by simp, h.symm⟩
      · exact .inr ⟨z, by simp [hz], h⟩
    · rintro (h | ⟨z, hz, h⟩)
      · exact .inl (.inl h)
      · rcases List.mem_cons.1 hz with rfl | hz
        · exact .inl (.inr h.symm)
        · exact .inr ⟨z, hz, h⟩
theorem nodup_addU {l : List Nat} (h : l.Nodup) (w : Nat) : (addU l w).Nodup := by
  unfold addU
  split
  · exact h
  · rename_i hw
    rw [List.nodup_append]
    exact ⟨h, by simp, fun a ha b hb => by simp at hb; subst hb; exact fun e => hw (e ▸ ha)⟩
theorem nodup_fold : ∀ (xs : List (Int × Nat)) (l : List Nat), l.Nodup → (xs.foldl (fun l x => addU l x.2) l).Nodup
  | [], _, h => h
  | y :: xs, l, h => by rw [List.foldl_cons]; exact nodup_fold xs _ (nodup_addU h _)
theorem mem_setsL {b : Wbk} {x : Nat} : x ∈ setsL b ↔ ∃ y ∈ allL b, y.2 = x := by
  unfold setsL
  rw [mem_fold]; simp
theorem setsL_nodup (b : Wbk) : (setsL b).Nodup := nodup_fold _ _ List.nodup_nil
theorem ents_perm {l : List Nat} {p : List Int × CV} {rest : List (List Int × CV)} (h : (entsU l).Perm (p :: rest)) : ∃ w R, p = entU w ∧ rest = entsU R ∧ l.Perm (w :: R) := by
  have inv : ∀ q ∈ entsU l, entU (q.1.headD 0).toNat = q := fun q hq => by
    obtain ⟨w, _, rfl⟩ := List.mem_map.1 hq
    simp [entU]
  have hl : (entsU l).map (fun q => (q.1.headD 0).toNat) = l := by
    unfold entsU
    rw [List.map_map]
    conv => rhs; rw [← List.map_id l]
    exact List.map_congr_left fun x _ => by simp [entU]
  refine ⟨(p.1.headD 0).toNat, rest.map (fun q => (q.1.headD 0).toNat), (inv p (h.mem_iff.2 (by simp))).symm, ?_, ?_⟩
  · unfold entsU
    rw [List.map_map]
    conv => lhs; rw [← List.map_id rest]
    exact List.map_congr_left fun q hq => (inv q (h.mem_iff.2 (by simp [hq]))).symm
  · have := h.map (fun q : List Int × CV => (q.1.headD 0).toNat)
    rw [hl] at this
    exact this
theorem sSets (b : Wbk) (hb : BkOK b) : SC Tryz.prog 82 [cBk b] (.map false .u64 (entsU (setsL b))) := by
  refine law_wire_book_sets _ _ (by simp) ?_
  have n0 := hb.n0
  have n2 := hb.n2
  have hlen := allL_len b
  have hN : bookN b ≤ 20000 := by unfold bookN; omega
  (repeat' (first | ((first | with_reducible refine st_skip ?_ | with_reducible refine st_exit ?_); (try simp only [seqQ, blockQ, loopQ, forQ, whileQ, reduceIte, Nat.reduceEqDiff])) | (with_reducible refine st_ret ?_; ((try simp only [seqQ, blockQ, loopQ, forQ, whileQ]); first | (with_reducible refine retM_ret ?_) | refine retQ_ret ?_; simp)) | refine st_seq ?_ | refine st_block ?_ | ((with_reducible show (STri _ _ _ _ _) ∧ (STri _ _ _ _ _)); refine And.intro ?_ ?_) | ((first | refine st_reg ?_ | refine buildP_own ?_ | refine appP_own ?_) <;> (simp -dsimp; (repeat (simp -dsimp (disch := (first | omega | assumption | (refine Bool.eq_false_iff.1 ?_; assumption))) only [wrap_in, if_pos, if_neg]; (try simp -dsimp))))) | ((first | refine guardP_of (fun hc => ?_) (fun hc => ?_) | refine st_cond rfl (fun hc => ?_) (fun hc => ?_)) <;> (try simp only [lqA, lqB, lqC, lqD, lqE, lqF, lqG, lqH, lqI, lqJ, lqK, lqL, lqM, lqN, lqO] at hc) <;> (try (exfalso; first | omega | exact bool_tf hc (by assumption) | exact bool_ft hc (by assumption) | exact absurd (by assumption) hc)) <;> (first | with_reducible show STri _ _ _ _ _ _ | (simp -dsimp [hc]; (repeat (simp -dsimp (disch := (first | omega | assumption | (refine Bool.eq_false_iff.1 ?_; assumption))) only [wrap_in, if_pos, if_neg]; (try simp -dsimp [hc]))))))))
  refine st_range (iAll b hb) [3, 6] [] (fun k R => R = [(3, .box 162 [.om 6]), (6, .map false .u64 (entsU (setsTo b k)))])
    rfl rfl rfl (by kernel_rfl) (by show (0 : Nat) + 1000 ≤ 1000; decide) (fun j hj => by cases hj) (fun row hrow => by obtain ⟨y, _, rfl⟩ := List.mem_map.1 hrow; rfl) (by simp) (by simp) (by simp [setsTo, entsU]) ?_ ?_
  · rintro k row R rfl hrow Iv1 G1 hGG hin
    obtain ⟨d, hdk, rfl⟩ : ∃ d, (allL b)[k]? = some d ∧ row = rowA d := by
      rw [List.getElem?_map, Option.map_eq_some_iff] at hrow
      obtain ⟨d, h1, h2⟩ := hrow
      exact ⟨d, h1, h2.symm⟩
    have hk : k < (allL b).length := (List.getElem?_eq_some_iff.1 hdk).1
    have hkd : (allL b)[k] = d := (List.getElem?_eq_some_iff.1 hdk).2
    have hs := setsTo_succ hk
    rw [hkd] at hs
    have hsl := setsTo_len b k (by omega)
    have hA : (entsU (setsTo b k)).length < 9223372036854775807 := by simp [entsU]; omega
    have hput := putU (setsTo b k) d.2
    rw [← hs] at hput
    unfold rowA
    generalize entsU (setsTo b k) = es at *
    (repeat' (first | ((first | with_reducible refine st_skip ?_ | with_reducible refine st_exit ?_); (try simp only [seqQ, blockQ, loopQ, forQ, whileQ, reduceIte, Nat.reduceEqDiff])) | (with_reducible refine st_ret ?_; ((try simp only [seqQ, blockQ, loopQ, forQ, whileQ]); first | (with_reducible refine retM_ret ?_) | refine retQ_ret ?_; simp)) | refine st_seq ?_ | refine st_block ?_ | ((with_reducible show (STri _ _ _ _ _) ∧ (STri _ _ _ _ _)); refine And.intro ?_ ?_) | ((first | refine st_reg ?_ | refine buildP_own ?_ | refine appP_own ?_) <;> (simp -dsimp; (repeat (simp -dsimp (disch := (first | omega | assumption | (refine Bool.eq_false_iff.1 ?_; assumption))) only [wrap_in, if_pos, if_neg]; (try simp -dsimp))))) | ((first | refine guardP_of (fun hc => ?_) (fun hc => ?_) | refine st_cond rfl (fun hc => ?_) (fun hc => ?_)) <;> (try simp only [lqA, lqB, lqC, lqD, lqE, lqF, lqG, lqH, lqI, lqJ, lqK, lqL, lqM, lqN, lqO] at hc) <;> (try (exfalso; first | omega | exact bool_tf hc (by assumption) | exact bool_ft hc (by assumption) | exact absurd (by assumption) hc)) <;> (first | with_reducible show STri _ _ _ _ _ _ | (simp -dsimp [hc]; (repeat (simp -dsimp (disch := (first | omega | assumption | (refine Bool.eq_false_iff.1 ?_; assumption))) only [wrap_in, if_pos, if_neg]; (try simp -dsimp [hc]))))))))
    refine ⟨rfl, fun Iv2 hin2 => ?_⟩
    (repeat' (first | ((first | with_reducible refine st_skip ?_ | with_reducible refine st_exit ?_); (try simp only [seqQ, blockQ, loopQ, forQ, whileQ, reduceIte, Nat.reduceEqDiff])) | (with_reducible refine st_ret ?_; ((try simp only [seqQ, blockQ, loopQ, forQ, whileQ]); first | (with_reducible refine retM_ret ?_) | refine retQ_ret ?_; simp [hput, hA])) | refine st_seq ?_ | refine st_block ?_ | ((with_reducible show (STri _ _ _ _ _) ∧ (STri _ _ _ _ _)); refine And.intro ?_ ?_) | ((first | refine st_reg ?_ | refine buildP_own ?_ | refine appP_own ?_) <;> (simp -dsimp [hput, hA]; (repeat (simp -dsimp (disch := (first | omega | assumption | (refine Bool.eq_false_iff.1 ?_; assumption))) only [wrap_in, if_pos, if_neg]; (try simp -dsimp [hput, hA]))))) | ((first | refine guardP_of (fun hc => ?_) (fun hc => ?_) | refine st_cond rfl (fun hc => ?_) (fun hc => ?_)) <;> (try simp only [lqA, lqB, lqC, lqD, lqE, lqF, lqG, lqH, lqI, lqJ, lqK, lqL, lqM, lqN, lqO] at hc) <;> (try (exfalso; first | omega | exact bool_tf hc (by assumption) | exact bool_ft hc (by assumption) | exact absurd (by assumption) hc)) <;> (first | with_reducible show STri _ _ _ _ _ _ | (simp -dsimp [hput, hA, hc]; (repeat (simp -dsimp (disch := (first | omega | assumption | (refine Bool.eq_false_iff.1 ?_; assumption))) only [wrap_in, if_pos, if_neg]; (try simp -dsimp [hput, hA, hc]))))))))
    simp only [putM, beq_iff_eq] at hput
    exact ⟨by simp, by simp, by simp [hput]⟩
  · rintro R rfl
    simp only [blockQ, seqQ]
    have e : setsTo b ((allL b).map rowA).length = setsL b := by unfold setsTo setsL; rw [List.length_map, List.take_length]
    rw [e]
    (repeat' (first | ((first | with_reducible refine st_skip ?_ | with_reducible refine st_exit ?_); (try simp only [seqQ, blockQ, loopQ, forQ, whileQ, reduceIte, Nat.reduceEqDiff])) | (with_reducible refine st_ret ?_; ((try simp only [seqQ, blockQ, loopQ, forQ, whileQ]); first | (with_reducible refine retM_ret ?_) | refine retQ_ret ?_; simp)) | refine st_seq ?_ | refine st_block ?_ | ((with_reducible show (STri _ _ _ _ _) ∧ (STri _ _ _ _ _)); refine And.intro ?_ ?_) | ((first | refine st_reg ?_ | refine buildP_own ?_ | refine appP_own ?_) <;> (simp -dsimp; (repeat (simp -dsimp (disch := (first | omega | assumption | (refine Bool.eq_false_iff.1 ?_; assumption))) only [wrap_in, if_pos, if_neg]; (try simp -dsimp))))) | ((first | refine guardP_of (fun hc => ?_) (fun hc => ?_) | refine st_cond rfl (fun hc => ?_) (fun hc => ?_)) <;> (try simp only [lqA, lqB, lqC, lqD, lqE, lqF, lqG, lqH, lqI, lqJ, lqK, lqL, lqM, lqN, lqO] at hc) <;> (try (exfalso; first | omega | exact bool_tf hc (by assumption) | exact bool_ft hc (by assumption) | exact absurd (by assumption) hc)) <;> (first | with_reducible show STri _ _ _ _ _ _ | (simp -dsimp [hc]; (repeat (simp -dsimp (disch := (first | omega | assumption | (refine Bool.eq_false_iff.1 ?_; assumption))) only [wrap_in, if_pos, if_neg]; (try simp -dsimp [hc]))))))))
    exact .refl _
def minU (best : Nat) (l : List Nat) : Nat := l.foldl (fun m x => min m (popN x)) best
def fewN (b : Wbk) : Nat := minU b.srcs.length (setsL b)
theorem minU_perm {l l' : List Nat} (h : l.Perm l') (m : Nat) : minU m l = minU m l' :=
  h.foldl_eq' (fun x _ y _ z => by show min (min z (popN x)) (popN y) = min (min z (popN y)) (popN x); omega) m
theorem minU_le : ∀ (l : List Nat) (m : Nat), minU m l ≤ m ∧ ∀ x ∈ l, minU m l ≤ popN x
  | [], m => ⟨Nat.le_refl _, fun x hx => by cases hx⟩
  | y :: l, m => by
    obtain ⟨h1, h2⟩ := minU_le l (min m (popN y))
    refine ⟨?_, fun x hx => ?_⟩
    · show minU (min m (popN y)) l ≤ m
      omega
    · show minU (min m (popN y)) l ≤ popN x
      rcases List.mem_cons.1 hx with rfl | hx
      · omega
      · exact h2 x hx
theorem minU_at : ∀ (l : List Nat) (m : Nat), minU m l = m ∨ ∃ x ∈ l, minU m l = popN x
  | [], m => .inl rfl
  | y :: l, m => by
    rcases minU_at l (min m (popN y)) with h | ⟨x, hx, h⟩
    · by_cases hm : m ≤ popN y
      · left; show minU (min m (popN y)) l = m; omega
      · right; exact ⟨y, by simp, by show minU (min m (popN y)) l = popN y; omega⟩
    · exact .inr ⟨x, by simp [hx], h⟩
theorem set_lt {b : Wbk} (hb : BkOK b) {x : Nat} (hx : x ∈ setsL b) : x < 1024 := by
  obtain ⟨y, hy, rfl⟩ := mem_setsL.1 hx
  obtain ⟨k, hk, rfl⟩ := List.mem_map.1 hy
  have h1 := wrongTo_lt hb (b.nlo + k) b.notes.length (Nat.le_refl _)
  have h2 : 2 ^ b.srcs.length ≤ 2 ^ 10 := Nat.pow_le_pow_right (by omega) hb.len
  show wrongTo b (b.nlo + k) b.notes.length < 1024
  omega
theorem pop_le (x : Nat) : popN x ≤ 10 := by
  unfold popN
  exact Nat.le_trans (List.length_filter_le _ _) (by simp)
def feI (b : Wbk) (m : Nat) (T : TL) (H : HL) : Prop := ∃ L cur best, m = L.length ∧ (∀ x ∈ L, x < 1024) ∧ best ≤ 10 ∧ minU best L = fewN b ∧ T = [(3, .c (I (best : Nat))), (10, .it 10)] ∧ H = [(10, .it false .u64 (entsU L) cur)]
theorem sFewest (b : Wbk) (hb : BkOK b) : SC Tryz.prog 81 [cBk b] (I (fewN b)) := by
  refine law_wire_book_fewest _ _ (by simp) ?_
  have ss := sSets b hb
  have hlen := hb.len
  (repeat' (first | ((first | with_reducible refine st_skip ?_ | with_reducible refine st_exit ?_); (try simp only [seqQ, blockQ, loopQ, forQ, whileQ, reduceIte, Nat.reduceEqDiff])) | (with_reducible refine st_ret ?_; ((try simp only [seqQ, blockQ, loopQ, forQ, whileQ]); first | (with_reducible refine retM_ret ?_) | refine retQ_ret ?_; simp)) | refine st_seq ?_ | refine st_block ?_ | ((with_reducible show (STri _ _ _ _ _) ∧ (STri _ _ _ _ _)); refine And.intro ?_ ?_) | ((first | refine st_reg ?_ | refine buildP_own ?_ | refine appP_own ?_ | refine callP_b (ss) rfl ?_) <;> (simp -dsimp; (repeat (simp -dsimp (disch := (first | omega | assumption | (refine Bool.eq_false_iff.1 ?_; assumption))) only [wrap_in, if_pos, if_neg]; (try simp -dsimp))))) | ((first | refine guardP_of (fun hc => ?_) (fun hc => ?_) | refine st_cond rfl (fun hc => ?_) (fun hc => ?_)) <;> (try simp only [lqA, lqB, lqC, lqD, lqE, lqF, lqG, lqH, lqI, lqJ, lqK, lqL, lqM, lqN, lqO] at hc) <;> (try (exfalso; first | omega | exact bool_tf hc (by assumption) | exact bool_ft hc (by assumption) | exact absurd (by assumption) hc)) <;> (first | with_reducible show STri _ _ _ _ _ _ | (simp -dsimp [hc]; (repeat (simp -dsimp (disch := (first | omega | assumption | (refine Bool.eq_false_iff.1 ?_; assumption))) only [wrap_in, if_pos, if_neg]; (try simp -dsimp [hc]))))))))
  refine st_while [10] (feI b) (setsL b).length (by simp) ⟨setsL b, none, b.srcs.length, rfl, fun x hx => set_lt hb hx, hlen, rfl, by simp, by simp⟩ ?_
  rintro m T H ⟨L, cur, best, rfl, hL, hbest, hmin, rfl, rfl⟩
  (repeat' (first | ((first | with_reducible refine st_skip ?_ | with_reducible refine st_exit ?_); (try simp only [seqQ, blockQ, loopQ, forQ, whileQ, reduceIte, Nat.reduceEqDiff])) | (with_reducible refine st_ret ?_; ((try simp only [seqQ, blockQ, loopQ, forQ, whileQ]); first | (with_reducible refine retM_ret ?_) | refine retQ_ret ?_; simp)) | refine st_seq ?_ | refine st_block ?_ | ((with_reducible show (STri _ _ _ _ _) ∧ (STri _ _ _ _ _)); refine And.intro ?_ ?_) | ((first | refine st_reg ?_ | refine buildP_own ?_ | refine appP_own ?_ | ((with_reducible show nextP _ _ _ _); refine next_of (by first | rfl | simp) (fun hl0 => ?_) (fun pe re hpm => ?_) <;> (first | (obtain ⟨wq, Rq, rfl, rfl, hpq⟩ := ents_perm hpm) | skip)) | refine callP_b (sOnes wq (hL wq (hpq.mem_iff.2 (by simp)))) rfl ?_) <;> (simp -dsimp; (repeat (simp -dsimp (disch := (first | omega | assumption | (refine Bool.eq_false_iff.1 ?_; assumption))) only [wrap_in, if_pos, if_neg]; (try simp -dsimp))))) | ((first | refine guardP_of (fun hc => ?_) (fun hc => ?_) | refine st_cond rfl (fun hc => ?_) (fun hc => ?_)) <;> (try simp only [lqA, lqB, lqC, lqD, lqE, lqF, lqG, lqH, lqI, lqJ, lqK, lqL, lqM, lqN, lqO] at hc) <;> (try (exfalso; first | omega | exact bool_tf hc (by assumption) | exact bool_ft hc (by assumption) | exact absurd (by assumption) hc)) <;> (first | with_reducible show STri _ _ _ _ _ _ | (simp -dsimp [hc]; (repeat (simp -dsimp (disch := (first | omega | assumption | (refine Bool.eq_false_iff.1 ?_; assumption))) only [wrap_in, if_pos, if_neg]; (try simp -dsimp [hc]))))))))
  · have : L = [] := by simpa [entsU] using hl0
    subst this
    refine CLe.int ?_
    rw [← hmin]; rfl
  · have hp := pop_le wq
    have h1 := minU_perm hpq best
    have h2 : minU best (wq :: Rq) = minU (min best (popN wq)) Rq := rfl
    have hl := hpq.length_eq
    refine ⟨Rq.length, by simp at hl; omega, by simp, Rq, some (entU wq), min best (popN wq), rfl, fun x hx => hL x (hpq.mem_iff.2 (by simp [hx])), by omega, by rw [← h2, ← h1]; exact hmin, ?_, by simp⟩
    simp
    omega
end Go.Proofs.YtlodpljdhdhfmaaGreat
/- Wire, X: the most that can be right; pairs. -/
namespace Go.Proofs.YtlodpljdhdhfmaaGreat
open Go.RowKit
end Go.Proofs.YtlodpljdhdhfmaaGreat
/- Wire, XI: pairs. -/
namespace Go.Proofs.YtlodpljdhdhfmaaGreat
open Go.RowKit
end Go.Proofs.YtlodpljdhdhfmaaGreat
/- The shelf's structure for slices.SortFunc at lists of integers, laid at this seat. -/
namespace Go.Proofs.YtlodpljdhdhfmaaGreat
open Go.Shelf
def Tryz.sortW_ren : Go.Shelf.Ren := ⟨fun | 6 => 85 | 15 => 103 | 14 => 109 | 28 => 125 | 29 => 126 | 20 => 132 | 21 => 133 | 22 => 134 | 23 => 135 | 24 => 136 | 25 => 137 | 26 => 138 | 27 => 139 | 46 => 147 | 47 => 142 | 48 => 143 | 49 => 148 | 50 => 149 | 57 => 151 | n => n, fun | 22 => 121 | 24 => 49 | 25 => 168 | 3 => 3 | 39 => 164 | 0 => 0 | 53 => 190 | 55 => 192 | 4 => 4 | 46 => 200 | 45 => 199 | 50 => 204 | 5 => 5 | 9 => 9 | 66 => 218 | 70 => 221 | 76 => 226 | 77 => 227 | n => n, fun | n => n⟩
theorem Tryz.sortW : Go.Proofs.SlLaysF.n6 Tryz.prog Tryz.sortW_ren := {
  mixed := by kernel_rfl
  f6 := ⟨Tryz.f85.name, by decide, Tryz.func85.trans (congrArg some (by kernel_rfl))⟩
  f14 := ⟨Tryz.f109.name, by decide, Tryz.func109.trans (congrArg some (by kernel_rfl))⟩
  f15 := Tryz.func103.trans (congrArg some (by kernel_rfl))
  f20 := ⟨Tryz.f132.name, by decide, Tryz.func132.trans (congrArg some (by kernel_rfl))⟩
  f21 := ⟨Tryz.f133.name, by decide, Tryz.func133.trans (congrArg some (by kernel_rfl))⟩
  f22 := ⟨Tryz.f134.name, by decide, Tryz.func134.trans (congrArg some (by kernel_rfl))⟩
  f23 := ⟨Tryz.f135.name, by decide, Tryz.func135.trans (congrArg some (by kernel_rfl))⟩
  f24 := ⟨Tryz.f136.name, by decide, Tryz.func136.trans (congrArg some (by kernel_rfl))⟩
  f25 := ⟨Tryz.f137.name, by decide, Tryz.func137.trans (congrArg some (by kernel_rfl))⟩
  f26 := ⟨Tryz.f138.name, by decide, Tryz.func138.trans (congrArg some (by kernel_rfl))⟩
  f27 := ⟨Tryz.f139.name, by decide, Tryz.func139.trans (congrArg some (by kernel_rfl))⟩
  f28 := Tryz.func125.trans (congrArg some (by kernel_rfl))
  f29 := Tryz.func126.trans (congrArg some (by kernel_rfl))
  f46 := ⟨Tryz.f147.name, by decide, Tryz.func147.trans (congrArg some (by kernel_rfl))⟩
  f47 := Tryz.func142.trans (congrArg some (by kernel_rfl))
  f48 := Tryz.func143.trans (congrArg some (by kernel_rfl))
  f49 := ⟨Tryz.f148.name, by decide, Tryz.func148.trans (congrArg some (by kernel_rfl))⟩
  f50 := ⟨Tryz.f149.name, by decide, Tryz.func149.trans (congrArg some (by kernel_rfl))⟩
  f57 := ⟨Tryz.f151.name, by decide, Tryz.func151.trans (congrArg some (by kernel_rfl))⟩
  t0 := Tryz.underlying0
  a0 := Tryz.isAgg0
  z0 := Tryz.sizeOf0
  v0 := Tryz.zeroValue0
  t3 := Tryz.underlying3
  a3 := Tryz.isAgg3
  z3 := Tryz.sizeOf3
  v3 := Tryz.zeroValue3
  t4 := Tryz.underlying4
  a4 := Tryz.isAgg4
  z4 := Tryz.sizeOf4
  v4 := Tryz.zeroValue4
  t5 := Tryz.underlying5
  a5 := Tryz.isAgg5
  z5 := Tryz.sizeOf5
  v5 := Tryz.zeroValue5
  t9 := Tryz.underlying9
  a9 := Tryz.isAgg9
  z9 := Tryz.sizeOf9
  v9 := Tryz.zeroValue9
  t22 := Tryz.underlying121
  a22 := Tryz.isAgg121
  z22 := Tryz.sizeOf121
  v22 := Tryz.zeroValue121
  a24 := Tryz.isAgg49
  z24 := Tryz.sizeOf49
  t25 := Tryz.underlying168
  a25 := Tryz.isAgg168
  z25 := Tryz.sizeOf168
  v25 := Tryz.zeroValue168
  t39 := Tryz.underlying164
  a39 := Tryz.isAgg164
  z39 := Tryz.sizeOf164
  v39 := Tryz.zeroValue164
  t45 := Tryz.underlying199
  a45 := Tryz.isAgg199
  z45 := Tryz.sizeOf199
  v45 := Tryz.zeroValue199
  t46 := Tryz.underlying200
  a46 := Tryz.isAgg200
  z46 := Tryz.sizeOf200
  v46 := Tryz.zeroValue200
  t50 := Tryz.underlying204
  a50 := Tryz.isAgg204
  z50 := Tryz.sizeOf204
  v50 := Tryz.zeroValue204
  t53 := Tryz.underlying190
  a53 := Tryz.isAgg190
  z53 := Tryz.sizeOf190
  v53 := Tryz.zeroValue190
  t55 := Tryz.underlying192
  a55 := Tryz.isAgg192
  z55 := Tryz.sizeOf192
  v55 := Tryz.zeroValue192
  t66 := Tryz.underlying218
  a66 := Tryz.isAgg218
  z66 := Tryz.sizeOf218
  v66 := Tryz.zeroValue218
  t70 := Tryz.underlying221
  a70 := Tryz.isAgg221
  z70 := Tryz.sizeOf221
  v70 := Tryz.zeroValue221
  t76 := Tryz.underlying226
  a76 := Tryz.isAgg226
  z76 := Tryz.sizeOf226
  v76 := Tryz.zeroValue226
  t77 := Tryz.underlying227
  a77 := Tryz.isAgg227
  z77 := Tryz.sizeOf227
  v77 := Tryz.zeroValue227 }
def Tryz.cmpInt_ren : Go.Shelf.Ren := ⟨fun | 5 => 110 | 7 => 140 | n => n, fun | 22 => 3 | 3 => 3 | 4 => 4 | n => n, fun | n => n⟩
theorem Tryz.cmpInt : Go.Proofs.SlLaysC2.n5 Tryz.prog Tryz.cmpInt_ren := {
  mixed := by kernel_rfl
  f5 := ⟨Tryz.f110.name, by decide, Tryz.func110.trans (congrArg some (by kernel_rfl))⟩
  f7 := ⟨Tryz.f140.name, by decide, Tryz.func140.trans (congrArg some (by kernel_rfl))⟩
  t3 := Tryz.underlying3
  a3 := Tryz.isAgg3
  z3 := Tryz.sizeOf3
  v3 := Tryz.zeroValue3
  t4 := Tryz.underlying4
  a4 := Tryz.isAgg4
  z4 := Tryz.sizeOf4
  v4 := Tryz.zeroValue4
  t22 := Tryz.underlying3
  a22 := Tryz.isAgg3
  z22 := Tryz.sizeOf3
  v22 := Tryz.zeroValue3 }
end Go.Proofs.YtlodpljdhdhfmaaGreat
/- Wire, XII: lists of integers are compared. -/
namespace Go.Proofs.YtlodpljdhdhfmaaGreat
open Go.RowKit Go.Sort Go.Shelf
def cmpZ (x y : Int) : Int := if x < y then -1 else if y < x then 1 else 0
def cmpL : List Int → List Int → Int
  | [], [] => 0
  | [], _ :: _ => -1
  | _ :: _, [] => 1
  | x :: xs, y :: ys => if cmpZ x y = 0 then cmpL xs ys else cmpZ x y
def SlI (w : World) (v : Value) (xs : List Int) : Prop := ∃ ad c, v = .slice ad xs.length c ∧ ∀ (j : Nat) (h : j < xs.length), ∃ b off, ad = some ⟨b, off, none⟩ ∧ b < w.heap.size ∧ w.cell? ⟨b, off + j, none⟩ = some (.int .i64 xs[j])
theorem cmpL_at {xs ys : List Int} {k : Nat} (h1 : k < xs.length) (h2 : k < ys.length) : cmpL (xs.drop k) (ys.drop k) = if cmpZ xs[k] ys[k] = 0 then cmpL (xs.drop (k + 1)) (ys.drop (k + 1)) else cmpZ xs[k] ys[k] := by
  rw [List.drop_eq_getElem_cons h1, List.drop_eq_getElem_cons h2]
  rfl
theorem compareInt_eq (x y : Int) : Lib.compareInt x y = cmpZ x y := by
  unfold Lib.compareInt cmpZ
  by_cases h1 : x < y
  · simp [h1]
  · by_cases h2 : y < x <;> simp [h1, h2]
set_option maxRecDepth 100000 in
set_option maxHeartbeats 1000000 in
theorem compare_any (xs ys : List Int) (v1 v2 : Value) (w : World) (hlx : xs.length ≤ 1000000000) (h1 : SlI w v1 xs) (h2 : SlI w v2 ys) :
    Calls Tryz.prog 86 #[v1, v2] w fun e w' => e = .returned (.int .i64 (cmpL xs ys)) ∧ w' = w := by
  obtain ⟨a1, c1, rfl, h1⟩ := h1
  obtain ⟨a2, c2, rfl, h2⟩ := h2
  have H1 := Lib.hid h1
  have H2 := Lib.hid h2
  have HC := fun x y W => Lib.hid (show Calls Tryz.prog 110 #[.int .i64 x, .int .i64 y] W _ from AnyG.cmp_Compare_int Tryz.cmpInt x y W)
  clear h1 h2
  go_enter Tryz.func86, Tryz.ntmps86
  go_wp2
  go_loopw [11] (fun i wr => ∃ k : Nat, k ≤ xs.length ∧ k ≤ ys.length ∧ i = .int .i64 k ∧ cmpL xs ys = cmpL (xs.drop k) (ys.drop k) ∧ wr = w) (fun i _ => xs.length - (intOf i).toNat)
  case atStart => exact ⟨0, Nat.zero_le _, Nat.zero_le _, rfl, by simp, rfl⟩
  case round =>
    obtain ⟨k, hk1, hk2, rfl, he, rfl⟩ := hrel
    have HE := Lib.hid he
    clear he
    by_cases hlt : k < xs.length
    · obtain ⟨b1, o1, rfl, hb1, g1⟩ := H1.out k hlt
      by_cases hlt2 : k < ys.length
      · obtain ⟨b2, o2, rfl, hb2, g2⟩ := H2.out k hlt2
        have HA := Lib.hid (cmpL_at hlt hlt2)
        have hge : ¬ ((k : Int) ≥ ys.length) := by omega
        generalize xs[k] = x at *
        generalize ys[k] = y at *
        by_cases hz : cmpZ x y = 0
        · have hz2 : (Lib.compareInt x y != 0) = false := by rw [compareInt_eq, hz]; rfl
          have HZ := Lib.hid hz
          clear hz
          go_wp2_with (go_at_call 110; refine (HC x y _).out.mono ?_; rintro e w2 ⟨rfl, rfl⟩)
          go_roundw
          case rel => exact ⟨k + 1, by omega, by omega, by go_num, by rw [HE.out, HA.out, if_pos HZ.out], trivial⟩
          case measure => simp [intOf]; omega
        · have hz2 : (Lib.compareInt x y != 0) = true := by rw [compareInt_eq]; simpa using hz
          have HZ := Lib.hid hz
          clear hz
          go_wp2_with (go_at_call 110; refine (HC x y _).out.mono ?_; rintro e w2 ⟨rfl, rfl⟩)
          go_ret
          (first | (rw [HE.out, HA.out, if_neg HZ.out, compareInt_eq]; first | done | rfl) | exact ⟨by rw [HE.out, HA.out, if_neg HZ.out, compareInt_eq]; first | done | rfl, rfl⟩)
      · have hge : ((k : Int) ≥ ys.length) := by omega
        have HV := Lib.hid (show cmpL (xs.drop k) (ys.drop k) = 1 from by rw [List.drop_eq_getElem_cons hlt, List.drop_eq_nil_of_le (by omega : ys.length ≤ k)]; rfl)
        generalize xs[k] = x at *
        go_wp2
        go_ret
        (first | (rw [HE.out, HV.out]; first | done | rfl) | exact ⟨by rw [HE.out, HV.out]; first | done | rfl, rfl⟩)
    · by_cases hlt2 : k < ys.length
      · have hll : (xs.length : Int) < ys.length := by omega
        have HV := Lib.hid (show cmpL (xs.drop k) (ys.drop k) = -1 from by rw [List.drop_eq_nil_of_le (by omega : xs.length ≤ k), List.drop_eq_getElem_cons hlt2]; rfl)
        go_wp2
        go_ret
        (first | (rw [HE.out, HV.out]; first | done | rfl) | exact ⟨by rw [HE.out, HV.out]; first | done | rfl, rfl⟩)
      · have hll : ¬ ((xs.length : Int) < ys.length) := by omega
        have HV := Lib.hid (show cmpL (xs.drop k) (ys.drop k) = 0 from by rw [List.drop_eq_nil_of_le (by omega : xs.length ≤ k), List.drop_eq_nil_of_le (by omega : ys.length ≤ k)]; rfl)
        go_wp2
        go_ret
        (first | (rw [HE.out, HV.out]; first | done | rfl) | exact ⟨by rw [HE.out, HV.out]; first | done | rfl, rfl⟩)
end Go.Proofs.YtlodpljdhdhfmaaGreat
/- Wire, XIII: lists of lists of integers are sorted. -/
namespace Go.Proofs.YtlodpljdhdhfmaaGreat
open Go.RowKit Go.Sort Go.Shelf
/-! The order of lists -/
theorem cmpZ_anti (x y : Int) : cmpZ y x = -cmpZ x y := by unfold cmpZ; split <;> split <;> (try split) <;> omega
theorem cmpL_anti : ∀ xs ys : List Int, cmpL ys xs = -cmpL xs ys
  | [], [] => rfl
  | [], _ :: _ => rfl
  | _ :: _, [] => rfl
  | x :: xs, y :: ys => by
    have h1 := cmpZ_anti x y
    have ih := cmpL_anti xs ys
    simp only [cmpL]
    by_cases h : cmpZ x y = 0
    · rw [if_pos h, if_pos (by omega)]; exact ih
    · rw [if_neg h, if_neg (by omega)]; exact h1
theorem cmpZ_eq {x y : Int} (h : cmpZ x y = 0) : x = y := by unfold cmpZ at h; split at h <;> (try split at h) <;> omega
theorem cmpL_eq : ∀ {xs ys : List Int}, cmpL xs ys = 0 → xs = ys
  | [], [], _ => rfl
  | [], _ :: _, h => by simp [cmpL] at h
  | _ :: _, [], h => by simp [cmpL] at h
  | x :: xs, y :: ys, h => by
    simp only [cmpL] at h
    by_cases h0 : cmpZ x y = 0
    · rw [if_pos h0] at h; rw [cmpZ_eq h0, cmpL_eq h]
    · rw [if_neg h0] at h; exact absurd h h0
theorem cmpL_refl : ∀ xs : List Int, cmpL xs xs = 0
  | [] => rfl
  | x :: xs => by
    have : cmpZ x x = 0 := by unfold cmpZ; simp
    simp only [cmpL, if_pos this]; exact cmpL_refl xs
theorem cmpL_trans : ∀ {xs ys zs : List Int}, cmpL xs ys ≤ 0 → cmpL ys zs ≤ 0 → cmpL xs zs ≤ 0 ∧ (cmpL xs ys < 0 ∨ cmpL ys zs < 0 → cmpL xs zs < 0)
  | [], [], [], _, _ => by simp [cmpL]
  | [], [], _ :: _, _, _ => by simp [cmpL]
  | [], _ :: _, [], _, h => by simp [cmpL] at h
  | [], _ :: _, _ :: _, _, _ => by simp [cmpL]
  | _ :: _, [], _, h, _ => by simp [cmpL] at h
  | _ :: _, _ :: _, [], _, h => by simp [cmpL] at h
  | x :: xs, y :: ys, z :: zs, h1, h2 => by
    have ih := @cmpL_trans xs ys zs
    simp only [cmpL] at h1 h2 ⊢
    have e1 : cmpZ x y = 0 ∧ x = y ∨ cmpZ x y = -1 ∧ x < y ∨ cmpZ x y = 1 ∧ y < x := by unfold cmpZ; split <;> (try split) <;> omega
    have e2 : cmpZ y z = 0 ∧ y = z ∨ cmpZ y z = -1 ∧ y < z ∨ cmpZ y z = 1 ∧ z < y := by unfold cmpZ; split <;> (try split) <;> omega
    have e3 : cmpZ x z = 0 ∧ x = z ∨ cmpZ x z = -1 ∧ x < z ∨ cmpZ x z = 1 ∧ z < x := by unfold cmpZ; split <;> (try split) <;> omega
    rcases e1 with ⟨c1, d1⟩ | ⟨c1, d1⟩ | ⟨c1, d1⟩ <;> rcases e2 with ⟨c2, d2⟩ | ⟨c2, d2⟩ | ⟨c2, d2⟩ <;> rcases e3 with ⟨c3, d3⟩ | ⟨c3, d3⟩ | ⟨c3, d3⟩ <;> simp only [c1, c2, c3, if_true, Int.reduceEq, if_false] at h1 h2 ⊢ <;> first
      | omega
      | exact ih h1 h2
def ltL (xs ys : List Int) : Bool := decide (cmpL xs ys < 0)
section
variable {ok : Value × List Int → Prop}
def cfW (x y : {x : Value × List Int // ok x}) : Int := cmpL x.1.2 y.1.2
def enW (x : {x : Value × List Int // ok x}) : Value := x.1.1
theorem swoW : SWO (ltOf (cfW (ok := ok))) where
  irrefl x := by unfold ltOf cfW; rw [cmpL_refl]; rfl
  trans x y z h1 h2 := by
    unfold ltOf cfW at *
    simp only [decide_eq_true_eq] at *
    exact (cmpL_trans (by omega) (by omega)).2 (.inl h1)
  ntrans x y z h1 h2 := by
    unfold ltOf cfW at *
    simp only [decide_eq_false_iff_not] at *
    have a1 := cmpL_anti x.1.2 y.1.2
    have a2 := cmpL_anti y.1.2 z.1.2
    have a3 := cmpL_anti x.1.2 z.1.2
    have := (cmpL_trans (xs := z.1.2) (ys := y.1.2) (zs := x.1.2) (by omega) (by omega)).1
    omega
end
/-! A closed list of integers lies in a world -/
theorem repC_sli {w : World} {N : Nat → Prop} {v : Value} {l : List Int} (h : RepC w N (slI l) v) {w' : World} (hw : ∀ b, b < w.heap.size → ¬ N b → w'.heap[b]? = w.heap[b]?) (hsz : w.heap.size ≤ w'.heap.size) : SlI w' v l := by
  unfold slI at h
  obtain ⟨ad, c, rfl, h1, h2, h3⟩ := h.sl_inv
  refine ⟨ad, c, by simp, fun j hj => ?_⟩
  rcases h3 with h3 | ⟨b, off, u, rfl, h4, h5, h6, h7, h8⟩
  · simp at h3; subst h3; simp at hj
  · refine ⟨b, off, rfl, by omega, ?_⟩
    have hr : (l.map rowI)[j]? = some (rowI l[j]) := by simp [hj]
    have e := h7 j _ 0 (I l[j]) hr rfl
    have r := h8 j _ 0 (I l[j]) hr rfl
    rw [World.cell?_of_block (w := w) (w' := w') (a := ⟨b, off + j, none⟩) (hw b h4 h5)]
    have e2 : off + j * 1 + 0 = off + j := by omega
    rw [e2] at e
    rw [e]
    generalize u j 0 = x at r
    cases r; rfl
def rowL1 (l : List Int) : List CV := [slI l]
attribute [simp] rowL1
def SortsL (ls : List (List Int)) (rows : List (List CV)) : Prop := ∃ ys : List (List Int), rows = ys.map rowL1 ∧ ys.Perm ls ∧ ys.Pairwise fun x y => ltL y x = false
theorem grow_none (W : World) : grow (W.drewN 0) #[] = W := by
  unfold grow World.drewN
  simp
end Go.Proofs.YtlodpljdhdhfmaaGreat
