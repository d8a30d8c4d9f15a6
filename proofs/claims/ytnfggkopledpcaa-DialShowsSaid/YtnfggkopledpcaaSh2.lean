/- It is proved that the statement named by the theorem at the end of this text holds, for every input, with no condition beyond the given ones. -/
import Derived.Test.YtnfggkopledpcaaSh1
import Derived.Test.YtnfggkopledpcaaJ5
set_option linter.unusedSimpArgs false
set_option linter.unusedVariables false
/- DialShows. -/
namespace Go.Proofs.Ytnfggkopledpcaa
open Go.RowKit

def cK (n at' wlo whi : Int) : CV := .agg [I n, I at', I wlo, I whi]

theorem cutS_memb {x : Int × Int} (h1 : x.1 ≤ x.2) (h2 : x.2 ≤ x.1 + 10800) (n : Int) : Memb (cutS x) n ↔ (0 ≤ n ∧ n < 43200) ∧ ∃ m, x.1 ≤ m ∧ m ≤ x.2 ∧ m % 43200 = n := by
  have g1 := Int.emod_nonneg x.1 (show (43200 : Int) ≠ 0 by decide)
  have g2 := Int.emod_lt_of_pos x.1 (show (0 : Int) < 43200 by decide)
  unfold cutS Memb
  constructor
  · rintro ⟨y, hy, l1, l2⟩
    split at hy
    · simp at hy
      rcases hy with rfl | rfl
      · simp only at l1 l2
        split at l2
        · exact ⟨by omega, x.1 + (n - x.1 % 43200), by omega, by omega, by omega⟩
        · exact ⟨by omega, x.1 + (n - x.1 % 43200), by omega, by omega, by omega⟩
      · simp only at l1 l2
        exact ⟨by omega, x.1 + (n + 43200 - x.1 % 43200), by omega, by omega, by omega⟩
    · simp at hy
      subst hy
      simp only at l1 l2
      split at l2
      · exact ⟨by omega, x.1 + (n - x.1 % 43200), by omega, by omega, by omega⟩
      · exact ⟨by omega, x.1 + (n - x.1 % 43200), by omega, by omega, by omega⟩
  · rintro ⟨⟨n1, n2⟩, m, m1, m2, rfl⟩
    by_cases hw : x.1 % 43200 + (m - x.1) < 43200
    · split
      · refine ⟨_, .head _, by simp only; omega, ?_⟩
        simp only; split <;> omega
      · refine ⟨_, .head _, by simp only; omega, ?_⟩
        simp only; split <;> omega
    · rw [if_pos (by omega)]
      exact ⟨_, .tail _ (.head _), by simp only; omega, by simp only; omega⟩

theorem showRaw_memb {k : Lo} (hk : LoSm k) (hf : k.f.lo ≤ k.f.hi) (n : Int) : Memb (showRaw k) n ↔ (0 ≤ n ∧ n < 43200) ∧ ∃ x ∈ haL k, ∃ m, x.1 ≤ m ∧ m ≤ x.2 ∧ m % 43200 = n := by
  unfold showRaw cutK
  rw [List.take_length]
  constructor
  · rintro ⟨y, hy, l1, l2⟩
    obtain ⟨x, hx, hy⟩ := List.mem_flatMap.1 hy
    obtain ⟨a, b⟩ := haL_wide hk hf hx
    obtain ⟨p, m, q⟩ := (cutS_memb a b n).1 ⟨y, hy, l1, l2⟩
    exact ⟨p, x, hx, m, q⟩
  · rintro ⟨p, x, hx, m, q⟩
    obtain ⟨a, b⟩ := haL_wide hk hf hx
    obtain ⟨y, hy, l⟩ := (cutS_memb a b n).2 ⟨p, m, q⟩
    exact ⟨y, List.mem_flatMap.2 ⟨x, hx, hy⟩, l⟩

theorem shows_eq {k : Lo} (hk : LoSm k) (hf : k.f.lo ≤ k.f.hi) : spK (shA k (k.w.ehi - k.w.elo + 1).toNat) 0 43200 = showL k := by
  obtain ⟨s1, s2⟩ := joinL_sep (xs := showRaw k) fun x hx => (showRaw_ok hk hf x hx).1
  have hs := spK_ok (shA k (k.w.ehi - k.w.elo + 1).toNat) 0 43200
  show _ = joinL (showRaw k)
  refine sep_unique hs.sep s1 fun n => ?_
  rw [hs.mem, s2, showRaw_memb hk hf]
  constructor
  · rintro ⟨j, h1, h2, h3⟩
    obtain ⟨i, i1, m, i2, i3, i4⟩ := (shA_iff k j _).1 h2
    exact ⟨by omega, (hdLo k (k.w.elo + i), hdHi k (k.w.elo + i)), List.mem_map.2 ⟨_, dr_to hk (by omega) (by omega), rfl⟩, m, i2, i3, by omega⟩
  · rintro ⟨⟨n1, n2⟩, x, hx, m, m1, m2, m3⟩
    obtain ⟨d, hd, rfl⟩ := List.mem_map.1 hx
    obtain ⟨e, e1, e2, rfl⟩ := dr_from hk hd
    refine ⟨n.toNat, by omega, (shA_iff k _ _).2 ⟨(e - k.w.elo).toNat, by omega, m, ?_, ?_, by omega⟩, by omega⟩
    · rw [show k.w.elo + ((e - k.w.elo).toNat : Int) = e by omega]; exact m1
    · rw [show k.w.elo + ((e - k.w.elo).toNat : Int) = e by omega]; exact m2

theorem showL_len {k : Lo} (hk : LoSm k) (hf : k.f.lo ≤ k.f.hi) : (showL k).length ≤ 43200 := by
  rw [← shows_eq hk hf]; exact (spK_ok _ _ _).len

set_option maxHeartbeats 4000000 in
theorem lShows (w : Dw) (hx : DwMax w) (n at' wlo whi : Int) : SC Try.prog 4 [cDw w, cK n at' wlo whi] (B true) := by
  refine law_turretlaw04_DialShows _ _ (by simp) ?_
  unfold cK
  have a1 := lLarge w hx
  have a2 := sKnown
  by_cases hL : largeB w = true
  · (repeat' (first | ((first | with_reducible refine st_skip ?_ | with_reducible refine st_exit ?_); (try simp only [seqQ, blockQ, loopQ, forQ, whileQ, reduceIte, Nat.reduceEqDiff])) | (with_reducible refine st_ret ?_; ((try simp only [seqQ, blockQ, loopQ, forQ, whileQ]); first | (with_reducible refine retM_ret ?_) | refine retQ_ret ?_; simp [hL])) | refine st_seq ?_ | refine st_block ?_ | ((first | refine st_reg ?_ | refine buildP_own ?_ | refine callP_b (a1) rfl ?_ | refine callP_b (a2) rfl ?_) <;> (simp -dsimp [hL]; (repeat (simp -dsimp (disch := (first | omega | assumption | (refine Bool.eq_false_iff.1 ?_; assumption))) only [wrap_in, if_pos, if_neg]; (try simp -dsimp [hL]))))) | ((first | refine guardP_of (fun hc => ?_) (fun hc => ?_) | refine st_cond rfl (fun hc => ?_) (fun hc => ?_)) <;> (try simp only [decide_eq_true_eq, decide_eq_false_iff_not, Bool.true_eq_false, Bool.false_eq_true, bne_iff_ne, ne_eq, bne_eq_false_iff_eq, beq_iff_eq, beq_eq_false_iff_ne, Bool.not_eq_true, Bool.not_eq_false, Bool.not_eq_eq_eq_not, Bool.not_true, Bool.not_false, Decidable.not_not] at hc) <;> (try (exfalso; first | omega | exact bool_tf hc (by assumption) | exact bool_ft hc (by assumption) | exact absurd (by assumption) hc)) <;> (first | with_reducible show STri _ _ _ _ _ _ | (simp -dsimp [hL, hc]; (repeat (simp -dsimp (disch := (first | omega | assumption | (refine Bool.eq_false_iff.1 ?_; assumption))) only [wrap_in, if_pos, if_neg]; (try simp -dsimp [hL, hc]))))))))
    all_goals exact .refl _
  · have hw := dw_len hL
    have a3 := lWorks w hw
    have a4 := sShows w hw n at' wlo whi
    have a7 := rLook' w hw n at' wlo whi
    unfold rShows at a4
    by_cases h : lookErr w n at' wlo whi = 0
    · rw [if_pos h] at a4
      have hk := look_sm h
      obtain ⟨hd, ⟨n1, n2⟩, _, hsp⟩ := look_ok h
      have hfc : w.faces[n.toNat] = (lookOf w n at' wlo whi).f := by simp [lookOf, n2]
      have hlh : (lookOf w n at' wlo whi).f.lo ≤ (lookOf w n at' wlo whi).f.hi := by
        rw [← hfc]
        have hfo := dw_face hd (List.getElem_mem n2)
        simp only [fcOK, fcB, spanB, Bool.and_eq_true, decide_eq_true_eq] at hfo
        exact hfo.1.1.1.1.1.1.2
      have a8 := rShown (lookOf w n at' wlo whi) hk hd n n1 n2 hfc
      have hll := showL_len hk hlh
      have a9 := rSpans 43200 (shA (lookOf w n at' wlo whi) ((lookOf w n at' wlo whi).w.ehi - (lookOf w n at' wlo whi).w.elo + 1).toNat) 0 (by omega) (by omega) (by omega)
      rw [shows_eq hk hlh] at a9
      have a10 := rSame (showL (lookOf w n at' wlo whi)) (by omega)
      generalize hkk : lookOf w n at' wlo whi = k at *
      have e1 : k.w = w := by rw [← hkk]; rfl
      have e2 : k.at' = at' := by rw [← hkk]; rfl
      have e3 : k.wlo = wlo := by rw [← hkk]; rfl
      have e4 : k.whi = whi := by rw [← hkk]; rfl
      rw [e1, e2, e3, e4] at a8
      rw [e1] at a9
      rw [h] at a7
      unfold bsC at a8 a9
      generalize bsR 43200 (shA k (w.ehi - w.elo + 1).toNat) = bb at *
      (repeat' (first | ((first | with_reducible refine st_skip ?_ | with_reducible refine st_exit ?_); (try simp only [seqQ, blockQ, loopQ, forQ, whileQ, reduceIte, Nat.reduceEqDiff])) | (with_reducible refine st_ret ?_; ((try simp only [seqQ, blockQ, loopQ, forQ, whileQ]); first | (with_reducible refine retM_ret ?_) | refine retQ_ret ?_; simp [hL])) | refine st_seq ?_ | refine st_block ?_ | ((first | refine st_reg ?_ | refine buildP_own ?_ | refine callP_b (a1) rfl ?_ | refine callP_b (a3) rfl ?_ | refine callP_b (a4) rfl ?_ | refine callP_b (a7) rfl ?_ | refine callP_b (a8) rfl ?_ | refine callP_b (a9) rfl ?_ | refine callP_b (a10) rfl ?_ | refine callP_b (a2) rfl ?_) <;> (simp -dsimp [hL]; (repeat (simp -dsimp (disch := (first | omega | assumption | (refine Bool.eq_false_iff.1 ?_; assumption))) only [wrap_in, if_pos, if_neg]; (try simp -dsimp [hL]))))) | ((first | refine guardP_of (fun hc => ?_) (fun hc => ?_) | refine st_cond rfl (fun hc => ?_) (fun hc => ?_)) <;> (try simp only [decide_eq_true_eq, decide_eq_false_iff_not, Bool.true_eq_false, Bool.false_eq_true, bne_iff_ne, ne_eq, bne_eq_false_iff_eq, beq_iff_eq, beq_eq_false_iff_ne, Bool.not_eq_true, Bool.not_eq_false, Bool.not_eq_eq_eq_not, Bool.not_true, Bool.not_false, Decidable.not_not] at hc) <;> (try (exfalso; first | omega | exact bool_tf hc (by assumption) | exact bool_ft hc (by assumption) | exact absurd (by assumption) hc)) <;> (first | with_reducible show STri _ _ _ _ _ _ | (simp -dsimp [hL, hc]; (repeat (simp -dsimp (disch := (first | omega | assumption | (refine Bool.eq_false_iff.1 ?_; assumption))) only [wrap_in, if_pos, if_neg]; (try simp -dsimp [hL, hc]))))))))
      all_goals exact .refl _
    · rw [if_neg h] at a4
      (repeat' (first | ((first | with_reducible refine st_skip ?_ | with_reducible refine st_exit ?_); (try simp only [seqQ, blockQ, loopQ, forQ, whileQ, reduceIte, Nat.reduceEqDiff])) | (with_reducible refine st_ret ?_; ((try simp only [seqQ, blockQ, loopQ, forQ, whileQ]); first | (with_reducible refine retM_ret ?_) | refine retQ_ret ?_; simp [hL, h])) | refine st_seq ?_ | refine st_block ?_ | ((first | refine st_reg ?_ | refine buildP_own ?_ | refine callP_b (a1) rfl ?_ | refine callP_b (a3) rfl ?_ | refine callP_b (a4) rfl ?_ | refine callP_b (a7) rfl ?_ | refine callP_b (a2) rfl ?_) <;> (simp -dsimp [hL, h]; (repeat (simp -dsimp (disch := (first | omega | assumption | (refine Bool.eq_false_iff.1 ?_; assumption))) only [wrap_in, if_pos, if_neg]; (try simp -dsimp [hL, h]))))) | ((first | refine guardP_of (fun hc => ?_) (fun hc => ?_) | refine st_cond rfl (fun hc => ?_) (fun hc => ?_)) <;> (try simp only [decide_eq_true_eq, decide_eq_false_iff_not, Bool.true_eq_false, Bool.false_eq_true, bne_iff_ne, ne_eq, bne_eq_false_iff_eq, beq_iff_eq, beq_eq_false_iff_ne, Bool.not_eq_true, Bool.not_eq_false, Bool.not_eq_eq_eq_not, Bool.not_true, Bool.not_false, Decidable.not_not] at hc) <;> (try (exfalso; first | omega | exact bool_tf hc (by assumption) | exact bool_ft hc (by assumption) | exact absurd (by assumption) hc)) <;> (first | with_reducible show STri _ _ _ _ _ _ | (simp -dsimp [hL, h, hc]; (repeat (simp -dsimp (disch := (first | omega | assumption | (refine Bool.eq_false_iff.1 ?_; assumption))) only [wrap_in, if_pos, if_neg]; (try simp -dsimp [hL, h, hc]))))))))
      all_goals exact .refl _

end Go.Proofs.Ytnfggkopledpcaa
/- The last step: DialShows. -/
namespace Go.Proofs.Ytnfggkopledpcaa
open Go.RowKit Go.ChangeShapes Go.WideShapes Go.ChangeAt

theorem Try.plainK : plainB Try.prog 8 28 = true := by kernel_rfl
theorem ty_look {d : Nat} {cs : List CV} (h : tyC Try.prog d 28 cs) : ∃ n a lo hi, cs = [I n, I a, I lo, I hi] := by
  obtain ⟨d', c1, r1, rfl, h1, c2, r2, rfl, h2, c3, r3, rfl, h3, h4⟩ := tyC_struct Try.underlying28 h
  obtain ⟨n, rfl⟩ := ty_I h1
  obtain ⟨a, rfl⟩ := ty_I h2
  obtain ⟨lo, hi, rfl⟩ := ty_span h3
  have h4 : r3 = [] := h4
  subst h4
  exact ⟨n, a, lo, hi, rfl⟩
set_option maxRecDepth 100000 in
theorem open_look {H : Type} {enc : TypeId × Value → H} {w : World} {spare : Nat → Bool} {held : Bool} {v : Value} {x : DataW H} {ps : List MemPlace} (h : DataW.Trod enc Try.prog w 0 spare held 28 v x ps) : ∃ n a lo hi : Int, RepC w (fun _ => False) (cK n a lo hi) v := by
  obtain ⟨n, h⟩ := h
  obtain ⟨cs, h1, h2⟩ := open_tyC Try.plainK h
  obtain ⟨n, a, lo, hi, rfl⟩ := ty_look h1
  have hs : v.cells.size = 4 := by have := h2.1; simp at this; omega
  have hv := agg_cells (v := v) (by omega)
  refine ⟨n, a, lo, hi, ?_⟩
  rw [hv]
  exact .agg _ _ (by simpa using hs) (fun i x u hx hu => h2.2 i x u hx (by simpa using hu))
set_option maxRecDepth 100000 in
theorem shows_lifted (os : Os) (started : os.Started) (H : Type) (enc : TypeId × Value → H) :
    ReturnsInHanded {} Try.checked os 4 .any (Rows.dialShowsSpec.pre6 enc Try.prog Try.f4 Rows.dialShowsRow.domain false) (Rows.dialShowsSpec.post enc Try.prog Try.f4 false true false false) := by
  refine returnsInHanded_of_change (C := Try.checked) Try.own started (by kernel_rfl) Try.func4
    (ChangeSpec.witness6 (enc := enc) (C := Try.checked) false ⟨#[], #[.agg #[.int .i64 0, .int .i64 0, .int .i64 0, .slice none 0 0], .agg #[.int .i64 0, .int .i64 0, .int .i64 0, .int .i64 0]], []⟩ 8 (by kernel_rfl) (by kernel_rfl) (by kernel_rfl) (by kernel_rfl)) ?_
  intro W base args ds gs before hval0 hW hcnd _
  have hW' := hW
  obtain ⟨p, q, hA0, hV, rfl, hfz, hnd⟩ := hW
  have hA : DataW.TrodAll enc Try.prog W 0 (fun _ => true) true Try.f4.params.toList args.toList ds p := hA0
  rw [Try.params4] at hA
  obtain ⟨v0, v1, d0, d1, q0, q1, rfl, rfl, rfl, h0, h1⟩ := trodAll_two hA
  obtain ⟨rfl, rfl⟩ := trodVars_none hV
  obtain ⟨c, hc, hcm⟩ := open_works h0
  obtain ⟨n, at', wlo, whi, hf⟩ := open_look h1
  clear hA0 hval0
  refine (lShows c hcm n at' wlo whi W (fun _ => False) #[v0, v1] (fun b hb => hb.elim) rfl (fun i x v hx' hv => ?_)).mono fun e W' ⟨v, he, hr, hx⟩ => ?_
  · match i with
    | 0 => cases hx'; cases hv; exact hc
    | 1 => cases hx'; cases hv; exact hf
    | i + 2 => simp at hx'
  subst he
  have hv := val_inv hr
  subst hv
  exact ⟨_, rfl, post_ext Try.kids Try.full (by rw [Try.params4]; decide +kernel) rfl hW' (fun _ _ _ => trodAll_mk1 (shut_bool Try.underlying4 _)) rfl rfl hx (ok_one (by kernel_rfl) rfl (okWide_bool_mk Try.underlying4 _))⟩

theorem dialShows_holds : Rows.DialShowsSaid :=
  OpenClaim.holds_of_wide 4 Try.f4 rfl rfl rfl rfl rfl rfl rfl ⟨rfl, rfl, rfl, rfl, rfl⟩ rfl rfl rfl rfl rfl (by kernel_rfl) Try.func4 (by kernel_rfl)
    (of_decide_eq_true (by kernel_rfl)) (by unfold Func.isWrapper; first | (rw [if_pos (by decide +kernel)]; kernel_rfl) | (rw [if_neg (by decide +kernel)]; exact ⟨rfl, rfl⟩))
    (fun os started H enc _ => shows_lifted os started H enc)
#print axioms dialShows_holds

end Go.Proofs.Ytnfggkopledpcaa
