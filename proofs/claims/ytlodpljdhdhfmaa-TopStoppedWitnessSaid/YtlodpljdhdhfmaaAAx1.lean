/- It is proved that the statement named by the theorem at the end of this text holds, for every input, with no condition beyond the given ones. -/
import Derived.Test.YtlodpljdhdhfmaaA5
set_option linter.unusedSimpArgs false
set_option linter.unusedVariables false
/- The last step: TopStoppedWitness. -/
namespace Go.Proofs.Ytlodpljdhdhfmaa
open Go.RowKit Go.ChangeShapes Go.WideShapes Go.ChangeAt
theorem Try.plain8 : plainB Try.prog 8 22 = true := by kernel_rfl
theorem Try.plain16 : plainB Try.prog 8 25 = true := by kernel_rfl
set_option maxRecDepth 100000 in
theorem open_v2 {H : Type} {enc : TypeId × Value → H} {w : World} {spare : Nat → Bool} {held : Bool} {v : Value} {x : DataW H} {ps : List MemPlace} (h : DataW.Trod enc Try.prog w 0 spare held 22 v x ps) : ∃ a b : Int, RepC w (fun _ => False) (cV2 a b) v ∧ 0 ≤ a ∧ a ≤ 255 ∧ 0 ≤ b ∧ b ≤ 255 := by
  obtain ⟨d, cs, h1, h2⟩ := open_agg Try.plain8 h
  obtain ⟨d, c1, r1, rfl, t1, c2, r2, rfl, t2, t3⟩ := tyC_array Try.underlying22 h1
  obtain ⟨a, rfl, ha⟩ := ty8 t1
  obtain ⟨b, rfl, hb⟩ := ty8 t2
  have t3 : r2 = [] := t3
  subst t3
  exact ⟨a, b, h2 (by simp), ha.1, ha.2, hb.1, hb.2⟩
set_option maxRecDepth 100000 in
theorem open_t2 {H : Type} {enc : TypeId × Value → H} {w : World} {spare : Nat → Bool} {held : Bool} {v : Value} {x : DataW H} {ps : List MemPlace} (h : DataW.Trod enc Try.prog w 0 spare held 25 v x ps) : ∃ a b : Int, RepC w (fun _ => False) (cT2 a b) v ∧ 0 ≤ a ∧ a ≤ 65535 ∧ 0 ≤ b ∧ b ≤ 65535 := by
  obtain ⟨d, cs, h1, h2⟩ := open_agg Try.plain16 h
  obtain ⟨d, c1, r1, rfl, t1, c2, r2, rfl, t2, t3⟩ := tyC_array Try.underlying25 h1
  obtain ⟨a, rfl, ha⟩ := ty16 t1
  obtain ⟨b, rfl, hb⟩ := ty16 t2
  have t3 : r2 = [] := t3
  subst t3
  exact ⟨a, b, h2 (by simp), ha.1, ha.2, hb.1, hb.2⟩
set_option maxRecDepth 100000 in
theorem stopped_lifted (os : Os) (started : os.Started) (H : Type) (enc : TypeId × Value → H) :
    ReturnsInHanded {} Try.checked os 3 .any (Rows.topStoppedWitnessSpec.pre6 enc Try.prog Try.f3 Rows.topStoppedWitnessRow.domain false) (Rows.topStoppedWitnessSpec.post enc Try.prog Try.f3 false true false false) := by
  refine returnsInHanded_of_change (C := Try.checked) Try.own started (by kernel_rfl) Try.func3
    (ChangeSpec.witness6 (enc := enc) (C := Try.checked) false ⟨#[], #[.agg #[.int .u8 0, .int .u8 0], .int .i8 0, .agg #[.int .u16 0, .int .u16 0]], []⟩ 8 (by kernel_rfl) (by kernel_rfl) (by kernel_rfl) (by kernel_rfl)) ?_
  intro W base args ds gs before hval0 hW hcnd _
  have hW' := hW
  obtain ⟨p, q, hA0, hV, rfl, hfz, hnd⟩ := hW
  have hA : DataW.TrodAll enc Try.prog W 0 (fun _ => true) true Try.f3.params.toList args.toList ds p := hA0
  rw [Try.params3] at hA
  obtain ⟨v0, v1, v2, d0, d1, d2, q0, q1, q2, rfl, rfl, rfl, h0, h1, h2⟩ := trodAll_three hA
  obtain ⟨rfl, rfl⟩ := trodVars_none hV
  obtain ⟨a, b, hx, ha0, ha1, hb0, hb1⟩ := open_v2 h0
  obtain ⟨n, rfl, rfl, rfl, hn⟩ := open_int Try.underlying23 (hval0 1 _ v1 rfl rfl) h1
  obtain ⟨m, k, hy, hm0, hm1, hk0, hk1⟩ := open_t2 h2
  have hn := wf_i8 hn
  clear hA0 hval0
  refine (lStopped a b n m k ⟨ha0, ha1, hb0, hb1, hn.1, hn.2, hm0, hm1, hk0, hk1⟩ W (fun _ => False) #[v0, .int .i8 n, v2] (fun b hb => hb.elim) rfl (fun i x v hx' hv => ?_)).mono fun e W' ⟨v, he, hr, hx⟩ => ?_
  · match i with
    | 0 => cases hx'; cases hv; exact hx
    | 1 => cases hx'; cases hv; exact .val _
    | 2 => cases hx'; cases hv; exact hy
    | i + 3 => simp at hx'
  subst he
  have hv := val_inv hr
  subst hv
  exact ⟨_, rfl, post_ext Try.kids Try.full (by rw [Try.params3]; decide +kernel) rfl hW' (fun _ _ _ => trodAll_mk1 (shut_bool Try.underlying4 _)) rfl rfl hx (ok_one (by kernel_rfl) rfl (okWide_bool_mk Try.underlying4 _))⟩
theorem topStoppedWitness_holds : Rows.TopStoppedWitnessSaid :=
  OpenClaim.holds_of_wide 3 Try.f3 rfl rfl rfl rfl rfl rfl rfl ⟨rfl, rfl, rfl, rfl, rfl⟩ rfl rfl rfl rfl rfl (by kernel_rfl) Try.func3 (by kernel_rfl)
    (of_decide_eq_true (by kernel_rfl)) (by unfold Func.isWrapper; first | (rw [if_pos (by decide +kernel)]; kernel_rfl) | (rw [if_neg (by decide +kernel)]; exact ⟨rfl, rfl⟩))
    (fun os started H enc _ => stopped_lifted os started H enc)
end Go.Proofs.Ytlodpljdhdhfmaa
