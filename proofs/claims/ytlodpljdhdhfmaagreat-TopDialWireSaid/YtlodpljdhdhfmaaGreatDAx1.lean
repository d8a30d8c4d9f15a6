/- It is proved that the statement named by the theorem at the end of this text holds, for every input, with no condition beyond the given ones. -/
import Derived.Test.YtlodpljdhdhfmaaGreatD6
set_option linter.unusedSimpArgs false
set_option linter.unusedVariables false
/- The last step: TopDialWire. -/
namespace Go.Proofs.YtlodpljdhdhfmaaGreat
open Go.RowKit Go.ChangeShapes Go.WideShapes Go.ChangeAt
theorem Tryz.plain5 : plainB Tryz.prog 8 70 = true := by kernel_rfl
set_option maxRecDepth 100000 in
theorem open_v5 {H : Type} {enc : TypeId × Value → H} {w : World} {spare : Nat → Bool} {held : Bool} {v : Value} {x : DataW H} {ps : List MemPlace} (h : DataW.Trod enc Tryz.prog w 0 spare held 70 v x ps) : ∃ a b c d e : Int, RepC w (fun _ => False) (cV5 a b c d e) v ∧ (0 ≤ a ∧ a ≤ 255) ∧ (0 ≤ b ∧ b ≤ 255) ∧ (0 ≤ c ∧ c ≤ 255) ∧ (0 ≤ d ∧ d ≤ 255) ∧ 0 ≤ e ∧ e ≤ 255 := by
  obtain ⟨dd, cs, h1, h2⟩ := open_agg Tryz.plain5 h
  obtain ⟨dd, c1, r1, rfl, t1, c2, r2, rfl, t2, c3, r3, rfl, t3, c4, r4, rfl, t4, c5, r5, rfl, t5, t6⟩ := tyC_array Tryz.underlying70 h1
  obtain ⟨a, rfl, ha⟩ := ty8 t1
  obtain ⟨b, rfl, hb⟩ := ty8 t2
  obtain ⟨c, rfl, hc⟩ := ty8 t3
  obtain ⟨d, rfl, hd⟩ := ty8 t4
  obtain ⟨e, rfl, he⟩ := ty8 t5
  have t6 : r5 = [] := t6
  subst t6
  exact ⟨a, b, c, d, e, h2 (by simp), ha, hb, hc, hd, he⟩
set_option maxRecDepth 100000 in
theorem dialwire_lifted (os : Os) (started : os.Started) (H : Type) (enc : TypeId × Value → H) :
    ReturnsInHanded {} Tryz.checked os 4 .any (Rows.topDialWireSpec.pre6 enc Tryz.prog Tryz.f4 Rows.topDialWireRow.domain false) (Rows.topDialWireSpec.post enc Tryz.prog Tryz.f4 false true false false) := by
  refine returnsInHanded_of_change (C := Tryz.checked) Tryz.own started (by kernel_rfl) Tryz.func4
    (ChangeSpec.witness6 (enc := enc) (C := Tryz.checked) false ⟨#[], #[.agg #[.int .u8 0, .int .u8 0, .int .u8 0, .int .u8 0, .int .u8 0], .int .u16 0, .int .u8 0], []⟩ 8 (by kernel_rfl) (by kernel_rfl) (by kernel_rfl) (by kernel_rfl)) ?_
  intro W base args ds gs before hval0 hW hcnd _
  have hW' := hW
  obtain ⟨p, q, hA0, hV, rfl, hfz, hnd⟩ := hW
  have hA : DataW.TrodAll enc Tryz.prog W 0 (fun _ => true) true Tryz.f4.params.toList args.toList ds p := hA0
  rw [Tryz.params4] at hA
  obtain ⟨v0, v1, v2, d0, d1, d2, q0, q1, q2, rfl, rfl, rfl, h0, h1, h2⟩ := trodAll_three hA
  obtain ⟨rfl, rfl⟩ := trodVars_none hV
  obtain ⟨a, b, c, d, e, hx, ha, hb, hc, hd, he⟩ := open_v5 h0
  obtain ⟨n, rfl, rfl, rfl, hn⟩ := open_int Tryz.underlying71 (hval0 1 _ v1 rfl rfl) h1
  obtain ⟨m, rfl, rfl, rfl, hm⟩ := open_int Tryz.underlying5 (hval0 2 _ v2 rfl rfl) h2
  clear hA0 hval0
  refine (lDialWire a b c d e n m ha hb hc hd he (wf_u16 hn) (wf_u8 hm) W (fun _ => False) #[v0, .int .u16 n, .int .u8 m] (fun b hb => hb.elim) rfl (fun i x v hx' hv => ?_)).mono fun e W' ⟨v, he, hr, hx⟩ => ?_
  · match i with
    | 0 => cases hx'; cases hv; exact hx
    | 1 => cases hx'; cases hv; exact .val _
    | 2 => cases hx'; cases hv; exact .val _
    | i + 3 => simp at hx'
  subst he
  have hv := val_inv hr
  subst hv
  exact ⟨_, rfl, post_ext Tryz.kids Tryz.full (by rw [Tryz.params4]; decide +kernel) rfl hW' (fun _ _ _ => trodAll_mk1 (shut_bool Tryz.underlying4 _)) rfl rfl hx (ok_one (by kernel_rfl) rfl (okWide_bool_mk Tryz.underlying4 _))⟩
theorem topDialWire_holds : Rows.TopDialWireSaid :=
  OpenClaim.holds_of_wide 4 Tryz.f4 rfl rfl rfl rfl rfl rfl rfl ⟨rfl, rfl, rfl, rfl, rfl⟩ rfl rfl rfl rfl rfl (by kernel_rfl) Tryz.func4 (by kernel_rfl)
    (of_decide_eq_true (by kernel_rfl)) (by unfold Func.isWrapper; first | (rw [if_pos (by decide +kernel)]; kernel_rfl) | (rw [if_neg (by decide +kernel)]; exact ⟨rfl, rfl⟩))
    (fun os started H enc _ => dialwire_lifted os started H enc)
end Go.Proofs.YtlodpljdhdhfmaaGreat
