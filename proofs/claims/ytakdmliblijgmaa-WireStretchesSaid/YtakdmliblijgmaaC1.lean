/- It is proved that the statement named by the theorem at the end of this text holds, for every input, with no condition beyond the given ones. -/
import Derived.Test.YtakdmliblijgmaaK7
set_option linter.unusedSimpArgs false
set_option linter.unusedVariables false
/- The last step: WireStretches. -/
namespace Go.Proofs.Ytakdmliblijgmaa
open Go.RowKit Go.ChangeShapes Go.WideShapes Go.ChangeAt
theorem Try.plainA : plainB Try.prog 8 57 = true := by kernel_rfl
theorem ty_asked {d : Nat} {cs : List CV} (h : tyC Try.prog d 57 cs) : ∃ a b s, cs = [I a, I b, I s] := by
  obtain ⟨d', c1, r1, rfl, h1, c2, r2, rfl, h2, h3⟩ := tyC_struct Try.underlying57 h
  obtain ⟨a, b, rfl⟩ := ty_span h1
  obtain ⟨s, rfl⟩ := ty_I h2
  have h3 : r2 = [] := h3
  subst h3
  exact ⟨a, b, s, rfl⟩
set_option maxRecDepth 100000 in
theorem open_asked {H : Type} {enc : TypeId × Value → H} {w : World} {spare : Nat → Bool} {held : Bool} {v : Value} {x : DataW H} {ps : List MemPlace} (h : DataW.Trod enc Try.prog w 0 spare held 57 v x ps) : ∃ a b s : Int, RepC w (fun _ => False) (.agg [I a, I b, I s]) v := by
  obtain ⟨n, h⟩ := h
  obtain ⟨cs, h1, h2⟩ := open_tyC Try.plainA h
  obtain ⟨a, b, s, rfl⟩ := ty_asked h1
  have hs : v.cells.size = 3 := by have := h2.1; simp at this; omega
  have hv := agg_cells (v := v) (by omega)
  refine ⟨a, b, s, ?_⟩
  rw [hv]
  exact .agg _ _ (by simpa using hs) (fun i x u hx hu => h2.2 i x u hx (by simpa using hu))
set_option maxRecDepth 100000 in
theorem stretches_lifted (os : Os) (started : os.Started) (H : Type) (enc : TypeId × Value → H) :
    ReturnsInHanded {} Try.checked os 5 .any (Rows.wireStretchesSpec.pre6 enc Try.prog Try.f5 Rows.wireStretchesRow.domain false) (Rows.wireStretchesSpec.post enc Try.prog Try.f5 false true false false) := by
  refine returnsInHanded_of_change (C := Try.checked) Try.own started (by kernel_rfl) Try.func5
    (ChangeSpec.witness6 (enc := enc) (C := Try.checked) false ⟨#[], #[.slice none 0 0, .slice none 0 0, .agg #[.int .i64 0, .int .i64 0, .int .i64 0]], []⟩ 8 (by kernel_rfl) (by kernel_rfl) (by kernel_rfl) (by kernel_rfl)) ?_
  intro W base args ds gs before hval0 hW hcnd _
  have hW' := hW
  obtain ⟨p, q, hA0, hV, rfl, hfz, hnd⟩ := hW
  have hA : DataW.TrodAll enc Try.prog W 0 (fun _ => true) true Try.f5.params.toList args.toList ds p := hA0
  rw [Try.params5] at hA
  obtain ⟨v0, v1, v2, d0, d1, d2, q0, q1, q2, rfl, rfl, rfl, h0, h1, h2⟩ := trodAll_three hA
  obtain ⟨rfl, rfl⟩ := trodVars_none hV
  obtain ⟨w, hw⟩ := open_srcs (hval0 0 _ v0 rfl rfl) h0
  obtain ⟨l, hn⟩ := open_notes (hval0 1 _ v1 rfl rfl) h1
  obtain ⟨a, b, s, hab⟩ := open_asked h2
  clear hA0 hval0
  refine (lStretches w l a b s W (fun _ => False) #[v0, v1, v2] (fun b hb => hb.elim) rfl (fun i x v hx' hv => ?_)).mono fun e W' ⟨v, he, hr, hx⟩ => ?_
  · match i with
    | 0 => cases hx'; cases hv; exact hw
    | 1 => cases hx'; cases hv; exact hn
    | 2 => cases hx'; cases hv; exact hab
    | i + 3 => simp at hx'
  subst he
  have hv := val_inv hr
  subst hv
  exact ⟨_, rfl, post_ext Try.kids Try.full (by rw [Try.params5]; decide +kernel) rfl hW' (fun _ _ _ => trodAll_mk1 (shut_bool Try.underlying4 _)) rfl rfl hx (ok_one (by kernel_rfl) rfl (okWide_bool_mk Try.underlying4 _))⟩
theorem wireStretches_holds : Rows.WireStretchesSaid :=
  OpenClaim.holds_of_wide 5 Try.f5 rfl rfl rfl rfl rfl rfl rfl ⟨rfl, rfl, rfl, rfl, rfl⟩ rfl rfl rfl rfl rfl (by kernel_rfl) Try.func5 (by kernel_rfl)
    (of_decide_eq_true (by kernel_rfl)) (by unfold Func.isWrapper; first | (rw [if_pos (by decide +kernel)]; kernel_rfl) | (rw [if_neg (by decide +kernel)]; exact ⟨rfl, rfl⟩))
    (fun os started H enc _ => stretches_lifted os started H enc)
end Go.Proofs.Ytakdmliblijgmaa
