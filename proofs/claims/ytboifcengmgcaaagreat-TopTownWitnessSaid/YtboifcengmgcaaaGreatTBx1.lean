/- It is proved that the statement named by the theorem at the end of this text holds, for every input, with no condition beyond the given ones. -/
import Derived.Test.YtboifcengmgcaaaGreatT6
set_option linter.unusedSimpArgs false
set_option linter.unusedVariables false
/- The last step: TopTownWitness. -/
namespace Go.Proofs.YtboifcengmgcaaaGreat
open Go.RowKit Go.ChangeShapes Go.WideShapes Go.ChangeAt
theorem Tryz.plainO2 : plainB Tryz.prog 8 47 = true := by kernel_rfl
theorem Tryz.plain16 : plainB Tryz.prog 8 49 = true := by kernel_rfl
theorem wf_i16 {n : Int} (h : (Lit.int .i16 n).wf = true) : -32768 ≤ n ∧ n ≤ 32767 := by
  simp only [Lit.wf, Bool.and_eq_true, decide_eq_true_eq] at h
  exact h
theorem tyi16 {d : Nat} {cs : List CV} (h : tyC Tryz.prog d 46 cs) : ∃ n, cs = [.val (.int .i16 n)] ∧ -32768 ≤ n ∧ n ≤ 32767 := by
  obtain ⟨n, h, hw⟩ := tyC_int Tryz.underlying46 h; exact ⟨n, h, wf_i16 hw⟩
set_option maxRecDepth 100000 in
theorem open_o2 {H : Type} {enc : TypeId × Value → H} {w : World} {spare : Nat → Bool} {held : Bool} {v : Value} {x : DataW H} {ps : List MemPlace} (h : DataW.Trod enc Tryz.prog w 0 spare held 47 v x ps) : ∃ a b : Int, RepC w (fun _ => False) (cO2 a b) v ∧ -32768 ≤ a ∧ a ≤ 32767 ∧ -32768 ≤ b ∧ b ≤ 32767 := by
  obtain ⟨d, cs, h1, h2⟩ := open_agg Tryz.plainO2 h
  obtain ⟨d, c1, r1, rfl, t1, c2, r2, rfl, t2, t3⟩ := tyC_array Tryz.underlying47 h1
  obtain ⟨a, rfl, ha⟩ := tyi16 t1
  obtain ⟨b, rfl, hb⟩ := tyi16 t2
  have t3 : r2 = [] := t3
  subst t3
  exact ⟨a, b, h2 (by simp), ha.1, ha.2, hb.1, hb.2⟩
set_option maxRecDepth 100000 in
theorem open_t2 {H : Type} {enc : TypeId × Value → H} {w : World} {spare : Nat → Bool} {held : Bool} {v : Value} {x : DataW H} {ps : List MemPlace} (h : DataW.Trod enc Tryz.prog w 0 spare held 49 v x ps) : ∃ a b : Int, RepC w (fun _ => False) (cT2 a b) v ∧ 0 ≤ a ∧ a ≤ 65535 ∧ 0 ≤ b ∧ b ≤ 65535 := by
  obtain ⟨d, cs, h1, h2⟩ := open_agg Tryz.plain16 h
  obtain ⟨d, c1, r1, rfl, t1, c2, r2, rfl, t2, t3⟩ := tyC_array Tryz.underlying49 h1
  obtain ⟨a, rfl, ha⟩ := ty16 t1
  obtain ⟨b, rfl, hb⟩ := ty16 t2
  have t3 : r2 = [] := t3
  subst t3
  exact ⟨a, b, h2 (by simp), ha.1, ha.2, hb.1, hb.2⟩
set_option maxRecDepth 100000 in
theorem town_lifted (os : Os) (started : os.Started) (H : Type) (enc : TypeId × Value → H) :
    ReturnsInHanded {} Tryz.checked os 4 .any (Rows.topTownWitnessSpec.pre6 enc Tryz.prog Tryz.f4 Rows.topTownWitnessRow.domain false) (Rows.topTownWitnessSpec.post enc Tryz.prog Tryz.f4 false true false false) := by
  refine returnsInHanded_of_change (C := Tryz.checked) Tryz.own started (by kernel_rfl) Tryz.func4
    (ChangeSpec.witness6 (enc := enc) (C := Tryz.checked) false ⟨#[], #[.agg #[.int .i16 0, .int .i16 0], .agg #[.int .u16 0, .int .u16 0], .int .i8 0], []⟩ 8 (by kernel_rfl) (by kernel_rfl) (by kernel_rfl) (by kernel_rfl)) ?_
  intro W base args ds gs before hval0 hW hcnd _
  have hW' := hW
  obtain ⟨p, q, hA0, hV, rfl, hfz, hnd⟩ := hW
  have hA : DataW.TrodAll enc Tryz.prog W 0 (fun _ => true) true Tryz.f4.params.toList args.toList ds p := hA0
  rw [Tryz.params4] at hA
  obtain ⟨v0, v1, v2, d0, d1, d2, q0, q1, q2, rfl, rfl, rfl, h0, h1, h2⟩ := trodAll_three hA
  obtain ⟨rfl, rfl⟩ := trodVars_none hV
  obtain ⟨a, b, hx, ha0, ha1, hb0, hb1⟩ := open_o2 h0
  obtain ⟨m, k, hy, hm0, hm1, hk0, hk1⟩ := open_t2 h1
  obtain ⟨n, rfl, rfl, rfl, hn⟩ := open_int Tryz.underlying50 (hval0 2 _ v2 rfl rfl) h2
  have hn := wf_i8 hn
  clear hA0 hval0
  refine (lTown a b m k n ⟨ha0, ha1, hb0, hb1, hm0, hm1, hk0, hk1, hn.1, hn.2⟩ W (fun _ => False) #[v0, v1, .int .i8 n] (fun b hb => hb.elim) rfl (fun i x v hx' hv => ?_)).mono fun e W' ⟨v, he, hr, hx⟩ => ?_
  · match i with
    | 0 => cases hx'; cases hv; exact hx
    | 1 => cases hx'; cases hv; exact hy
    | 2 => cases hx'; cases hv; exact .val _
    | i + 3 => simp at hx'
  subst he
  have hv := val_inv hr
  subst hv
  exact ⟨_, rfl, post_ext Tryz.kids Tryz.full (by rw [Tryz.params4]; decide +kernel) rfl hW' (fun _ _ _ => trodAll_mk1 (shut_bool Tryz.underlying4 _)) rfl rfl hx (ok_one (by kernel_rfl) rfl (okWide_bool_mk Tryz.underlying4 _))⟩
theorem topTownWitness_holds : Rows.TopTownWitnessSaid :=
  OpenClaim.holds_of_wide 4 Tryz.f4 rfl rfl rfl rfl rfl rfl rfl ⟨rfl, rfl, rfl, rfl, rfl⟩ rfl rfl rfl rfl rfl (by kernel_rfl) Tryz.func4 (by kernel_rfl)
    (of_decide_eq_true (by kernel_rfl)) (by unfold Func.isWrapper; first | (rw [if_pos (by decide +kernel)]; kernel_rfl) | (rw [if_neg (by decide +kernel)]; exact ⟨rfl, rfl⟩))
    (fun os started H enc _ => town_lifted os started H enc)
end Go.Proofs.YtboifcengmgcaaaGreat
