/- It is proved that the statement named by the theorem at the end of this text holds, for every input, with no condition beyond the given ones. -/
import Derived.Test.YtnfggkopledpcaaK3
import Derived.Test.YtnfggkopledpcaaK4
import Derived.Test.YtnfggkopledpcaaK5
set_option linter.unusedSimpArgs false
set_option linter.unusedVariables false
/- The shadow code of functions, as the kit's translation has them. -/
namespace Go.Proofs.Ytnfggkopledpcaa
open Go.RowKit
end Go.Proofs.Ytnfggkopledpcaa
/- The shadow code of functions, as the kit's translation has them. -/
namespace Go.Proofs.Ytnfggkopledpcaa
open Go.RowKit
@[simp] def rs_turretlaw04_DialSteady : List SRes := [.tmp 6]
def c_turretlaw04_Tower_wind_0 : SCode := .reg [⟨(some 1), none, .box 57 (.tmp 0), [], false⟩,
  ⟨(some 2), none, .alloc 23 [(.int .i64 0), (.int .i64 0)], [], false⟩] [1, 2]
def c_turretlaw04_Tower_wind_1 : SCode := .reg [⟨(some 3), none, .fld 6 (.tmp 1), [], false⟩,
  ⟨(some 4), none, .idxA 2 1 (.tmp 3) (.const (.int .i64 0)), [], false⟩,
  ⟨(some 5), none, .load false 1 (.tmp 4), [], false⟩,
  ⟨(some 6), none, .conv .i64 (.tmp 5), [], false⟩,
  ⟨(some 7), none, .bin .sub (.tmp 6) (.const (.int .i64 128)), [], false⟩,
  ⟨(some 8), none, .fld 6 (.tmp 1), [], false⟩,
  ⟨(some 9), none, .idxA 2 1 (.tmp 8) (.const (.int .i64 0)), [], false⟩,
  ⟨(some 10), none, .load false 1 (.tmp 9), [], false⟩,
  ⟨(some 11), none, .conv .i64 (.tmp 10), [], false⟩,
  ⟨(some 12), none, .bin .sub (.tmp 11) (.const (.int .i64 128)), [], false⟩,
  ⟨(some 13), none, .fld 6 (.tmp 1), [], false⟩,
  ⟨(some 14), none, .idxA 2 1 (.tmp 13) (.const (.int .i64 1)), [], false⟩,
  ⟨(some 15), none, .load false 1 (.tmp 14), [], false⟩,
  ⟨(some 16), none, .conv .i64 (.tmp 15), [], false⟩,
  ⟨(some 17), none, .bin .rem (.tmp 16) (.const (.int .i64 100)), [], false⟩,
  ⟨(some 18), none, .bin .add (.tmp 12) (.tmp 17), [], false⟩,
  ⟨(some 19), none, .call 30 [(.tmp 7), (.tmp 18)], [], false⟩,
  ⟨none, none, .store 2 (.tmp 2) (.tmp 19), [], false⟩] [2]
def c_turretlaw04_Tower_wind_2 : SCode := .seq c_turretlaw04_Tower_wind_1 .ret
def c_turretlaw04_Tower_wind_3 : SCode := .seq c_turretlaw04_Tower_wind_0 c_turretlaw04_Tower_wind_2
@[simp] def rs_turretlaw04_Tower_wind : List SRes := [.cell 2 true 2]
theorem law_turretlaw04_Tower_wind (cs : List CV) (r : CV) (hl : cs.length ≤ 20) (h : STri (cfF Try.prog [] 20) c_turretlaw04_Tower_wind_3 (initT 0 cs) [] (retQ rs_turretlaw04_Tower_wind r)) : SC Try.prog 26 cs r :=
  sc_of [] follows Try.func26 rfl Try.ntmps26 (by decide) (by kernel_rfl) (by kernel_rfl) hl h
def c_turretlaw04_face_0 : SCode := .reg [⟨(some 1), none, .box 80 (.tmp 0), [], false⟩,
  ⟨(some 2), none, .alloc 80 [(.int .i64 0), (.int .i64 0), (.slice none 0 0), (.int .i64 0), (.int .i64 0)], [], false⟩] [1, 2]
def c_turretlaw04_face_1 : SCode := .reg [⟨(some 3), none, .buildSl 101 3 [(.int .i64 0), (.int .i64 0), (.int .i64 0)] 0 [], [], false⟩,
  ⟨(some 4), none, .fld 2 (.tmp 1), [], false⟩,
  ⟨(some 5), none, .load false 1 (.tmp 4), [], false⟩,
  ⟨(some 6), none, .append 101 3 24 (.tmp 3) (.tmp 5), [], false⟩,
  ⟨(some 7), none, .fld 2 (.tmp 1), [], false⟩,
  ⟨none, none, .store 1 (.tmp 7) (.tmp 6), [], false⟩] [1, 2]
def c_turretlaw04_face_2 : SCode := .reg [⟨(some 8), none, .load true 5 (.tmp 1), [], false⟩,
  ⟨none, none, .store 5 (.tmp 2) (.tmp 8), [], false⟩] [2]
def c_turretlaw04_face_3 : SCode := .seq c_turretlaw04_face_2 .ret
def c_turretlaw04_face_4 : SCode := .seq c_turretlaw04_face_1 c_turretlaw04_face_3
def c_turretlaw04_face_5 : SCode := .seq c_turretlaw04_face_0 c_turretlaw04_face_4
@[simp] def rs_turretlaw04_face : List SRes := [.cell 2 true 5]
theorem law_turretlaw04_face (cs : List CV) (r : CV) (hl : cs.length ≤ 9) (h : STri (cfF Try.prog [] 9) c_turretlaw04_face_5 (initT 0 cs) [] (retQ rs_turretlaw04_face r)) : SC Try.prog 35 cs r :=
  sc_of [] follows Try.func35 rfl Try.ntmps35 (by decide) (by kernel_rfl) (by kernel_rfl) hl h
end Go.Proofs.Ytnfggkopledpcaa
/- The shadow code of functions, as the kit's translation has them. -/
namespace Go.Proofs.Ytnfggkopledpcaa
open Go.RowKit
end Go.Proofs.Ytnfggkopledpcaa
/- Own slices that lie in boxes are closed. -/
namespace Go.Proofs.Ytnfggkopledpcaa
open Go.RowKit
section
variable {cf : Cf} {cx : Cx} {T T' : TL} {H H' : HL} {a : Act} {w : World} {F : Nat → Option Blk} {ρ : Nat → Option Nat}
def CloC (H : HL) (X : Nat → Prop) (x y : SV) : Prop := x = y ∨ ∃ id t k rows, x = .own id rows.length ∧ lookH H id = some (.arr t k rows) ∧ X id ∧ y = .c (.sl k rows)
def CloL (H : HL) (X : Nat → Prop) : List SV → List SV → Prop
  | [], [] => True
  | x :: xs, y :: ys => CloC H X x y ∧ CloL H X xs ys
  | _, _ => False
theorem CloL.get {X : Nat → Prop} : ∀ {xs ys : List SV}, CloL H X xs ys → xs.length = ys.length ∧ ∀ (i : Nat) y, ys[i]? = some y → ∃ x, xs[i]? = some x ∧ CloC H X x y
  | [], [], _ => ⟨rfl, fun i y h => by simp at h⟩
  | x :: xs, y :: ys, h => by
    obtain ⟨h1, h2⟩ := CloL.get h.2
    refine ⟨by simp [h1], fun i z hz => ?_⟩
    cases i with
    | zero => simp at hz; subst hz; exact ⟨x, by simp, h.1⟩
    | succ i => simp at hz ⊢; exact h2 i z hz
  | [], _ :: _, h => h.elim
  | _ :: _, [], h => h.elim
structure Shut (cf : Cf) (H H' : HL) (X : Nat → Prop) : Prop where
  at' : ∀ i, X i → cf.b ≤ i ∧ i < cf.b + 1000 ∧ i ∉ cf.K
  keep : ∀ i, ¬ X i → lookH H' i = lookH H i ∨ ∃ t cs cs', lookH H i = some (.box t cs) ∧ lookH H' i = some (.box t cs') ∧ CloL H X cs cs'
  gone : ∀ i, X i → lookH H' i = none
  gh : lookH H' (1000000000 + cf.b) = lookH H (1000000000 + cf.b)
  cl : ∀ i t cells, lookH H' i = some (.box t cells) → inPL (fun j => ¬ X j) cells
theorem Shut.eqs {X : Nat → Prop} (d : Shut cf H H' X) (out : ∀ i, Rg cf.b i → F i = none) (i : Nat) : (X i → tot F (lookH H') i = none) ∧ (¬ X i → tot F (lookH H') i = tot F (lookH H) i ∨ ∃ t cs cs', tot F (lookH H) i = some (.box t cs) ∧ tot F (lookH H') i = some (.box t cs') ∧ CloL H X cs cs') := by
  refine ⟨fun hi => ?_, fun hi => ?_⟩
  · rw [tot_none (d.gone i hi)]
    exact out i (.inl ⟨(d.at' i hi).1, (d.at' i hi).2.1⟩)
  · rcases d.keep i hi with h | ⟨t, cs, cs', h1, h2, h3⟩
    · left; unfold tot; rw [h]
    · right; exact ⟨t, cs, cs', tot_some h1, tot_some h2, h3⟩
theorem RepS.less2 {w : World} {NA : Nat → Prop} {ρ : Nat → Option Nat} {H H' : Nat → Option Blk} {D : Nat → Prop} (hs : ∀ id, H' id ≠ none → H id ≠ none) (hD : ∀ id B, H id = some B → D id → H' id = some B ∨ ∃ t cs cs', B = .box t cs ∧ H' id = some (.box t cs')) {x : SV} {v : Value}
    (h : RepS w NA ρ H x v) (hx : x.inP D) : RepS w NA ρ H' x v := by
  have calm : Calm w (Mut NA ρ H) w (Mut NA ρ H') := ⟨Nat.le_refl _, fun b _ hn => ⟨rfl, fun hm => by
    rcases hm with hm | ⟨i, h1, h2⟩
    · exact hn (.inl hm)
    · exact hn (.inr ⟨i, hs i h1, h2⟩)⟩⟩
  induction h with
  | c x v r => exact .c x v (r.move calm)
  | agg xs vs h1 _ ih => exact .agg xs vs h1 (fun i x v hx' hv => ih i x v hx' hv (inPL_get hx i x hx'))
  | tup xs vs h1 _ ih => exact .tup xs vs h1 (fun i x v hx' hv => ih i x v hx' hv (inPL_get hx i x hx'))
  | own id len t k rows v hH hl ho hv =>
    rcases hD id _ hH hx with h | ⟨_, _, _, h, _⟩
    · exact .own id len t k rows v h hl ho hv
    · cases h
  | ptrB id j t cells b hH hb =>
    rcases hD id _ hH hx with h | ⟨t', cs, cs', h, h'⟩
    · exact .ptrB id j t cells b h hb
    · cases h; exact .ptrB id j t cs' b h' hb
  | ptrA id len i j t k rows v hH hl ho hv =>
    rcases hD id _ hH hx with h | ⟨_, _, _, h, _⟩
    · exact .ptrA id len i j t k rows v h hl ho hv
    · cases h
  | pel k rows i j b off c hc hi => exact .pel k rows i j b off c (hc.move calm) hi
  | fn f fs cs vf vc h1 h2 _ _ ih1 ih2 =>
    exact .fn f fs cs vf vc h1 h2 (fun i x v hx' hv => ih1 i x v hx' hv (inPL_get hx.1 i x hx')) (fun i x v hx' hv => ih2 i x v hx' hv (inPL_get hx.2 i x hx'))
  | yl id lo b hH hb =>
    rcases hD id _ hH hx with h | ⟨_, _, _, h, _⟩
    · exact .yl id lo b h hb
    · cases h
  | om id ag kd es b hH hb =>
    rcases hD id _ hH hx with h | ⟨_, _, _, h, _⟩
    · exact .om id ag kd es b h hb
    · cases h
  | dead v => exact .dead v
theorem Shut.ne {X : Nat → Prop} (d : Shut cf H H' X) (out : ∀ i, Rg cf.b i → F i = none) (id : Nat) (hn : tot F (lookH H') id ≠ none) : tot F (lookH H) id ≠ none ∧ ¬ X id := by
  by_cases hx : X id
  · exact absurd ((d.eqs out id).1 hx) hn
  · rcases (d.eqs out id).2 hx with h | ⟨t, cs, cs', h1, _⟩
    · exact ⟨by rw [← h]; exact hn, hx⟩
    · exact ⟨by rw [h1]; simp, hx⟩
theorem Shut.sub {X : Nat → Prop} (d : Shut cf H H' X) (out : ∀ i, Rg cf.b i → F i = none) {x : SV} {v : Value} {NA : Nat → Prop} (r : RepS w NA ρ (tot F (lookH H)) x v) (hx : x.inP (fun j => ¬ X j)) : RepS w NA ρ (tot F (lookH H')) x v := by
  refine r.less2 (D := fun j => ¬ X j) (fun id hn => (d.ne out id hn).1) (fun id B hB hid => ?_) hx
  rcases (d.eqs out id).2 hid with h | ⟨t, cs, cs', h1, h2, _⟩
  · left; rw [h, hB]
  · right; rw [hB] at h1; cases h1; exact ⟨t, cs, cs', rfl, h2⟩
theorem shut_own (h : StAt cf cx T H a w F ρ) {X : Nat → Prop} (d : Shut cf H H' X) {id : Nat} {t : TypeId} {k : Nat} {rows : List (List CV)} (hH : lookH H id = some (.arr t k rows)) (hX : X id) {v : Value} (hv : RepS w cx.NA ρ (tot F (lookH H)) (.own id rows.length) v) :
    RepS w cx.NA ρ (tot F (lookH H')) (.c (.sl k rows)) v := by
  have hne := d.ne (F := F) h.out
  have calm : Calm w (Mut cx.NA ρ (tot F (lookH H))) w (Mut cx.NA ρ (tot F (lookH H'))) := ⟨Nat.le_refl _, fun b _ hn => ⟨rfl, fun hm => by
    rcases hm with hm | ⟨i, h1, h2⟩
    · exact hn (.inl hm)
    · exact hn (.inr ⟨i, (hne i h1).1, h2⟩)⟩⟩
  have e2 := tot_some (F := F) hH
  have q1 := h.rep.heap
  cases hv with
  | own _ _ t' k' rows' _ hH' hl ho hv =>
    rw [e2] at hH'; cases hH'
    rcases hv rfl with ⟨q0, q1', rfl⟩ | ⟨b, cap, cs, t2, p1, rfl, p3, p4, p5, p6⟩
    · have : rows = [] := List.length_eq_zero_iff.1 q1'
      subst this; exact .c _ _ (.nil k none 0 (Nat.zero_le _))
    · rcases q1.blk id _ e2 with ⟨g1, _⟩ | ⟨b', cs', cap', g1, g2, g3, g4, g5, g6, g7⟩
      · rw [p1] at g1; cases g1
      · rw [p1] at g1; cases g1
        rw [p3] at g2; cases g2
        have hown : Own ρ (tot F (lookH H)) b := ⟨id, by rw [e2]; simp, p1⟩
        refine .c _ _ (.sl k rows b 0 cap (fun j i => cs.getD (j * k + i) undef) p5 p6 (q1.lt hown) (fun hm => ?_) g6 (fun j row i x hj hx => ?_) (fun j row i x hj hx => ?_))
        · rcases hm with hm | ⟨j, z1, z2⟩
          · exact cx.nn b hm (q1.low b hown (cx.na b hm))
          · obtain ⟨z3, z4⟩ := hne j z1
            have := q1.inj j id b z3 (by rw [e2]; simp) z2 p1
            subst this
            exact z4 hX
        · obtain ⟨v, hv1, _⟩ := g7 j row i x hj hx
          rw [Nat.zero_add, cell_of_row w b (j * k + i) cs _ (0, 0) p3]
          simp [hv1]
        · obtain ⟨v, hv1, hv2⟩ := g7 j row i x hj hx
          have : cs.getD (j * k + i) undef = v := by simp [hv1]
          rw [this]; exact hv2.move calm
theorem Shut.cell (h : StAt cf cx T H a w F ρ) {X : Nat → Prop} (d : Shut cf H H' X) {x y : SV} (hc : CloC H X x y) (hy : y.inP (fun j => ¬ X j)) {v : Value} (hv : RepS w cx.NA ρ (tot F (lookH H)) x v) : RepS w cx.NA ρ (tot F (lookH H')) y v := by
  rcases hc with rfl | ⟨id, t, k, rows, rfl, h2, h3, rfl⟩
  · exact d.sub h.out hv hy
  · exact shut_own h d h2 h3 hv
theorem StAt.shut (ok : cf.ok) (hHs : ∀ i, cf.b ≤ i → i < cf.b + 1000 → i ∉ cf.K → cx.Hs i = none) (h : StAt cf cx T H a w F ρ) {X : Nat → Prop} (d : Shut cf H H' X)
    (hT : ∀ i, (∀ v, RepS w cx.NA ρ (tot F (lookH H)) (lookT T i) v → RepS w cx.NA ρ (tot F (lookH H')) (lookT T' i) v)) : StAt cf cx T' H' a w F ρ := by
  have tt := d.eqs (F := F) h.out
  have hne := d.ne (F := F) h.out
  have own : ∀ b, Mut cx.NA ρ (tot F (lookH H')) b → Mut cx.NA ρ (tot F (lookH H)) b := fun b hm => by
    rcases hm with hm | ⟨i, h1, h2⟩
    · exact .inl hm
    · exact .inr ⟨i, (hne i h1).1, h2⟩
  have calm : Calm w (Mut cx.NA ρ (tot F (lookH H))) w (Mut cx.NA ρ (tot F (lookH H'))) := ⟨Nat.le_refl _, fun b _ hn => ⟨rfl, fun hm => hn (own b hm)⟩⟩
  have hgh := d.gh
  have hsub : ∀ i, lookH H' i ≠ none → lookH H i ≠ none := fun i hi => by
    by_cases hx : X i
    · exact absurd (d.gone i hx) hi
    · rcases d.keep i hx with h | ⟨t, cs, cs', h1, _⟩
      · rw [← h]; exact hi
      · rw [h1]; simp
  have boxF : ∀ id t cells, tot F (lookH H') id = some (.box t cells) → inPL (fun j => ¬ X j) cells := fun id t cells hB => by
    cases hL : lookH H' id with
    | some B =>
      rw [tot_some hL] at hB; cases hB
      exact d.cl id t cells hL
    | none =>
      rw [tot_none hL] at hB
      refine inPL_mono (fun j hj hx => hj ?_) cells (h.cl id t cells hB)
      exact h.out j (.inl ⟨(d.at' j hx).1, (d.at' j hx).2.1⟩)
  refine ⟨by unfold kOf at *; rw [hgh]; exact h.iv, h.cl, h.out, h.ol, fun i hi => h.dis i (hsub i hi), by rw [hgh]; exact h.yd, fun i hi => ?_, h.dm, ⟨h.rep.size, ⟨fun i j b h1 h2 => h.rep.heap.inj i j b (hne i h1).1 (hne j h2).1, fun id B hB => ?_, h.rep.heap.fr, fun b hb => h.rep.heap.low b ?_⟩, fun i => hT i _ (h.rep.tmp i)⟩, fun x v hx => ?_, ⟨h.tr.1.trans calm, fun i => ?_⟩, ?_⟩
  · exact h.av i (hsub i hi)
  · have hx : ¬ X id := (hne id (by rw [hB]; simp)).2
    rcases (tt id).2 hx with he | ⟨t, cs, cs', e1, e2, e3⟩
    · have hr := h.rep.heap.blk id B (by rw [← he]; exact hB)
      cases B with
      | box t cells =>
        obtain ⟨b, cs, e1, e2, e3, e4⟩ := hr
        exact ⟨b, cs, e1, e2, e3, fun j x v hx hv => d.sub h.out (e4 j x v hx hv) (inPL_get (boxF id t cells hB) j x hx)⟩
      | arr t k rows =>
        rcases hr with ⟨e1, e2⟩ | ⟨b, cs, cap, e1, e2, e3, e4, e5, e6, e7⟩
        · exact .inl ⟨e1, e2⟩
        · exact .inr ⟨b, cs, cap, e1, e2, e3, e4, e5, e6, fun j row m x hr hx => by
            obtain ⟨v, hv1, hv2⟩ := e7 j row m x hr hx
            exact ⟨v, hv1, hv2.move calm⟩⟩
      | map ag kd es =>
        obtain ⟨b, ents, clock, e1, e2, e3, e4⟩ := hr
        exact ⟨b, ents, clock, e1, e2, e3, fun i p e hp he => (e4 i p e hp he).move calm⟩
      | loop lo => exact hr
      | gh k s => exact hr
    · rw [e2] at hB; cases hB
      obtain ⟨b, vs, q1, q2, q3, q4⟩ := h.rep.heap.blk id _ e1
      obtain ⟨c1, c2⟩ := e3.get
      refine ⟨b, vs, q1, q2, by rw [q3, c1], fun j y v hy hv => ?_⟩
      obtain ⟨x, hx1, hx2⟩ := c2 j y hy
      exact d.cell h hx2 (inPL_get (boxF id t cs' e2) j y hy) (q4 j x v hx1 hv)
  · obtain ⟨i, h1, h2⟩ := hb
    exact ⟨i, (hne i h1).1, h2⟩
  · refine d.sub h.out (h.gh x v hx) (inP_mono (fun j hj hX => ?_) x (ok.G x v hx))
    obtain ⟨q1, q2, q3⟩ := d.at' j hX
    exact q3 (hj (.inl ⟨q1, q2⟩))
  · have hi := h.tr.2 i
    by_cases hX : X i
    · obtain ⟨q1, q2, q3⟩ := d.at' i hX
      have := hHs i q1 q2 q3
      refine ⟨fun B hB _ => ?_, fun t k rows hB => ?_⟩
      · rw [this] at hB; cases hB
      · rw [this] at hB; cases hB
    · refine hi.trans ?_
      rcases (tt i).2 hX with he | ⟨t, cs, cs', e1, e2, _⟩
      · unfold KeepI
        rw [he]
        exact KeepI.refl w ρ _ i
      · refine ⟨fun B hB _ => ⟨_, e2, ?_, rfl⟩, fun t k rows hB => ?_⟩
        · rw [e1] at hB; cases hB; rfl
        · rw [e1] at hB; cases hB
  · obtain ⟨Ds, h1, h2, h3⟩ := h.df
    exact ⟨Ds, h1, h2, fun D hD => by
      obtain ⟨l, q1, q2, q3⟩ := h3 D hD
      exact ⟨l, q1, fun hm => q2 (own D hm), q3⟩⟩
end
def ownS (X : List Nat) (H : HL) : SV → SV → Prop
  | .own id n, .c (.sl k rows) => n = rows.length ∧ X.contains id = true ∧ ∃ t, lookH H id = some (.arr t k rows)
  | _, _ => False
def ownL (X : List Nat) (H : HL) : List SV → List SV → Prop
  | [], [] => True
  | x :: xs, y :: ys => (x = y ∨ ownS X H x y) ∧ ownL X H xs ys
  | _, _ => False
theorem ownS_clo {X : List Nat} {H : HL} : ∀ {x y : SV}, ownS X H x y → CloC H (fun i => i ∈ X) x y := fun {x y} h => by
  unfold ownS at h
  split at h
  · obtain ⟨rfl, h2, t, h3⟩ := h
    exact .inr ⟨_, t, _, _, rfl, h3, by simpa using h2, rfl⟩
  · exact h.elim
theorem ownL_clo {X : List Nat} {H : HL} : ∀ {xs ys : List SV}, ownL X H xs ys → CloL H (fun i => i ∈ X) xs ys
  | [], [], _ => trivial
  | _ :: _, _ :: _, h => ⟨h.1.elim .inl ownS_clo, ownL_clo h.2⟩
  | [], _ :: _, h => h.elim
  | _ :: _, [], h => h.elim
def ShutB (X : List Nat) (H : HL) : Blk → Blk → Prop
  | .box t cs, .box t' cs' => t = t' ∧ ownL X H cs cs'
  | B, B' => B = B'
theorem shutB_or {X : List Nat} {H : HL} {B B' : Blk} (h : ShutB X H B B') : B = B' ∨ ∃ t cs cs', B = .box t cs ∧ B' = .box t cs' ∧ CloL H (fun i => i ∈ X) cs cs' := by
  unfold ShutB at h
  split at h
  · obtain ⟨rfl, h⟩ := h; exact .inr ⟨_, _, _, rfl, rfl, ownL_clo h⟩
  · exact .inl h
def ShutH (X : List Nat) (H : HL) : HL → Prop
  | [] => True
  | (id, B') :: r => (∃ B, lookH H id = some B ∧ ShutB X H B B') ∧ B'.outD X = true ∧ ShutH X H r
theorem ShutH.get {X : List Nat} {H : HL} : ∀ {H' : HL}, ShutH X H H' → ∀ i B', lookH H' i = some B' → (∃ B, lookH H i = some B ∧ ShutB X H B B') ∧ B'.outD X = true
  | [], _, i, B, h => by simp [lookH] at h
  | (j, C) :: r, h, i, B, hB => by
    obtain ⟨h1, h2, h3⟩ := h
    by_cases hi : i = j
    · subst hi; simp [lookH] at hB; subst hB; exact ⟨h1, h2⟩
    · simp only [lookH, if_neg hi] at hB; exact ShutH.get h3 i B hB
theorem shut_drop {cf : Cf} {H H' : HL} (hb : cf.b + 1000 ≤ 1000000000) (hg : lookH H (1000000000 + cf.b) = none ∨ ∃ k s, lookH H (1000000000 + cf.b) = some (.gh k s)) (h1 : dropOK cf (dropK H (H'.map (·.1))) = true) (h2 : ShutH (dropK H (H'.map (·.1))) H H') : Shut cf H H' (fun i => i ∈ dropK H (H'.map (·.1))) := by
  have mem : ∀ i, i ∈ dropK H (H'.map (·.1)) ↔ i ∈ H.map (·.1) ∧ i ∉ H'.map (·.1) := fun i => by
    unfold dropK; rw [List.mem_filter]
    simp only [Bool.not_eq_true', List.contains_eq_mem, decide_eq_false_iff_not]
  have at' : ∀ i, i ∈ dropK H (H'.map (·.1)) → cf.b ≤ i ∧ i < cf.b + 1000 ∧ i ∉ cf.K := fun i hi => by
    unfold dropOK at h1
    rw [List.all_eq_true] at h1
    have := h1 i hi
    simp only [Bool.and_eq_true, decide_eq_true_eq, Bool.not_eq_true', List.contains_eq_mem, decide_eq_false_iff_not] at this
    exact ⟨this.1.1, this.1.2, this.2⟩
  have keep : ∀ i, ¬ i ∈ dropK H (H'.map (·.1)) → lookH H' i = lookH H i ∨ ∃ t cs cs', lookH H i = some (.box t cs) ∧ lookH H' i = some (.box t cs') ∧ CloL H (fun i => i ∈ dropK H (H'.map (·.1))) cs cs' := fun i hi => by
    cases hB : lookH H' i with
    | some B' =>
      obtain ⟨⟨B, e1, e2⟩, _⟩ := h2.get i B' hB
      rcases shutB_or e2 with rfl | ⟨t, cs, cs', rfl, rfl, e3⟩
      · left; rw [e1]
      · right; exact ⟨t, cs, cs', e1, rfl, e3⟩
    | none =>
      cases hC : lookH H i with
      | none => left; rfl
      | some C =>
        exfalso
        refine hi ((mem i).2 ⟨mem_lookH (by rw [hC]; simp), fun hm => ?_⟩)
        obtain ⟨B, hB'⟩ := lookH_mem hm
        rw [hB] at hB'; cases hB'
  refine ⟨at', keep, fun i hi => ?_, ?_, fun i t cells hB => ?_⟩
  · cases hB : lookH H' i with
    | none => rfl
    | some B => exact absurd (mem_lookH (by rw [hB]; simp)) ((mem i).1 hi).2
  · have hn : ¬ (1000000000 + cf.b) ∈ dropK H (H'.map (·.1)) := fun hm => by have := (at' _ hm).2.1; omega
    rcases keep _ hn with h | ⟨t, cs, cs', e1, _⟩
    · exact h
    · rcases hg with hg | ⟨k, s, hg⟩
      · rw [e1] at hg; cases hg
      · rw [e1] at hg; cases hg
  · have := (h2.get i _ hB).2
    exact outDL_inP cells this
theorem shut_rep {cf : Cf} (ok : cf.ok) {cx : Cx} (hHs : ∀ i, cf.b ≤ i → i < cf.b + 1000 → i ∉ cf.K → cx.Hs i = none) {T T' : TL} {H H' : HL} (h0 : dropOK cf (dropK H (H'.map (·.1))) = true) (h1 : ClosT (dropK H (H'.map (·.1))) T H T') (h2 : ShutH (dropK H (H'.map (·.1))) H H') {a : Act} {w : World} (h : RepSt cf cx T H a w) : RepSt cf cx T' H' a w := by
  obtain ⟨F, ρ, h⟩ := h
  have d := shut_drop ok.b h.yd h0 h2
  refine ⟨F, ρ, h.shut ok hHs d (fun i v hv => ?_)⟩
  rcases h1.get i with e | ⟨e1, e2⟩ | ⟨id, t, k, rows, e1, e2, e3, e4⟩
  · rw [e]; exact .dead _
  · rw [← e1] at hv
    exact d.sub h.out hv (outD_inP _ e2)
  · rw [e4]
    rw [e1] at hv
    exact shut_own h d e2 e3 hv
theorem st_shut {cf : Cf} {sc : SCode} {T : TL} {H : HL} {Q : Exit → TL → HL → Prop} (T' : TL) (H' : HL) (hl0 : dropOK cf (dropK H (H'.map (·.1))) = true) (hl1 : ClosT (dropK H (H'.map (·.1))) T H T') (hl2 : ShutH (dropK H (H'.map (·.1))) H H') (h : STri cf sc T' H' Q) : STri cf sc T H Q :=
  st_weak (fun ok _ hHs _ _ hr => shut_rep ok hHs hl0 hl1 hl2 hr) h
@[simp] def shS (id k : Nat) (rows : List (List CV)) : SV → SV
  | .own i n => if i = id then .c (.sl k rows) else .own i n
  | x => x
@[simp] def shB (id k : Nat) (rows : List (List CV)) : Blk → Blk
  | .box t cs => .box t (cs.map (shS id k rows))
  | B => B
@[simp] def shT (id k : Nat) (rows : List (List CV)) : TL → TL
  | [] => []
  | (i, x) :: r => (i, shS id k rows x) :: shT id k rows r
@[simp] def shH (id k : Nat) (rows : List (List CV)) : HL → HL
  | [] => []
  | (i, B) :: r => if i = id then shH id k rows r else (i, shB id k rows B) :: shH id k rows r
def ClosO (X : List Nat) (T : TL) (H : HL) : TL → Prop
  | [] => True
  | (i, x) :: r => ((lookT T i = x ∧ x.outD X = true) ∨ ownS X H (lookT T i) x) ∧ ClosO X T H r
theorem ClosO.clos {X : List Nat} {T : TL} {H : HL} : ∀ {T' : TL}, ClosO X T H T' → ClosT X T H T'
  | [], _ => trivial
  | (_, _) :: _, h => ⟨h.1.elim .inl fun h => by
      generalize lookT _ _ = y at *
      unfold ownS at h
      split at h
      · obtain ⟨rfl, h2, t, h3⟩ := h
        exact .inr ⟨_, t, _, _, rfl, h3, h2, rfl⟩
      · exact h.elim, ClosO.clos h.2⟩
theorem st_shut1 {cf : Cf} {sc : SCode} {T : TL} {H : HL} {Q : Exit → TL → HL → Prop} (id : Nat) {t : TypeId} {k : Nat} {rows : List (List CV)} (hid : lookH H id = some (.arr t k rows)) (hl0 : dropOK cf (dropK H ((shH id k rows H).map (·.1))) = true)
    (hl1 : ClosO (dropK H ((shH id k rows H).map (·.1))) T H (shT id k rows T)) (hl2 : ShutH (dropK H ((shH id k rows H).map (·.1))) H (shH id k rows H)) (h : STri cf sc (shT id k rows T) (shH id k rows H) Q) : STri cf sc T H Q :=
  st_shut _ _ hl0 hl1.clos hl2 h
end Go.Proofs.Ytnfggkopledpcaa
/- Functions whose answer holds a slice that nobody else has; functions that read a slice of their caller's own and keep nothing of it. -/
namespace Go.Proofs.Ytnfggkopledpcaa
open Go.RowKit
def resS1 (T : Nat → SV) (H : Nat → Option Blk) : SRes → Option SV
  | .tmp t => some (T t)
  | .cell p ag n => match T p with
    | .ptr id j => match H id with
      | some (.box _ cs) => if j + n ≤ cs.length then mkS ag ((cs.drop j).take n) else none
      | _ => none
    | _ => none
theorem compRes_nil {P : Program} : ∀ {rv : List ResultVar}, compRes P rv = some [] → rv = []
  | [], _ => rfl
  | .tmp t :: r, h => by
    simp only [compRes, Option.map_eq_some_iff] at h
    obtain ⟨l, _, h⟩ := h
    cases h
  | .cell p ty :: r, h => by
    simp only [compRes] at h
    split at h
    · split at h <;> cases h
    · cases h
theorem res1_run {P : Program} {w0 w : World} {N0 NA : Nat → Prop} {ρ : Nat → Option Nat} {H : Nat → Option Blk} {T : Nat → SV} {tmps : Array Value} (h : RepH w0 N0 NA ρ H w) (ht : ∀ i, RepS w NA ρ H (T i) (tmps.getD i undef)) {rv : List ResultVar} {sr : SRes} {x : SV}
    (hc : compRes P rv = some [sr]) (hx : resS1 T H sr = some x) : ∃ v, (rv.mapM (resOne tmps)).run P w = .ok [v] w ∧ RepS w NA ρ H x v := by
  cases rv with
  | nil => cases hc
  | cons r0 r =>
  cases r0 with
  | tmp t =>
    simp only [compRes, Option.map_eq_some_iff] at hc
    obtain ⟨l, hl, hc⟩ := hc
    cases hc
    have := compRes_nil hl
    subst this
    simp only [resS1, Option.some.injEq] at hx
    subst hx
    exact ⟨_, by simp [List.mapM_cons, resOne], ht t⟩
  | cell p ty =>
    simp only [compRes] at hc
    split at hc
    case h_2 => cases hc
    case h_1 ag n l ha hn hl =>
    split at hc
    case isFalse => cases hc
    case isTrue hag =>
    cases hc
    have := compRes_nil hl
    subst this
    simp only [resS1] at hx
    split at hx
    case h_2 => cases hx
    case h_1 id j hp =>
    split at hx
    case h_2 => cases hx
    case h_1 t cs hH =>
    split at hx
    case isFalse => cases hx
    case isTrue hj =>
    have hpt := ht p
    rw [hp] at hpt
    generalize hv : tmps.getD p undef = v at hpt
    cases hpt with
    | ptrB _ _ t' cells b hH' hb =>
      rw [hH] at hH'; cases hH'
      obtain ⟨b', cc, e1, e2, e3, e4⟩ := h.blk id _ hH
      rw [hb] at e1; cases e1
      obtain ⟨u, hu1, hu2⟩ := rep_mk (P := P) (j := j) cs ag ha hn hag e2 ⟨by simpa using e3, fun i x v hx hv => e4 i x v hx (by simpa using hv)⟩ hj hx
      exact ⟨u, by simp only [List.mapM_cons, List.mapM_nil, resOne, Sem.run_bind, hv, asAddr, Sem.run_pure, Result.andThen_ok, hu1], hu2⟩
theorem results1 {P : Program} {w : World} {fn : Func} {tmps : Array Value} {v : Value} (h : (fn.results.toList.mapM (resOne tmps)).run P w = .ok [v] w) : (results fn tmps).run P w = .ok v w := by
  have := results_eq h
  simpa using this
def retF (sr : SRes) (sh : FSh) (t : TypeId) (k : Nat) (rows : List (List CV)) (e : Exit) (T : TL) (H : HL) : Prop :=
  (e = .normal ∨ e = .ret) ∧ ∃ id, resS1 (lookT T) (lookH H) sr = some (holeS sh id rows.length) ∧ lookH H id = some (.arr t k rows)
theorem retF_ret {sr : SRes} {sh : FSh} {t : TypeId} {k : Nat} {rows : List (List CV)} {T : TL} {H : HL} (h : ∃ id, resS1 (lookT T) (lookH H) sr = some (holeS sh id rows.length) ∧ lookH H id = some (.arr t k rows)) : retF sr sh t k rows .ret T H := ⟨.inr rfl, h⟩
theorem fc_of {P : Program} {f : FuncId} {fn : Func} {c : Code} {sc : SCode} {sr : SRes} {cs : List CV} {sh : FSh} {t : TypeId} {k : Nat} {rows : List (List CV)} (M : List FuncId) (hm : P.follows .mixedOrders = true) (hf : P.funcs[f]? = some fn) (hb : fn.body = some c) {n : Nat} (hn : fn.ntmps = n) (hn2 : n ≤ 1000)
    (hcomp : compCode P M n c = some sc.erase) (hres : compRes P fn.results.toList = some [sr]) (hle : cs.length ≤ n) (h : STri (cfF P M n) sc (initT 0 cs) [] (retF sr sh t k rows)) : FC P f cs sh t k rows := fun w NA vs hna hs hv => by
  have e0 : tot (fun _ => none) (lookH []) = fun _ => none := by funext i; rfl
  have st0 : StAt (cfF P M n) ⟨w, fun _ => False, NA, w, fun _ => none, fun _ => none, hna, fun _ _ h => h⟩ (initT 0 cs) [] { tmps := vs ++ Array.replicate (fn.ntmps - vs.size) undef, defers := [] } w (fun _ => none) (fun _ => none) := by
    refine ⟨rfl, fun id t cells h => by simp at h, fun _ _ => rfl, fun _ _ _ => rfl, fun _ _ => rfl, .inl rfl, fun i hi => absurd rfl hi, fun i hi => absurd rfl hi, ⟨?_, ⟨?_, ?_, ⟨rfl, rfl, rfl, Nat.le_refl _, fun _ _ _ => rfl⟩, ?_⟩, fun i => ?_⟩, fun _ _ h => h.elim, ?_, [], rfl, List.nodup_nil, fun D hD => by cases hD⟩
    · show _ = n
      simp; omega
    · intro i j b h1; exact absurd (by rw [e0]) h1
    · intro id B hB; rw [e0] at hB; cases hB
    · rintro b ⟨i, h1, _⟩; exact absurd (by rw [e0]) h1
    · rw [initT_get, if_pos (Nat.zero_le _), Nat.sub_zero]
      cases hc : cs[i]? with
      | none => exact .dead _
      | some x =>
        have hi : i < vs.size := by rw [hs]; exact (List.getElem?_eq_some_iff.1 hc).1
        have : (vs ++ Array.replicate (fn.ntmps - vs.size) undef).getD i undef = vs[i] := by simp [hi, Array.getElem?_append_left hi]
        rw [this]
        refine .c x _ ((hv i x _ hc (Array.getElem?_eq_getElem hi)).move ⟨Nat.le_refl _, fun b _ hb => ⟨rfl, fun hm => ?_⟩⟩)
        rcases hm with hm | ⟨i, h1, _⟩
        · exact hb hm
        · exact h1 (by rw [e0])
    · rw [e0]; exact Trans.refl _ _ _ _
  refine calls_of_st (cf := cfF P M n) (cfF_ok P M n hn2) hm hf hb hcomp h (cx := ⟨w, fun _ => False, NA, w, fun _ => none, fun _ => none, hna, fun _ _ h => h⟩) (fun _ _ _ _ => rfl) (fun _ _ _ => rfl) (Nat.le_refl _) ⟨_, _, st0⟩ (fun e T' H' tmps w' F ρ hq st => ?_)
  obtain ⟨he, id, hx, hid⟩ := hq
  refine ⟨he, ?_⟩
  have hF : F = fun _ => none := st.iv
  subst hF
  have e1 : tot (fun _ => none) (lookH H') = lookH H' := by
    funext i
    cases h : lookH H' i with
    | none => rw [tot_none h]
    | some B => rw [tot_some h]
  have q1 := st.rep.heap
  have q2 := st.rep.tmp
  rw [e1] at q1 q2
  obtain ⟨v, u1, u2⟩ := res1_run (P := P) q1 q2 hres hx
  have hrun := results1 (P := P) u1
  have hext : Ext w w' := ⟨q1.fr.os, q1.fr.tape, q1.fr.output, q1.fr.size, fun b hb => q1.fr.block b hb (fun h => h)⟩
  have own : ∀ b, ρ id = some b → Own ρ (lookH H') b := fun b hb => ⟨id, by rw [hid]; simp, hb⟩
  have hmu : ∀ b, Mut NA (fun _ => ρ id) (one1 t k rows) b → Mut NA ρ (lookH H') b := fun b hm => by
    rcases mut_one.1 hm with h | h
    · exact .inl h
    · exact .inr (own b h)
  refine ⟨v, hrun, v, ρ id, rfl, hext, fun b hb => ?_, ?_, hole_mv hid (by simp [one1]) rfl hmu u2⟩
  · rcases Nat.lt_or_ge b w.heap.size with h | h
    · exact (q1.low b (own b hb) h).elim
    · exact h
  · rcases q1.blk id _ hid with ⟨b1, b2⟩ | ⟨b, cs, cap, b1, b2, b3, b4, b5, b6, b7⟩
    · exact .inl ⟨b1, b2⟩
    · exact .inr ⟨b, cs, cap, b1, b2, b3, b4, b5, b6, fun j row i x hr hx => by
        obtain ⟨v, c1, c2⟩ := b7 j row i x hr hx
        exact ⟨v, c1, rep_sub hmu c2⟩⟩
def off1 : SV → SV
  | .c x => .c x
  | .own id len => if id = 900 then .dead else .own id len
  | _ => .dead
def offX : SV → SV
  | .agg xs => .agg (xs.map off1)
  | x => off1 x
def retO (sr : SRes) (t : TypeId) (k : Nat) (rows : List (List CV)) (r : CV) (e : Exit) (T : TL) (H : HL) : Prop :=
  (e = .normal ∨ e = .ret) ∧ lookH H 900 = some (.arr t k rows) ∧ ∃ x y, resS1 (lookT T) (lookH H) sr = some x ∧ close (arr9 H) (offX x) = some y ∧ CLe y r
theorem retO_ret {sr : SRes} {t : TypeId} {k : Nat} {rows : List (List CV)} {r : CV} {T : TL} {H : HL} (h : lookH H 900 = some (.arr t k rows) ∧ ∃ x y, resS1 (lookT T) (lookH H) sr = some x ∧ close (arr9 H) (offX x) = some y ∧ CLe y r) : retO sr t k rows r .ret T H := ⟨.inr rfl, h⟩
theorem ms_of {P : Program} {f : FuncId} {fn : Func} {c : Code} {sc : SCode} {sr : SRes} {t : TypeId} {k : Nat} {rows : List (List CV)} {sh : FSh} {cs : List CV} {r : CV} (M : List FuncId) (hm : P.follows .mixedOrders = true) (hf : P.funcs[f]? = some fn) (hb : fn.body = some c) {n : Nat} (hn : fn.ntmps = n) (hn2 : n ≤ 1000)
    (hcomp : compCode P M n c = some sc.erase) (hres : compRes P fn.results.toList = some [sr]) (hle : cs.length + 1 ≤ n) (h : STri (cfM P M n) sc ((0, holeS sh 900 rows.length) :: initT 1 cs) [(900, .arr t k rows)] (retO sr t k rows r)) : MS P f sh cs t k rows r := fun w NA p v0 vs hna hnp hB hv0 hs hv => by
  have e0 : tot (fun _ => none) (lookH [(900, .arr t k rows)]) = one1 t k rows := by
    funext i
    by_cases hi : i = 900
    · subst hi; rfl
    · simp [tot, lookH, one1, hi]
  have st0 : StAt (cfM P M n) ⟨w, fun b => p = some b, NA, w, fun _ => p, one1 t k rows, hna, fun b h1 h2 => hnp b h2 h1⟩ ((0, holeS sh 900 rows.length) :: initT 1 cs) [(900, .arr t k rows)] { tmps := (#[v0] ++ vs) ++ Array.replicate (fn.ntmps - (#[v0] ++ vs).size) undef, defers := [] } w (fun _ => none) (fun _ => p) := by
    refine ⟨rfl, fun id t cells h => by simp at h, fun _ _ => rfl, (fun h => by cases h), fun _ _ => rfl, .inl ?_, fun i hi => ?_, fun i hi => absurd rfl hi, ⟨?_, ⟨?_, ?_, ⟨rfl, rfl, rfl, Nat.le_refl _, fun _ _ _ => rfl⟩, ?_⟩, fun i => ?_⟩, fun _ _ h => h.elim, ?_, [], rfl, List.nodup_nil, fun D hD => by cases hD⟩
    · simp [lookH, cfM]
    · left
      by_cases e : i = 900
      · subst e; simp [cfM]
      · simp [lookH, e] at hi
    · show _ = n
      simp at hs ⊢; omega
    · rw [e0]
      intro i j b h1 h2 _ _
      have : ∀ i, one1 t k rows i ≠ none → i = 900 := fun i hi => by
        by_cases e : i = 900
        · exact e
        · simp [one1, e] at hi
      rw [this i h1, this j h2]
    · rw [e0]
      intro id B hid
      by_cases e : id = 900
      · subst e; simp [one1] at hid; subst hid; exact hB
      · simp [one1, e] at hid
    · rintro b ⟨i, h1, h2⟩ _
      exact h2
    · rw [e0]
      cases i with
      | zero =>
        show RepS _ _ _ _ (holeS sh 900 rows.length) _
        have : ((#[v0] ++ vs) ++ Array.replicate (fn.ntmps - (#[v0] ++ vs).size) undef).getD 0 undef = v0 := by
          rw [Array.getD_eq_getD_getElem?, Array.getElem?_append_left (by simp; omega), Array.getElem?_append_left (by simp)]
          rfl
        rw [this]
        exact hv0
      | succ i =>
        have e1 : lookT ((0, holeS sh 900 rows.length) :: initT 1 cs) (i + 1) = lookT (initT 1 cs) (i + 1) := by simp [lookT]
        rw [e1, initT_get, if_pos (by omega), Nat.add_sub_cancel]
        cases hc : cs[i]? with
        | none => exact .dead _
        | some x =>
          have hi : i < vs.size := by rw [hs]; exact (List.getElem?_eq_some_iff.1 hc).1
          have : ((#[v0] ++ vs) ++ Array.replicate (fn.ntmps - (#[v0] ++ vs).size) undef).getD (i + 1) undef = vs[i] := by
            rw [Array.getD_eq_getD_getElem?, Array.getElem?_append_left (by simp; omega), Array.getElem?_append_right (by simp)]
            simp [hi]
          rw [this]
          refine .c x _ (rep_sub (fun b hb => mut_one.1 hb) (hv i x _ hc (Array.getElem?_eq_getElem hi)))
    · rw [e0]; exact Trans.refl _ _ _ _
  refine calls_of_st (cf := cfM P M n) (cfM_ok P M n hn2) hm hf hb hcomp h (cx := ⟨w, fun b => p = some b, NA, w, fun _ => p, one1 t k rows, hna, fun b h1 h2 => hnp b h2 h1⟩) (fun i _ _ hi => by
    by_cases e : i = 900
    · subst e; exact absurd (by simp [cfM]) hi
    · simp [one1, e]) (fun h => by cases h) (Nat.le_refl _) ⟨_, _, st0⟩ (fun e T' H' tmps w' F ρ hq st => ?_)
  obtain ⟨he, hH9, x, y, hx1, hx2, hle⟩ := hq
  refine ⟨he, ?_⟩
  have hF : F = fun _ => none := st.iv
  subst hF
  have e1 : tot (fun _ => none) (lookH H') = lookH H' := by
    funext i
    cases h : lookH H' i with
    | none => rw [tot_none h]
    | some B => rw [tot_some h]
  have q1 := st.rep.heap
  have q2 := st.rep.tmp
  have q3 := st.tr
  rw [e1] at q1 q2 q3
  obtain ⟨rows2, g1, g2, g3⟩ := (q3.2 900).2 t k rows (by simp [one1])
  rw [hH9] at g1
  cases g1
  obtain ⟨hρ, hcell⟩ := g3 rfl
  have hρ' : ρ 900 = p := hρ
  have hB9 := q1.blk 900 _ hH9
  have own : ∀ b, Mut (fun b => NA b ∨ p = some b) ρ (arr9 H') b → Mut NA ρ (lookH H') b := fun b hb => by
    rcases hb with (hb | hb) | ⟨i, h1, h2⟩
    · exact .inl hb
    · exact .inr ⟨900, by rw [hH9]; simp, hρ'.trans hb⟩
    · refine .inr ⟨i, fun hn => h1 ?_, h2⟩
      unfold arr9
      split
      · rfl
      · rw [hn]
  have sub : ∀ i B, arr9 H' i = some B → i ≠ 900 ∧ lookH H' i = some B ∧ ∃ t k rows, B = .arr t k rows := fun i B hi => by
    unfold arr9 at hi
    split at hi
    · cases hi
    · rename_i hne
      split at hi
      · rename_i t k rows hl
        cases hi
        exact ⟨hne, hl, t, k, rows, rfl⟩
      · cases hi
  have ne9 : ∀ i, arr9 H' i ≠ none → i ≠ 900 ∧ lookH H' i ≠ none := fun i hi => by
    cases hB : arr9 H' i with
    | none => exact absurd hB hi
    | some B => obtain ⟨a1, a2, _⟩ := sub i B hB; exact ⟨a1, by rw [a2]; simp⟩
  have r1 : RepH w (fun b => p = some b) (fun b => NA b ∨ p = some b) ρ (arr9 H') w' := by
    refine ⟨fun i j b h1 h2 => q1.inj i j b (ne9 i h1).2 (ne9 j h2).2, fun id B hid => ?_, q1.fr, fun b ⟨i, h1, h2⟩ => q1.low b ⟨i, (ne9 i h1).2, h2⟩⟩
    obtain ⟨a1, a2, t2, k2, rows2, rfl⟩ := sub id B hid
    rcases q1.blk id _ a2 with ⟨b1, b2⟩ | ⟨b, cs, cap, b1, b2, b3, b4, b5, b6, b7⟩
    · exact .inl ⟨b1, b2⟩
    · exact .inr ⟨b, cs, cap, b1, b2, b3, b4, b5, b6, fun j row i x hr hx => by
        obtain ⟨v, c1, c2⟩ := b7 j row i x hr hx
        exact ⟨v, c1, rep_sub own c2⟩⟩
  have r2 : ∀ x v, RepS w' NA ρ (lookH H') x v → RepS w' (fun b => NA b ∨ p = some b) ρ (arr9 H') (off1 x) v := fun x v hi => by
    cases hi with
    | c x v hx => exact .c _ _ (rep_sub own hx)
    | own id len t2 k2 rows2 v a1 a2 a3 a4 =>
      simp only [off1]
      split
      · exact .dead _
      · rename_i hne
        exact .own id len t2 k2 rows2 v (by unfold arr9; rw [if_neg hne, a1]) a2 a3 a4
    | _ => exact .dead _
  have r3 : ∀ x v, RepS w' NA ρ (lookH H') x v → RepS w' (fun b => NA b ∨ p = some b) ρ (arr9 H') (offX x) v := fun x v hi => by
    cases x with
    | agg xs =>
      cases hi with
      | agg _ vs h1 h2 =>
        refine .agg _ vs (by simpa using h1) (fun i x u hx hu => ?_)
        rw [List.getElem?_map, Option.map_eq_some_iff] at hx
        obtain ⟨y, hy, rfl⟩ := hx
        exact r2 _ _ (h2 i y u hy hu)
    | _ => exact r2 _ _ hi
  obtain ⟨v, u1, u2⟩ := res1_run (P := P) q1 q2 hres hx1
  have hrun := results1 (P := P) u1
  obtain ⟨_, g2', _⟩ := closeAll_rep r1 (RepL.cons (r3 _ _ u2) RepL.nil) (cs := [y]) (by simp only [closeAll, hx2])
  have hcalm : Calm w' (fun b => (NA b ∨ p = some b) ∧ ¬ Own ρ (arr9 H') b) w' (fun b => NA b ∨ p = some b) := ⟨Nat.le_refl _, fun b _ hb => ⟨rfl, fun hm => hb ⟨hm, fun ho => by
    obtain ⟨i, h1, h2⟩ := ho
    obtain ⟨a1, a2⟩ := ne9 i h1
    rcases hm with hm | hm
    · exact hnp b (q1.low b ⟨i, a2, h2⟩ (hna b hm)) hm
    · exact a1 (q1.inj i 900 b a2 (by rw [hH9]; simp) h2 (hρ'.trans hm))⟩⟩⟩
  have hrep : RepC w' (fun b => NA b ∨ p = some b) y v := (g2' 0 _ _ rfl rfl).move hcalm
  refine ⟨v, hrun, v, rfl, ?_, fun b cs t' hb hc => hcell b cs t' hb hc, ⟨q1.fr.os, q1.fr.tape, q1.fr.output, q1.fr.size, fun b hb hne => q1.fr.block b hb (fun e => hne e.symm)⟩, hle.rep hrep⟩
  have sub1 : ∀ b, Mut NA (fun _ => p) (one1 t k rows) b → Mut NA ρ (lookH H') b := fun b hb => by
    rcases mut_one.1 hb with hb | hb
    · exact .inl hb
    · exact .inr ⟨900, by rw [hH9]; simp, hρ'.trans hb⟩
  rcases hB9 with ⟨b1, b2⟩ | ⟨b, cs, cap, b1, b2, b3, b4, b5, b6, b7⟩
  · exact .inl ⟨by rw [← hρ']; exact b1, b2⟩
  · exact .inr ⟨b, cs, cap, by show p = some b; rw [← hρ']; exact b1, b2, b3, b4, b5, b6, fun j row i x hr hx => by
      obtain ⟨v, c1, c2⟩ := b7 j row i x hr hx
      exact ⟨v, c1, rep_sub sub1 c2⟩⟩
theorem callG_b {P : Program} {site : Nat} {f : FuncId} {vs : List SV} {H : HL} {K : SV → Option (Nat × Blk) → Prop} {cs : List CV} {r : CV} (h : SC P f cs r) (hc : closeAll (lookH H) vs = some cs) (hp : (vs.all SV.pure || flatV r) = true) (hK : K (openC r) none) : callGP P site f vs H K .mk := callG_c h hc (flatV_or hp) hK
attribute [simp] holeS holeX off1 offX resS1
end Go.Proofs.Ytnfggkopledpcaa
/- The shadow code of functions whose calls are treated by themselves. -/
namespace Go.Proofs.Ytnfggkopledpcaa
open Go.RowKit
def fresh : List FuncId := [1000000 + 13, 1000000 + 24]
def g_turretlaw04_DialSteady_0 : SCode := .reg [⟨(some 3), none, .box 57 (.tmp 0), [], false⟩,
  ⟨(some 6), none, .mov (.const (.bool false)), [], false⟩] [1, 2, 3]
def g_turretlaw04_DialSteady_1 : SCode := .reg [⟨(some 20), none, .load true 9 (.tmp 3), [], true⟩,
  ⟨(some 21), none, .callG 24 [(.tmp 20)], [], true⟩,
  ⟨(some 22), none, .load true 9 (.tmp 3), [1], true⟩,
  ⟨(some 23), none, .call 26 [(.tmp 22)], [], true⟩,
  ⟨(some 7), none, .alloc 26 [(.int .i64 0), (.int .i64 0), (.int .i64 0), (.slice none 0 0)], [0, 1, 2, 3], false⟩,
  ⟨(some 8), none, .alloc 23 [(.int .i64 0), (.int .i64 0)], [0, 1, 2, 3], false⟩,
  ⟨none, none, .store 4 (.tmp 7) (.tmp 21), [], false⟩,
  ⟨none, none, .store 2 (.tmp 8) (.tmp 23), [], false⟩] [1, 2, 7, 8]
def g_turretlaw04_DialSteady_2 : SCode := .reg [⟨(some 24), none, .mov (.tmp 1), [], false⟩,
  ⟨(some 25), none, .conv .i64 (.tmp 24), [], false⟩,
  ⟨(some 26), none, .fld 3 (.tmp 7), [], false⟩,
  ⟨(some 27), none, .load false 1 (.tmp 26), [], false⟩,
  ⟨(some 28), none, .len (.tmp 27), [], false⟩,
  ⟨(some 29), none, .bin .rem (.tmp 25) (.tmp 28), [], false⟩,
  ⟨(some 9), none, .mov (.tmp 29), [], false⟩] [2, 7, 8, 9]
def g_turretlaw04_DialSteady_3 : SCode := .reg [⟨(some 30), none, .fld 1 (.tmp 7), [], false⟩,
  ⟨(some 31), none, .fld 0 (.tmp 30), [], false⟩,
  ⟨(some 32), none, .load false 1 (.tmp 31), [], false⟩,
  ⟨(some 33), none, .fld 1 (.tmp 7), [], false⟩,
  ⟨(some 34), none, .fld 1 (.tmp 33), [], false⟩,
  ⟨none, none, .store 1 (.tmp 34) (.tmp 32), [], false⟩] [2, 7, 8, 9]
def g_turretlaw04_DialSteady_4 : SCode := .reg [⟨(some 35), none, .fld 3 (.tmp 7), [], false⟩,
  ⟨(some 36), none, .load false 1 (.tmp 35), [], false⟩,
  ⟨(some 37), none, .mov (.tmp 9), [], false⟩,
  ⟨(some 38), none, .fld 3 (.tmp 7), [], false⟩,
  ⟨(some 39), none, .load false 1 (.tmp 38), [], false⟩,
  ⟨(some 40), none, .mov (.tmp 9), [], false⟩,
  ⟨(some 41), none, .idxS 5 (.tmp 39) (.tmp 40), [], false⟩,
  ⟨(some 42), none, .fld 0 (.tmp 41), [], false⟩,
  ⟨(some 43), none, .fld 0 (.tmp 42), [], false⟩,
  ⟨(some 44), none, .load false 1 (.tmp 43), [], false⟩,
  ⟨(some 45), none, .idxS 5 (.tmp 36) (.tmp 37), [], false⟩,
  ⟨(some 46), none, .fld 0 (.tmp 45), [], false⟩,
  ⟨(some 47), none, .fld 1 (.tmp 46), [], false⟩,
  ⟨none, none, .store 1 (.tmp 47) (.tmp 44), [], false⟩] [2, 7, 8, 9]
def g_turretlaw04_DialSteady_5 : SCode := .reg [⟨(some 49), none, .fld 3 (.tmp 7), [], false⟩,
  ⟨(some 50), none, .load false 1 (.tmp 49), [], false⟩,
  ⟨(some 51), none, .mov (.tmp 9), [], false⟩,
  ⟨(some 52), none, .idxS 5 (.tmp 50) (.tmp 51), [], false⟩,
  ⟨(some 53), none, .load true 5 (.tmp 52), [], false⟩,
  ⟨(some 54), none, .call 35 [(.tmp 53)], [], false⟩,
  ⟨(some 55), none, .load true 2 (.tmp 8), [], false⟩,
  ⟨(some 56), none, .call 37 [(.tmp 54), (.tmp 55)], [], false⟩,
  ⟨(some 48), none, .mov (.tmp 56), [], false⟩,
  ⟨(some 57), none, .ext (.tmp 48) 0, [], false⟩,
  ⟨(some 58), none, .ext (.tmp 48) 1, [], false⟩,
  ⟨(some 59), none, .ext (.tmp 48) 2, [], false⟩,
  ⟨(some 10), none, .mov (.tmp 57), [], false⟩,
  ⟨(some 11), none, .mov (.tmp 58), [], false⟩,
  ⟨(some 12), none, .mov (.tmp 59), [], false⟩] [2, 7, 8, 9, 10, 11, 12]
def g_turretlaw04_DialSteady_6 : SCode := .reg [⟨(some 61), none, .fld 3 (.tmp 7), [], false⟩,
  ⟨(some 62), none, .load false 1 (.tmp 61), [], false⟩,
  ⟨(some 63), none, .mov (.tmp 9), [], false⟩,
  ⟨(some 64), none, .idxS 5 (.tmp 62) (.tmp 63), [], false⟩,
  ⟨(some 65), none, .load true 5 (.tmp 64), [], false⟩,
  ⟨(some 66), none, .call 35 [(.tmp 65)], [], false⟩,
  ⟨(some 67), none, .call 34 [(.tmp 66)], [], false⟩,
  ⟨(some 60), none, .mov (.tmp 67), [], false⟩,
  ⟨(some 68), none, .ext (.tmp 60) 0, [], false⟩,
  ⟨(some 69), none, .ext (.tmp 60) 1, [], false⟩,
  ⟨(some 13), none, .mov (.tmp 68), [], false⟩,
  ⟨(some 14), none, .mov (.tmp 69), [], false⟩] [2, 7, 8, 9, 10, 11, 12, 13, 14]
def g_turretlaw04_DialSteady_7 : SCode := .reg [⟨(some 70), none, .mov (.tmp 12), [], false⟩,
  ⟨(some 71), none, .bin .neq (.tmp 70) (.const (.int .i64 0)), [], false⟩,
  ⟨(some 72), none, .mov (.tmp 71), [], false⟩,
  ⟨(some 73), (some (72, false)), .mov (.tmp 14), [], false⟩,
  ⟨(some 74), (some (72, false)), .bin .neq (.tmp 73) (.const (.int .i64 0)), [], false⟩,
  ⟨(some 75), none, .pick (.tmp 72) (.const (.bool true)) (.tmp 74), [], false⟩,
  ⟨(some 76), none, .mov (.tmp 75), [], false⟩,
  ⟨(some 77), (some (76, false)), .mov (.tmp 10), [], false⟩,
  ⟨(some 78), (some (76, false)), .bin .lss (.tmp 77) (.const (.int .i64 1)), [], false⟩,
  ⟨(some 79), none, .pick (.tmp 76) (.const (.bool true)) (.tmp 78), [], false⟩,
  ⟨(some 80), none, .mov (.tmp 79), [], false⟩,
  ⟨(some 81), (some (80, false)), .mov (.tmp 11), [], false⟩,
  ⟨(some 82), (some (80, false)), .bin .gtr (.tmp 81) (.const (.int .i64 (-1))), [], false⟩,
  ⟨(some 83), none, .pick (.tmp 80) (.const (.bool true)) (.tmp 82), [], false⟩] [2, 7, 8, 9, 10, 11, 13, 83]
def g_turretlaw04_DialSteady_8 : SCode := .reg [⟨(some 6), none, .mov (.const (.bool false)), [], false⟩] [6]
def g_turretlaw04_DialSteady_9 : SCode := .seq g_turretlaw04_DialSteady_8 .ret
def g_turretlaw04_DialSteady_10 : SCode := .cond (.tmp 83) g_turretlaw04_DialSteady_9 .skip
def g_turretlaw04_DialSteady_11 : SCode := .seq g_turretlaw04_DialSteady_7 g_turretlaw04_DialSteady_10
def g_turretlaw04_DialSteady_12 : SCode := .reg [⟨(some 15), none, .mov (.const (.int .i64 0)), [], false⟩] [2, 7, 8, 9, 10, 11, 13, 15]
def g_turretlaw04_DialSteady_13 : SCode := .reg [⟨(some 84), none, .mov (.tmp 15), [], false⟩,
  ⟨(some 85), none, .bin .lss (.tmp 84) (.const (.int .i64 3)), [], false⟩] [2, 7, 8, 9, 10, 11, 13, 15, 85]
def g_turretlaw04_DialSteady_14 : SCode := .cond (.tmp 85) .skip (.exit 0)
def g_turretlaw04_DialSteady_15 : SCode := .seq g_turretlaw04_DialSteady_13 g_turretlaw04_DialSteady_14
def g_turretlaw04_DialSteady_16 : SCode := .reg [⟨(some 88), none, .fld 3 (.tmp 7), [], false⟩,
  ⟨(some 89), none, .load false 1 (.tmp 88), [], false⟩,
  ⟨(some 90), none, .mov (.tmp 9), [], false⟩,
  ⟨(some 91), none, .mov (.tmp 10), [], false⟩,
  ⟨(some 92), none, .mov (.tmp 2), [], false⟩,
  ⟨(some 93), none, .conv .i64 (.tmp 92), [], false⟩,
  ⟨(some 94), none, .bin .add (.tmp 91) (.tmp 93), [], false⟩,
  ⟨(some 95), none, .mov (.tmp 11), [], false⟩,
  ⟨(some 96), none, .mov (.tmp 2), [], false⟩,
  ⟨(some 97), none, .conv .i64 (.tmp 96), [], false⟩,
  ⟨(some 98), none, .bin .sub (.tmp 95) (.tmp 97), [], false⟩,
  ⟨(some 99), none, .mov (.tmp 11), [], false⟩,
  ⟨(some 100), none, .bin .add (.tmp 99) (.const (.int .i64 1)), [], false⟩,
  ⟨(some 101), none, .mov (.tmp 2), [], false⟩,
  ⟨(some 102), none, .conv .i64 (.tmp 101), [], false⟩,
  ⟨(some 103), none, .mov (.tmp 10), [], false⟩,
  ⟨(some 104), none, .mov (.tmp 11), [], false⟩,
  ⟨(some 105), none, .bin .sub (.tmp 103) (.tmp 104), [], false⟩,
  ⟨(some 106), none, .bin .sub (.tmp 105) (.const (.int .i64 1)), [], false⟩,
  ⟨(some 107), none, .bin .rem (.tmp 102) (.tmp 106), [], false⟩,
  ⟨(some 108), none, .bin .add (.tmp 100) (.tmp 107), [], false⟩,
  ⟨(some 109), none, .build [(.int .i64 0), (.int .i64 0), (.int .i64 0)] [(0, 1, (.tmp 94)), (1, 1, (.tmp 98)), (2, 1, (.tmp 108))], [], false⟩,
  ⟨(some 110), none, .mov (.tmp 15), [], false⟩,
  ⟨(some 111), none, .index 3 1 false (.tmp 109) (.tmp 110), [], false⟩,
  ⟨(some 112), none, .idxS 5 (.tmp 89) (.tmp 90), [], false⟩,
  ⟨(some 113), none, .fld 3 (.tmp 112), [], false⟩,
  ⟨none, none, .store 1 (.tmp 113) (.tmp 111), [], false⟩] [2, 7, 8, 9, 10, 11, 13, 15]
def g_turretlaw04_DialSteady_17 : SCode := .reg [⟨(some 16), none, .mov (.const (.int .i64 0)), [], false⟩] [2, 7, 8, 9, 10, 11, 13, 15, 16]
def g_turretlaw04_DialSteady_18 : SCode := .reg [⟨(some 17), none, .mov (.const (.int .i64 0)), [], false⟩] [2, 7, 8, 9, 10, 11, 13, 15, 16, 17]
def g_turretlaw04_DialSteady_19 : SCode := .reg [⟨(some 114), none, .mov (.tmp 17), [], false⟩,
  ⟨(some 115), none, .bin .lss (.tmp 114) (.const (.int .i64 2)), [], false⟩] [2, 7, 8, 9, 10, 11, 13, 15, 16, 17, 115]
def g_turretlaw04_DialSteady_20 : SCode := .cond (.tmp 115) .skip (.exit 2)
def g_turretlaw04_DialSteady_21 : SCode := .seq g_turretlaw04_DialSteady_19 g_turretlaw04_DialSteady_20
def g_turretlaw04_DialSteady_22 : SCode := .reg [⟨(some 119), none, .load true 4 (.tmp 7), [], true⟩,
  ⟨(some 120), none, .callG 13 [(.tmp 119)], [], true⟩,
  ⟨(some 121), none, .mov (.tmp 9), [], false⟩,
  ⟨(some 122), none, .mov (.tmp 17), [], false⟩,
  ⟨(some 123), none, .bin .mul (.const (.int .i64 1800)) (.tmp 122), [], false⟩,
  ⟨(some 124), none, .bin .add (.const (.int .i64 86400)) (.tmp 123), [], false⟩,
  ⟨(some 125), none, .bin .add (.tmp 124) (.const (.int .i64 900)), [], false⟩,
  ⟨(some 126), none, .load true 2 (.tmp 8), [1], true⟩,
  ⟨(some 127), none, .call 14 [(.tmp 120), (.tmp 121), (.tmp 125), (.tmp 126)], [], true⟩,
  ⟨(some 118), none, .mov (.tmp 127), [], false⟩,
  ⟨(some 128), none, .ext (.tmp 118) 0, [], false⟩,
  ⟨(some 129), none, .ext (.tmp 118) 1, [], false⟩,
  ⟨(some 18), none, .alloc 23 [(.int .i64 0), (.int .i64 0)], [0, 1, 7, 8], false⟩,
  ⟨none, none, .store 2 (.tmp 18) (.tmp 128), [], false⟩,
  ⟨(some 19), none, .mov (.tmp 129), [], false⟩] [2, 7, 8, 9, 10, 11, 13, 15, 16, 17, 18, 19]
def g_turretlaw04_DialSteady_23 : SCode := .reg [⟨(some 130), none, .mov (.tmp 19), [], false⟩,
  ⟨(some 131), none, .bin .neq (.tmp 130) (.const (.int .i64 0)), [], false⟩] [2, 7, 8, 9, 10, 11, 13, 15, 16, 17, 18, 131]
def g_turretlaw04_DialSteady_24 : SCode := .reg [⟨(some 6), none, .mov (.const (.bool false)), [], false⟩] [6]
def g_turretlaw04_DialSteady_25 : SCode := .seq g_turretlaw04_DialSteady_24 .ret
def g_turretlaw04_DialSteady_26 : SCode := .cond (.tmp 131) g_turretlaw04_DialSteady_25 .skip
def g_turretlaw04_DialSteady_27 : SCode := .seq g_turretlaw04_DialSteady_23 g_turretlaw04_DialSteady_26
def g_turretlaw04_DialSteady_28 : SCode := .reg [⟨(some 132), none, .mov (.tmp 16), [], false⟩,
  ⟨(some 133), none, .fld 1 (.tmp 18), [], false⟩,
  ⟨(some 134), none, .load false 1 (.tmp 133), [], false⟩,
  ⟨(some 135), none, .fld 0 (.tmp 18), [], false⟩,
  ⟨(some 136), none, .load false 1 (.tmp 135), [], false⟩,
  ⟨(some 137), none, .bin .sub (.tmp 134) (.tmp 136), [], false⟩,
  ⟨(some 138), none, .max [(.tmp 132), (.tmp 137)], [], false⟩,
  ⟨(some 16), none, .mov (.tmp 138), [], false⟩] [2, 7, 8, 9, 10, 11, 13, 15, 16, 17]
def g_turretlaw04_DialSteady_29 : SCode := .seq g_turretlaw04_DialSteady_27 g_turretlaw04_DialSteady_28
def g_turretlaw04_DialSteady_30 : SCode := .seq g_turretlaw04_DialSteady_22 g_turretlaw04_DialSteady_29
def g_turretlaw04_DialSteady_31 : SCode := .block 3 g_turretlaw04_DialSteady_30
def g_turretlaw04_DialSteady_32 : SCode := .reg [⟨(some 116), none, .mov (.tmp 17), [], false⟩,
  ⟨(some 117), none, .bin .add (.tmp 116) (.const (.int .i64 1)), [], false⟩,
  ⟨(some 17), none, .mov (.tmp 117), [], false⟩] [2, 7, 8, 9, 10, 11, 13, 15, 16, 17]
def g_turretlaw04_DialSteady_33 : SCode := .seq g_turretlaw04_DialSteady_31 g_turretlaw04_DialSteady_32
def g_turretlaw04_DialSteady_34 : SCode := .seq g_turretlaw04_DialSteady_21 g_turretlaw04_DialSteady_33
def g_turretlaw04_DialSteady_35 : SCode := .loop g_turretlaw04_DialSteady_34
def g_turretlaw04_DialSteady_36 : SCode := .block 2 g_turretlaw04_DialSteady_35
def g_turretlaw04_DialSteady_37 : SCode := .seq g_turretlaw04_DialSteady_18 g_turretlaw04_DialSteady_36
def g_turretlaw04_DialSteady_38 : SCode := .reg [⟨(some 139), none, .mov (.tmp 15), [], false⟩,
  ⟨(some 140), none, .bin .lss (.tmp 139) (.const (.int .i64 2)), [], false⟩,
  ⟨(some 141), none, .mov (.tmp 140), [], false⟩,
  ⟨(some 142), (some (141, true)), .mov (.tmp 16), [], false⟩,
  ⟨(some 143), (some (141, true)), .bin .neq (.tmp 142) (.const (.int .i64 0)), [], false⟩,
  ⟨(some 144), none, .pick (.tmp 141) (.tmp 143) (.const (.bool false)), [], false⟩,
  ⟨(some 145), none, .mov (.tmp 144), [], false⟩,
  ⟨(some 146), (some (145, false)), .mov (.tmp 15), [], false⟩,
  ⟨(some 147), (some (145, false)), .bin .eql (.tmp 146) (.const (.int .i64 2)), [], false⟩,
  ⟨(some 148), (some (145, false)), .mov (.tmp 147), [], false⟩,
  ⟨(some 149), (some (148, true)), .fld 0 (.tmp 8), [], false⟩,
  ⟨(some 150), (some (148, true)), .load false 1 (.tmp 149), [], false⟩,
  ⟨(some 151), (some (148, true)), .bin .leq (.tmp 150) (.const (.int .i64 0)), [], false⟩,
  ⟨(some 152), (some (145, false)), .pick (.tmp 148) (.tmp 151) (.const (.bool false)), [], false⟩,
  ⟨(some 153), (some (145, false)), .mov (.tmp 152), [], false⟩,
  ⟨(some 154), (some (153, true)), .fld 1 (.tmp 8), [], false⟩,
  ⟨(some 155), (some (153, true)), .load false 1 (.tmp 154), [], false⟩,
  ⟨(some 156), (some (153, true)), .bin .geq (.tmp 155) (.const (.int .i64 0)), [], false⟩,
  ⟨(some 157), (some (145, false)), .pick (.tmp 153) (.tmp 156) (.const (.bool false)), [], false⟩,
  ⟨(some 158), (some (145, false)), .mov (.tmp 157), [], false⟩,
  ⟨(some 159), (some (158, true)), .mov (.tmp 16), [], false⟩,
  ⟨(some 160), (some (158, true)), .mov (.tmp 13), [], false⟩,
  ⟨(some 161), (some (158, true)), .bin .neq (.tmp 159) (.tmp 160), [], false⟩,
  ⟨(some 162), (some (145, false)), .pick (.tmp 158) (.tmp 161) (.const (.bool false)), [], false⟩,
  ⟨(some 163), none, .pick (.tmp 145) (.const (.bool true)) (.tmp 162), [], false⟩] [2, 7, 8, 9, 10, 11, 13, 15, 163]
def g_turretlaw04_DialSteady_39 : SCode := .reg [⟨(some 6), none, .mov (.const (.bool false)), [], false⟩] [6]
def g_turretlaw04_DialSteady_40 : SCode := .seq g_turretlaw04_DialSteady_39 .ret
def g_turretlaw04_DialSteady_41 : SCode := .cond (.tmp 163) g_turretlaw04_DialSteady_40 .skip
def g_turretlaw04_DialSteady_42 : SCode := .seq g_turretlaw04_DialSteady_38 g_turretlaw04_DialSteady_41
def g_turretlaw04_DialSteady_43 : SCode := .seq g_turretlaw04_DialSteady_37 g_turretlaw04_DialSteady_42
def g_turretlaw04_DialSteady_44 : SCode := .seq g_turretlaw04_DialSteady_17 g_turretlaw04_DialSteady_43
def g_turretlaw04_DialSteady_45 : SCode := .seq g_turretlaw04_DialSteady_16 g_turretlaw04_DialSteady_44
def g_turretlaw04_DialSteady_46 : SCode := .block 1 g_turretlaw04_DialSteady_45
def g_turretlaw04_DialSteady_47 : SCode := .reg [⟨(some 86), none, .mov (.tmp 15), [], false⟩,
  ⟨(some 87), none, .bin .add (.tmp 86) (.const (.int .i64 1)), [], false⟩,
  ⟨(some 15), none, .mov (.tmp 87), [], false⟩] [2, 7, 8, 9, 10, 11, 13, 15]
def g_turretlaw04_DialSteady_48 : SCode := .seq g_turretlaw04_DialSteady_46 g_turretlaw04_DialSteady_47
def g_turretlaw04_DialSteady_49 : SCode := .seq g_turretlaw04_DialSteady_15 g_turretlaw04_DialSteady_48
def g_turretlaw04_DialSteady_50 : SCode := .loop g_turretlaw04_DialSteady_49
def g_turretlaw04_DialSteady_51 : SCode := .block 0 g_turretlaw04_DialSteady_50
def g_turretlaw04_DialSteady_52 : SCode := .seq g_turretlaw04_DialSteady_12 g_turretlaw04_DialSteady_51
def g_turretlaw04_DialSteady_53 : SCode := .reg [⟨(some 164), none, .call 12 [], [], false⟩,
  ⟨(some 6), none, .mov (.tmp 164), [], false⟩] [6]
def g_turretlaw04_DialSteady_54 : SCode := .seq g_turretlaw04_DialSteady_53 .ret
def g_turretlaw04_DialSteady_55 : SCode := .seq g_turretlaw04_DialSteady_52 g_turretlaw04_DialSteady_54
def g_turretlaw04_DialSteady_56 : SCode := .seq g_turretlaw04_DialSteady_11 g_turretlaw04_DialSteady_55
def g_turretlaw04_DialSteady_57 : SCode := .seq g_turretlaw04_DialSteady_6 g_turretlaw04_DialSteady_56
def g_turretlaw04_DialSteady_58 : SCode := .seq g_turretlaw04_DialSteady_5 g_turretlaw04_DialSteady_57
def g_turretlaw04_DialSteady_59 : SCode := .seq g_turretlaw04_DialSteady_4 g_turretlaw04_DialSteady_58
def g_turretlaw04_DialSteady_60 : SCode := .seq g_turretlaw04_DialSteady_3 g_turretlaw04_DialSteady_59
def g_turretlaw04_DialSteady_61 : SCode := .seq g_turretlaw04_DialSteady_2 g_turretlaw04_DialSteady_60
def g_turretlaw04_DialSteady_62 : SCode := .seq g_turretlaw04_DialSteady_1 g_turretlaw04_DialSteady_61
def g_turretlaw04_DialSteady_63 : SCode := .seq g_turretlaw04_DialSteady_0 g_turretlaw04_DialSteady_62
theorem glaw_turretlaw04_DialSteady (cs : List CV) (r : CV) (hl : cs.length ≤ 165) (h : STri (cfF Try.prog fresh 165) g_turretlaw04_DialSteady_63 (initT 0 cs) [] (retQ rs_turretlaw04_DialSteady r)) : SC Try.prog 9 cs r :=
  sc_of fresh follows Try.func9 rfl Try.ntmps9 (by decide) (by kernel_rfl) (by kernel_rfl) hl h
def g_turretlaw04_works_0 : SCode := .reg [⟨(some 1), none, .box 26 (.tmp 0), [], false⟩,
  ⟨(some 2), none, .alloc 26 [(.int .i64 0), (.int .i64 0), (.int .i64 0), (.slice none 0 0)], [], false⟩] [1, 2]
def g_turretlaw04_works_1 : SCode := .reg [⟨(some 5), none, .load true 4 (.tmp 1), [], false⟩,
  ⟨(some 3), none, .alloc 26 [(.int .i64 0), (.int .i64 0), (.int .i64 0), (.slice none 0 0)], [], false⟩,
  ⟨none, none, .store 4 (.tmp 3) (.tmp 5), [], false⟩] [1, 2, 3]
def g_turretlaw04_works_2 : SCode := .reg [⟨(some 6), none, .fld 3 (.tmp 3), [], false⟩,
  ⟨none, none, .store 1 (.tmp 6) (.const (.slice none 0 0)), [], false⟩] [1, 2, 3]
def g_turretlaw04_works_3 : SCode := .reg [⟨(some 4), none, .mov (.const (.int .i64 0)), [], false⟩] [1, 2, 3, 4]
def g_turretlaw04_works_4 : SCode := .reg [⟨(some 7), none, .mov (.tmp 4), [], false⟩,
  ⟨(some 8), none, .fld 3 (.tmp 1), [], false⟩,
  ⟨(some 9), none, .load false 1 (.tmp 8), [], false⟩,
  ⟨(some 10), none, .len (.tmp 9), [], false⟩,
  ⟨(some 11), none, .bin .lss (.tmp 7) (.tmp 10), [], false⟩] [1, 2, 3, 4, 11]
def g_turretlaw04_works_5 : SCode := .cond (.tmp 11) .skip (.exit 0)
def g_turretlaw04_works_6 : SCode := .seq g_turretlaw04_works_4 g_turretlaw04_works_5
def g_turretlaw04_works_7 : SCode := .reg [⟨(some 14), none, .fld 3 (.tmp 3), [], true⟩,
  ⟨(some 15), none, .load false 1 (.tmp 14), [], true⟩,
  ⟨(some 16), none, .fld 3 (.tmp 1), [], false⟩,
  ⟨(some 17), none, .load false 1 (.tmp 16), [], false⟩,
  ⟨(some 18), none, .mov (.tmp 4), [], false⟩,
  ⟨(some 19), none, .idxS 5 (.tmp 17) (.tmp 18), [], false⟩,
  ⟨(some 20), none, .load true 5 (.tmp 19), [], false⟩,
  ⟨(some 21), none, .call 35 [(.tmp 20)], [], false⟩,
  ⟨(some 22), none, .buildSl 80 5 [(.int .i64 0), (.int .i64 0), (.slice none 0 0), (.int .i64 0), (.int .i64 0)] 1 [(0, (.tmp 21))], [0, 1], false⟩,
  ⟨(some 23), none, .append 80 5 56 (.tmp 15) (.tmp 22), [], false⟩,
  ⟨(some 24), none, .fld 3 (.tmp 3), [], false⟩,
  ⟨none, none, .store 1 (.tmp 24) (.tmp 23), [], false⟩] [1, 2, 3, 4]
def g_turretlaw04_works_8 : SCode := .block 1 g_turretlaw04_works_7
def g_turretlaw04_works_9 : SCode := .reg [⟨(some 12), none, .mov (.tmp 4), [], false⟩,
  ⟨(some 13), none, .bin .add (.tmp 12) (.const (.int .i64 1)), [], false⟩,
  ⟨(some 4), none, .mov (.tmp 13), [], false⟩] [1, 2, 3, 4]
def g_turretlaw04_works_10 : SCode := .seq g_turretlaw04_works_8 g_turretlaw04_works_9
def g_turretlaw04_works_11 : SCode := .seq g_turretlaw04_works_6 g_turretlaw04_works_10
def g_turretlaw04_works_12 : SCode := .loop g_turretlaw04_works_11
def g_turretlaw04_works_13 : SCode := .block 0 g_turretlaw04_works_12
def g_turretlaw04_works_14 : SCode := .seq g_turretlaw04_works_3 g_turretlaw04_works_13
def g_turretlaw04_works_15 : SCode := .reg [⟨(some 25), none, .load true 4 (.tmp 3), [], false⟩,
  ⟨none, none, .store 4 (.tmp 2) (.tmp 25), [], false⟩] [2]
def g_turretlaw04_works_16 : SCode := .seq g_turretlaw04_works_15 .ret
def g_turretlaw04_works_17 : SCode := .seq g_turretlaw04_works_14 g_turretlaw04_works_16
def g_turretlaw04_works_18 : SCode := .seq g_turretlaw04_works_2 g_turretlaw04_works_17
def g_turretlaw04_works_19 : SCode := .seq g_turretlaw04_works_1 g_turretlaw04_works_18
def g_turretlaw04_works_20 : SCode := .seq g_turretlaw04_works_0 g_turretlaw04_works_19
theorem olaw_turretlaw04_works (t : TypeId) (k : Nat) (rows : List (List CV)) (sh : FSh) (cs : List CV) (r : CV) (hl : cs.length + 1 ≤ 26) (h : STri (cfM Try.prog [] 26) g_turretlaw04_works_20 ((0, holeS sh 900 rows.length) :: initT 1 cs) [(900, .arr t k rows)] (retO (.cell 2 true 4) t k rows r)) : MS Try.prog 13 sh cs t k rows r :=
  ms_of [] follows Try.func13 rfl Try.ntmps13 (by decide) (by kernel_rfl) (by kernel_rfl) hl h
def g_turretlaw04_Tower_works_0 : SCode := .reg [⟨(some 1), none, .box 57 (.tmp 0), [], false⟩,
  ⟨(some 2), none, .alloc 26 [(.int .i64 0), (.int .i64 0), (.int .i64 0), (.slice none 0 0)], [], false⟩] [1, 2]
def g_turretlaw04_Tower_works_1 : SCode := .reg [⟨(some 7), none, .build [(.int .i64 0), (.int .i64 0), (.int .i64 0), (.int .i64 0), (.int .i64 0), (.int .i64 0)] [(0, 1, (.const (.int .i64 1))), (1, 1, (.const (.int .i64 2))), (2, 1, (.const (.int .i64 10))), (3, 1, (.const (.int .i64 30))), (4, 1, (.const (.int .i64 60))), (5, 1, (.const (.int .i64 120)))], [], false⟩,
  ⟨(some 8), none, .fld 0 (.tmp 1), [], true⟩,
  ⟨(some 9), none, .load false 1 (.tmp 8), [], true⟩,
  ⟨(some 10), none, .bin .rem (.tmp 9) (.const (.int .u8 6)), [], false⟩,
  ⟨(some 11), none, .index 6 1 false (.tmp 7) (.tmp 10), [], false⟩,
  ⟨(some 12), none, .fld 2 (.tmp 1), [], true⟩,
  ⟨(some 13), none, .idxA 2 1 (.tmp 12) (.const (.int .i64 0)), [], true⟩,
  ⟨(some 14), none, .load false 1 (.tmp 13), [], true⟩,
  ⟨(some 15), none, .conv .i64 (.tmp 14), [], false⟩,
  ⟨(some 16), none, .bin .rem (.tmp 15) (.const (.int .i64 60)), [], false⟩,
  ⟨(some 17), none, .bin .sub (.tmp 16) (.const (.int .i64 30)), [], false⟩,
  ⟨(some 18), none, .fld 2 (.tmp 1), [], true⟩,
  ⟨(some 19), none, .idxA 2 1 (.tmp 18) (.const (.int .i64 0)), [], true⟩,
  ⟨(some 20), none, .load false 1 (.tmp 19), [], true⟩,
  ⟨(some 21), none, .conv .i64 (.tmp 20), [], false⟩,
  ⟨(some 22), none, .bin .rem (.tmp 21) (.const (.int .i64 60)), [], false⟩,
  ⟨(some 23), none, .bin .sub (.tmp 22) (.const (.int .i64 30)), [], false⟩,
  ⟨(some 24), none, .fld 2 (.tmp 1), [], true⟩,
  ⟨(some 25), none, .idxA 2 1 (.tmp 24) (.const (.int .i64 1)), [], true⟩,
  ⟨(some 26), none, .load false 1 (.tmp 25), [], true⟩,
  ⟨(some 27), none, .conv .i64 (.tmp 26), [], false⟩,
  ⟨(some 28), none, .bin .rem (.tmp 27) (.const (.int .i64 40)), [], false⟩,
  ⟨(some 29), none, .bin .add (.tmp 23) (.tmp 28), [], false⟩,
  ⟨(some 30), none, .call 30 [(.tmp 17), (.tmp 29)], [], true⟩,
  ⟨(some 31), none, .build [(.int .i64 0), (.int .i64 0), (.int .i64 0), (.slice none 0 0)] [(0, 1, (.tmp 11)), (1, 2, (.tmp 30))], [], false⟩,
  ⟨(some 3), none, .alloc 26 [(.int .i64 0), (.int .i64 0), (.int .i64 0), (.slice none 0 0)], [1, 2, 5, 6, 7, 11, 12, 13, 17, 18, 19, 23], false⟩,
  ⟨none, none, .store 4 (.tmp 3) (.tmp 31), [], false⟩] [1, 2, 3]
def g_turretlaw04_Tower_works_2 : SCode := .reg [⟨(some 4), none, .mov (.const (.int .i64 0)), [], false⟩] [1, 2, 3, 4]
def g_turretlaw04_Tower_works_3 : SCode := .reg [⟨(some 32), none, .mov (.tmp 4), [], false⟩,
  ⟨(some 33), none, .bin .eql (.tmp 32) (.const (.int .i64 0)), [], false⟩,
  ⟨(some 34), none, .mov (.tmp 33), [], false⟩,
  ⟨(some 35), (some (34, false)), .mov (.tmp 4), [], false⟩,
  ⟨(some 36), (some (34, false)), .fld 4 (.tmp 1), [], false⟩,
  ⟨(some 37), (some (34, false)), .load false 1 (.tmp 36), [], false⟩,
  ⟨(some 38), (some (34, false)), .len (.tmp 37), [], false⟩,
  ⟨(some 39), (some (34, false)), .bin .lss (.tmp 35) (.tmp 38), [], false⟩,
  ⟨(some 40), (some (34, false)), .mov (.tmp 39), [], false⟩,
  ⟨(some 41), (some (40, true)), .mov (.tmp 4), [], false⟩,
  ⟨(some 42), (some (40, true)), .bin .lss (.tmp 41) (.const (.int .i64 3)), [], false⟩,
  ⟨(some 43), (some (34, false)), .pick (.tmp 40) (.tmp 42) (.const (.bool false)), [], false⟩,
  ⟨(some 44), none, .pick (.tmp 34) (.const (.bool true)) (.tmp 43), [], false⟩] [1, 2, 3, 4, 44]
def g_turretlaw04_Tower_works_4 : SCode := .cond (.tmp 44) .skip (.exit 0)
def g_turretlaw04_Tower_works_5 : SCode := .seq g_turretlaw04_Tower_works_3 g_turretlaw04_Tower_works_4
def g_turretlaw04_Tower_works_6 : SCode := .reg [⟨(some 47), none, .build [(.int .u8 0), (.int .u8 0), (.int .u8 0), (.int .u8 0), (.int .u8 0), (.int .u8 0)] [], [], false⟩,
  ⟨(some 5), none, .alloc 122 [(.int .u8 0), (.int .u8 0), (.int .u8 0), (.int .u8 0), (.int .u8 0), (.int .u8 0)], [], false⟩,
  ⟨none, none, .store 6 (.tmp 5) (.tmp 47), [], false⟩] [1, 2, 3, 4, 5]
def g_turretlaw04_Tower_works_7 : SCode := .reg [⟨(some 48), none, .mov (.tmp 4), [], false⟩,
  ⟨(some 49), none, .fld 4 (.tmp 1), [], false⟩,
  ⟨(some 50), none, .load false 1 (.tmp 49), [], false⟩,
  ⟨(some 51), none, .len (.tmp 50), [], false⟩,
  ⟨(some 52), none, .bin .lss (.tmp 48) (.tmp 51), [], false⟩] [1, 2, 3, 4, 5, 52]
def g_turretlaw04_Tower_works_8 : SCode := .reg [⟨(some 53), none, .fld 4 (.tmp 1), [], false⟩,
  ⟨(some 54), none, .load false 1 (.tmp 53), [], false⟩,
  ⟨(some 55), none, .mov (.tmp 4), [], false⟩,
  ⟨(some 56), none, .idxS 6 (.tmp 54) (.tmp 55), [], false⟩,
  ⟨(some 57), none, .load true 6 (.tmp 56), [], false⟩,
  ⟨none, none, .store 6 (.tmp 5) (.tmp 57), [], false⟩] [1, 2, 3, 4, 5]
def g_turretlaw04_Tower_works_9 : SCode := .cond (.tmp 52) g_turretlaw04_Tower_works_8 .skip
def g_turretlaw04_Tower_works_10 : SCode := .seq g_turretlaw04_Tower_works_7 g_turretlaw04_Tower_works_9
def g_turretlaw04_Tower_works_11 : SCode := .reg [⟨(some 58), none, .idxA 6 1 (.tmp 5) (.const (.int .i64 0)), [], true⟩,
  ⟨(some 59), none, .load false 1 (.tmp 58), [], true⟩,
  ⟨(some 60), none, .conv .i64 (.tmp 59), [], false⟩,
  ⟨(some 61), none, .bin .rem (.tmp 60) (.const (.int .i64 30)), [], false⟩,
  ⟨(some 62), none, .bin .sub (.tmp 61) (.const (.int .i64 15)), [], false⟩,
  ⟨(some 63), none, .idxA 6 1 (.tmp 5) (.const (.int .i64 0)), [], true⟩,
  ⟨(some 64), none, .load false 1 (.tmp 63), [], true⟩,
  ⟨(some 65), none, .conv .i64 (.tmp 64), [], false⟩,
  ⟨(some 66), none, .bin .rem (.tmp 65) (.const (.int .i64 30)), [], false⟩,
  ⟨(some 67), none, .bin .sub (.tmp 66) (.const (.int .i64 15)), [], false⟩,
  ⟨(some 68), none, .idxA 6 1 (.tmp 5) (.const (.int .i64 1)), [], true⟩,
  ⟨(some 69), none, .load false 1 (.tmp 68), [], true⟩,
  ⟨(some 70), none, .conv .i64 (.tmp 69), [], false⟩,
  ⟨(some 71), none, .bin .rem (.tmp 70) (.const (.int .i64 10)), [], false⟩,
  ⟨(some 72), none, .bin .add (.tmp 67) (.tmp 71), [], false⟩,
  ⟨(some 73), none, .call 30 [(.tmp 62), (.tmp 72)], [], true⟩,
  ⟨(some 74), none, .idxA 6 1 (.tmp 5) (.const (.int .i64 2)), [], true⟩,
  ⟨(some 75), none, .load false 1 (.tmp 74), [], true⟩,
  ⟨(some 76), none, .conv .i64 (.tmp 75), [], false⟩,
  ⟨(some 77), none, .bin .sub (.tmp 76) (.const (.int .i64 128)), [], false⟩,
  ⟨(some 78), none, .idxA 6 1 (.tmp 5) (.const (.int .i64 3)), [], true⟩,
  ⟨(some 79), none, .load false 1 (.tmp 78), [], true⟩,
  ⟨(some 80), none, .conv .i64 (.tmp 79), [], false⟩,
  ⟨(some 81), none, .bin .rem (.tmp 80) (.const (.int .i64 60)), [], false⟩,
  ⟨(some 82), none, .build [(.int .i64 0), (.int .i64 0), (.slice none 0 0), (.int .i64 0), (.int .i64 0)] [(0, 2, (.tmp 73)), (3, 1, (.tmp 77)), (4, 1, (.tmp 81))], [], false⟩,
  ⟨(some 6), none, .alloc 80 [(.int .i64 0), (.int .i64 0), (.slice none 0 0), (.int .i64 0), (.int .i64 0)], [0, 1, 5, 6, 10, 11, 15, 16, 17, 20, 21], false⟩,
  ⟨none, none, .store 5 (.tmp 6) (.tmp 82), [], false⟩] [1, 2, 3, 4, 5, 6]
def g_turretlaw04_Tower_works_12 : SCode := .reg [⟨(some 83), none, .idxA 6 1 (.tmp 5) (.const (.int .i64 4)), [], false⟩,
  ⟨(some 84), none, .load false 1 (.tmp 83), [], false⟩,
  ⟨(some 85), none, .conv .i64 (.tmp 84), [], false⟩,
  ⟨(some 86), none, .bin .rem (.tmp 85) (.const (.int .i64 40)), [], false⟩,
  ⟨(some 87), none, .idxA 6 1 (.tmp 5) (.const (.int .i64 5)), [], false⟩,
  ⟨(some 88), none, .load false 1 (.tmp 87), [], false⟩,
  ⟨(some 89), none, .conv .i64 (.tmp 88), [], false⟩,
  ⟨(some 90), none, .bin .rem (.tmp 89) (.const (.int .i64 12)), [], false⟩,
  ⟨(some 91), none, .bin .add (.const (.int .i64 1)) (.tmp 90), [], false⟩,
  ⟨(some 92), none, .idxA 6 1 (.tmp 5) (.const (.int .i64 5)), [], false⟩,
  ⟨(some 93), none, .load false 1 (.tmp 92), [], false⟩,
  ⟨(some 94), none, .conv .i64 (.tmp 93), [], false⟩,
  ⟨(some 95), none, .bin .quo (.tmp 94) (.const (.int .i64 12)), [], false⟩,
  ⟨(some 96), none, .bin .rem (.tmp 95) (.const (.int .i64 3)), [], false⟩,
  ⟨(some 97), none, .bin .add (.const (.int .i64 1)) (.tmp 96), [], false⟩,
  ⟨(some 98), none, .build [(.int .i64 0), (.int .i64 0)] [(0, 1, (.tmp 91)), (1, 1, (.tmp 97))], [], false⟩,
  ⟨(some 99), none, .build [(.int .i64 0), (.int .i64 0), (.int .i64 0)] [(0, 1, (.tmp 86)), (1, 2, (.tmp 98))], [], false⟩,
  ⟨(some 100), none, .buildSl 101 3 [(.int .i64 0), (.int .i64 0), (.int .i64 0)] 1 [(0, (.tmp 99))], [], false⟩,
  ⟨(some 101), none, .fld 2 (.tmp 6), [], false⟩,
  ⟨none, none, .store 1 (.tmp 101) (.tmp 100), [], false⟩] [1, 2, 3, 4, 5, 6]
def g_turretlaw04_Tower_works_13 : SCode := .reg [⟨(some 102), none, .idxA 6 1 (.tmp 5) (.const (.int .i64 5)), [], false⟩,
  ⟨(some 103), none, .load false 1 (.tmp 102), [], false⟩,
  ⟨(some 104), none, .bin .geq (.tmp 103) (.const (.int .u8 128)), [], false⟩] [1, 2, 3, 4, 5, 6, 104]
def g_turretlaw04_Tower_works_14 : SCode := .reg [⟨(some 105), none, .fld 2 (.tmp 6), [], false⟩,
  ⟨(some 106), none, .load false 1 (.tmp 105), [], false⟩,
  ⟨(some 107), none, .idxA 6 1 (.tmp 5) (.const (.int .i64 3)), [], false⟩,
  ⟨(some 108), none, .load false 1 (.tmp 107), [], false⟩,
  ⟨(some 109), none, .conv .i64 (.tmp 108), [], false⟩,
  ⟨(some 110), none, .bin .rem (.tmp 109) (.const (.int .i64 30)), [], false⟩,
  ⟨(some 111), none, .build [(.int .i64 0), (.int .i64 0)] [(0, 1, (.const (.int .i64 1))), (1, 1, (.const (.int .i64 1)))], [], false⟩,
  ⟨(some 112), none, .build [(.int .i64 0), (.int .i64 0), (.int .i64 0)] [(0, 1, (.tmp 110)), (1, 2, (.tmp 111))], [], false⟩,
  ⟨(some 113), none, .buildSl 101 3 [(.int .i64 0), (.int .i64 0), (.int .i64 0)] 1 [(0, (.tmp 112))], [], false⟩,
  ⟨(some 114), none, .append 101 3 24 (.tmp 106) (.tmp 113), [], false⟩,
  ⟨(some 115), none, .fld 2 (.tmp 6), [], false⟩,
  ⟨none, none, .store 1 (.tmp 115) (.tmp 114), [], false⟩] [1, 2, 3, 4, 6]
def g_turretlaw04_Tower_works_15 : SCode := .cond (.tmp 104) g_turretlaw04_Tower_works_14 .skip
def g_turretlaw04_Tower_works_16 : SCode := .seq g_turretlaw04_Tower_works_13 g_turretlaw04_Tower_works_15
def g_turretlaw04_Tower_works_17 : SCode := .reg [⟨(some 116), none, .fld 3 (.tmp 3), [], false⟩,
  ⟨(some 117), none, .load false 1 (.tmp 116), [], false⟩,
  ⟨(some 118), none, .load true 5 (.tmp 6), [], false⟩,
  ⟨(some 119), none, .buildSl 80 5 [(.int .i64 0), (.int .i64 0), (.slice none 0 0), (.int .i64 0), (.int .i64 0)] 1 [(0, (.tmp 118))], [], false⟩,
  ⟨(some 120), none, .append 80 5 56 (.tmp 117) (.tmp 119), [], false⟩,
  ⟨(some 121), none, .fld 3 (.tmp 3), [], false⟩,
  ⟨none, none, .store 1 (.tmp 121) (.tmp 120), [], false⟩] [1, 2, 3, 4]
def g_turretlaw04_Tower_works_18 : SCode := .seq g_turretlaw04_Tower_works_16 g_turretlaw04_Tower_works_17
def g_turretlaw04_Tower_works_19 : SCode := .seq g_turretlaw04_Tower_works_12 g_turretlaw04_Tower_works_18
def g_turretlaw04_Tower_works_20 : SCode := .seq g_turretlaw04_Tower_works_11 g_turretlaw04_Tower_works_19
def g_turretlaw04_Tower_works_21 : SCode := .seq g_turretlaw04_Tower_works_10 g_turretlaw04_Tower_works_20
def g_turretlaw04_Tower_works_22 : SCode := .seq g_turretlaw04_Tower_works_6 g_turretlaw04_Tower_works_21
def g_turretlaw04_Tower_works_23 : SCode := .block 1 g_turretlaw04_Tower_works_22
def g_turretlaw04_Tower_works_24 : SCode := .reg [⟨(some 45), none, .mov (.tmp 4), [], false⟩,
  ⟨(some 46), none, .bin .add (.tmp 45) (.const (.int .i64 1)), [], false⟩,
  ⟨(some 4), none, .mov (.tmp 46), [], false⟩] [1, 2, 3, 4]
def g_turretlaw04_Tower_works_25 : SCode := .seq g_turretlaw04_Tower_works_23 g_turretlaw04_Tower_works_24
def g_turretlaw04_Tower_works_26 : SCode := .seq g_turretlaw04_Tower_works_5 g_turretlaw04_Tower_works_25
def g_turretlaw04_Tower_works_27 : SCode := .loop g_turretlaw04_Tower_works_26
def g_turretlaw04_Tower_works_28 : SCode := .block 0 g_turretlaw04_Tower_works_27
def g_turretlaw04_Tower_works_29 : SCode := .seq g_turretlaw04_Tower_works_2 g_turretlaw04_Tower_works_28
def g_turretlaw04_Tower_works_30 : SCode := .reg [⟨(some 122), none, .load true 4 (.tmp 3), [], false⟩,
  ⟨none, none, .store 4 (.tmp 2) (.tmp 122), [], false⟩] [2]
def g_turretlaw04_Tower_works_31 : SCode := .seq g_turretlaw04_Tower_works_30 .ret
def g_turretlaw04_Tower_works_32 : SCode := .seq g_turretlaw04_Tower_works_29 g_turretlaw04_Tower_works_31
def g_turretlaw04_Tower_works_33 : SCode := .seq g_turretlaw04_Tower_works_1 g_turretlaw04_Tower_works_32
def g_turretlaw04_Tower_works_34 : SCode := .seq g_turretlaw04_Tower_works_0 g_turretlaw04_Tower_works_33
theorem flaw_turretlaw04_Tower_works (cs : List CV) (sh : FSh) (t : TypeId) (k : Nat) (rows : List (List CV)) (hl : cs.length ≤ 123) (h : STri (cfF Try.prog [] 123) g_turretlaw04_Tower_works_34 (initT 0 cs) [] (retF (.cell 2 true 4) sh t k rows)) : FC Try.prog 24 cs sh t k rows :=
  fc_of [] follows Try.func24 rfl Try.ntmps24 (by decide) (by kernel_rfl) (by kernel_rfl) hl h
end Go.Proofs.Ytnfggkopledpcaa
/- Dial's laws: copies, and what they are compared with. -/
namespace Go.Proofs.Ytnfggkopledpcaa
open Go.RowKit
theorem lFace (f : Fc) (hl : f.links.length ≤ 1000000) : SC Try.prog 35 [cF f] (cF f) := by
  refine law_turretlaw04_face _ _ (by simp) ?_
  have hA : f.links.length ≤ 9223372036854775807 := by omega
  have hB : f.links.length * 24 ≤ 140737488355328 := by omega
  (repeat' (first | ((first | with_reducible refine st_skip ?_ | with_reducible refine st_exit ?_); (try simp only [seqQ, blockQ, loopQ, forQ, whileQ, reduceIte, Nat.reduceEqDiff])) | (with_reducible refine st_ret ?_; ((try simp only [seqQ, blockQ, loopQ, forQ, whileQ]); first | (with_reducible refine retM_ret ?_) | refine retQ_ret ?_; simp [hA, hB])) | refine st_seq ?_ | refine st_block ?_ | ((first | refine st_reg ?_ | refine buildP_own ?_) <;> (simp -dsimp [hA, hB]; (repeat (simp -dsimp (disch := (first | omega | assumption | (refine Bool.eq_false_iff.1 ?_; assumption))) only [wrap_in, if_pos, if_neg]; (try simp -dsimp [hA, hB]))))) | ((first | refine guardP_of (fun hc => ?_) (fun hc => ?_) | refine st_cond rfl (fun hc => ?_) (fun hc => ?_)) <;> (try simp only [decide_eq_true_eq, decide_eq_false_iff_not, Bool.true_eq_false, Bool.false_eq_true, bne_iff_ne, ne_eq, bne_eq_false_iff_eq, beq_iff_eq, beq_eq_false_iff_ne, Bool.not_eq_true, Bool.not_eq_false, Bool.not_eq_eq_eq_not, Bool.not_true, Bool.not_false, Decidable.not_not] at hc) <;> (try (exfalso; first | omega | exact bool_tf hc (by assumption) | exact bool_ft hc (by assumption) | exact absurd (by assumption) hc)) <;> (first | with_reducible show STri _ _ _ _ _ _ | (simp -dsimp [hA, hB, hc]; (repeat (simp -dsimp (disch := (first | omega | assumption | (refine Bool.eq_false_iff.1 ?_; assumption))) only [wrap_in, if_pos, if_neg]; (try simp -dsimp [hA, hB, hc]))))))))
  all_goals exact .refl _
def rowsF (fs : List Fc) (k : Nat) : List (List CV) := (fs.take k).map rowF
theorem rowsF_len {fs : List Fc} {k : Nat} (h : k ≤ fs.length) : (rowsF fs k).length = k := by simp [rowsF]; omega
theorem rowsF_succ {fs : List Fc} {k : Nat} (h : k < fs.length) : rowsF fs (k + 1) = rowsF fs k ++ [rowF fs[k]] := by
  unfold rowsF; rw [List.take_succ_eq_append_getElem h, List.map_append]; rfl
end Go.Proofs.Ytnfggkopledpcaa
/- Dial's plain laws: a tower. -/
namespace Go.Proofs.Ytnfggkopledpcaa
open Go.RowKit
abbrev U8 (n : Int) : CV := .val (.int .u8 n)
abbrev U16 (n : Int) : CV := .val (.int .u16 n)
structure Fv where
  (a b c d e g : Int)
structure Tw where
  (j f e0 e1 : Int)
  (faces : List Fv)
  (t w0 w1 : Int)
  truth : List Int
def rowV (v : Fv) : List CV := [U8 v.a, U8 v.b, U8 v.c, U8 v.d, U8 v.e, U8 v.g]
def rowB (n : Int) : List CV := [U8 n]
def cTw (x : Tw) : CV := .agg [U8 x.j, U8 x.f, U8 x.e0, U8 x.e1, .sl 6 (x.faces.map rowV), U16 x.t, U8 x.w0, U8 x.w1, .sl 1 (x.truth.map rowB)]
attribute [simp] rowV
structure FvOk (v : Fv) : Prop where
  a : 0 ≤ v.a ∧ v.a ≤ 255
  b : 0 ≤ v.b ∧ v.b ≤ 255
  c : 0 ≤ v.c ∧ v.c ≤ 255
  d : 0 ≤ v.d ∧ v.d ≤ 255
  e : 0 ≤ v.e ∧ v.e ≤ 255
  g : 0 ≤ v.g ∧ v.g ≤ 255
structure TwOk (x : Tw) : Prop where
  j : 0 ≤ x.j ∧ x.j ≤ 255
  e0 : 0 ≤ x.e0 ∧ x.e0 ≤ 255
  e1 : 0 ≤ x.e1 ∧ x.e1 ≤ 255
  faces : ∀ v ∈ x.faces, FvOk v
  fl : x.faces.length ≤ 9223372036854775807
  t : 0 ≤ x.t ∧ x.t ≤ 65535
  w0 : 0 ≤ x.w0 ∧ x.w0 ≤ 255
  w1 : 0 ≤ x.w1 ∧ x.w1 ≤ 255
  truth : ∀ n ∈ x.truth, 0 ≤ n ∧ n ≤ 255
  tl : x.truth.length ≤ 9223372036854775807
theorem lWind (x : Tw) (hx : TwOk x) : SC Try.prog 26 [cTw x] (cS (x.w0 - 128) (x.w0 - 128 + x.w1 % 100)) := by
  refine law_turretlaw04_Tower_wind _ _ (by simp) ?_
  have h := hx.w0
  have h1 := hx.w1
  unfold cTw
  have hs := lSpan (x.w0 - 128) (x.w0 - 128 + x.w1 % 100)
  have m1 : x.w1.tmod 100 = x.w1 % 100 := Int.tmod_eq_emod_of_nonneg (by omega)
  (repeat' (first | ((first | with_reducible refine st_skip ?_ | with_reducible refine st_exit ?_); (try simp only [seqQ, blockQ, loopQ, forQ, whileQ, reduceIte, Nat.reduceEqDiff])) | (with_reducible refine st_ret ?_; ((try simp only [seqQ, blockQ, loopQ, forQ, whileQ]); first | (with_reducible refine retM_ret ?_) | refine retQ_ret ?_; simp [m1])) | refine st_seq ?_ | refine st_block ?_ | ((first | refine st_reg ?_ | refine buildP_own ?_ | refine callP_b (hs) rfl ?_) <;> (simp -dsimp [m1]; (repeat (simp -dsimp (disch := (first | omega | assumption | (refine Bool.eq_false_iff.1 ?_; assumption))) only [wrap_in, if_pos, if_neg]; (try simp -dsimp [m1]))))) | ((first | refine guardP_of (fun hc => ?_) (fun hc => ?_) | refine st_cond rfl (fun hc => ?_) (fun hc => ?_)) <;> (try simp only [decide_eq_true_eq, decide_eq_false_iff_not, Bool.true_eq_false, Bool.false_eq_true, bne_iff_ne, ne_eq, bne_eq_false_iff_eq, beq_iff_eq, beq_eq_false_iff_ne, Bool.not_eq_true, Bool.not_eq_false, Bool.not_eq_eq_eq_not, Bool.not_true, Bool.not_false, Decidable.not_not] at hc) <;> (try (exfalso; first | omega | exact bool_tf hc (by assumption) | exact bool_ft hc (by assumption) | exact absurd (by assumption) hc)) <;> (first | with_reducible show STri _ _ _ _ _ _ | (simp -dsimp [m1, hc]; (repeat (simp -dsimp (disch := (first | omega | assumption | (refine Bool.eq_false_iff.1 ?_; assumption))) only [wrap_in, if_pos, if_neg]; (try simp -dsimp [m1, hc]))))))))
  all_goals exact .refl _
def linksV (v : Fv) : List Lk := ⟨v.e % 40, 1 + v.g % 12, 1 + v.g / 12 % 3⟩ :: if 128 ≤ v.g then [⟨v.d % 30, 1, 1⟩] else []
def faceV (v : Fv) : Fc := ⟨v.a % 30 - 15, v.a % 30 - 15 + v.b % 10, linksV v, v.c - 128, v.d % 60⟩
def Fv.zero : Fv := ⟨0, 0, 0, 0, 0, 0⟩
def twN (x : Tw) : Nat := if x.faces.length = 0 then 1 else if x.faces.length < 3 then x.faces.length else 3
def twF (x : Tw) (k : Nat) : List Fc := (List.range k).map fun i => faceV (x.faces.getD i .zero)
def jmpI (n : Int) : Int := [1, 2, 10, 30, 60, 120].getD (n % 6).toNat 0
def twW (x : Tw) : Dw := ⟨jmpI x.j, x.e0 % 60 - 30, x.e0 % 60 - 30 + x.e1 % 40, twF x (twN x)⟩
def bxT (x : Tw) : Blk := .box 57 [.c (U8 x.j), .c (U8 x.f), .c (U8 x.e0), .c (U8 x.e1), .c (.sl 6 (x.faces.map rowV)), .c (U16 x.t), .c (U8 x.w0), .c (U8 x.w1), .c (.sl 1 (x.truth.map rowB))]
attribute [simp] bxT
theorem twF_succ (x : Tw) (k : Nat) : twF x (k + 1) = twF x k ++ [faceV (x.faces.getD k .zero)] := by simp [twF, List.range_succ]
end Go.Proofs.Ytnfggkopledpcaa
/- Dial's plain laws, II: a tower's works are valid. -/
namespace Go.Proofs.Ytnfggkopledpcaa
open Go.RowKit
theorem slack1 (s num den : Int) (h1 : 0 ≤ s) (h2 : s < 40) (h3 : 1 ≤ num) (h4 : num ≤ 12) (h5 : 1 ≤ den) (h6 : den ≤ 3) : slackI [⟨s, num, den⟩] ≤ 3600 := by
  have hp : s * 3600 * den ≤ 39 * 3600 * 3 := by
    have := Int.mul_le_mul (show s * 3600 ≤ 39 * 3600 by omega) h6 (by omega) (by decide)
    omega
  have hn : 0 ≤ s * 3600 * den := Int.mul_nonneg (by omega) (by omega)
  have e1 : (Int.gcd 1 num : Int) = 1 := by simp
  have hD : denK [⟨s, num, den⟩] 1 = num := by simp [denK, stepD]
  have hN : numK [⟨s, num, den⟩] 1 = s * 3600 * den := by
    have : num.tdiv num = 1 := Int.tdiv_self (by omega)
    simp [numK, stepN, hD, this]
  unfold slackI overI
  simp only [List.length_singleton, hD, hN]
  generalize s * 3600 * den = z at *
  have : (z + 1000 * num - 1).tdiv (1000 * num) = (z + 1000 * num - 1) / (1000 * num) := Int.tdiv_eq_ediv_of_nonneg (by omega)
  rw [this]
  have : (z + 1000 * num - 1) / (1000 * num) < 3600 := Int.ediv_lt_of_lt_mul (by omega) (by omega)
  omega
theorem slack2 (s num den r : Int) (h1 : 0 ≤ s) (h2 : s < 40) (h3 : 1 ≤ num) (h4 : num ≤ 12) (h5 : 1 ≤ den) (h6 : den ≤ 3) (r1 : 0 ≤ r) (r2 : r < 30) : slackI [⟨s, num, den⟩, ⟨r, 1, 1⟩] ≤ 3600 := by
  have hp : s * 3600 * den ≤ 39 * 3600 * 3 := by
    have := Int.mul_le_mul (show s * 3600 ≤ 39 * 3600 by omega) h6 (by omega) (by decide)
    omega
  have hn : 0 ≤ s * 3600 * den := Int.mul_nonneg (by omega) (by omega)
  have hD : denK [⟨s, num, den⟩, ⟨r, 1, 1⟩] 2 = num := by simp [denK, stepD]
  have hN : numK [⟨s, num, den⟩, ⟨r, 1, 1⟩] 2 = s * 3600 * den + r * 3600 * num := by
    have : num.tdiv num = 1 := Int.tdiv_self (by omega)
    simp [numK, stepN, hD, this]
  unfold slackI overI
  simp only [List.length_cons, List.length_nil, Nat.zero_add, Nat.reduceAdd, hD, hN]
  have q1 : r * 3600 * num ≤ 29 * 3600 * 12 := by
    have := Int.mul_le_mul (show r * 3600 ≤ 29 * 3600 by omega) h4 (by omega) (by decide)
    omega
  have q2 : 0 ≤ r * 3600 * num := Int.mul_nonneg (by omega) (by omega)
  generalize s * 3600 * den = z at *
  generalize r * 3600 * num = y at *
  have : (z + y + 1000 * num - 1).tdiv (1000 * num) = (z + y + 1000 * num - 1) / (1000 * num) := Int.tdiv_eq_ediv_of_nonneg (by omega)
  rw [this]
  have : (z + y + 1000 * num - 1) / (1000 * num) < 3600 := Int.ediv_lt_of_lt_mul (by omega) (by omega)
  omega
theorem face_ok {v : Fv} (h : FvOk v) : fcOK (faceV v) = true := by
  obtain ⟨⟨a1, a2⟩, ⟨b1, b2⟩, ⟨c1, c2⟩, ⟨d1, d2⟩, ⟨e1, e2⟩, ⟨g3, g4⟩⟩ := h
  have hl : (linksV v).all lkB = true := by
    unfold linksV
    split <;> simp [lkB, inB] <;> omega
  have hs : slackI (linksV v) ≤ 3600 := by
    unfold linksV
    split
    · exact slack2 _ _ _ _ (by omega) (by omega) (by omega) (by omega) (by omega) (by omega) (by omega) (by omega)
    · exact slack1 _ _ _ (by omega) (by omega) (by omega) (by omega) (by omega) (by omega)
  have hn : (linksV v).length ≤ 4 := by unfold linksV; split <;> simp
  simp only [fcOK, fcB, faceV, hl, spanB, inB, Bool.and_eq_true, decide_eq_true_eq, and_true]
  repeat' apply And.intro
  all_goals first | exact decide_eq_true (by omega) | omega
theorem zero_ok : FvOk Fv.zero := by constructor <;> simp [Fv.zero]
theorem tw_face {x : Tw} (hx : TwOk x) (i : Nat) : FvOk (x.faces.getD i .zero) := by
  rw [List.getD_eq_getElem?_getD]
  cases h : x.faces[i]? with
  | none => exact zero_ok
  | some v => exact hx.faces v (List.mem_of_getElem? h)
theorem twN_bd (x : Tw) : 1 ≤ twN x ∧ twN x ≤ 3 := by unfold twN; (repeat' split) <;> omega
theorem twF_len (x : Tw) (k : Nat) : (twF x k).length = k := by simp [twF]
theorem tw_ok {x : Tw} (hx : TwOk x) : dwB (twW x) = true := by
  have hj : (1 ≤ jmpI x.j ∧ jmpI x.j ≤ 3600) ∧ 3600 % jmpI x.j = 0 := by
    have : x.j % 6 = 0 ∨ x.j % 6 = 1 ∨ x.j % 6 = 2 ∨ x.j % 6 = 3 ∨ x.j % 6 = 4 ∨ x.j % 6 = 5 := by omega
    unfold jmpI
    rcases this with h | h | h | h | h | h <;> rw [h] <;> decide
  obtain ⟨n1, n2⟩ := twN_bd x
  have g0 := hx.e0
  have g1 := hx.e1
  have hf : (twF x (twN x)).all fcOK = true := List.all_eq_true.2 fun f hf => by
    obtain ⟨i, _, rfl⟩ := List.mem_map.1 hf
    exact face_ok (tw_face hx i)
  have hl : (twW x).faces.length = twN x := twF_len x _
  simp only [dwB, hl]
  simp only [twW, hf, spanB, inB, Bool.and_eq_true, decide_eq_true_eq, beq_iff_eq, and_true, hj.2]
  repeat' apply And.intro
  all_goals first | exact decide_eq_true (by omega) | omega
theorem tw_len {x : Tw} (hx : TwOk x) : DwLen (twW x) := by
  have hl : (twW x).faces.length = twN x := twF_len x _
  obtain ⟨n1, n2⟩ := twN_bd x
  refine ⟨by omega, fun f hf => ?_⟩
  obtain ⟨i, _, rfl⟩ := List.mem_map.1 hf
  show (linksV _).length ≤ _
  unfold linksV; split <;> simp
end Go.Proofs.Ytnfggkopledpcaa
/- Dial's plain laws, VII: works that the caller changes. -/
namespace Go.Proofs.Ytnfggkopledpcaa
open Go.RowKit
set_option maxHeartbeats 1000000 in
theorem lTowerF (x : Tw) (hx : TwOk x) : FC Try.prog 24 [cTw x] (some [some (I (twW x).jump), some (I (twW x).elo), some (I (twW x).ehi), none]) 80 5 ((twW x).faces.map rowF) := by
  refine flaw_turretlaw04_Tower_works _ _ _ _ _ (by simp) ?_
  unfold cTw
  have j1 := hx.j
  have g0 := hx.e0
  have g1 := hx.e1
  have m1 : x.j.tmod 6 = x.j % 6 := Int.tmod_eq_emod_of_nonneg (by omega)
  have m2 : x.e0.tmod 60 = x.e0 % 60 := Int.tmod_eq_emod_of_nonneg (by omega)
  have m3 : x.e1.tmod 40 = x.e1 % 40 := Int.tmod_eq_emod_of_nonneg (by omega)
  have hs := lSpan (x.e0 % 60 - 30) (x.e0 % 60 - 30 + x.e1 % 40)
  have hg : List.take 1 (List.drop (x.j % 6).toNat [SV.c (I 1), SV.c (I 2), SV.c (I 10), SV.c (I 30), SV.c (I 60), SV.c (I 120)]) = [SV.c (I (jmpI x.j))] := by
    have : x.j % 6 = 0 ∨ x.j % 6 = 1 ∨ x.j % 6 = 2 ∨ x.j % 6 = 3 ∨ x.j % 6 = 4 ∨ x.j % 6 = 5 := by omega
    unfold jmpI
    rcases this with h | h | h | h | h | h <;> rw [h] <;> rfl
  (repeat' (first | ((first | with_reducible refine st_skip ?_ | with_reducible refine st_exit ?_); (try simp only [seqQ, blockQ, loopQ, forQ, whileQ, reduceIte, Nat.reduceEqDiff])) | (with_reducible refine st_ret ?_; ((try simp only [seqQ, blockQ, loopQ, forQ, whileQ]); first | (with_reducible refine retM_ret ?_) | (with_reducible refine retF_ret ?_) | (with_reducible refine retO_ret ?_) | refine retQ_ret ?_; simp [m1, m2, m3, hg])) | refine st_seq ?_ | refine st_block ?_ | ((first | refine st_reg ?_ | refine buildP_own ?_ | refine callP_b (hs) rfl ?_) <;> (simp -dsimp [m1, m2, m3, hg]; (repeat (simp -dsimp (disch := (first | omega | assumption | (refine Bool.eq_false_iff.1 ?_; assumption))) only [wrap_in, if_pos, if_neg]; (try simp -dsimp [m1, m2, m3, hg]))))) | ((first | refine guardP_of (fun hc => ?_) (fun hc => ?_) | refine st_cond rfl (fun hc => ?_) (fun hc => ?_)) <;> (try simp only [decide_eq_true_eq, decide_eq_false_iff_not, Bool.true_eq_false, Bool.false_eq_true, bne_iff_ne, ne_eq, bne_eq_false_iff_eq, beq_iff_eq, beq_eq_false_iff_ne, Bool.not_eq_true, Bool.not_eq_false, Bool.not_eq_eq_eq_not, Bool.not_true, Bool.not_false, Decidable.not_not] at hc) <;> (try (exfalso; first | omega | exact bool_tf hc (by assumption) | exact bool_ft hc (by assumption) | exact absurd (by assumption) hc)) <;> (first | with_reducible show STri _ _ _ _ _ _ | (simp -dsimp [m1, m2, m3, hg, hc]; (repeat (simp -dsimp (disch := (first | omega | assumption | (refine Bool.eq_false_iff.1 ?_; assumption))) only [wrap_in, if_pos, if_neg]; (try simp -dsimp [m1, m2, m3, hg, hc]))))))))
  refine st_nilB 3 3 200 80 5 rfl (by simp) rfl (by simp [newOK]) ?_
  refine st_for [1, 2, 3, 200] (twN x) (fun k T H => T = [(1, .ptr 1 0), (2, .ptr 2 0), (3, .ptr 3 0), (4, .c (I k))] ∧ H = [(1, bxT x), (2, .box 26 [.c (I 0), .c (I 0), .c (I 0), .c (.val (.slice none 0 0))]),
    (3, .box 26 [.c (I (jmpI x.j)), .c (I (x.e0 % 60 - 30)), .c (I (x.e0 % 60 - 30 + x.e1 % 40)), .own 200 k]), (200, .arr 80 5 ((twF x k).map rowF))]) (by simp) ⟨by simp, by simp [twF]⟩ ?_
  rintro k T H hk ⟨rfl, rfl⟩
  have hfl := hx.fl
  have hn3 : twN x ≤ 3 := by unfold twN; (repeat' split) <;> omega
  have hlen : (twF x k).length = k := by simp [twF]
  by_cases hlt : k < twN x
  · have hs := twF_succ x k
    have hA : k + 1 ≤ 9223372036854775807 := by omega
    have hB : (k + 1) * 56 ≤ 140737488355328 := by omega
    by_cases hv : k < x.faces.length
    · have hvo := hx.faces _ (List.getElem_mem hv)
      have hgd : x.faces.getD k .zero = x.faces[k] := by simp [hv]
      rw [hgd] at hs
      have hgr : ∀ h : k < (x.faces.map rowV).length, (x.faces.map rowV)[k]'h = rowV x.faces[k] := fun h => by simp
      have hq : x.faces[k]? = some x.faces[k] := by simp
      generalize x.faces[k] = v at *
      obtain ⟨⟨a1, a2⟩, ⟨b1, b2⟩, ⟨c1, c2⟩, ⟨d1, d2⟩, ⟨e1, e2⟩, ⟨g3, g4⟩⟩ := hvo
      have n1 : v.a.tmod 30 = v.a % 30 := Int.tmod_eq_emod_of_nonneg a1
      have n2 : v.b.tmod 10 = v.b % 10 := Int.tmod_eq_emod_of_nonneg b1
      have n3 : v.d.tmod 60 = v.d % 60 := Int.tmod_eq_emod_of_nonneg d1
      have n4 : v.e.tmod 40 = v.e % 40 := Int.tmod_eq_emod_of_nonneg e1
      have n5 : v.g.tmod 12 = v.g % 12 := Int.tmod_eq_emod_of_nonneg g3
      have n6 : v.g.tdiv 12 = v.g / 12 := Int.tdiv_eq_ediv_of_nonneg g3
      have n7 : (v.g / 12).tmod 3 = v.g / 12 % 3 := Int.tmod_eq_emod_of_nonneg (by omega)
      have n8 : v.d.tmod 30 = v.d % 30 := Int.tmod_eq_emod_of_nonneg d1
      have hsp := lSpan (v.a % 30 - 15) (v.a % 30 - 15 + v.b % 10)
      by_cases hk0 : k = 0
      · subst hk0
        (repeat' (first | ((with_reducible show STri _ g_turretlaw04_Tower_works_17 _ _ _); refine st_shut1 100 rfl (by simp [dropOK, dropK]) (by simp [ClosO, ownS, dropK, SV.outD]) (by simp [ShutH, ShutB, ownL, ownS, dropK, SV.outD, outDL, Blk.outD]) ?_; simp) | ((first | with_reducible refine st_skip ?_ | with_reducible refine st_exit ?_); (try simp only [seqQ, blockQ, loopQ, forQ, whileQ, reduceIte, Nat.reduceEqDiff])) | (with_reducible refine st_ret ?_; ((try simp only [seqQ, blockQ, loopQ, forQ, whileQ]); first | (with_reducible refine retM_ret ?_) | (with_reducible refine retF_ret ?_) | (with_reducible refine retO_ret ?_) | refine retQ_ret ?_; simp [hlt, hv, hgr, hq, n1, n2, n3, n4, n5, n6, n7, n8, hA, hB, hlen])) | refine st_seq ?_ | refine st_block ?_ | ((first | refine st_reg ?_ | refine buildP_own ?_ | refine callP_b (hsp) rfl ?_) <;> (simp -dsimp [hlt, hv, hgr, hq, n1, n2, n3, n4, n5, n6, n7, n8, hA, hB, hlen]; (repeat (simp -dsimp (disch := (first | omega | assumption | (refine Bool.eq_false_iff.1 ?_; assumption))) only [wrap_in, if_pos, if_neg]; (try simp -dsimp [hlt, hv, hgr, hq, n1, n2, n3, n4, n5, n6, n7, n8, hA, hB, hlen]))))) | ((first | refine guardP_of (fun hc => ?_) (fun hc => ?_) | refine st_cond rfl (fun hc => ?_) (fun hc => ?_)) <;> (try simp only [decide_eq_true_eq, decide_eq_false_iff_not, Bool.true_eq_false, Bool.false_eq_true, bne_iff_ne, ne_eq, bne_eq_false_iff_eq, beq_iff_eq, beq_eq_false_iff_ne, Bool.not_eq_true, Bool.not_eq_false, Bool.not_eq_eq_eq_not, Bool.not_true, Bool.not_false, Decidable.not_not] at hc) <;> (try (exfalso; first | omega | exact bool_tf hc (by assumption) | exact bool_ft hc (by assumption) | exact absurd (by assumption) hc)) <;> (first | with_reducible show STri _ _ _ _ _ _ | (simp -dsimp [hlt, hv, hgr, hq, n1, n2, n3, n4, n5, n6, n7, n8, hA, hB, hlen, hc]; (repeat (simp -dsimp (disch := (first | omega | assumption | (refine Bool.eq_false_iff.1 ?_; assumption))) only [wrap_in, if_pos, if_neg]; (try simp -dsimp [hlt, hv, hgr, hq, n1, n2, n3, n4, n5, n6, n7, n8, hA, hB, hlen, hc]))))))))
        all_goals exact ⟨hlt, by simp, by simp, by rw [hs]; simp [faceV, linksV, hc]⟩
      · (repeat' (first | ((with_reducible show STri _ g_turretlaw04_Tower_works_17 _ _ _); refine st_shut1 100 rfl (by simp [dropOK, dropK]) (by simp [ClosO, ownS, dropK, SV.outD]) (by simp [ShutH, ShutB, ownL, ownS, dropK, SV.outD, outDL, Blk.outD]) ?_; simp) | ((first | with_reducible refine st_skip ?_ | with_reducible refine st_exit ?_); (try simp only [seqQ, blockQ, loopQ, forQ, whileQ, reduceIte, Nat.reduceEqDiff])) | (with_reducible refine st_ret ?_; ((try simp only [seqQ, blockQ, loopQ, forQ, whileQ]); first | (with_reducible refine retM_ret ?_) | (with_reducible refine retF_ret ?_) | (with_reducible refine retO_ret ?_) | refine retQ_ret ?_; simp [hlt, hv, hgr, n1, n2, n3, n4, n5, n6, n7, n8, hA, hB, hlen])) | refine st_seq ?_ | refine st_block ?_ | ((first | refine st_reg ?_ | refine buildP_own ?_ | refine callP_b (hsp) rfl ?_) <;> (simp -dsimp [hlt, hv, hgr, n1, n2, n3, n4, n5, n6, n7, n8, hA, hB, hlen]; (repeat (simp -dsimp (disch := (first | omega | assumption | (refine Bool.eq_false_iff.1 ?_; assumption))) only [wrap_in, if_pos, if_neg]; (try simp -dsimp [hlt, hv, hgr, n1, n2, n3, n4, n5, n6, n7, n8, hA, hB, hlen]))))) | ((first | refine guardP_of (fun hc => ?_) (fun hc => ?_) | refine st_cond rfl (fun hc => ?_) (fun hc => ?_)) <;> (try simp only [decide_eq_true_eq, decide_eq_false_iff_not, Bool.true_eq_false, Bool.false_eq_true, bne_iff_ne, ne_eq, bne_eq_false_iff_eq, beq_iff_eq, beq_eq_false_iff_ne, Bool.not_eq_true, Bool.not_eq_false, Bool.not_eq_eq_eq_not, Bool.not_true, Bool.not_false, Decidable.not_not] at hc) <;> (try (exfalso; first | omega | exact bool_tf hc (by assumption) | exact bool_ft hc (by assumption) | exact absurd (by assumption) hc)) <;> (first | with_reducible show STri _ _ _ _ _ _ | (simp -dsimp [hlt, hv, hgr, n1, n2, n3, n4, n5, n6, n7, n8, hA, hB, hlen, hc]; (repeat (simp -dsimp (disch := (first | omega | assumption | (refine Bool.eq_false_iff.1 ?_; assumption))) only [wrap_in, if_pos, if_neg]; (try simp -dsimp [hlt, hv, hgr, n1, n2, n3, n4, n5, n6, n7, n8, hA, hB, hlen, hc]))))))))
        all_goals exact ⟨hlt, by simp, by simp, by rw [hs]; simp [faceV, linksV, hc]⟩
    · have hk0 : k = 0 ∧ x.faces.length = 0 := by
        unfold twN at hlt
        split at hlt
        · omega
        · split at hlt <;> omega
      obtain ⟨rfl, hl0⟩ := hk0
      have hf0 : x.faces = [] := List.length_eq_zero_iff.1 hl0
      have hgd : x.faces.getD 0 .zero = Fv.zero := by rw [hf0]; rfl
      rw [hgd] at hs
      have hsp := lSpan (-15) (-15)
      (repeat' (first | ((with_reducible show STri _ g_turretlaw04_Tower_works_17 _ _ _); refine st_shut1 100 rfl (by simp [dropOK, dropK]) (by simp [ClosO, ownS, dropK, SV.outD]) (by simp [ShutH, ShutB, ownL, ownS, dropK, SV.outD, outDL, Blk.outD]) ?_; simp) | ((first | with_reducible refine st_skip ?_ | with_reducible refine st_exit ?_); (try simp only [seqQ, blockQ, loopQ, forQ, whileQ, reduceIte, Nat.reduceEqDiff])) | (with_reducible refine st_ret ?_; ((try simp only [seqQ, blockQ, loopQ, forQ, whileQ]); first | (with_reducible refine retM_ret ?_) | (with_reducible refine retF_ret ?_) | (with_reducible refine retO_ret ?_) | refine retQ_ret ?_; simp [hlt, hf0, hA, hB, hlen])) | refine st_seq ?_ | refine st_block ?_ | ((first | refine st_reg ?_ | refine buildP_own ?_ | refine callP_b (hsp) rfl ?_) <;> (simp -dsimp [hlt, hf0, hA, hB, hlen]; (repeat (simp -dsimp (disch := (first | omega | assumption | (refine Bool.eq_false_iff.1 ?_; assumption))) only [wrap_in, if_pos, if_neg]; (try simp -dsimp [hlt, hf0, hA, hB, hlen]))))) | ((first | refine guardP_of (fun hc => ?_) (fun hc => ?_) | refine st_cond rfl (fun hc => ?_) (fun hc => ?_)) <;> (try simp only [decide_eq_true_eq, decide_eq_false_iff_not, Bool.true_eq_false, Bool.false_eq_true, bne_iff_ne, ne_eq, bne_eq_false_iff_eq, beq_iff_eq, beq_eq_false_iff_ne, Bool.not_eq_true, Bool.not_eq_false, Bool.not_eq_eq_eq_not, Bool.not_true, Bool.not_false, Decidable.not_not] at hc) <;> (try (exfalso; first | omega | exact bool_tf hc (by assumption) | exact bool_ft hc (by assumption) | exact absurd (by assumption) hc)) <;> (first | with_reducible show STri _ _ _ _ _ _ | (simp -dsimp [hlt, hf0, hA, hB, hlen, hc]; (repeat (simp -dsimp (disch := (first | omega | assumption | (refine Bool.eq_false_iff.1 ?_; assumption))) only [wrap_in, if_pos, if_neg]; (try simp -dsimp [hlt, hf0, hA, hB, hlen, hc]))))))))
      all_goals exact ⟨hlt, by simp, by simp, by rw [hs]; simp [faceV, linksV, Fv.zero]⟩
  · have hkn : k = twN x := by omega
    have hb : ¬ k = 0 ∧ ¬ (k < x.faces.length ∧ k < 3) := by
      unfold twN at hkn
      split at hkn
      · omega
      · split at hkn <;> omega
    obtain ⟨b1, b2⟩ := hb
    (repeat' (first | ((first | with_reducible refine st_skip ?_ | with_reducible refine st_exit ?_); (try simp only [seqQ, blockQ, loopQ, forQ, whileQ, reduceIte, Nat.reduceEqDiff])) | (with_reducible refine st_ret ?_; ((try simp only [seqQ, blockQ, loopQ, forQ, whileQ]); first | (with_reducible refine retM_ret ?_) | (with_reducible refine retF_ret ?_) | (with_reducible refine retO_ret ?_) | refine retQ_ret ?_; simp [b1, b2, hlen])) | refine st_seq ?_ | refine st_block ?_ | ((first | refine st_reg ?_ | refine buildP_own ?_) <;> (simp -dsimp [b1, b2, hlen]; (repeat (simp -dsimp (disch := (first | omega | assumption | (refine Bool.eq_false_iff.1 ?_; assumption))) only [wrap_in, if_pos, if_neg]; (try simp -dsimp [b1, b2, hlen]))))) | ((first | refine guardP_of (fun hc => ?_) (fun hc => ?_) | refine st_cond rfl (fun hc => ?_) (fun hc => ?_)) <;> (try simp only [decide_eq_true_eq, decide_eq_false_iff_not, Bool.true_eq_false, Bool.false_eq_true, bne_iff_ne, ne_eq, bne_eq_false_iff_eq, beq_iff_eq, beq_eq_false_iff_ne, Bool.not_eq_true, Bool.not_eq_false, Bool.not_eq_eq_eq_not, Bool.not_true, Bool.not_false, Decidable.not_not] at hc) <;> (try (exfalso; first | omega | exact bool_tf hc (by assumption) | exact bool_ft hc (by assumption) | exact absurd (by assumption) hc)) <;> (first | with_reducible show STri _ _ _ _ _ _ | (simp -dsimp [b1, b2, hlen, hc]; (repeat (simp -dsimp (disch := (first | omega | assumption | (refine Bool.eq_false_iff.1 ?_; assumption))) only [wrap_in, if_pos, if_neg]; (try simp -dsimp [b1, b2, hlen, hc]))))))))
    all_goals (subst hkn; exact ⟨200, by simp [twW, hlen], rfl⟩)
theorem lWorksO (w : Dw) (hw : DwLen w) : MS Try.prog 13 (some [some (I w.jump), some (I w.elo), some (I w.ehi), none]) [] 80 5 (w.faces.map rowF) (cDw w) := by
  refine olaw_turretlaw04_works _ _ _ _ _ _ (by simp) ?_
  have hn := hw.n
  (repeat' (first | ((first | with_reducible refine st_skip ?_ | with_reducible refine st_exit ?_); (try simp only [seqQ, blockQ, loopQ, forQ, whileQ, reduceIte, Nat.reduceEqDiff])) | (with_reducible refine st_ret ?_; ((try simp only [seqQ, blockQ, loopQ, forQ, whileQ]); first | (with_reducible refine retM_ret ?_) | (with_reducible refine retF_ret ?_) | (with_reducible refine retO_ret ?_) | refine retQ_ret ?_; simp)) | refine st_seq ?_ | refine st_block ?_ | ((first | refine st_reg ?_ | refine buildP_own ?_) <;> (simp -dsimp; (repeat (simp -dsimp (disch := (first | omega | assumption | (refine Bool.eq_false_iff.1 ?_; assumption))) only [wrap_in, if_pos, if_neg]; (try simp -dsimp))))) | ((first | refine guardP_of (fun hc => ?_) (fun hc => ?_) | refine st_cond rfl (fun hc => ?_) (fun hc => ?_)) <;> (try simp only [decide_eq_true_eq, decide_eq_false_iff_not, Bool.true_eq_false, Bool.false_eq_true, bne_iff_ne, ne_eq, bne_eq_false_iff_eq, beq_iff_eq, beq_eq_false_iff_ne, Bool.not_eq_true, Bool.not_eq_false, Bool.not_eq_eq_eq_not, Bool.not_true, Bool.not_false, Decidable.not_not] at hc) <;> (try (exfalso; first | omega | exact bool_tf hc (by assumption) | exact bool_ft hc (by assumption) | exact absurd (by assumption) hc)) <;> (first | with_reducible show STri _ _ _ _ _ _ | (simp -dsimp [hc]; (repeat (simp -dsimp (disch := (first | omega | assumption | (refine Bool.eq_false_iff.1 ?_; assumption))) only [wrap_in, if_pos, if_neg]; (try simp -dsimp [hc]))))))))
  refine st_nilB 3 3 200 80 5 rfl (by simp) rfl (by simp [newOK]) ?_
  refine st_for [900, 1, 2, 3, 200] w.faces.length (fun k T H => T = [(1, .ptr 1 0), (2, .ptr 2 0), (3, .ptr 3 0), (4, .c (I k))] ∧ H = [(900, .arr 80 5 (w.faces.map rowF)), (1, .box 26 [.c (I w.jump), .c (I w.elo), .c (I w.ehi), .own 900 w.faces.length]), (2, .box 26 [.c (I 0), .c (I 0), .c (I 0), .c (.val (.slice none 0 0))]),
    (3, .box 26 [.c (I w.jump), .c (I w.elo), .c (I w.ehi), .own 200 k]), (200, .arr 80 5 (rowsF w.faces k))]) (by simp) ⟨by simp, by simp [rowsF]⟩ ?_
  rintro k T H hk ⟨rfl, rfl⟩
  have hlen := rowsF_len hk
  by_cases hlt : k < w.faces.length
  · have hf := lFace w.faces[k] (hw.l _ (List.getElem_mem hlt))
    have hs := rowsF_succ hlt
    have hA : k + 1 ≤ 9223372036854775807 := by omega
    have hB : (k + 1) * 56 ≤ 140737488355328 := by omega
    (repeat' (first | ((first | with_reducible refine st_skip ?_ | with_reducible refine st_exit ?_); (try simp only [seqQ, blockQ, loopQ, forQ, whileQ, reduceIte, Nat.reduceEqDiff])) | (with_reducible refine st_ret ?_; ((try simp only [seqQ, blockQ, loopQ, forQ, whileQ]); first | (with_reducible refine retM_ret ?_) | (with_reducible refine retF_ret ?_) | (with_reducible refine retO_ret ?_) | refine retQ_ret ?_; simp [hlt, hlen, hA, hB])) | refine st_seq ?_ | refine st_block ?_ | ((first | refine st_reg ?_ | refine buildP_own ?_ | refine callP_b (hf) rfl ?_) <;> (simp -dsimp [hlt, hlen, hA, hB]; (repeat (simp -dsimp (disch := (first | omega | assumption | (refine Bool.eq_false_iff.1 ?_; assumption))) only [wrap_in, if_pos, if_neg]; (try simp -dsimp [hlt, hlen, hA, hB]))))) | ((first | refine guardP_of (fun hc => ?_) (fun hc => ?_) | refine st_cond rfl (fun hc => ?_) (fun hc => ?_)) <;> (try simp only [decide_eq_true_eq, decide_eq_false_iff_not, Bool.true_eq_false, Bool.false_eq_true, bne_iff_ne, ne_eq, bne_eq_false_iff_eq, beq_iff_eq, beq_eq_false_iff_ne, Bool.not_eq_true, Bool.not_eq_false, Bool.not_eq_eq_eq_not, Bool.not_true, Bool.not_false, Decidable.not_not] at hc) <;> (try (exfalso; first | omega | exact bool_tf hc (by assumption) | exact bool_ft hc (by assumption) | exact absurd (by assumption) hc)) <;> (first | with_reducible show STri _ _ _ _ _ _ | (simp -dsimp [hlt, hlen, hA, hB, hc]; (repeat (simp -dsimp (disch := (first | omega | assumption | (refine Bool.eq_false_iff.1 ?_; assumption))) only [wrap_in, if_pos, if_neg]; (try simp -dsimp [hlt, hlen, hA, hB, hc]))))))))
    all_goals exact ⟨hlt, by simp, by simp, by simp [hs]⟩
  · have hke : k = w.faces.length := by omega
    subst hke
    have hall : rowsF w.faces w.faces.length = w.faces.map rowF := by simp [rowsF]
    (repeat' (first | ((first | with_reducible refine st_skip ?_ | with_reducible refine st_exit ?_); (try simp only [seqQ, blockQ, loopQ, forQ, whileQ, reduceIte, Nat.reduceEqDiff])) | (with_reducible refine st_ret ?_; ((try simp only [seqQ, blockQ, loopQ, forQ, whileQ]); first | (with_reducible refine retM_ret ?_) | (with_reducible refine retF_ret ?_) | (with_reducible refine retO_ret ?_) | refine retQ_ret ?_; simp [hlen])) | refine st_seq ?_ | refine st_block ?_ | ((first | refine st_reg ?_ | refine buildP_own ?_) <;> (simp -dsimp [hlen]; (repeat (simp -dsimp (disch := (first | omega | assumption | (refine Bool.eq_false_iff.1 ?_; assumption))) only [wrap_in, if_pos, if_neg]; (try simp -dsimp [hlen]))))) | ((first | refine guardP_of (fun hc => ?_) (fun hc => ?_) | refine st_cond rfl (fun hc => ?_) (fun hc => ?_)) <;> (try simp only [decide_eq_true_eq, decide_eq_false_iff_not, Bool.true_eq_false, Bool.false_eq_true, bne_iff_ne, ne_eq, bne_eq_false_iff_eq, beq_iff_eq, beq_eq_false_iff_ne, Bool.not_eq_true, Bool.not_eq_false, Bool.not_eq_eq_eq_not, Bool.not_true, Bool.not_false, Decidable.not_not] at hc) <;> (try (exfalso; first | omega | exact bool_tf hc (by assumption) | exact bool_ft hc (by assumption) | exact absurd (by assumption) hc)) <;> (first | with_reducible show STri _ _ _ _ _ _ | (simp -dsimp [hlen, hc]; (repeat (simp -dsimp (disch := (first | omega | assumption | (refine Bool.eq_false_iff.1 ?_; assumption))) only [wrap_in, if_pos, if_neg]; (try simp -dsimp [hlen, hc]))))))))
    rw [hall]
    exact ⟨rfl, _, cDw w, rfl, by simp [slF], .refl _⟩
end Go.Proofs.Ytnfggkopledpcaa
/- Dial's plain laws, V: a truth is told. -/
namespace Go.Proofs.Ytnfggkopledpcaa
open Go.RowKit
end Go.Proofs.Ytnfggkopledpcaa
/- Dial's plain laws, III: inside. -/
namespace Go.Proofs.Ytnfggkopledpcaa
open Go.RowKit
end Go.Proofs.Ytnfggkopledpcaa
/- Dial: what a dial can show, as integers. -/
namespace Go.Proofs.Ytnfggkopledpcaa
open Go.RowKit
end Go.Proofs.Ytnfggkopledpcaa
/- Dial: the ends of what a dial can be off by. -/
namespace Go.Proofs.Ytnfggkopledpcaa
open Go.RowKit
def rhLo (k : Lo) (e : Int) : Int := handLo k.f (slackI k.f.links) (dAt k e) k.wlo - k.at'
def rhHi (k : Lo) (e : Int) : Int := handHi k.f (slackI k.f.links) (dAt k e) k.wlo k.whi - k.at'
theorem rh_bd {k : Lo} (hk : LoSm k) (hok : fcOK k.f = true) (e : Int) (h1 : k.w.elo ≤ e) (h2 : e ≤ k.w.ehi) : (-10000000000 ≤ rhLo k e ∧ rhLo k e ≤ 10000000000) ∧ -10000000000 ≤ rhHi k e ∧ rhHi k e ≤ 10000000000 := by
  have hs := fc_sm hok
  have b1 := hs.a
  have b2 := hs.b
  have b3 := hs.c
  have b4 := hs.d
  have b5 := hs.k
  have b6 := hs.j
  have j1 := hk.w.a
  have j2 := hk.w.b
  have e1 := hk.w.c
  have e4 := hk.w.f
  obtain ⟨g1, g2, g3, g4⟩ := lag_le k.f (slackI k.f.links) (dAt k e) k.wlo k.whi b6
  obtain ⟨d1, d2⟩ := down_le (n := k.at' + e) (b := k.w.jump) (by omega)
  unfold rhLo rhHi handLo handHi
  unfold dAt at *
  omega
theorem off_at {k : Lo} (hk : LoSm k) : (∃ e, k.w.elo ≤ e ∧ e ≤ k.w.ehi ∧ rhLo k e = offLo k) ∧ ∃ e, k.w.elo ≤ e ∧ e ≤ k.w.ehi ∧ rhHi k e = offHi k := by
  obtain ⟨l1, _⟩ := haL_len hk
  constructor
  · have hm := selK_mem (minB fun x y => x.1 - y.1) l1 (k := (haL k).length) (by omega) (Nat.le_refl _)
    obtain ⟨d, hd, he⟩ := List.mem_map.1 hm
    obtain ⟨e, h1, h2, h3⟩ := dr_from hk hd
    refine ⟨e, h1, h2, ?_⟩
    unfold rhLo offLo
    rw [h3, ← he]
  · have hm := selK_mem (maxB fun x y => x.2 - y.2) l1 (k := (haL k).length) (by omega) (Nat.le_refl _)
    obtain ⟨d, hd, he⟩ := List.mem_map.1 hm
    obtain ⟨e, h1, h2, h3⟩ := dr_from hk hd
    refine ⟨e, h1, h2, ?_⟩
    unfold rhHi offHi
    rw [h3, ← he]
end Go.Proofs.Ytnfggkopledpcaa
/- Dial: the least wind lies within. -/
namespace Go.Proofs.Ytnfggkopledpcaa
open Go.RowKit
theorem off_bd {k : Lo} (hk : LoSm k) (hok : fcOK k.f = true) : (-10000000000 ≤ offLo k ∧ offLo k ≤ 10000000000) ∧ -10000000000 ≤ offHi k ∧ offHi k ≤ 10000000000 := by
  obtain ⟨⟨e1, a1, a2, a3⟩, e2, b1, b2, b3⟩ := off_at hk
  have r1 := (rh_bd hk hok e1 a1 a2).1
  have r2 := (rh_bd hk hok e2 b1 b2).2
  rw [← a3, ← b3]
  exact ⟨r1, r2⟩
end Go.Proofs.Ytnfggkopledpcaa
/- Dial's plain laws: looks of a tower. -/
namespace Go.Proofs.Ytnfggkopledpcaa
open Go.RowKit
def twLo (x : Tw) (i : Nat) (a : Int) : Lo := lookOf (twW x) i a (x.w0 - 128) (x.w0 - 128 + x.w1 % 100)
theorem tw_f {x : Tw} {i : Nat} (hi : i < twN x) (a : Int) : (twLo x i a).f = faceV (x.faces.getD i .zero) ∧ ∀ h : i < (twW x).faces.length, (twW x).faces[i]'h = faceV (x.faces.getD i .zero) := by
  have h2 : ∀ h : i < (twW x).faces.length, (twW x).faces[i]'h = faceV (x.faces.getD i .zero) := fun h => by
    show (twF x (twN x))[i]'h = _
    unfold twF; simp
  refine ⟨?_, h2⟩
  have hl : (twW x).faces.length = twN x := twF_len x _
  show (twW x).faces.getD (i : Int).toNat .zero = _
  rw [Int.toNat_natCast, List.getD_eq_getElem?_getD, List.getElem?_eq_getElem (by omega), Option.getD_some]
  exact h2 (by omega)
theorem tw_links (x : Tw) (i : Nat) : (faceV (x.faces.getD i .zero)).links.length ≤ 1000000 := by
  show (linksV _).length ≤ _
  unfold linksV; split <;> simp
end Go.Proofs.Ytnfggkopledpcaa
/- Dial: the times are those at which all readings can be right. -/
namespace Go.Proofs.Ytnfggkopledpcaa
open Go.RowKit
end Go.Proofs.Ytnfggkopledpcaa
/- Dial's plain laws, VI: what is told is possible. -/
namespace Go.Proofs.Ytnfggkopledpcaa
open Go.RowKit
end Go.Proofs.Ytnfggkopledpcaa
/- Dial's plain laws, VII: DialTruths. -/
namespace Go.Proofs.Ytnfggkopledpcaa
open Go.RowKit
end Go.Proofs.Ytnfggkopledpcaa
/- Dial's plain laws, VIII: DialSteady. -/
namespace Go.Proofs.Ytnfggkopledpcaa
open Go.RowKit
def stF (f : Fc) (W : Int) : Fc := ⟨f.lo, f.lo, f.links, W, f.friction⟩
def stW (w : Dw) (i : Nat) (W : Int) : Dw := ⟨w.jump, w.elo, w.elo, w.faces.set i (stF (w.faces.getD i .zero) W)⟩
def rowsAt (fs : List Fc) (i : Nat) (g : Fc) : List (List CV) := (fs.set i g).map rowF
theorem rowsAt_len (fs : List Fc) (i : Nat) (g : Fc) : (rowsAt fs i g).length = fs.length := by simp [rowsAt]
theorem rowsAt_get {fs : List Fc} {i : Nat} (h : i < fs.length) (g : Fc) : (rowsAt fs i g)[i]? = some (rowF g) := by simp [rowsAt, h]
theorem rowsAt_set (fs : List Fc) (i : Nat) (g : Fc) (a b : Int) (l : List Lk) (c d : Int) : (rowsAt fs i g).set i [I a, I b, slL l, I c, I d] = rowsAt fs i ⟨a, b, l, c, d⟩ := by
  have : [I a, I b, slL l, I c, I d] = rowF ⟨a, b, l, c, d⟩ := rfl
  rw [this]
  unfold rowsAt
  rw [← List.map_set, List.set_set]
theorem rowsAt_self {fs : List Fc} {i : Nat} (h : i < fs.length) : fs.map rowF = rowsAt fs i fs[i] := by unfold rowsAt; rw [List.set_getElem_self]
def widI (k : Lo) : Int := offHi k - offLo k
def wideK (k : Nat → Lo) : Nat → Int
  | 0 => 0
  | j + 1 => if wideK k j < widI (k j) then widI (k j) else wideK k j
theorem wid_one {k : Lo} (hk : LoSm k) (he : k.w.elo = k.w.ehi) (hf : k.f.lo = k.f.hi) : widI k = lagHi k.f (slackI k.f.links) (dAt k k.w.elo) k.wlo - lagLo k.f (slackI k.f.links) (dAt k k.w.elo) k.whi k.wlo := by
  obtain ⟨⟨e1, a1, a2, a3⟩, e2, b1, b2, b3⟩ := off_at hk
  have h1 : e1 = k.w.elo := by omega
  have h2 : e2 = k.w.elo := by omega
  rw [h1] at a3
  rw [h2] at b3
  unfold widI
  rw [← a3, ← b3]
  unfold rhLo rhHi handLo handHi
  omega
def stWt (h more : Int) (k : Nat) : Int := if k = 0 then h + more else if k = 1 then -h - more else -h + 1 + more % (h + h - 1)
theorem heavy_bd {f : Fc} {wlo whi : Int} (h1 : 0 ≤ f.friction) (h2 : wlo ≤ whi) : 1 ≤ heavyI f wlo whi ∧ f.friction - wlo < heavyI f wlo whi ∧ f.friction + whi < heavyI f wlo whi ∧ (heavyI f wlo whi = f.friction - wlo + 1 ∨ heavyI f wlo whi = f.friction + whi + 1) := by
  unfold heavyI; split <;> omega
theorem lag_steady {f : Fc} {s d wlo whi W h : Int} (h1 : 0 ≤ f.friction) (h2 : wlo ≤ whi) (ha : f.friction - wlo < h) (hb : f.friction + whi < h) (hW : h ≤ W ∨ W ≤ -h) (hw : f.weight = W) : lagHi f s d wlo - lagLo f s d whi wlo = 0 := by
  unfold lagHi lagLo forceI
  rw [hw]
  split
  · (repeat' split) <;> omega
  · (repeat' split) <;> omega
theorem lag_between {f : Fc} {s d0 d1 wlo whi W h : Int} (h1 : 0 ≤ f.friction) (hs : 0 ≤ s) (hw0 : wlo ≤ 0) (hw1 : 0 ≤ whi) (hh : h = f.friction - wlo + 1 ∨ h = f.friction + whi + 1) (ha : f.friction - wlo < h) (hb : f.friction + whi < h) (hW : -h < W) (hW2 : W < h) (hw : f.weight = W) (hd0 : d0 % 3600 < 1800) (hd1 : ¬ d1 % 3600 < 1800) :
    (0 ≤ lagHi f s d0 wlo - lagLo f s d0 whi wlo ∧ lagHi f s d0 wlo - lagLo f s d0 whi wlo ≤ s) ∧ (0 ≤ lagHi f s d1 wlo - lagLo f s d1 whi wlo ∧ lagHi f s d1 wlo - lagLo f s d1 whi wlo ≤ s) ∧ (lagHi f s d0 wlo - lagLo f s d0 whi wlo = s ∨ lagHi f s d1 wlo - lagLo f s d1 whi wlo = s) := by
  unfold lagHi lagLo forceI
  rw [hw, if_pos hd0, if_neg hd1]
  (repeat' split) <;> omega
def stLo (x : Tw) (i : Nat) (W : Int) (j : Nat) : Lo := lookOf (stW (twW x) i W) i (86400 + 1800 * j + 900) (x.w0 - 128) (x.w0 - 128 + x.w1 % 100)
theorem st_ok {x : Tw} (hx : TwOk x) {i : Nat} (hi : i < twN x) {W : Int} (hW : -10000 ≤ W ∧ W ≤ 10000) : dwB (stW (twW x) i W) = true := by
  have h := tw_ok hx
  have hl : (twW x).faces.length = twN x := twF_len x _
  have hf : fcOK (stF ((twW x).faces.getD i .zero) W) = true := by
    have hin : i < (twW x).faces.length := by omega
    have := dw_face h (List.getElem_mem hin)
    have e : (twW x).faces.getD i .zero = (twW x).faces[i] := by simp [hin]
    rw [e]
    generalize (twW x).faces[i] = f at this
    simp only [fcOK, fcB, stF, spanB, inB, Bool.and_eq_true, decide_eq_true_eq] at this ⊢
    obtain ⟨⟨⟨⟨⟨⟨⟨a1, a2⟩, a3⟩, b⟩, ⟨c1, c2⟩⟩, ⟨d1, d2⟩⟩, e⟩, f⟩ := this
    refine ⟨⟨⟨⟨⟨?_, ?_⟩, ?_⟩, ?_⟩, e⟩, ?_⟩
    all_goals (repeat' apply And.intro)
    all_goals first | exact decide_eq_true (by omega) | omega
  have hall : (stW (twW x) i W).faces.all fcOK = true := by
    simp only [dwB, Bool.and_eq_true, List.all_eq_true] at h
    refine List.all_eq_true.2 fun f hm => ?_
    rcases List.mem_or_eq_of_mem_set hm with h' | h'
    · exact h.2 f h'
    · rw [h']; exact hf
  have hsm := dw_sm h
  have g1 := hsm.c
  have g2 := hsm.d
  have e1 : (stW (twW x) i W).faces.length = (twW x).faces.length := by simp [stW]
  unfold dwB at h ⊢
  rw [hall, e1]
  simp only [stW, Bool.and_eq_true, Bool.and_true] at h ⊢
  obtain ⟨⟨⟨⟨a, b⟩, c⟩, d⟩, e⟩ := h
  refine ⟨⟨⟨a, b⟩, ?_⟩, d⟩
  simp only [spanB, Bool.and_eq_true]
  repeat' apply And.intro
  all_goals first | exact decide_eq_true (by omega) | (simp only [inB, Bool.and_eq_true]; exact ⟨decide_eq_true (by omega), decide_eq_true (by omega)⟩)
theorem st_len {x : Tw} (hx : TwOk x) {i : Nat} (hi : i < twN x) (W : Int) : DwLen (stW (twW x) i W) := by
  have h := tw_len hx
  have hl : (twW x).faces.length = twN x := twF_len x _
  have hin : i < (twW x).faces.length := by omega
  have e : (twW x).faces.getD i .zero = (twW x).faces[i] := by simp [hin]
  refine ⟨by have := h.n; simpa [stW] using this, fun f hm => ?_⟩
  rcases List.mem_or_eq_of_mem_set hm with h' | h'
  · exact h.l f h'
  · rw [h', e]; exact h.l (twW x).faces[i] (List.getElem_mem hin)
theorem st_look {x : Tw} (hx : TwOk x) {i : Nat} (hi : i < twN x) {W : Int} (hW : -10000 ≤ W ∧ W ≤ 10000) (j : Nat) (hj : j ≤ 1) : lookErr (stW (twW x) i W) i (86400 + 1800 * j + 900) (x.w0 - 128) (x.w0 - 128 + x.w1 % 100) = 0 := by
  have hl : (stW (twW x) i W).faces.length = twN x := by simp [stW, twF_len, twW]
  have w0 := hx.w0
  have w1 := hx.w1
  have hq : inB 0 (((stW (twW x) i W).faces.length : Int) - 1) i = true := by rw [hl]; simp [inB]; omega
  have hq2 : inB 0 3155760000 (86400 + 1800 * (j : Int) + 900) = true := by simp [inB]; omega
  have hq3 : spanB (-10000) 10000 (x.w0 - 128) (x.w0 - 128 + x.w1 % 100) = true := by
    simp only [spanB, Bool.and_eq_true]
    exact ⟨⟨decide_eq_true (by omega), decide_eq_true (by omega)⟩, decide_eq_true (by omega)⟩
  simp [lookErr, st_ok hx hi hW, hq, hq2, hq3]
theorem st_f {x : Tw} {i : Nat} (hi : i < twN x) (W : Int) (j : Nat) : (stLo x i W j).f = stF (faceV (x.faces.getD i .zero)) W := by
  have hl : (twW x).faces.length = twN x := twF_len x _
  show (stW (twW x) i W).faces.getD (i : Int).toNat .zero = _
  rw [Int.toNat_natCast, List.getD_eq_getElem?_getD]
  have hf := (tw_f (x := x) hi 0).2 (by omega)
  have e : (twW x).faces.getD i .zero = (twW x).faces[i]'(by omega) := by simp [show i < (twW x).faces.length by omega]
  simp only [stW, e, hf]
  rw [List.getElem?_set_self (by omega)]; rfl
theorem st_d {x : Tw} (hx : TwOk x) (i : Nat) (W : Int) (j : Nat) (hj : j ≤ 1) : (dAt (stLo x i W j) (stLo x i W j).w.elo % 3600 < 1800) ↔ j = 0 := by
  have e0 := hx.e0
  have hjm : (stLo x i W j).w.jump = jmpI x.j := rfl
  have he : (stLo x i W j).w.elo = x.e0 % 60 - 30 := rfl
  have ha : (stLo x i W j).at' = 86400 + 1800 * j + 900 := rfl
  have hjb : 1 ≤ jmpI x.j ∧ jmpI x.j ≤ 120 := by
    have : x.j % 6 = 0 ∨ x.j % 6 = 1 ∨ x.j % 6 = 2 ∨ x.j % 6 = 3 ∨ x.j % 6 = 4 ∨ x.j % 6 = 5 := by omega
    unfold jmpI
    rcases this with h | h | h | h | h | h <;> rw [h] <;> decide
  obtain ⟨d1, d2⟩ := down_le (n := 86400 + 1800 * j + 900 + (x.e0 % 60 - 30)) (b := jmpI x.j) (by omega)
  unfold dAt
  rw [hjm, he, ha]
  generalize downI (86400 + 1800 * (j : Int) + 900 + (x.e0 % 60 - 30)) (jmpI x.j) = d at *
  have : j = 0 ∨ j = 1 := by omega
  rcases this with rfl | rfl
  · simp at d1 d2 ⊢; omega
  · simp at d1 d2 ⊢; omega
theorem wide_steady {x : Tw} (hx : TwOk x) {i : Nat} (hi : i < twN x) {h : Int} (hh : h = heavyI (faceV (x.faces.getD i .zero)) (x.w0 - 128) (x.w0 - 128 + x.w1 % 100)) {W : Int} (hW : h ≤ W ∧ W ≤ 10000 ∨ W ≤ -h ∧ -10000 ≤ W) : wideK (stLo x i W) 2 = 0 := by
  have hok := face_ok (tw_face hx i)
  have hfr := (fc_sm hok).h
  have hwl : x.w0 - 128 ≤ x.w0 - 128 + x.w1 % 100 := by have := hx.w1; omega
  obtain ⟨b1, b2, b3, b4⟩ := heavy_bd (f := faceV (x.faces.getD i .zero)) hfr hwl
  rw [← hh] at b1 b2 b3 b4
  have hWb : -10000 ≤ W ∧ W ≤ 10000 := by omega
  have key : ∀ j, j ≤ 1 → widI (stLo x i W j) = 0 := fun j hj => by
    have hf := st_f hi W j
    rw [show widI (stLo x i W j) = _ from wid_one (k := stLo x i W j) (look_sm (st_look hx hi hWb j hj)) rfl (by show (stLo x i W j).f.lo = (stLo x i W j).f.hi; rw [hf]; rfl)]
    show lagHi (stLo x i W j).f _ _ (x.w0 - 128) - lagLo (stLo x i W j).f _ _ (x.w0 - 128 + x.w1 % 100) (x.w0 - 128) = 0
    rw [hf]
    exact lag_steady (f := stF _ W) (h := h) (W := W) hfr hwl b2 b3 (by omega) rfl
  simp [wideK, key 0 (by omega), key 1 (by omega)]
theorem wide_between {x : Tw} (hx : TwOk x) {i : Nat} (hi : i < twN x) {h : Int} (hh : h = heavyI (faceV (x.faces.getD i .zero)) (x.w0 - 128) (x.w0 - 128 + x.w1 % 100)) {W : Int} (hW : -h < W ∧ W < h) (hW2 : h ≤ 10000) (h0 : x.w0 - 128 ≤ 0) (h1 : 0 ≤ x.w0 - 128 + x.w1 % 100) :
    wideK (stLo x i W) 2 = slackI (faceV (x.faces.getD i .zero)).links := by
  have hok := face_ok (tw_face hx i)
  have hfr := (fc_sm hok).h
  have hsl := (fc_sm hok).j
  have hwl : x.w0 - 128 ≤ x.w0 - 128 + x.w1 % 100 := by have := hx.w1; omega
  obtain ⟨b1, b2, b3, b4⟩ := heavy_bd (f := faceV (x.faces.getD i .zero)) hfr hwl
  rw [← hh] at b1 b2 b3 b4
  have hWb : -10000 ≤ W ∧ W ≤ 10000 := by omega
  have key : ∀ j, j ≤ 1 → widI (stLo x i W j) = lagHi (stF (faceV (x.faces.getD i .zero)) W) (slackI (faceV (x.faces.getD i .zero)).links) (dAt (stLo x i W j) (stLo x i W j).w.elo) (x.w0 - 128) - lagLo (stF (faceV (x.faces.getD i .zero)) W) (slackI (faceV (x.faces.getD i .zero)).links) (dAt (stLo x i W j) (stLo x i W j).w.elo) (x.w0 - 128 + x.w1 % 100) (x.w0 - 128) := fun j hj => by
    have hf := st_f hi W j
    rw [show widI (stLo x i W j) = _ from wid_one (k := stLo x i W j) (look_sm (st_look hx hi hWb j hj)) rfl (by show (stLo x i W j).f.lo = (stLo x i W j).f.hi; rw [hf]; rfl)]
    show lagHi (stLo x i W j).f (slackI (stLo x i W j).f.links) _ (x.w0 - 128) - lagLo (stLo x i W j).f (slackI (stLo x i W j).f.links) _ (x.w0 - 128 + x.w1 % 100) (x.w0 - 128) = _
    rw [hf]; rfl
  have hd0 := (st_d hx i W 0 (by omega)).2 rfl
  have hd1 : ¬ dAt (stLo x i W 1) (stLo x i W 1).w.elo % 3600 < 1800 := fun h => by have := (st_d hx i W 1 (by omega)).1 h; omega
  obtain ⟨c1, c2, c3⟩ := lag_between (f := stF (faceV (x.faces.getD i .zero)) W) (s := slackI (faceV (x.faces.getD i .zero)).links) (W := W) (h := h) hfr hsl h0 h1 b4 b2 b3 hW.1 hW.2 rfl hd0 hd1
  simp only [wideK, key 0 (by omega), key 1 (by omega)]
  (repeat' split) <;> omega
end Go.Proofs.Ytnfggkopledpcaa
/- Dial's plain laws, IX: DialSteady, the walk. -/
namespace Go.Proofs.Ytnfggkopledpcaa
open Go.RowKit
def wtP (f : Fc) (h more : Int) (k : Nat) : Int := if k = 0 then f.weight else stWt h more (k - 1)
set_option maxHeartbeats 4000000 in
set_option maxRecDepth 100000 in
theorem lSteady (x : Tw) (hx : TwOk x) (n more : Int) (n1 : 0 ≤ n) (n2 : n ≤ 255) (o1 : 0 ≤ more) (o2 : more ≤ 255) : SC Try.prog 9 [cTw x, U8 n, U8 more] (B true) := by
  refine glaw_turretlaw04_DialSteady _ _ (by simp) ?_
  obtain ⟨p1, p2⟩ := twN_bd x
  have hl : (twW x).faces.length = twN x := twF_len x _
  have hm : n.tmod (twN x) = n % twN x := Int.tmod_eq_emod_of_nonneg n1
  have m1 := Int.emod_nonneg n (show (twN x : Int) ≠ 0 by omega)
  have m2 := Int.emod_lt_of_pos n (show (0 : Int) < twN x by omega)
  obtain ⟨i, hi⟩ : ∃ i : Nat, n % (twN x : Int) = i := ⟨(n % twN x).toNat, by omega⟩
  have hin : i < twN x := by omega
  have w0 := hx.w0
  have w1 := hx.w1
  have hff := (tw_f (x := x) hin 0).2 (by omega)
  have hok := face_ok (tw_face hx i)
  have hlk := tw_links x i
  have hfs := fc_sm hok
  have c1 := lTowerF x hx
  have c2 := lWind x hx
  obtain ⟨hf, hfe⟩ : ∃ f, f = faceV (x.faces.getD i .zero) := ⟨_, rfl⟩
  have hd : hf.friction < 60 := by
    rw [hfe]
    obtain ⟨_, _, _, ⟨d1, d2⟩, _⟩ := tw_face hx i
    generalize x.faces.getD i .zero = v at *
    show v.d % 60 < 60
    omega
  rw [← hfe] at hff hok hlk hfs
  have hself := rowsAt_self (fs := (twW x).faces) (i := i) (by omega)
  rw [hff] at hself
  rw [hself] at c1
  have hwl : x.w0 - 128 ≤ x.w0 - 128 + x.w1 % 100 := by omega
  obtain ⟨b1, b2, b3, b4⟩ := heavy_bd (f := hf) (wlo := x.w0 - 128) (whi := x.w0 - 128 + x.w1 % 100) hfs.h hwl
  have hhd : heavyI hf (x.w0 - 128) (x.w0 - 128 + x.w1 % 100) = heavyI (stF hf hf.weight) (x.w0 - 128) (x.w0 - 128 + x.w1 % 100) := rfl
  have hok0 : fcOK (stF hf hf.weight) = true := by
    have h := st_ok hx hin (W := hf.weight) ⟨by have := hfs.e; omega, by have := hfs.g; omega⟩
    have hm : stF hf hf.weight ∈ (stW (twW x) i hf.weight).faces := by
      have e : (twW x).faces.getD i .zero = hf := by rw [← hff]; simp [show i < (twW x).faces.length by omega]
      simp only [stW, e]
      exact List.mem_iff_getElem.2 ⟨i, by simp; omega, by simp⟩
    exact dw_face h hm
  have c3 := lFace (stF hf hf.weight) hlk
  have c4 := sPoise (stF hf hf.weight) hlk (x.w0 - 128) (x.w0 - 128 + x.w1 % 100)
  have c5 := sSlack (stF hf hf.weight) hlk
  have hsp : spanB (-10000) 10000 (x.w0 - 128) (x.w0 - 128 + x.w1 % 100) = true := by
    simp only [spanB, Bool.and_eq_true]
    exact ⟨⟨decide_eq_true (by omega), decide_eq_true (by omega)⟩, decide_eq_true (by omega)⟩
  unfold rPoise at c4
  unfold rSlack at c5
  rw [if_pos (by rw [hok0, hsp]; rfl), ← hhd] at c4
  rw [if_pos hok0] at c5
  obtain ⟨hv, hve⟩ : ∃ h, h = heavyI hf (x.w0 - 128) (x.w0 - 128 + x.w1 % 100) := ⟨_, rfl⟩
  rw [← hve] at c4 b1 b2 b3 b4
  have hvb : hv ≤ 10000 - 255 := by omega
  rw [if_neg (by omega)] at c4
  have hlen := rowsAt_len (twW x).faces i
  have hget := rowsAt_get (fs := (twW x).faces) (i := i) (by omega)
  have hget2 : ∀ g (h : i < (rowsAt (twW x).faces i g).length), (rowsAt (twW x).faces i g)[i]'h = rowF g := fun g h => by have := hget g; rw [List.getElem?_eq_getElem h] at this; exact Option.some.inj this
  have hset : ∀ g (a b : Int) (l : List Lk) (c d : Int), (rowsAt (twW x).faces i g).set i [I a, I b, .sl 3 (l.map rowL), I c, I d] = rowsAt (twW x).faces i ⟨a, b, l, c, d⟩ := rowsAt_set (twW x).faces i
  have hin2 : i < (twW x).faces.length := by omega
  rw [← hl] at hm hi
  have hne : ¬ ((twW x).faces.length : Int) = 0 := by omega
  have hstF : ∀ W, stF hf W = ⟨hf.lo, hf.lo, hf.links, W, hf.friction⟩ := fun _ => rfl
  unfold cTw
  unfold cTw at c1 c2
  have hne2 : ¬ (twW x).faces = [] := fun e => by rw [e] at hin2; simp at hin2
  have hrow : ∀ g, rowsAt (twW x).faces i g ≠ [] := fun g e => by have := hlen g; rw [e] at this; simp at this; omega
  have hq1 : ¬ hv < 1 := by omega
  have hq2 : ¬ -1 < -hv := by omega
  simp only [stF] at c3 c4 c5
  (repeat' (first | ((first | with_reducible refine st_skip ?_ | with_reducible refine st_exit ?_); (try simp only [seqQ, blockQ, loopQ, forQ, whileQ, reduceIte, Nat.reduceEqDiff])) | (with_reducible refine st_ret ?_; ((try simp only [seqQ, blockQ, loopQ, forQ, whileQ]); first | (with_reducible refine retM_ret ?_) | refine retQ_ret ?_; simp [hm, hi, hin2, hget, hget2, hset, hlen, n1, n2, hne, hne2, hq1, hq2])) | refine st_seq ?_ | refine st_block ?_ | ((first | refine st_reg ?_ | refine buildP_own ?_ | ((with_reducible show callGP _ _ _ _ _ _ _); refine callG_n (c1 ) ?hcc ?hpp ?hnn ?_; (case hcc => (first | rfl | (simp <;> fail) | (simp [ hlen] <;> fail))); (case hpp => (first | rfl | (simp <;> fail) | (simp [ hlen] <;> fail))); (case hnn => (first | rfl | (simp <;> fail) | (simp [ hlen] <;> fail)))) | ((with_reducible show callGP _ _ _ _ _ _ _); refine callG_b (c2) ?hcc ?hpp ?_; (case hcc => (first | rfl | (simp <;> fail))); (case hpp => (first | rfl | (simp <;> fail)))) | ((with_reducible show callGP _ _ _ _ _ _ _); refine callG_b (c3) ?hcc ?hpp ?_; (case hcc => (first | rfl | (simp <;> fail))); (case hpp => (first | rfl | (simp <;> fail)))) | ((with_reducible show callGP _ _ _ _ _ _ _); refine callG_b (c4) ?hcc ?hpp ?_; (case hcc => (first | rfl | (simp <;> fail))); (case hpp => (first | rfl | (simp <;> fail)))) | ((with_reducible show callGP _ _ _ _ _ _ _); refine callG_b (c5) ?hcc ?hpp ?_; (case hcc => (first | rfl | (simp <;> fail))); (case hpp => (first | rfl | (simp <;> fail)))) | refine callP_b (c2) rfl ?_ | refine callP_b (c3) rfl ?_ | refine callP_b (c4) rfl ?_ | refine callP_b (c5) rfl ?_) <;> (simp -dsimp [hm, hi, hin2, hget, hget2, hset, hlen, n1, n2, hne, hne2, hq1, hq2]; (repeat (simp -dsimp (disch := (first | omega | assumption | (refine Bool.eq_false_iff.1 ?_; assumption))) only [wrap_in, if_pos, if_neg]; (try simp -dsimp [hm, hi, hin2, hget, hget2, hset, hlen, n1, n2, hne, hne2, hq1, hq2]))))) | ((first | refine guardP_of (fun hc => ?_) (fun hc => ?_) | refine st_cond rfl (fun hc => ?_) (fun hc => ?_)) <;> (try simp only [decide_eq_true_eq, decide_eq_false_iff_not, Bool.true_eq_false, Bool.false_eq_true, bne_iff_ne, ne_eq, bne_eq_false_iff_eq, beq_iff_eq, beq_eq_false_iff_ne, Bool.not_eq_true, Bool.not_eq_false, Bool.not_eq_eq_eq_not, Bool.not_true, Bool.not_false, Decidable.not_not] at hc) <;> (try (exfalso; first | omega | exact bool_tf hc (by assumption) | exact bool_ft hc (by assumption) | exact absurd (by assumption) hc)) <;> (first | with_reducible show STri _ _ _ _ _ _ | (simp -dsimp [hm, hi, hin2, hget, hget2, hset, hlen, n1, n2, hne, hne2, hq1, hq2, hc]; (repeat (simp -dsimp (disch := (first | omega | assumption | (refine Bool.eq_false_iff.1 ?_; assumption))) only [wrap_in, if_pos, if_neg]; (try simp -dsimp [hm, hi, hin2, hget, hget2, hset, hlen, n1, n2, hne, hne2, hq1, hq2, hc]))))))))
  refine st_for [21, 7, 8] 3 (fun k T H => T = [(2, .c (U8 more)), (7, .ptr 7 0), (8, .ptr 8 0), (9, .c (I i)), (10, .c (I hv)), (11, .c (I (-hv))), (13, .c (I (slackI hf.links))), (15, .c (I k))] ∧ H = [(21, .arr 80 5 (rowsAt (twW x).faces i (stF hf (wtP hf hv more k)))),
    (7, .box 26 [.c (I (twW x).jump), .c (I (twW x).elo), .c (I (twW x).elo), .own 21 (twW x).faces.length]), (8, .box 23 [.c (I (x.w0 - 128)), .c (I (x.w0 - 128 + x.w1 % 100))])]) (by simp) ⟨by simp, by simp [hset, wtP, stF]⟩ ?_
  rintro k T H hk ⟨rfl, rfl⟩
  have a1 := sKnown
  by_cases hlt : k < 3
  · have hidx : List.take 1 (List.drop k [SV.c (I (hv + more)), SV.c (I (-hv - more)), SV.c (I (-hv + 1 + more % (hv + hv - 1)))]) = [SV.c (I (stWt hv more k))] := by
      have : k = 0 ∨ k = 1 ∨ k = 2 := by omega
      rcases this with rfl | rfl | rfl <;> simp [stWt]
    have hmo : more.tmod (hv - -hv - 1) = more % (hv + hv - 1) := by rw [show hv - -hv - 1 = hv + hv - 1 by omega]; exact Int.tmod_eq_emod_of_nonneg o1
    have hmo2 : more.tmod (hv + hv - 1) = more % (hv + hv - 1) := Int.tmod_eq_emod_of_nonneg o1
    have q1 := Int.emod_nonneg more (show hv + hv - 1 ≠ 0 by omega)
    have q2 := Int.emod_lt_of_pos more (show 0 < hv + hv - 1 by omega)
    have hn0 : ¬ hv - -hv - 1 = 0 := by omega
    have hn1 : ¬ hv + hv - 1 = 0 := by omega
    have hWb : -10000 ≤ stWt hv more k ∧ stWt hv more k ≤ 10000 := by unfold stWt; (repeat' split) <;> omega
    have hwt : wtP hf hv more (k + 1) = stWt hv more k := by simp [wtP]
    have hz1 : k < 2 → wideK (stLo x i (stWt hv more k)) 2 = 0 := fun h => by
      refine wide_steady hx hin (h := hv) (by rw [hve, hfe]) ?_
      have : k = 0 ∨ k = 1 := by omega
      rcases this with rfl | rfl <;> simp [stWt] <;> omega
    have hz2 : ¬ k < 2 → x.w0 - 128 ≤ 0 → 0 ≤ x.w0 - 128 + x.w1 % 100 → wideK (stLo x i (stWt hv more k)) 2 = slackI hf.links := fun h h0 h1 => by
      have : k = 2 := by omega
      subst this
      rw [hfe]
      exact wide_between hx hin (h := hv) (by rw [hve, hfe]) (by simp [stWt]; omega) (by omega) h0 h1
    have hsl := st_len hx hin (stWt hv more k)
    have hlook := st_look hx hin hWb
    have ms := lWorksO (stW (twW x) i (stWt hv more k)) hsl
    have hso : ∀ j : Nat, j ≤ 1 → SC Try.prog 14 [cDw (stW (twW x) i (stWt hv more k)), I i, I (86400 + 1800 * j + 900), cS (x.w0 - 128) (x.w0 - 128 + x.w1 % 100)] (.tup [cS (offLo (stLo x i (stWt hv more k) j)) (offHi (stLo x i (stWt hv more k) j)), I 0]) := fun j hj => by
      have := sOff (stW (twW x) i (stWt hv more k)) hsl i (86400 + 1800 * j + 900) (x.w0 - 128) (x.w0 - 128 + x.w1 % 100)
      unfold rOff at this
      rwa [if_pos (hlook j hj)] at this
    have hob : ∀ j : Nat, j ≤ 1 → (-10000000000 ≤ offLo (stLo x i (stWt hv more k) j) ∧ offLo (stLo x i (stWt hv more k) j) ≤ 10000000000) ∧ -10000000000 ≤ offHi (stLo x i (stWt hv more k) j) ∧ offHi (stLo x i (stWt hv more k) j) ≤ 10000000000 := fun j hj => by
      refine off_bd (look_sm (hlook j hj)) ?_
      have hf' := st_f hin (stWt hv more k) j
      show fcOK (stLo x i (stWt hv more k) j).f = true
      rw [hf', ← hfe]
      have hm : stF hf (stWt hv more k) ∈ (stW (twW x) i (stWt hv more k)).faces := by
        have e : (twW x).faces.getD i .zero = hf := by rw [← hff]; simp [hin2]
        simp only [stW, e]
        exact List.mem_iff_getElem.2 ⟨i, by simp; omega, by simp⟩
      exact dw_face (st_ok hx hin hWb) hm
    have hrw : (stW (twW x) i (stWt hv more k)).faces.map rowF = rowsAt (twW x).faces i (stF hf (stWt hv more k)) := by
      have e : (twW x).faces.getD i .zero = hf := by rw [← hff]; simp [hin2]
      unfold rowsAt stW
      simp only [e]
    rw [hrw] at ms
    change MS _ _ (some [some (I (twW x).jump), some (I (twW x).elo), some (I (twW x).elo), none]) _ _ _ _ _ at ms
    have hwd : ∀ j, offHi (stLo x i (stWt hv more k) j) - offLo (stLo x i (stWt hv more k) j) = widI (stLo x i (stWt hv more k) j) := fun _ => rfl
    generalize hW : stWt hv more k = W at *
    generalize hCW : cDw (stW (twW x) i W) = CW at *
    generalize stLo x i W = LK at *
    (repeat' (first | ((first | with_reducible refine st_skip ?_ | with_reducible refine st_exit ?_); (try simp only [seqQ, blockQ, loopQ, forQ, whileQ, reduceIte, Nat.reduceEqDiff])) | (with_reducible refine st_ret ?_; ((try simp only [seqQ, blockQ, loopQ, forQ, whileQ]); first | (with_reducible refine retM_ret ?_) | refine retQ_ret ?_; simp [hlt, hidx, hmo, hmo2, hn0, hn1, hin2, hget, hget2, hset, hlen, o1, o2])) | refine st_seq ?_ | refine st_block ?_ | ((first | refine st_reg ?_ | refine buildP_own ?_ | refine callP_b (a1) rfl ?_) <;> (simp -dsimp [hlt, hidx, hmo, hmo2, hn0, hn1, hin2, hget, hget2, hset, hlen, o1, o2]; (repeat (simp -dsimp (disch := (first | omega | assumption | (refine Bool.eq_false_iff.1 ?_; assumption))) only [wrap_in, if_pos, if_neg]; (try simp -dsimp [hlt, hidx, hmo, hmo2, hn0, hn1, hin2, hget, hget2, hset, hlen, o1, o2]))))) | ((first | refine guardP_of (fun hc => ?_) (fun hc => ?_) | refine st_cond rfl (fun hc => ?_) (fun hc => ?_)) <;> (try simp only [decide_eq_true_eq, decide_eq_false_iff_not, Bool.true_eq_false, Bool.false_eq_true, bne_iff_ne, ne_eq, bne_eq_false_iff_eq, beq_iff_eq, beq_eq_false_iff_ne, Bool.not_eq_true, Bool.not_eq_false, Bool.not_eq_eq_eq_not, Bool.not_true, Bool.not_false, Decidable.not_not] at hc) <;> (try (exfalso; first | omega | exact bool_tf hc (by assumption) | exact bool_ft hc (by assumption) | exact absurd (by assumption) hc)) <;> (first | with_reducible show STri _ _ _ _ _ _ | (simp -dsimp [hlt, hidx, hmo, hmo2, hn0, hn1, hin2, hget, hget2, hset, hlen, o1, o2, hc]; (repeat (simp -dsimp (disch := (first | omega | assumption | (refine Bool.eq_false_iff.1 ?_; assumption))) only [wrap_in, if_pos, if_neg]; (try simp -dsimp [hlt, hidx, hmo, hmo2, hn0, hn1, hin2, hget, hget2, hset, hlen, o1, o2, hc]))))))))
    refine st_for [21, 7, 8] 2 (fun j T H => T = [(2, .c (U8 more)), (7, .ptr 7 0), (8, .ptr 8 0), (9, .c (I i)), (10, .c (I hv)), (11, .c (I (-hv))), (13, .c (I (slackI hf.links))), (15, .c (I k)), (16, .c (I (wideK LK j))), (17, .c (I j))] ∧ H = [(21, .arr 80 5 (rowsAt (twW x).faces i (stF hf W))),
      (7, .box 26 [.c (I (twW x).jump), .c (I (twW x).elo), .c (I (twW x).elo), .own 21 (twW x).faces.length]), (8, .box 23 [.c (I (x.w0 - 128)), .c (I (x.w0 - 128 + x.w1 % 100))])]) (by simp) ⟨by simp [wideK], by simp [stF]⟩ ?_
    rintro j T H hj ⟨rfl, rfl⟩
    by_cases hjt : j < 2
    · have hso := hso j (by omega)
      obtain ⟨⟨ob1, ob2⟩, ob3, ob4⟩ := hob j (by omega)
      have hwd := hwd j
      have hwk : wideK LK (j + 1) = if wideK LK j < widI (LK j) then widI (LK j) else wideK LK j := rfl
      rw [← hCW] at hso ms
      (repeat' (first | ((first | with_reducible refine st_skip ?_ | with_reducible refine st_exit ?_); (try simp only [seqQ, blockQ, loopQ, forQ, whileQ, reduceIte, Nat.reduceEqDiff])) | (with_reducible refine st_ret ?_; ((try simp only [seqQ, blockQ, loopQ, forQ, whileQ]); first | (with_reducible refine retM_ret ?_) | refine retQ_ret ?_; simp [hjt, hwd, hin2])) | refine st_seq ?_ | refine st_block ?_ | ((first | refine st_reg ?_ | refine buildP_own ?_ | ((with_reducible show callGP _ _ _ _ _ _ _); refine callG_o 21  ( ms ) ?h00 ?hii ?hHH ?hcc ?hpp ?_; (case h00 => (first | rfl | (simp <;> fail) | (simp [ hlen] <;> fail))); (case hii => (simp [refsA, refs])); (case hHH => (first | rfl | (simp <;> fail) | (simp [ hlen] <;> fail))); (case hcc => (first | rfl | (simp <;> fail) | (simp [ hlen] <;> fail))); (case hpp => (first | rfl | (simp <;> fail) | (simp [ hlen] <;> fail)))) | ((with_reducible show callGP _ _ _ _ _ _ _); refine callG_b (hso) ?hcc ?hpp ?_; (case hcc => (first | rfl | (simp <;> fail))); (case hpp => (first | rfl | (simp <;> fail)))) | refine callP_b (hso) rfl ?_) <;> (simp -dsimp [hjt, hwd, hin2]; (repeat (simp -dsimp (disch := (first | omega | assumption | (refine Bool.eq_false_iff.1 ?_; assumption))) only [wrap_in, if_pos, if_neg]; (try simp -dsimp [hjt, hwd, hin2]))))) | ((first | refine guardP_of (fun hc => ?_) (fun hc => ?_) | refine st_cond rfl (fun hc => ?_) (fun hc => ?_)) <;> (try simp only [decide_eq_true_eq, decide_eq_false_iff_not, Bool.true_eq_false, Bool.false_eq_true, bne_iff_ne, ne_eq, bne_eq_false_iff_eq, beq_iff_eq, beq_eq_false_iff_ne, Bool.not_eq_true, Bool.not_eq_false, Bool.not_eq_eq_eq_not, Bool.not_true, Bool.not_false, Decidable.not_not] at hc) <;> (try (exfalso; first | omega | exact bool_tf hc (by assumption) | exact bool_ft hc (by assumption) | exact absurd (by assumption) hc)) <;> (first | with_reducible show STri _ _ _ _ _ _ | (simp -dsimp [hjt, hwd, hin2, hc]; (repeat (simp -dsimp (disch := (first | omega | assumption | (refine Bool.eq_false_iff.1 ?_; assumption))) only [wrap_in, if_pos, if_neg]; (try simp -dsimp [hjt, hwd, hin2, hc]))))))))
      all_goals exact ⟨hjt, by simp, by simp [hwk], by simp⟩
    · have hj2 : j = 2 := by omega
      subst hj2
      by_cases hk2 : k < 2
      · have hz := hz1 hk2
        have hk3 : ¬ k = 2 := by omega
        (repeat' (first | ((first | with_reducible refine st_skip ?_ | with_reducible refine st_exit ?_); (try simp only [seqQ, blockQ, loopQ, forQ, whileQ, reduceIte, Nat.reduceEqDiff])) | (with_reducible refine st_ret ?_; ((try simp only [seqQ, blockQ, loopQ, forQ, whileQ]); first | (with_reducible refine retM_ret ?_) | refine retQ_ret ?_; simp [hz, hk2, hk3])) | refine st_seq ?_ | refine st_block ?_ | ((first | refine st_reg ?_ | refine buildP_own ?_) <;> (simp -dsimp [hz, hk2, hk3]; (repeat (simp -dsimp (disch := (first | omega | assumption | (refine Bool.eq_false_iff.1 ?_; assumption))) only [wrap_in, if_pos, if_neg]; (try simp -dsimp [hz, hk2, hk3]))))) | ((first | refine guardP_of (fun hc => ?_) (fun hc => ?_) | refine st_cond rfl (fun hc => ?_) (fun hc => ?_)) <;> (try simp only [decide_eq_true_eq, decide_eq_false_iff_not, Bool.true_eq_false, Bool.false_eq_true, bne_iff_ne, ne_eq, bne_eq_false_iff_eq, beq_iff_eq, beq_eq_false_iff_ne, Bool.not_eq_true, Bool.not_eq_false, Bool.not_eq_eq_eq_not, Bool.not_true, Bool.not_false, Decidable.not_not] at hc) <;> (try (exfalso; first | omega | exact bool_tf hc (by assumption) | exact bool_ft hc (by assumption) | exact absurd (by assumption) hc)) <;> (first | with_reducible show STri _ _ _ _ _ _ | (simp -dsimp [hz, hk2, hk3, hc]; (repeat (simp -dsimp (disch := (first | omega | assumption | (refine Bool.eq_false_iff.1 ?_; assumption))) only [wrap_in, if_pos, if_neg]; (try simp -dsimp [hz, hk2, hk3, hc]))))))))
        all_goals exact ⟨hlt, by simp, by simp, by simp [hwt]⟩
      · have hz := hz2 hk2
        have hk3 : k = 2 := by omega
        subst hk3
        have hwt' : wtP hf hv more 3 = W := hwt
        by_cases h0 : x.w0 - 128 ≤ 0
        · by_cases h1 : 0 ≤ x.w0 - 128 + x.w1 % 100
          · have hz := hz h0 h1
            (repeat' (first | ((first | with_reducible refine st_skip ?_ | with_reducible refine st_exit ?_); (try simp only [seqQ, blockQ, loopQ, forQ, whileQ, reduceIte, Nat.reduceEqDiff])) | (with_reducible refine st_ret ?_; ((try simp only [seqQ, blockQ, loopQ, forQ, whileQ]); first | (with_reducible refine retM_ret ?_) | refine retQ_ret ?_; simp [hz, h0, h1])) | refine st_seq ?_ | refine st_block ?_ | ((first | refine st_reg ?_ | refine buildP_own ?_) <;> (simp -dsimp [hz, h0, h1]; (repeat (simp -dsimp (disch := (first | omega | assumption | (refine Bool.eq_false_iff.1 ?_; assumption))) only [wrap_in, if_pos, if_neg]; (try simp -dsimp [hz, h0, h1]))))) | ((first | refine guardP_of (fun hc => ?_) (fun hc => ?_) | refine st_cond rfl (fun hc => ?_) (fun hc => ?_)) <;> (try simp only [decide_eq_true_eq, decide_eq_false_iff_not, Bool.true_eq_false, Bool.false_eq_true, bne_iff_ne, ne_eq, bne_eq_false_iff_eq, beq_iff_eq, beq_eq_false_iff_ne, Bool.not_eq_true, Bool.not_eq_false, Bool.not_eq_eq_eq_not, Bool.not_true, Bool.not_false, Decidable.not_not] at hc) <;> (try (exfalso; first | omega | exact bool_tf hc (by assumption) | exact bool_ft hc (by assumption) | exact absurd (by assumption) hc)) <;> (first | with_reducible show STri _ _ _ _ _ _ | (simp -dsimp [hz, h0, h1, hc]; (repeat (simp -dsimp (disch := (first | omega | assumption | (refine Bool.eq_false_iff.1 ?_; assumption))) only [wrap_in, if_pos, if_neg]; (try simp -dsimp [hz, h0, h1, hc]))))))))
            all_goals exact ⟨hlt, by simp, by simp, by simp [hwt']⟩
          · (repeat' (first | ((first | with_reducible refine st_skip ?_ | with_reducible refine st_exit ?_); (try simp only [seqQ, blockQ, loopQ, forQ, whileQ, reduceIte, Nat.reduceEqDiff])) | (with_reducible refine st_ret ?_; ((try simp only [seqQ, blockQ, loopQ, forQ, whileQ]); first | (with_reducible refine retM_ret ?_) | refine retQ_ret ?_; simp [h0, h1])) | refine st_seq ?_ | refine st_block ?_ | ((first | refine st_reg ?_ | refine buildP_own ?_) <;> (simp -dsimp [h0, h1]; (repeat (simp -dsimp (disch := (first | omega | assumption | (refine Bool.eq_false_iff.1 ?_; assumption))) only [wrap_in, if_pos, if_neg]; (try simp -dsimp [h0, h1]))))) | ((first | refine guardP_of (fun hc => ?_) (fun hc => ?_) | refine st_cond rfl (fun hc => ?_) (fun hc => ?_)) <;> (try simp only [decide_eq_true_eq, decide_eq_false_iff_not, Bool.true_eq_false, Bool.false_eq_true, bne_iff_ne, ne_eq, bne_eq_false_iff_eq, beq_iff_eq, beq_eq_false_iff_ne, Bool.not_eq_true, Bool.not_eq_false, Bool.not_eq_eq_eq_not, Bool.not_true, Bool.not_false, Decidable.not_not] at hc) <;> (try (exfalso; first | omega | exact bool_tf hc (by assumption) | exact bool_ft hc (by assumption) | exact absurd (by assumption) hc)) <;> (first | with_reducible show STri _ _ _ _ _ _ | (simp -dsimp [h0, h1, hc]; (repeat (simp -dsimp (disch := (first | omega | assumption | (refine Bool.eq_false_iff.1 ?_; assumption))) only [wrap_in, if_pos, if_neg]; (try simp -dsimp [h0, h1, hc]))))))))
            all_goals exact ⟨hlt, by simp, by simp, by simp [hwt']⟩
        · (repeat' (first | ((first | with_reducible refine st_skip ?_ | with_reducible refine st_exit ?_); (try simp only [seqQ, blockQ, loopQ, forQ, whileQ, reduceIte, Nat.reduceEqDiff])) | (with_reducible refine st_ret ?_; ((try simp only [seqQ, blockQ, loopQ, forQ, whileQ]); first | (with_reducible refine retM_ret ?_) | refine retQ_ret ?_; simp [h0])) | refine st_seq ?_ | refine st_block ?_ | ((first | refine st_reg ?_ | refine buildP_own ?_) <;> (simp -dsimp [h0]; (repeat (simp -dsimp (disch := (first | omega | assumption | (refine Bool.eq_false_iff.1 ?_; assumption))) only [wrap_in, if_pos, if_neg]; (try simp -dsimp [h0]))))) | ((first | refine guardP_of (fun hc => ?_) (fun hc => ?_) | refine st_cond rfl (fun hc => ?_) (fun hc => ?_)) <;> (try simp only [decide_eq_true_eq, decide_eq_false_iff_not, Bool.true_eq_false, Bool.false_eq_true, bne_iff_ne, ne_eq, bne_eq_false_iff_eq, beq_iff_eq, beq_eq_false_iff_ne, Bool.not_eq_true, Bool.not_eq_false, Bool.not_eq_eq_eq_not, Bool.not_true, Bool.not_false, Decidable.not_not] at hc) <;> (try (exfalso; first | omega | exact bool_tf hc (by assumption) | exact bool_ft hc (by assumption) | exact absurd (by assumption) hc)) <;> (first | with_reducible show STri _ _ _ _ _ _ | (simp -dsimp [h0, hc]; (repeat (simp -dsimp (disch := (first | omega | assumption | (refine Bool.eq_false_iff.1 ?_; assumption))) only [wrap_in, if_pos, if_neg]; (try simp -dsimp [h0, hc]))))))))
          all_goals exact ⟨hlt, by simp, by simp, by simp [hwt']⟩
  · have hk3 : k = 3 := by omega
    subst hk3
    (repeat' (first | ((first | with_reducible refine st_skip ?_ | with_reducible refine st_exit ?_); (try simp only [seqQ, blockQ, loopQ, forQ, whileQ, reduceIte, Nat.reduceEqDiff])) | (with_reducible refine st_ret ?_; ((try simp only [seqQ, blockQ, loopQ, forQ, whileQ]); first | (with_reducible refine retM_ret ?_) | refine retQ_ret ?_; simp)) | refine st_seq ?_ | refine st_block ?_ | ((first | refine st_reg ?_ | refine buildP_own ?_ | refine callP_b (a1) rfl ?_) <;> (simp -dsimp; (repeat (simp -dsimp (disch := (first | omega | assumption | (refine Bool.eq_false_iff.1 ?_; assumption))) only [wrap_in, if_pos, if_neg]; (try simp -dsimp))))) | ((first | refine guardP_of (fun hc => ?_) (fun hc => ?_) | refine st_cond rfl (fun hc => ?_) (fun hc => ?_)) <;> (try simp only [decide_eq_true_eq, decide_eq_false_iff_not, Bool.true_eq_false, Bool.false_eq_true, bne_iff_ne, ne_eq, bne_eq_false_iff_eq, beq_iff_eq, beq_eq_false_iff_ne, Bool.not_eq_true, Bool.not_eq_false, Bool.not_eq_eq_eq_not, Bool.not_true, Bool.not_false, Decidable.not_not] at hc) <;> (try (exfalso; first | omega | exact bool_tf hc (by assumption) | exact bool_ft hc (by assumption) | exact absurd (by assumption) hc)) <;> (first | with_reducible show STri _ _ _ _ _ _ | (simp -dsimp [hc]; (repeat (simp -dsimp (disch := (first | omega | assumption | (refine Bool.eq_false_iff.1 ?_; assumption))) only [wrap_in, if_pos, if_neg]; (try simp -dsimp [hc]))))))))
    all_goals exact .refl _
end Go.Proofs.Ytnfggkopledpcaa
/- Dial's towers opened. -/
namespace Go.Proofs.Ytnfggkopledpcaa
open Go.RowKit Go.ChangeShapes Go.WideShapes Go.ChangeAt
theorem Try.plainT : plainB Try.prog 8 57 = true := by kernel_rfl
theorem Try.cells6 : Try.prog.cellsOf 122 = 6 := by kernel_rfl
theorem Try.cells1 : Try.prog.cellsOf 5 = 1 := by kernel_rfl
theorem wf8 {n : Int} (h : (Lit.int .u8 n).wf = true) : 0 ≤ n ∧ n ≤ 255 := by
  simp only [Lit.wf, Bool.and_eq_true, decide_eq_true_eq] at h
  exact h
theorem wf16 {n : Int} (h : (Lit.int .u16 n).wf = true) : 0 ≤ n ∧ n ≤ 65535 := by
  simp only [Lit.wf, Bool.and_eq_true, decide_eq_true_eq] at h
  exact h
theorem ty_u8 {d : Nat} {cs : List CV} (h : tyC Try.prog d 5 cs) : ∃ n, cs = [U8 n] ∧ 0 ≤ n ∧ n ≤ 255 := by
  obtain ⟨n, h, hw⟩ := tyC_int Try.underlying5 h; exact ⟨n, h, wf8 hw⟩
theorem ty_two {d : Nat} {cs : List CV} (h : tyC Try.prog d 52 cs) : ∃ a b, cs = [U8 a, U8 b] ∧ (0 ≤ a ∧ a ≤ 255) ∧ 0 ≤ b ∧ b ≤ 255 := by
  obtain ⟨d, c1, r1, rfl, t1, c2, r2, rfl, t2, t4⟩ := tyC_array Try.underlying52 h
  obtain ⟨a, rfl, ha⟩ := ty_u8 t1
  obtain ⟨b, rfl, hb⟩ := ty_u8 t2
  have t4 : r2 = [] := t4
  subst t4
  exact ⟨a, b, rfl, ha, hb⟩
theorem ty_six {d : Nat} {cs : List CV} (h : tyC Try.prog d 122 cs) : ∃ v, cs = rowV v ∧ FvOk v := by
  obtain ⟨d, c1, r1, rfl, t1, c2, r2, rfl, t2, c3, r3, rfl, t3, c4, r4, rfl, t4, c5, r5, rfl, t5, c6, r6, rfl, t6, t7⟩ := tyC_array Try.underlying122 h
  obtain ⟨n1, rfl, h1⟩ := ty_u8 t1
  obtain ⟨n2, rfl, h2⟩ := ty_u8 t2
  obtain ⟨n3, rfl, h3⟩ := ty_u8 t3
  obtain ⟨n4, rfl, h4⟩ := ty_u8 t4
  obtain ⟨n5, rfl, h5⟩ := ty_u8 t5
  obtain ⟨n6, rfl, h6⟩ := ty_u8 t6
  have t7 : r6 = [] := t7
  subst t7
  exact ⟨⟨n1, n2, n3, n4, n5, n6⟩, rfl, h1, h2, h3, h4, h5, h6⟩
theorem ty_vs {d : Nat} {cs : List CV} (h : tyC Try.prog d 53 cs) : ∃ xs : List Fv, cs = [.sl 6 (xs.map rowV)] ∧ xs.length ≤ 9223372036854775807 ∧ ∀ v ∈ xs, FvOk v := by
  obtain ⟨d', rows, h, hl, h2⟩ := tyC_slice Try.underlying53 h
  rw [Try.cells6] at h
  obtain ⟨xs, rfl⟩ := rows_map (f := fun v : {v : Fv // FvOk v} => rowV v.1) (fun row hr => by obtain ⟨v, h1, h2⟩ := ty_six (h2 row hr); exact ⟨⟨v, h2⟩, h1⟩)
  refine ⟨xs.map (·.1), by rw [h]; simp, by simpa [maxLen] using hl, fun v hv => ?_⟩
  obtain ⟨x, _, rfl⟩ := List.mem_map.1 hv
  exact x.2
theorem ty_bytes {d : Nat} {cs : List CV} (h : tyC Try.prog d 55 cs) : ∃ xs : List Int, cs = [.sl 1 (xs.map rowB)] ∧ xs.length ≤ 9223372036854775807 ∧ ∀ n ∈ xs, 0 ≤ n ∧ n ≤ 255 := by
  obtain ⟨d', rows, h, hl, h2⟩ := tyC_slice Try.underlying55 h
  rw [Try.cells1] at h
  obtain ⟨xs, rfl⟩ := rows_map (f := fun v : {n : Int // 0 ≤ n ∧ n ≤ 255} => rowB v.1) (fun row hr => by obtain ⟨v, h1, h2⟩ := ty_u8 (h2 row hr); exact ⟨⟨v, h2⟩, h1⟩)
  refine ⟨xs.map (·.1), by rw [h]; simp, by simpa [maxLen] using hl, fun v hv => ?_⟩
  obtain ⟨x, _, rfl⟩ := List.mem_map.1 hv
  exact x.2
theorem ty_tower {d : Nat} {cs : List CV} (h : tyC Try.prog d 57 cs) : ∃ x : Tw, cs = [U8 x.j, U8 x.f, U8 x.e0, U8 x.e1, .sl 6 (x.faces.map rowV), U16 x.t, U8 x.w0, U8 x.w1, .sl 1 (x.truth.map rowB)] ∧ TwOk x := by
  obtain ⟨d', c1, r1, rfl, h1, c2, r2, rfl, h2, c3, r3, rfl, h3, c4, r4, rfl, h4, c5, r5, rfl, h5, c6, r6, rfl, h6, c7, r7, rfl, h7, h8⟩ := tyC_struct Try.underlying57 h
  obtain ⟨j, rfl, hj⟩ := ty_u8 h1
  obtain ⟨f, rfl, hf⟩ := ty_u8 h2
  obtain ⟨e0, e1, rfl, he0, he1⟩ := ty_two h3
  obtain ⟨vs, rfl, hv1, hv2⟩ := ty_vs h4
  obtain ⟨t, rfl, ht⟩ := tyC_int Try.underlying54 h5
  obtain ⟨w0, w1, rfl, hw0, hw1⟩ := ty_two h6
  obtain ⟨bs, rfl, hb1, hb2⟩ := ty_bytes h7
  have h8 : r7 = [] := h8
  subst h8
  exact ⟨⟨j, f, e0, e1, vs, t, w0, w1, bs⟩, rfl, hj, he0, he1, hv2, hv1, wf16 ht, hw0, hw1, hb2, hb1⟩
set_option maxRecDepth 100000 in
theorem open_tower {H : Type} {enc : TypeId × Value → H} {w : World} {spare : Nat → Bool} {held : Bool} {v : Value} {x : DataW H} {ps : List MemPlace} (h : DataW.Trod enc Try.prog w 0 spare held 57 v x ps) : ∃ c : Tw, RepC w (fun _ => False) (cTw c) v ∧ TwOk c := by
  obtain ⟨n, h⟩ := h
  obtain ⟨cs, h1, h2⟩ := open_tyC Try.plainT h
  obtain ⟨c, rfl, hm⟩ := ty_tower h1
  have hs : v.cells.size = 9 := by have := h2.1; simp at this; omega
  have hv := agg_cells (v := v) (by omega)
  refine ⟨c, ?_, hm⟩
  rw [hv]
  exact .agg _ _ (by simpa using hs) (fun i x u hx hu => h2.2 i x u hx (by simpa using hu))
end Go.Proofs.Ytnfggkopledpcaa
/- The last step: DialSteady. -/
namespace Go.Proofs.Ytnfggkopledpcaa
open Go.RowKit Go.ChangeShapes Go.WideShapes Go.ChangeAt
set_option maxRecDepth 100000 in
theorem steady_lifted (os : Os) (started : os.Started) (H : Type) (enc : TypeId × Value → H) :
    ReturnsInHanded {} Try.checked os 9 .any (Rows.dialSteadySpec.pre6 enc Try.prog Try.f9 Rows.dialSteadyRow.domain false) (Rows.dialSteadySpec.post enc Try.prog Try.f9 false true false false) := by
  refine returnsInHanded_of_change (C := Try.checked) Try.own started (by kernel_rfl) Try.func9
    (ChangeSpec.witness6 (enc := enc) (C := Try.checked) false ⟨#[], #[.agg #[.int .u8 0, .int .u8 0, .int .u8 0, .int .u8 0, .slice none 0 0, .int .u16 0, .int .u8 0, .int .u8 0, .slice none 0 0], .int .u8 0, .int .u8 0], []⟩ 8 (by kernel_rfl) (by kernel_rfl) (by kernel_rfl) (by kernel_rfl)) ?_
  intro W base args ds gs before hval0 hW hcnd _
  have hW' := hW
  obtain ⟨p, q, hA0, hV, rfl, hfz, hnd⟩ := hW
  have hA : DataW.TrodAll enc Try.prog W 0 (fun _ => true) true Try.f9.params.toList args.toList ds p := hA0
  rw [Try.params9] at hA
  obtain ⟨v0, v1, v2, d0, d1, d2, q0, q1, q2, rfl, rfl, rfl, h0, h1, h2⟩ := trodAll_three hA
  obtain ⟨rfl, rfl⟩ := trodVars_none hV
  obtain ⟨c, hc, hcm⟩ := open_tower h0
  obtain ⟨n, rfl, rfl, rfl, hn⟩ := open_int Try.underlying5 (hval0 1 _ v1 rfl rfl) h1
  obtain ⟨n1, n2⟩ := wf8 hn
  obtain ⟨m, rfl, rfl, rfl, hm⟩ := open_int Try.underlying5 (hval0 2 _ v2 rfl rfl) h2
  obtain ⟨m1, m2⟩ := wf8 hm
  clear hA0 hval0
  refine (lSteady c hcm n m n1 n2 m1 m2 W (fun _ => False) #[v0, .int .u8 n, .int .u8 m] (fun b hb => hb.elim) rfl (fun i x v hx' hv => ?_)).mono fun e W' ⟨v, he, hr, hx⟩ => ?_
  · match i with
    | 0 => cases hx'; cases hv; exact hc
    | 1 => cases hx'; cases hv; exact .val _
    | 2 => cases hx'; cases hv; exact .val _
    | i + 3 => simp at hx'
  subst he
  have hv := val_inv hr
  subst hv
  exact ⟨_, rfl, post_ext Try.kids Try.full (by rw [Try.params9]; decide +kernel) rfl hW' (fun _ _ _ => trodAll_mk1 (shut_bool Try.underlying4 _)) rfl rfl hx (ok_one (by kernel_rfl) rfl (okWide_bool_mk Try.underlying4 _))⟩
theorem dialSteady_holds : Rows.DialSteadySaid :=
  OpenClaim.holds_of_wide 9 Try.f9 rfl rfl rfl rfl rfl rfl rfl ⟨rfl, rfl, rfl, rfl, rfl⟩ rfl rfl rfl rfl rfl (by kernel_rfl) Try.func9 (by kernel_rfl)
    (of_decide_eq_true (by kernel_rfl)) (by unfold Func.isWrapper; first | (rw [if_pos (by decide +kernel)]; kernel_rfl) | (rw [if_neg (by decide +kernel)]; exact ⟨rfl, rfl⟩))
    (fun os started H enc _ => steady_lifted os started H enc)
#print axioms dialSteady_holds
end Go.Proofs.Ytnfggkopledpcaa
