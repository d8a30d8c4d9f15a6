/- Part 3 of a proof: Tri2, Tri3, Tri4, Tri5, Tri6, Tri7, ShT, Tri8, Tri9, Tri10, Tri11, Sh, CodeS, ShC, CodeW, Wa. -/
import Derived.Test.YtboifcengmgcaaaGreatT2
import Derived.RangeFuncOwn
import Derived.Test.YtboifcengmgcaaaGreatRows
set_option linter.unusedSimpArgs false
set_option linter.unusedVariables false
/- The shadow's code, II: less is known; nil; functions. -/
namespace Go.Proofs.YtboifcengmgcaaaGreat
open Go.RowKit
section
variable {cf : Cf} {cx : Cx} {T T' : TL} {H H' : HL} {a : Act} {w : World} {F : Nat → Option Blk} {ρ : Nat → Option Nat}
structure Drop (cf : Cf) (H H' : HL) (X : Nat → Prop) : Prop where
  at' : ∀ i, X i → cf.b ≤ i ∧ i < cf.b + 1000 ∧ i ∉ cf.K
  keep : ∀ i, ¬ X i → lookH H' i = lookH H i
  gone : ∀ i, X i → lookH H' i = none
  cl : ∀ i t cells, lookH H' i = some (.box t cells) → inPL (fun j => ¬ X j) cells
theorem Drop.eqs {X : Nat → Prop} (d : Drop cf H H' X) (out : ∀ i, Rg cf.b i → F i = none) (i : Nat) : (X i → tot F (lookH H') i = none) ∧ (¬ X i → tot F (lookH H') i = tot F (lookH H) i) := by
  refine ⟨fun hi => ?_, fun hi => ?_⟩
  · rw [tot_none (d.gone i hi)]
    exact out i (.inl ⟨(d.at' i hi).1, (d.at' i hi).2.1⟩)
  · unfold tot
    rw [d.keep i hi]
theorem Drop.sub {X : Nat → Prop} (d : Drop cf H H' X) (out : ∀ i, Rg cf.b i → F i = none) {x : SV} {v : Value} {NA : Nat → Prop} (r : RepS w NA ρ (tot F (lookH H)) x v) (hx : x.inP (fun j => ¬ X j)) : RepS w NA ρ (tot F (lookH H')) x v := by
  refine r.less (D := fun j => ¬ X j) (fun id B hB => ?_) (fun id B hB hid => ?_) hx
  · by_cases h : X id
    · rw [(d.eqs out id).1 h] at hB; cases hB
    · rw [← hB, (d.eqs out id).2 h]
  · rw [(d.eqs out id).2 hid, hB]
theorem StAt.drop (ok : cf.ok) (hHs : ∀ i, cf.b ≤ i → i < cf.b + 1000 → i ∉ cf.K → cx.Hs i = none) (h : StAt cf cx T H a w F ρ) {X : Nat → Prop} (d : Drop cf H H' X)
    (hT : ∀ i, (∀ v, RepS w cx.NA ρ (tot F (lookH H)) (lookT T i) v → RepS w cx.NA ρ (tot F (lookH H')) (lookT T' i) v)) : StAt cf cx T' H' a w F ρ := by
  have tt := d.eqs (F := F) h.out
  have hs : ∀ id B, tot F (lookH H') id = some B → tot F (lookH H) id = some B ∧ ¬ X id := fun id B hB => by
    by_cases hx : X id
    · rw [(tt id).1 hx] at hB; cases hB
    · exact ⟨by rw [← hB, (tt id).2 hx], hx⟩
  have hne : ∀ id, tot F (lookH H') id ≠ none → tot F (lookH H) id ≠ none := fun id hn => by
    cases hB : tot F (lookH H') id with
    | none => exact absurd hB hn
    | some B => rw [(hs id B hB).1]; simp
  have own : ∀ b, Mut cx.NA ρ (tot F (lookH H')) b → Mut cx.NA ρ (tot F (lookH H)) b := fun b hm => by
    rcases hm with hm | ⟨i, h1, h2⟩
    · exact .inl hm
    · exact .inr ⟨i, hne i h1, h2⟩
  have calm : Calm w (Mut cx.NA ρ (tot F (lookH H))) w (Mut cx.NA ρ (tot F (lookH H'))) := ⟨Nat.le_refl _, fun b _ hn => ⟨rfl, fun hm => hn (own b hm)⟩⟩
  have hgh : lookH H' (1000000000 + cf.b) = lookH H (1000000000 + cf.b) := d.keep _ (fun hx => by have := (d.at' _ hx).2.1; omega)
  have hsub : ∀ i, lookH H' i ≠ none → lookH H i ≠ none := fun i hi => by
    by_cases hx : X i
    · exact absurd (d.gone i hx) hi
    · rw [← d.keep i hx]; exact hi
  have boxF : ∀ id t cells, tot F (lookH H') id = some (.box t cells) → inPL (fun j => ¬ X j) cells := fun id t cells hB => by
    cases hL : lookH H' id with
    | some B =>
      rw [tot_some hL] at hB; cases hB
      exact d.cl id t cells hL
    | none =>
      rw [tot_none hL] at hB
      refine inPL_mono (fun j hj hx => hj ?_) cells (h.cl id t cells hB)
      exact h.out j (.inl ⟨(d.at' j hx).1, (d.at' j hx).2.1⟩)
  refine ⟨by unfold kOf at *; rw [hgh]; exact h.iv, h.cl, h.out, h.ol, fun i hi => h.dis i (hsub i hi), by rw [hgh]; exact h.yd, fun i hi => ?_, h.dm, ⟨h.rep.size, ⟨fun i j b h1 h2 => h.rep.heap.inj i j b (hne i h1) (hne j h2), fun id B hB => ?_, h.rep.heap.fr, fun b hb => h.rep.heap.low b ?_⟩, fun i => hT i _ (h.rep.tmp i)⟩, fun x v hx => ?_, ⟨h.tr.1.trans calm, fun i => ?_⟩, ?_⟩
  · exact h.av i (hsub i hi)
  · have hr := h.rep.heap.blk id B (hs id B hB).1
    cases B with
    | box t cells =>
      obtain ⟨b, cs, e1, e2, e3, e4⟩ := hr
      exact ⟨b, cs, e1, e2, e3, fun j x v hx hv => d.sub h.out (e4 j x v hx hv) (inPL_get (boxF id t cells hB) j x hx)⟩
    | arr t k rows =>
      rcases hr with ⟨e1, e2⟩ | ⟨b, cs, cap, e1, e2, e3, e4, e5, e6, e7⟩
      · exact .inl ⟨e1, e2⟩
      · exact .inr ⟨b, cs, cap, e1, e2, e3, e4, e5, e6, fun j row m x hr hx => by
          obtain ⟨v, hv1, hv2⟩ := e7 j row m x hr hx
          exact ⟨v, hv1, hv2.move calm⟩⟩
    | map ag kd es =>
      obtain ⟨b, ents, clock, e1, e2, e3, e4⟩ := hr
      exact ⟨b, ents, clock, e1, e2, e3, fun i p e hp he => (e4 i p e hp he).move calm⟩
    | loop lo => exact hr
    | gh k s => exact hr
    | it ag kd l c =>
      obtain ⟨b, e1, e2⟩ := hr
      exact ⟨b, e1, e2.move calm rfl⟩
  · obtain ⟨i, h1, h2⟩ := hb
    exact ⟨i, hne i h1, h2⟩
  · refine d.sub h.out (h.gh x v hx) (inP_mono (fun j hj hX => ?_) x (ok.G x v hx))
    obtain ⟨q1, q2, q3⟩ := d.at' j hX
    exact q3 (hj (.inl ⟨q1, q2⟩))
  · have hi := h.tr.2 i
    by_cases hX : X i
    · obtain ⟨q1, q2, q3⟩ := d.at' i hX
      have := hHs i q1 q2 q3
      refine ⟨fun B hB _ => ?_, fun t k rows hB => ?_⟩
      · rw [this] at hB; cases hB
      · rw [this] at hB; cases hB
    · unfold KeepI at *
      rw [(tt i).2 hX]
      exact hi
  · obtain ⟨Ds, h1, h2, h3⟩ := h.df
    exact ⟨Ds, h1, h2, fun D hD => by
      obtain ⟨l, q1, q2, q3⟩ := h3 D hD
      exact ⟨l, q1, fun hm => q2 (own D hm), q3⟩⟩
theorem close_own (h : StAt cf cx T H a w F ρ) {X : Nat → Prop} (d : Drop cf H H' X) {id : Nat} {t : TypeId} {k : Nat} {rows : List (List CV)} (hH : lookH H id = some (.arr t k rows)) (hX : X id) {v : Value} (hv : RepS w cx.NA ρ (tot F (lookH H)) (.own id rows.length) v) :
    RepS w cx.NA ρ (tot F (lookH H')) (.c (.sl k rows)) v := by
  have tt := d.eqs (F := F) h.out
  have hne : ∀ id, tot F (lookH H') id ≠ none → tot F (lookH H) id ≠ none ∧ ¬ X id := fun id hn => by
    by_cases hx : X id
    · exact absurd ((tt id).1 hx) hn
    · exact ⟨by rw [← (tt id).2 hx]; exact hn, hx⟩
  have calm : Calm w (Mut cx.NA ρ (tot F (lookH H))) w (Mut cx.NA ρ (tot F (lookH H'))) := ⟨Nat.le_refl _, fun b _ hn => ⟨rfl, fun hm => by
    rcases hm with hm | ⟨i, h1, h2⟩
    · exact hn (.inl hm)
    · exact hn (.inr ⟨i, (hne i h1).1, h2⟩)⟩⟩
  have e2 := tot_some (F := F) hH
  have q1 := h.rep.heap
  cases hv with
  | own _ _ t' k' rows' _ hH' hl ho hv =>
    rw [e2] at hH'; cases hH'
    rcases hv rfl with ⟨q0, q1', rfl⟩ | ⟨b, cap, cs, t2, p1, rfl, p3, p4, p5, p6⟩
    · have : rows = [] := List.length_eq_zero_iff.1 q1'
      subst this; exact .c _ _ (.nil k none 0 (Nat.zero_le _))
    · rcases q1.blk id _ e2 with ⟨g1, _⟩ | ⟨b', cs', cap', g1, g2, g3, g4, g5, g6, g7⟩
      · rw [p1] at g1; cases g1
      · rw [p1] at g1; cases g1
        rw [p3] at g2; cases g2
        have hown : Own ρ (tot F (lookH H)) b := ⟨id, by rw [e2]; simp, p1⟩
        refine .c _ _ (.sl k rows b 0 cap (fun j i => cs.getD (j * k + i) undef) p5 p6 (q1.lt hown) (fun hm => ?_) g6 (fun j row i x hj hx => ?_) (fun j row i x hj hx => ?_))
        · rcases hm with hm | ⟨j, z1, z2⟩
          · exact cx.nn b hm (q1.low b hown (cx.na b hm)).1
          · obtain ⟨z3, z4⟩ := hne j z1
            have := q1.inj j id b z3 (by rw [e2]; simp) z2 p1
            subst this
            exact z4 hX
        · obtain ⟨v, hv1, _⟩ := g7 j row i x hj hx
          rw [Nat.zero_add, cell_of_row w b (j * k + i) cs _ (0, 0) p3]
          simp [hv1]
        · obtain ⟨v, hv1, hv2⟩ := g7 j row i x hj hx
          have : cs.getD (j * k + i) undef = v := by simp [hv1]
          rw [this]; exact hv2.move calm
end
mutual
def SV.outD (X : List Nat) : SV → Bool
  | .own id _ | .ptr id _ | .pow id _ _ _ | .yl id | .om id | .it id => !X.contains id
  | .agg xs | .tup xs => outDL X xs
  | .fn _ a b => outDL X a && outDL X b
  | _ => true
def outDL (X : List Nat) : List SV → Bool
  | [] => true
  | x :: xs => x.outD X && outDL X xs
end
mutual
theorem outD_inP {X : List Nat} : ∀ x : SV, x.outD X = true → x.inP (fun i => ¬ i ∈ X)
  | .own _ _, h | .ptr _ _, h | .pow _ _ _ _, h | .yl _, h | .om _, h | .it _, h => by simpa [SV.outD, SV.inP] using h
  | .agg xs, h | .tup xs, h => outDL_inP xs h
  | .fn _ a b, h => by
    simp only [SV.outD, Bool.and_eq_true] at h
    exact ⟨outDL_inP a h.1, outDL_inP b h.2⟩
  | .c _, _ | .pel _ _ _ _, _ | .dead, _ => trivial
theorem outDL_inP {X : List Nat} : ∀ xs : List SV, outDL X xs = true → inPL (fun i => ¬ i ∈ X) xs
  | [], _ => trivial
  | x :: xs, h => by
    simp only [outDL, Bool.and_eq_true] at h
    exact ⟨outD_inP x h.1, outDL_inP xs h.2⟩
end
def Blk.outD (X : List Nat) : Blk → Bool
  | .box _ cs => outDL X cs
  | _ => true
def dropK (H : HL) (hk : List Nat) : List Nat := (H.map (·.1)).filter fun i => !hk.contains i
def dropOK (cf : Cf) (X : List Nat) : Bool := X.all fun i => decide (cf.b ≤ i) && decide (i < cf.b + 1000) && !cf.K.contains i
def LessT (X : List Nat) (T : TL) : TL → Prop
  | [] => True
  | (i, x) :: r => lookT T i = x ∧ x.outD X = true ∧ LessT X T r
def LessH (X : List Nat) (H : HL) : HL → Prop
  | [] => True
  | (id, B) :: r => lookH H id = some B ∧ B.outD X = true ∧ LessH X H r
def ClosT (X : List Nat) (T : TL) (H : HL) : TL → Prop
  | [] => True
  | (i, x) :: r => ((lookT T i = x ∧ x.outD X = true) ∨ ∃ id t k rows, lookT T i = .own id rows.length ∧ lookH H id = some (.arr t k rows) ∧ X.contains id = true ∧ x = .c (.sl k rows)) ∧ ClosT X T H r
def Less (cf : Cf) (T : TL) (H : HL) (T' : TL) (H' : HL) : Prop := dropOK cf (dropK H (H'.map (·.1))) = true ∧ LessT (dropK H (H'.map (·.1))) T T' ∧ LessH (dropK H (H'.map (·.1))) H H'
theorem LessT.clos {X : List Nat} {T : TL} {H : HL} : ∀ {T' : TL}, LessT X T T' → ClosT X T H T'
  | [], _ => trivial
  | (_, _) :: _, h => ⟨.inl ⟨h.1, h.2.1⟩, LessT.clos h.2.2⟩
theorem ClosT.get {X : List Nat} {T : TL} {H : HL} : ∀ {T' : TL}, ClosT X T H T' → ∀ i, lookT T' i = .dead ∨ (lookT T' i = lookT T i ∧ (lookT T' i).outD X = true) ∨ ∃ id t k rows, lookT T i = .own id rows.length ∧ lookH H id = some (.arr t k rows) ∧ id ∈ X ∧ lookT T' i = .c (.sl k rows)
  | [], _, i => .inl rfl
  | (j, x) :: r, h, i => by
    obtain ⟨h1, h3⟩ := h
    by_cases hi : i = j
    · subst hi
      right
      rcases h1 with ⟨h1, h2⟩ | ⟨id, t, k, rows, e1, e2, e3, e4⟩
      · left; simp [lookT, h1, h2]
      · right; exact ⟨id, t, k, rows, e1, e2, by simpa using e3, by simp [lookT, e4]⟩
    · simp only [lookT, if_neg hi]; exact ClosT.get h3 i
theorem LessH.get {X : List Nat} {H : HL} : ∀ {H' : HL}, LessH X H H' → ∀ i B, lookH H' i = some B → lookH H i = some B ∧ B.outD X = true
  | [], _, i, B, h => by simp [lookH] at h
  | (j, C) :: r, h, i, B, hB => by
    obtain ⟨h1, h2, h3⟩ := h
    by_cases hi : i = j
    · subst hi; simp [lookH] at hB; subst hB; exact ⟨h1, h2⟩
    · simp only [lookH, if_neg hi] at hB; exact LessH.get h3 i B hB
theorem less_drop {cf : Cf} {H H' : HL} (h1 : dropOK cf (dropK H (H'.map (·.1))) = true) (h2 : LessH (dropK H (H'.map (·.1))) H H') : Drop cf H H' (fun i => i ∈ dropK H (H'.map (·.1))) := by
  have mem : ∀ i, i ∈ dropK H (H'.map (·.1)) ↔ i ∈ H.map (·.1) ∧ i ∉ H'.map (·.1) := fun i => by
    unfold dropK; rw [List.mem_filter]
    simp only [Bool.not_eq_true', List.contains_eq_mem, decide_eq_false_iff_not]
  refine ⟨fun i hi => ?_, fun i hi => ?_, fun i hi => ?_, fun i t cells hB => ?_⟩
  · unfold dropOK at h1
    rw [List.all_eq_true] at h1
    have := h1 i hi
    simp only [Bool.and_eq_true, decide_eq_true_eq, Bool.not_eq_true', List.contains_eq_mem, decide_eq_false_iff_not] at this
    exact ⟨this.1.1, this.1.2, this.2⟩
  · cases hB : lookH H' i with
    | some B => exact ((h2.get i B hB).1).symm
    | none =>
      cases hC : lookH H i with
      | none => rfl
      | some C =>
        exfalso
        refine hi ((mem i).2 ⟨mem_lookH (by rw [hC]; simp), fun hm => ?_⟩)
        obtain ⟨B, hB'⟩ := lookH_mem hm
        rw [hB] at hB'; cases hB'
  · cases hB : lookH H' i with
    | none => rfl
    | some B => exact absurd (mem_lookH (by rw [hB]; simp)) ((mem i).1 hi).2
  · have := (h2.get i _ hB).2
    exact outDL_inP cells this
theorem close_rep {cf : Cf} (ok : cf.ok) {cx : Cx} (hHs : ∀ i, cf.b ≤ i → i < cf.b + 1000 → i ∉ cf.K → cx.Hs i = none) {T T' : TL} {H H' : HL} (h0 : dropOK cf (dropK H (H'.map (·.1))) = true) (h1 : ClosT (dropK H (H'.map (·.1))) T H T') (h2 : LessH (dropK H (H'.map (·.1))) H H') {a : Act} {w : World} (h : RepSt cf cx T H a w) : RepSt cf cx T' H' a w := by
  obtain ⟨F, ρ, h⟩ := h
  have d := less_drop h0 h2
  refine ⟨F, ρ, h.drop ok hHs d (fun i v hv => ?_)⟩
  rcases h1.get i with e | ⟨e1, e2⟩ | ⟨id, t, k, rows, e1, e2, e3, e4⟩
  · rw [e]; exact .dead _
  · rw [← e1] at hv
    exact d.sub h.out hv (outD_inP _ e2)
  · rw [e4]
    rw [e1] at hv
    exact close_own h d e2 e3 hv
theorem st_less {cf : Cf} {sc : SCode} {T : TL} {H : HL} {Q : Exit → TL → HL → Prop} (T' : TL) (H' : HL) (hl : Less cf T H T' H') (h : STri cf sc T' H' Q) : STri cf sc T H Q :=
  st_weak (fun ok _ hHs _ _ hr => close_rep ok hHs hl.1 hl.2.1.clos hl.2.2 hr) h
def keepH (hk : List Nat) (H : HL) : HL := hk.filterMap fun i => (lookH H i).map fun B => (i, B)
def lessOK (cf : Cf) (hk : List Nat) (T : TL) (H : HL) : Bool := dropOK cf (dropK H hk) && T.all (fun p => p.2.outD (dropK H hk)) && hk.all fun i => match lookH H i with
  | some B => B.outD (dropK H hk)
  | none => false
theorem keepH_keys {H : HL} : ∀ {hk : List Nat}, (hk.all fun i => (lookH H i).isSome) = true → (keepH hk H).map (·.1) = hk
  | [], _ => rfl
  | i :: hk, h => by
    simp only [List.all_cons, Bool.and_eq_true] at h
    obtain ⟨B, hB⟩ := Option.isSome_iff_exists.1 h.1
    have := keepH_keys (H := H) (hk := hk) h.2
    simp [keepH, hB] at this ⊢
    exact this
theorem less_keep {cf : Cf} {hk : List Nat} {T : TL} {H : HL} (h : lessOK cf hk T H = true) : dropOK cf (dropK H ((keepH hk H).map (·.1))) = true ∧ (∀ i, lookT T i = .dead ∨ (lookT T i).outD (dropK H ((keepH hk H).map (·.1))) = true) ∧ LessH (dropK H ((keepH hk H).map (·.1))) H (keepH hk H) := by
  unfold lessOK at h
  rw [Bool.and_eq_true, Bool.and_eq_true, List.all_eq_true, List.all_eq_true] at h
  obtain ⟨⟨h0, h1⟩, h2⟩ := h
  have hk1 : (keepH hk H).map (·.1) = hk := keepH_keys (by
    rw [List.all_eq_true]
    intro i hi
    have := h2 i hi
    split at this
    · rename_i B hB; simp [hB]
    · cases this)
  rw [hk1]
  refine ⟨h0, fun i => ?_, ?_⟩
  · clear h2 hk1 h0
    induction T with
    | nil => exact .inl rfl
    | cons p r ih =>
      obtain ⟨j, x⟩ := p
      by_cases hi : i = j
      · right; simp only [lookT, if_pos hi]; exact h1 (j, x) (by simp)
      · simp only [lookT, if_neg hi]; exact ih (fun q hq => h1 q (by simp [hq]))
  · have key : ∀ l : List Nat, (∀ i ∈ l, i ∈ hk) → LessH (dropK H hk) H (l.filterMap fun i => (lookH H i).map fun B => (i, B)) := by
      intro l
      induction l with
      | nil => intro _; trivial
      | cons i l ih =>
        intro hl
        have hh := h2 i (hl i (by simp))
        split at hh
        · rename_i B hB
          simp only [List.filterMap_cons, hB, Option.map_some]
          exact ⟨hB, hh, ih (fun j hj => hl j (by simp [hj]))⟩
        · cases hh
    exact key hk (fun i hi => hi)
theorem keep_rep {cf : Cf} (ok : cf.ok) {cx : Cx} (hHs : ∀ i, cf.b ≤ i → i < cf.b + 1000 → i ∉ cf.K → cx.Hs i = none) {hk : List Nat} {T : TL} {H : HL} (hl : lessOK cf hk T H = true) {a : Act} {w : World} {F : Nat → Option Blk} {ρ : Nat → Option Nat} (h : StAt cf cx T H a w F ρ) : StAt cf cx T (keepH hk H) a w F ρ := by
  obtain ⟨h0, h1, h2⟩ := less_keep hl
  have d := less_drop h0 h2
  refine h.drop ok hHs d (fun i v hv => ?_)
  rcases h1 i with e | e
  · rw [e]; exact .dead _
  · exact d.sub h.out hv (outD_inP _ e)
theorem st_keep {cf : Cf} {sc : SCode} {T : TL} {H : HL} {Q : Exit → TL → HL → Prop} (hk : List Nat) (hl : lessOK cf hk T H = true) (h : STri cf sc T (keepH hk H) Q) : STri cf sc T H Q :=
  st_weak (fun ok _ hHs _ _ ⟨F, ρ, hr⟩ => ⟨F, ρ, keep_rep ok hHs hl hr⟩) h
def whileQ (cf : Cf) (hk : List Nat) (I : Nat → TL → HL → Prop) (m : Nat) (Q : Exit → TL → HL → Prop) : Exit → TL → HL → Prop
  | .normal, T, H => ∃ m', m' < m ∧ lessOK cf hk T H = true ∧ I m' T (keepH hk H)
  | e, T, H => Q e T H
theorem st_while {cf : Cf} {A : SCode} {T : TL} {H : HL} {Q : Exit → TL → HL → Prop} (hk : List Nat) (I : Nat → TL → HL → Prop) (m0 : Nat) (hl : lessOK cf hk T H = true) (h0 : I m0 T (keepH hk H)) (hr : ∀ m T H, I m T H → STri cf A T H (whileQ cf hk I m Q)) :
    STri cf (.loop A) T H Q := by
  refine st_keep hk hl ?_
  refine st_loop (fun m T H => ∃ H', lessOK cf hk T H' = true ∧ H = H' ∧ I m T (keepH hk H') ∨ (H = H' ∧ I m T H')) ⟨keepH hk H, .inr ⟨rfl, h0⟩⟩ (m0 := m0) ?_
  rintro m T H ⟨H', ⟨h1, rfl, h3⟩ | ⟨rfl, h3⟩⟩
  · refine st_keep hk h1 ((hr m T _ h3).mono fun e T H h => ?_)
    cases e with
    | normal =>
      obtain ⟨m', h1, h2, h3⟩ := h
      exact ⟨m', h1, H, .inl ⟨h2, rfl, h3⟩⟩
    | _ => exact h
  · refine (hr m T _ h3).mono fun e T H h => ?_
    cases e with
    | normal =>
      obtain ⟨m', h1, h2, h3⟩ := h
      exact ⟨m', h1, H, .inl ⟨h2, rfl, h3⟩⟩
    | _ => exact h
def forQ (cf : Cf) (hk : List Nat) (I : Nat → TL → HL → Prop) (n k : Nat) (Q : Exit → TL → HL → Prop) : Exit → TL → HL → Prop
  | .normal, T, H => k < n ∧ lessOK cf hk T H = true ∧ I (k + 1) T (keepH hk H)
  | e, T, H => Q e T H
theorem st_for {cf : Cf} {A : SCode} {T : TL} {H : HL} {Q : Exit → TL → HL → Prop} (hk : List Nat) (N : Nat) (I : Nat → TL → HL → Prop) (hl : lessOK cf hk T H = true) (h0 : I 0 T (keepH hk H)) (hr : ∀ k T H, k ≤ N → I k T H → STri cf A T H (forQ cf hk I N k Q)) :
    STri cf (.loop A) T H Q := by
  refine st_while hk (fun m T H => ∃ k, k ≤ N ∧ m = N - k ∧ I k T H) (N - 0) hl ⟨0, Nat.zero_le _, rfl, h0⟩ ?_
  rintro m T H ⟨k, hk', rfl, hI⟩
  refine (hr k T H hk' hI).mono fun e T H h => ?_
  cases e with
  | normal => exact ⟨N - (k + 1), by have := h.1; omega, h.2.1, k + 1, h.1, rfl, h.2.2⟩
  | _ => exact h
def newOK (cf : Cf) (H : HL) (id : Nat) : Bool := decide (cf.b ≤ id) && decide (id < cf.b + 1000) && (lookH H id).isNone
theorem newOK_of {cf : Cf} {H : HL} {id : Nat} (h : newOK cf H id = true) : (cf.b ≤ id ∧ id < cf.b + 1000) ∧ lookH H id = none := by
  unfold newOK at h
  simp only [Bool.and_eq_true, decide_eq_true_eq, Option.isNone_iff_eq_none] at h
  exact h
theorem StAt.with {cf : Cf} {cx : Cx} {T T' : TL} {H H' : HL} {a : Act} {w : World} {F : Nat → Option Blk} {ρ ρ' : Nat → Option Nat} (ok : cf.ok) (h : StAt cf cx T H a w F ρ) {id : Nat} (hid : cf.b ≤ id ∧ id < cf.b + 1000) (hH : ∀ i, i ≠ id → lookH H' i = lookH H i)
    (hr : RepH cx.w0 cx.N0 cx.NA ρ' (tot F (lookH H')) w) (tr : Trans cx.NA w ρ (tot F (lookH H)) w ρ' (tot F (lookH H'))) (hT : ∀ i, RepS w cx.NA ρ' (tot F (lookH H')) (lookT T' i) (a.tmps.getD i undef)) : StAt cf cx T' H' a w F ρ' := by
  have hgh : lookH H' (1000000000 + cf.b) = lookH H (1000000000 + cf.b) := hH _ (by omega)
  refine ⟨by unfold kOf at *; rw [hgh]; exact h.iv, h.cl, h.out, h.ol, fun i hi => ?_, by rw [hgh]; exact h.yd, fun i hi => ?_, h.dm, ⟨h.rep.size, hr, hT⟩, fun x v hx => tr.mv (h.gh x v hx), h.tr.trans tr, h.df.move tr⟩
  · by_cases e : i = id
    · subst e; exact h.out i (.inl hid)
    · exact h.dis i (by rw [← hH i e]; exact hi)
  · by_cases e : i = id
    · subst e; exact .inl hid
    · exact h.av i (by rw [← hH i e]; exact hi)
theorem nil_rep {cf : Cf} (ok : cf.ok) {cx : Cx} {T : TL} {H : HL} {i id : Nat} {e : TypeId} {k : Nat} (hi : lookT T i = .c (.val (.slice none 0 0))) (hid : newOK cf H id = true) {a : Act} {w : World} (h : RepSt cf cx T H a w) :
    RepSt cf cx ((i, .own id 0) :: T) ((id, .arr e k []) :: H) a w := by
  obtain ⟨F, ρ, h⟩ := h
  obtain ⟨q1, q2⟩ := newOK_of hid
  have q3 : tot F (lookH H) id = none := by rw [tot_none q2]; exact h.out id (.inl q1)
  obtain ⟨v1, v2⟩ := virt_rep h.rep.heap q3 e k
  have hH : tot F (lookH ((id, .arr e k []) :: H)) = setH (tot F (lookH H)) (some (id, .arr e k [])) := by rw [← tot_set]; rfl
  refine ⟨F, setR ρ id none, h.with ok q1 (fun j hj => by simp [lookH, hj]) (by rw [hH]; exact v1) (by rw [hH]; exact v2) (fun j => ?_)⟩
  rw [hH]
  by_cases hj : j = i
  · subst hj
    have := h.rep.tmp j
    rw [hi] at this
    simp only [lookT, if_pos]
    generalize a.tmps.getD j undef = u at this ⊢
    cases this with
    | c _ _ r => cases r with
      | val => exact .own id 0 e k [] _ (by simp [setH]) (Nat.le_refl _) rfl (fun _ => .inl ⟨by simp [setR], rfl, rfl⟩)
  · simp only [lookT, if_neg hj]
    exact v2.mv (h.rep.tmp j)
theorem st_nil {cf : Cf} {sc : SCode} {T : TL} {H : HL} {Q : Exit → TL → HL → Prop} (i id : Nat) (e : TypeId) (k : Nat) (hi : lookT T i = .c (.val (.slice none 0 0))) (hid : newOK cf H id = true)
    (h : STri cf sc ((i, .own id 0) :: T) ((id, .arr e k []) :: H) Q) : STri cf sc T H Q :=
  st_weak (fun ok _ _ _ _ hr => nil_rep ok hi hid hr) h
theorem nilB_rep {cf : Cf} (ok : cf.ok) {cx : Cx} {T : TL} {H : HL} {bx j id : Nat} {e : TypeId} {k : Nat} {t : TypeId} {cs : List SV} (hb : lookH H bx = some (.box t cs)) (hbx : cf.b ≤ bx ∧ bx < cf.b + 1000) (hj : cs[j]? = some (.c (.val (.slice none 0 0)))) (hid : newOK cf H id = true) {a : Act} {w : World}
    (h : RepSt cf cx T H a w) : RepSt cf cx T (setL1 ((id, .arr e k []) :: H) bx (.box t (cs.set j (.own id 0)))) a w := by
  obtain ⟨F, ρ, h⟩ := h
  obtain ⟨q1, q2⟩ := newOK_of hid
  have q3 : tot F (lookH H) id = none := by rw [tot_none q2]; exact h.out id (.inl q1)
  obtain ⟨v1, v2⟩ := virt_rep h.rep.heap q3 e k
  have hne : bx ≠ id := fun e => by rw [e, q2] at hb; cases hb
  have hH : tot F (lookH ((id, .arr e k []) :: H)) = setH (tot F (lookH H)) (some (id, .arr e k [])) := by rw [← tot_set]; rfl
  have hb1 : setH (tot F (lookH H)) (some (id, .arr e k [])) bx = some (.box t cs) := by simp [setH, hne, tot_some hb]
  obtain ⟨b, cc, e1, e2, e3, e4⟩ := v1.blk bx _ hb1
  have hid1 : setH (tot F (lookH H)) (some (id, .arr e k [])) id = some (.arr e k []) := by simp [setH]
  obtain ⟨r1, r2⟩ := upd_rep (B1 := .box t (cs.set j (.own id 0))) (w' := w) (r := setR ρ id none bx) v1 hb1 ⟨rfl, rfl, rfl, Nat.le_refl _, fun _ _ _ => rfl⟩ (.inl rfl)
    ⟨fun B hB _ => by (rw [hb1] at hB; cases hB; exact ⟨.box t (cs.set j (.own id 0)), by simp [setH], rfl, by simp [setR]⟩), fun t' k' r' he => by (rw [hb1] at he; cases he)⟩
    (fun tr => by
      refine ⟨b, cc, by rw [← e1]; simp [setR], e2, by simpa using e3, fun i x v hx hv => ?_⟩
      rw [List.getElem?_set] at hx
      by_cases hij : j = i
      · subst hij
        have hlt : j < cs.length := (List.getElem?_eq_some_iff.1 hj).1
        rw [if_pos rfl, if_pos hlt] at hx
        cases hx
        have := e4 j _ v hj hv
        refine tr.mv ?_
        cases this with
        | c _ _ r => cases r with
          | val => exact .own id 0 e k [] _ hid1 (Nat.le_refl _) rfl (fun _ => .inl ⟨by simp [setR], rfl, rfl⟩)
      · rw [if_neg hij] at hx
        exact tr.mv (e4 i x v hx hv))
  have hH2 : tot F (lookH (setL1 ((id, .arr e k []) :: H) bx (.box t (cs.set j (.own id 0))))) = setH (setH (tot F (lookH H)) (some (id, .arr e k []))) (some (bx, .box t (cs.set j (.own id 0)))) := by
    rw [lookH_set1, tot_set, hH]
  have h1 : StAt cf cx T ((id, .arr e k []) :: H) a w F (setR ρ id none) := h.with ok q1 (fun j hj => by simp [lookH, hj]) (by rw [hH]; exact v1) (by rw [hH]; exact v2) (fun j => by rw [hH]; exact v2.mv (h.rep.tmp j))
  refine ⟨F, setR (setR ρ id none) bx (setR ρ id none bx), h1.with ok hbx (fun i hi => by rw [lookH_set1]; simp [setH, hi]) (by rw [hH2]; exact r1) (by rw [hH2, hH]; exact r2) (fun i => ?_)⟩
  rw [hH2]
  exact r2.mv (by have := h1.rep.tmp i; rwa [hH] at this)
theorem st_nilB {cf : Cf} {sc : SCode} {T : TL} {H : HL} {Q : Exit → TL → HL → Prop} (bx j id : Nat) (e : TypeId) (k : Nat) {t : TypeId} {cs : List SV} (hb : lookH H bx = some (.box t cs)) (hbx : cf.b ≤ bx ∧ bx < cf.b + 1000) (hj : cs[j]? = some (.c (.val (.slice none 0 0)))) (hid : newOK cf H id = true)
    (h : STri cf sc T (setL1 ((id, .arr e k []) :: H) bx (.box t (cs.set j (.own id 0)))) Q) : STri cf sc T H Q :=
  st_weak (fun ok _ _ _ _ hr => nilB_rep ok hb hbx hj hid hr) h
mutual
inductive CLe : CV → CV → Prop
  | refl (x : CV) : CLe x x
  | nil (k : Nat) : CLe (.val (.slice none 0 0)) (.sl k [])
  | empty (k k' : Nat) : CLe (.sl k []) (.sl k' [])
  | slx (k : Nat) (rows : List (List CV)) : CLe (.slx k rows) (.sl k rows)
  | agg (xs ys : List CV) : CLes xs ys → CLe (.agg xs) (.agg ys)
  | tup (xs ys : List CV) : CLes xs ys → CLe (.tup xs) (.tup ys)
inductive CLes : List CV → List CV → Prop
  | nil : CLes [] []
  | cons (x y : CV) (xs ys : List CV) : CLe x y → CLes xs ys → CLes (x :: xs) (y :: ys)
end
mutual
theorem CLe.rep {w : World} {N : Nat → Prop} : ∀ {x y : CV} {v : Value}, CLe x y → RepC w N x v → RepC w N y v
  | _, _, _, .refl _, h => h
  | _, _, _, .nil k, h => by cases h; exact .nil k none 0 (Nat.zero_le _)
  | _, _, _, .slx k rows, h => by cases h with | slx _ _ ad h => exact h
  | _, _, _, .empty k k', h => by
    obtain ⟨ad, c, rfl, _, h2, _⟩ := h.sl_inv
    exact .nil k' ad c h2
  | _, _, _, .agg xs ys hs, h => by
    cases h with
    | agg _ vs h1 h2 =>
      obtain ⟨h3, h4⟩ := CLes.rep (w := w) (N := N) hs (vs := vs.toList) (fun i x v hx hv => h2 i x v hx (by simpa using hv))
      exact .agg ys vs (h1.trans h3) (fun i x v hx hv => h4 i x v hx (by simpa using hv))
  | _, _, _, .tup xs ys hs, h => by
    cases h with
    | tup _ vs h1 h2 =>
      obtain ⟨h3, h4⟩ := CLes.rep (w := w) (N := N) hs (vs := vs.toList) (fun i x v hx hv => h2 i x v hx (by simpa using hv))
      exact .tup ys vs (h1.trans h3) (fun i x v hx hv => h4 i x v hx (by simpa using hv))
theorem CLes.rep {w : World} {N : Nat → Prop} : ∀ {xs ys : List CV}, CLes xs ys → ∀ {vs : List Value}, (∀ (i : Nat) x v, xs[i]? = some x → vs[i]? = some v → RepC w N x v) → xs.length = ys.length ∧ ∀ (i : Nat) x v, ys[i]? = some x → vs[i]? = some v → RepC w N x v
  | _, _, .nil, vs, h => ⟨rfl, h⟩
  | _, _, .cons x y xs ys hx hs, vs, h => by
    cases vs with
    | nil =>
      obtain ⟨h1, _⟩ := CLes.rep (w := w) (N := N) hs (vs := []) (fun i x v _ hv => by simp at hv)
      exact ⟨by simp [h1], fun i x v _ hv => by simp at hv⟩
    | cons u us =>
      obtain ⟨h1, h2⟩ := CLes.rep (w := w) (N := N) hs (vs := us) (fun i x v hx hv => h (i + 1) x v (by simpa using hx) (by simpa using hv))
      refine ⟨by simp [h1], fun i z v hz hv => ?_⟩
      cases i with
      | zero => simp at hz hv; subst hz; subst hv; exact CLe.rep hx (h 0 x u rfl rfl)
      | succ i => exact h2 i z v (by simpa using hz) (by simpa using hv)
end
theorem SC.le {P : Program} {f : FuncId} {cs cs' : List CV} {r r' : CV} (h : SC P f cs r) (hc : CLes cs' cs) (hr : CLe r r') : SC P f cs' r' := fun w NA vs hn hs hv => by
  obtain ⟨h1, h2⟩ := CLes.rep (w := w) (N := NA) hc (vs := vs.toList) (fun i x v hx hv' => hv i x v hx (by simpa using hv'))
  exact (h w NA vs hn (hs.trans h1) (fun i x v hx hv' => h2 i x v hx (by simpa using hv'))).mono fun e w' ⟨v, e1, e2, e3⟩ => ⟨v, e1, hr.rep e2, e3⟩
inductive SRes where
  | tmp (t : Nat)
  | cell (p : Nat) (ag : Bool) (n : Nat)
def compRes (P : Program) : List ResultVar → Option (List SRes)
  | [] => some []
  | .tmp t :: r => (compRes P r).map (.tmp t :: ·)
  | .cell p ty :: r => match isAggT P ty, sizeT P ty, compRes P r with
    | some ag, some n, some l => if ag = true ∨ n = 1 then some (.cell p ag n :: l) else none
    | _, _, _ => none
def resC (T : Nat → SV) (H : Nat → Option Blk) : List SRes → Option (List CV)
  | [] => some []
  | .tmp t :: r => match close H (T t), resC T H r with
    | some x, some l => some (x :: l)
    | _, _ => none
  | .cell p ag n :: r => match T p with
    | .ptr id j => match H id with
      | some (.box _ cs) => if j + n ≤ cs.length then match mkS ag ((cs.drop j).take n) with
          | some y => match close H y, resC T H r with
            | some x, some l => some (x :: l)
            | _, _ => none
          | none => none
        else none
      | _ => none
    | _ => none
def packC : List CV → CV
  | [x] => x
  | xs => .tup xs
def initT : Nat → List CV → TL
  | _, [] => []
  | k, x :: xs => (k, .c x) :: initT (k + 1) xs
def retQ (rs : List SRes) (r : CV) (e : Exit) (T : TL) (H : HL) : Prop := (e = .normal ∨ e = .ret) ∧ ∃ xs, resC (lookT T) (lookH H) rs = some xs ∧ CLe (packC xs) r
theorem initT_get : ∀ (cs : List CV) (k i : Nat), lookT (initT k cs) i = if k ≤ i then (match cs[i - k]? with | some x => .c x | none => .dead) else .dead
  | [], k, i => by simp [initT, lookT]
  | x :: xs, k, i => by
    simp only [initT, lookT]
    by_cases h : i = k
    · subst h; simp
    · rw [if_neg h, initT_get xs (k + 1) i]
      by_cases h1 : k ≤ i
      · rw [if_pos (show k + 1 ≤ i by omega), if_pos h1]
        have : i - k = (i - (k + 1)) + 1 := by omega
        rw [this]; rfl
      · rw [if_neg (show ¬ k + 1 ≤ i by omega), if_neg h1]
theorem rep_mk {w : World} {NA : Nat → Prop} {ρ : Nat → Option Nat} {H : Nat → Option Blk} (xs : List SV) (ag : Bool) {cs : Array Value} {ty : TypeId} {P : Program} {n : Nat} {b j : Nat} {t : TypeId} (ha : isAggT P ty = some ag) (hn : sizeT P ty = some n) (hag : ag = true ∨ n = 1)
    (hb : w.heap[b]? = some (.cells cs t (0, 0))) (hr : RepL w NA ρ H xs cs.toList) (hj : j + n ≤ xs.length) {y : SV} (hy : mkS ag ((xs.drop j).take n) = some y) : ∃ v, (loadVar ty ⟨b, j, none⟩).run P w = .ok v w ∧ RepS w NA ρ H y v := by
  have hl : ((cs.toList.drop j).take n).length = n := by have := hr.1; simp at this ⊢; omega
  have h1 := loadVar_run (P := P) (w := w) ha (us := (cs.toList.drop j).take n) (by rw [hl]; exact hn) (b := b) (off := j) (fun m v hm => by
    have := sub_get _ _ _ _ _ hm
    rw [cell_of_row w b (j + m) cs t (0, 0) hb]; simpa using this) (by rw [hl]; exact hag)
  have h2 := mkS_rep (hr.sub j n) hy
  refine ⟨_, h1, ?_⟩
  cases ag with
  | true => simpa using h2
  | false =>
    obtain ⟨v, hv1, hv2⟩ := (by simpa using h2 : ∃ v, (cs.toList.drop j).take n = [v] ∧ RepS w NA ρ H y v)
    rw [hv1]; simpa using hv2
def resOne (tmps : Array Value) : ResultVar → Sem Value
  | .tmp t => pure (tmps.getD t undef)
  | .cell a t => do loadVar t (← asAddr (tmps.getD a undef))
theorem results_eq {P : Program} {w : World} {fn : Func} {tmps : Array Value} {vs : List Value} (h : (fn.results.toList.mapM (resOne tmps)).run P w = .ok vs w) : (results fn tmps).run P w = .ok (if h : vs.toArray.size = 1 then vs.toArray[0] else .tuple vs.toArray) w := by
  have e : results fn tmps = (fn.results.mapM (resOne tmps) >>= fun vs => pure (if h : vs.size = 1 then vs[0] else .tuple vs)) := by
    unfold results
    rfl
  rw [e, Array.mapM_eq_mapM_toList]
  simp [h]
theorem res_run {P : Program} {w0 w : World} {N0 NA : Nat → Prop} {ρ : Nat → Option Nat} {H : Nat → Option Blk} {T : Nat → SV} {tmps : Array Value} (h : RepH w0 N0 NA ρ H w) (ht : ∀ i, RepS w NA ρ H (T i) (tmps.getD i undef)) : ∀ {rv : List ResultVar} {rs : List SRes} {xs : List CV},
    compRes P rv = some rs → resC T H rs = some xs → ∃ vs : List Value, (rv.mapM (resOne tmps)).run P w = .ok vs w ∧
      vs.length = xs.length ∧ ∀ (i : Nat) x v, xs[i]? = some x → vs[i]? = some v → RepC w (fun b => NA b ∧ ¬ Own ρ H b) x v
  | [], rs, xs, hc, hx => by
    simp [compRes] at hc; subst hc
    simp [resC] at hx; subst hx
    exact ⟨[], by simp, rfl, fun i x v h => by simp at h⟩
  | .tmp t :: rv, rs, xs, hc, hx => by
    simp only [compRes, Option.map_eq_some_iff] at hc
    obtain ⟨l, hl, rfl⟩ := hc
    simp only [resC] at hx
    split at hx
    case h_2 => cases hx
    case h_1 x xs' hx1 hx2 =>
    cases hx
    obtain ⟨vs, h1, h2, h3⟩ := res_run h ht hl hx2
    obtain ⟨g1, g2, _⟩ := closeAll_rep h (RepL.cons (ht t) RepL.nil) (cs := [x]) (by simp [closeAll, hx1])
    refine ⟨tmps.getD t undef :: vs, by simp [List.mapM_cons, resOne, h1], by simp [h2], fun i y v hy hv => ?_⟩
    cases i with
    | zero => simp only [List.getElem?_cons_zero, Option.some.injEq] at hy hv; subst hy; subst hv; exact g2 0 _ _ rfl rfl
    | succ i => exact h3 i y v (by simpa using hy) (by simpa using hv)
  | .cell p ty :: rv, rs, xs, hc, hx => by
    simp only [compRes] at hc
    split at hc
    case h_2 => cases hc
    case h_1 ag n l ha hn hl =>
    split at hc
    case isFalse => cases hc
    case isTrue hag =>
    cases hc
    simp only [resC] at hx
    split at hx
    case h_2 => cases hx
    case h_1 id j hp =>
    split at hx
    case h_2 => cases hx
    case h_1 t cs hH =>
    split at hx
    case isFalse => cases hx
    case isTrue hj =>
    split at hx
    case h_2 => cases hx
    case h_1 y hy =>
    split at hx
    case h_2 => cases hx
    case h_1 x xs' hx1 hx2 =>
    cases hx
    obtain ⟨vs, h1, h2, h3⟩ := res_run h ht hl hx2
    have hpt := ht p
    rw [hp] at hpt
    generalize hv : tmps.getD p undef = v at hpt
    cases hpt with
    | ptrB _ _ t' cells b hH' hb =>
      rw [hH] at hH'; cases hH'
      obtain ⟨b', cc, e1, e2, e3, e4⟩ := h.blk id _ hH
      rw [hb] at e1; cases e1
      obtain ⟨u, hu1, hu2⟩ := rep_mk (P := P) (j := j) cs ag ha hn hag e2 ⟨by simpa using e3, fun i x v hx hv => e4 i x v hx (by simpa using hv)⟩ hj hy
      obtain ⟨g1, g2, _⟩ := closeAll_rep h (RepL.cons hu2 RepL.nil) (cs := [x]) (by simp [closeAll, hx1])
      refine ⟨u :: vs, by simp only [List.mapM_cons, resOne, Sem.run_bind, hv, asAddr, Sem.run_pure, Result.andThen_ok, hu1, h1], by simp [h2], fun i y v hy hv => ?_⟩
      cases i with
      | zero => simp only [List.getElem?_cons_zero, Option.some.injEq] at hy hv; subst hy; subst hv; exact g2 0 _ _ rfl rfl
      | succ i => exact h3 i y v (by simpa using hy) (by simpa using hv)
end Go.Proofs.YtboifcengmgcaaaGreat
/- The shadow's code, III: functions. -/
namespace Go.Proofs.YtboifcengmgcaaaGreat
open Go.RowKit
section
variable {w : World} {D : Nat} {o : Obj}
theorem deferred_cell (hD : w.heap[D]? = some (.deferred (some []))) (off : Nat) : w.cell? ⟨D, off, none⟩ = none := by
  simp [World.cell?, hD]
theorem put_other {b : Nat} {x : Obj} (hD : w.heap[D]? = some (.deferred (some []))) (hx : w.heap[b]? = some x) (hne : ∀ ds, x ≠ .deferred ds) : (w.putObj D o).heap[b]? = some x := by
  rw [World.putObj_heap_other, hx]
  intro e; subst e
  rw [hD] at hx; cases hx
  exact hne _ rfl
theorem RepC.avoid {N : Nat → Prop} (hD : w.heap[D]? = some (.deferred (some []))) {x : CV} {v : Value} (r : RepC w N x v) : RepC (w.putObj D o) N x v := by
  have cell : ∀ b off v, w.cell? ⟨b, off, none⟩ = some v → (w.putObj D o).cell? ⟨b, off, none⟩ = some v := fun b off v h => by
    have : b ≠ D := fun e => by subst e; rw [deferred_cell hD] at h; cases h
    exact (World.cell?_of_block (w := w) (w' := w.putObj D o) (a := ⟨b, off, none⟩) (World.putObj_heap_other this)).trans h
  induction r with
  | val v => exact .val v
  | agg xs vs hs _ ih => exact .agg xs vs hs ih
  | tup xs vs hs _ ih => exact .tup xs vs hs ih
  | nil k a c hc => exact .nil k a c hc
  | sl k rows b off c u h1 h2 h3 h4 h5 h6 _ ih => exact .sl k rows b off c u h1 h2 (by simpa using h3) h4 h5 (fun j row i x hr hx => cell _ _ _ (h6 j row i x hr hx)) ih
  | slx k rows ad _ ih => exact .slx k rows ad ih
  | fn f fs cs vf vc h1 h2 _ _ ih1 ih2 => exact .fn f fs cs vf vc h1 h2 ih1 ih2
  | ref xs b off u h1 h2 h3 h4 _ ih => exact .ref xs b off u (by simpa using h1) h2 h3 (fun i x hx => cell _ _ _ (h4 i x hx)) ih
  | nilm ag kd => exact .nilm ag kd
  | map ag kd es b ents clock h1 h2 h3 h4 _ ih => exact .map ag kd es b ents clock (by simpa using h1) h2 (put_other hD h3 (fun ds h => by cases h)) h4 ih
  | ifc t x v _ ih => exact .ifc t x v ih
variable {NA : Nat → Prop} {ρ : Nat → Option Nat} {H : Nat → Option Blk}
theorem RepS.avoid (hD : w.heap[D]? = some (.deferred (some []))) {x : SV} {v : Value} (r : RepS w NA ρ H x v) : RepS (w.putObj D o) NA ρ H x v := by
  induction r with
  | c x v r => exact .c x v (r.avoid hD)
  | agg xs vs hs _ ih => exact .agg xs vs hs ih
  | tup xs vs hs _ ih => exact .tup xs vs hs ih
  | own id len t k rows v hH hl ho hv =>
    refine .own id len t k rows v hH hl ho (fun e => ?_)
    rcases hv e with h1 | ⟨b, cap, cs, t', h1, h2, h3, h4, h5, h6⟩
    · exact .inl h1
    · exact .inr ⟨b, cap, cs, t', h1, h2, put_other hD h3 (fun ds h => by cases h), h4, h5, h6⟩
  | ptrB id j t cells b hH hb => exact .ptrB id j t cells b hH hb
  | ptrA id len i j t k rows v hH hl ho hv => exact .ptrA id len i j t k rows v hH hl ho hv
  | pel k rows i j b off c hc hi => exact .pel k rows i j b off c (hc.avoid hD) hi
  | fn f fs cs vf vc h1 h2 _ _ ih1 ih2 => exact .fn f fs cs vf vc h1 h2 ih1 ih2
  | yl id lo b hH hb => exact .yl id lo b hH hb
  | om id ag kd es b hH hb => exact .om id ag kd es b hH hb
  | it id ag kd l c b hH hb => exact .it id ag kd l c b hH hb
  | dead v => exact .dead v
theorem RepH.avoid {w0 : World} {N0 : Nat → Prop} (hD : w.heap[D]? = some (.deferred (some []))) (hlo : w0.heap.size ≤ D) (h : RepH w0 N0 NA ρ H w) : RepH w0 N0 NA ρ H (w.putObj D o) := by
  refine ⟨h.inj, fun id B hB => ?_, ⟨h.fr.os, h.fr.tape, h.fr.output, by simpa using h.fr.size, fun b hb hn => ?_⟩, h.low⟩
  · have hr := h.blk id B hB
    cases B with
    | box t cells =>
      obtain ⟨b, cs, e1, e2, e3, e4⟩ := hr
      exact ⟨b, cs, e1, put_other hD e2 (fun ds h => by cases h), e3, fun j x v hx hv => (e4 j x v hx hv).avoid hD⟩
    | arr t k rows =>
      rcases hr with ⟨e1, e2⟩ | ⟨b, cs, cap, e1, e2, e3, e4, e5, e6, e7⟩
      · exact .inl ⟨e1, e2⟩
      · exact .inr ⟨b, cs, cap, e1, put_other hD e2 (fun ds h => by cases h), e3, e4, e5, e6, fun j row m x hr hx => by
          obtain ⟨v, hv1, hv2⟩ := e7 j row m x hr hx
          exact ⟨v, hv1, hv2.avoid hD⟩⟩
    | map ag kd es =>
      obtain ⟨b, ents, clock, e1, e2, e3, e4⟩ := hr
      exact ⟨b, ents, clock, e1, put_other hD e2 (fun ds h => by cases h), e3, fun i p e hp he => (e4 i p e hp he).avoid hD⟩
    | loop lo =>
      obtain ⟨b, e1, e2⟩ := hr
      exact ⟨b, e1, put_other hD e2 (fun ds h => by cases h)⟩
    | gh k s => exact hr
    | it ag kd l c =>
      obtain ⟨b, e1, e2⟩ := hr
      refine ⟨b, e1, ?_⟩
      rcases e2 with ⟨h1, h2, s, q, c, h3⟩ | ⟨Bm, since, seen, c0, ents, clock, es, h1, h2, h3, h4, h5, h6, h7⟩
      · exact .inl ⟨h1, h2, s, q, c, put_other hD h3 (fun ds h => by cases h)⟩
      · exact .inr ⟨Bm, since, seen, c0, ents, clock, es, put_other hD h1 (fun ds h => by cases h), by simpa using h2, h3, put_other hD h4 (fun ds h => by cases h), h5, fun i p e hp he => (h6 i p e hp he).avoid hD, h7⟩
  · rw [World.putObj_heap_other (by omega)]
    exact h.fr.block b hb hn
theorem Trans.avoid {ws : World} {ρs : Nat → Option Nat} {Hs : Nat → Option Blk} (hD : w.heap[D]? = some (.deferred (some []))) (hlo : ws.heap.size ≤ D) (h : Trans NA ws ρs Hs w ρ H) : Trans NA ws ρs Hs (w.putObj D o) ρ H := by
  refine ⟨⟨by simpa using h.1.size, fun b hb hn => ?_⟩, fun i => ⟨(h.2 i).1, fun t k rows hB => ?_⟩⟩
  · rw [World.putObj_heap_other (by omega)]
    exact h.1.same b hb hn
  · obtain ⟨rows', e1, e2, e3⟩ := (h.2 i).2 t k rows hB
    refine ⟨rows', e1, e2, fun he => ?_⟩
    obtain ⟨q1, q2⟩ := e3 he
    refine ⟨q1, fun b cs t' hb hc => ?_⟩
    obtain ⟨cs', c1, c2⟩ := q2 b cs t' hb hc
    exact ⟨cs', put_other hD c1 (fun ds h => by cases h), c2⟩
end
theorem StAt.avoid {cf : Cf} {cx : Cx} {T : TL} {H : HL} {tmps : Array Value} {ds : List Deferred} {w : World} {F : Nat → Option Blk} {ρ : Nat → Option Nat} (hlo0 : cx.w0.heap.size ≤ cx.ws.heap.size) {D : Nat} {o : Obj} (hD : w.heap[D]? = some (.deferred (some []))) (hlo : cx.ws.heap.size ≤ D)
    (h : StAt cf cx T H { tmps := tmps, defers := ds } w F ρ) : StAt cf cx T H { tmps := tmps, defers := [] } (w.putObj D o) F ρ :=
  ⟨h.iv, h.cl, h.out, h.ol, h.dis, h.yd, h.av, h.dm, ⟨h.rep.size, h.rep.heap.avoid hD (Nat.le_trans hlo0 hlo), fun i => (h.rep.tmp i).avoid hD⟩, fun x v hx => (h.gh x v hx).avoid hD, h.tr.avoid hD hlo, [], rfl, List.nodup_nil, fun D hD => by cases hD⟩
theorem StAt.nodef {cf : Cf} {cx : Cx} {T : TL} {H : HL} {tmps : Array Value} {ds : List Deferred} {w : World} {F : Nat → Option Blk} {ρ : Nat → Option Nat} (h : StAt cf cx T H { tmps := tmps, defers := ds } w F ρ) : StAt cf cx T H { tmps := tmps, defers := [] } w F ρ :=
  ⟨h.iv, h.cl, h.out, h.ol, h.dis, h.yd, h.av, h.dm, ⟨h.rep.size, h.rep.heap, h.rep.tmp⟩, h.gh, h.tr, [], rfl, List.nodup_nil, fun D hD => by cases hD⟩
theorem leaves_defs {n : Nat} {P : Program} {fn : Func} {tmps : Array Value} {R : Ending → World → Prop} {lo : Nat} (K : World → Prop) (hK : ∀ w D, K w → w.heap[D]? = some (.deferred (some [])) → lo ≤ D → K (w.putObj D (.deferred none))) (hend : ∀ w, K w → LeavesIn Fence.wide n P fn tmps R [] .returning w) :
    ∀ (Ds : List Nat) (w : World), Ds.Nodup → (∀ D ∈ Ds, lo ≤ D ∧ w.heap[D]? = some (.deferred (some []))) → K w → LeavesInM Fence.wide n P fn tmps R (Ds.map (fun D => { target := .collected D, args := #[] })) .returning w
  | [], w, _, _, hw => hend w hw
  | D :: Ds, w, hnd, hds, hw => by
    obtain ⟨h1, h2⟩ := hds D (by simp)
    refine ⟨by simp, .inl ⟨_, _, rfl, run_takeDeferred h2, ?_⟩⟩
    rw [List.nodup_cons] at hnd
    refine leaves_defs K hK hend Ds _ hnd.2 (fun E hE => ?_) (hK w D hw h2 h1)
    obtain ⟨g1, g2⟩ := hds E (by simp [hE])
    have hne : E ≠ D := fun e => by subst e; exact hnd.1 hE
    exact ⟨g1, by rw [World.putObj_heap_other hne]; exact g2⟩
theorem calls_of_st {cf : Cf} (ok : cf.ok) (hm : cf.P.follows .mixedOrders = true) {f : FuncId} {fn : Func} {c : Code} {sc : SCode} (hf : cf.P.funcs[f]? = some fn) (hb : fn.body = some c) (hcomp : compCode cf.P cf.M cf.n c = some sc.erase) {T : TL} {H : HL} {Q : Exit → TL → HL → Prop} (h : STri cf sc T H Q)
    {cx : Cx} (hHs : ∀ i, cf.b ≤ i → i < cf.b + 1000 → i ∉ cf.K → cx.Hs i = none) (hu : cf.o = true → ∀ i, Up cf.b i → cx.Hs i = none) (hlo0 : cx.w0.heap.size ≤ cx.ws.heap.size) {vs : Array Value} {w : World} (hst : RepSt cf cx T H { tmps := vs ++ Array.replicate (fn.ntmps - vs.size) undef, defers := [] } w) {R : Ending → World → Prop}
    (hQ : ∀ e T' H' tmps w' F ρ, Q e T' H' → StAt cf cx T' H' { tmps := tmps, defers := [] } w' F ρ → (e = .normal ∨ e = .ret) ∧ ∃ v, (results fn tmps).run cf.P w' = .ok v w' ∧ R (.returned v) w') : Calls cf.P f vs w R := by
  refine (callsIn_wide (n := 0)).1 (callsIn_of_wp_marks (F := Fence.wide) hf hb trivial (wpIn_mono (h ok hm c hcomp none 0 (fun _ => rfl) cx hHs hu _ w hst) fun e a' w' hq => ?_) rfl)
  obtain ⟨T', H', q, F, ρ, st⟩ := hq
  obtain ⟨tmps, ds⟩ := a'
  have key : (e = .normal ∨ e = .ret) ∧ LeavesInM Fence.wide 0 cf.P fn tmps R ds .returning w' := by
    have he := (hQ e T' H' tmps w' F ρ q st.nodef).1
    refine ⟨he, ?_⟩
    obtain ⟨Ds, rfl, hnd, hds⟩ := st.df
    refine leaves_defs (lo := cx.ws.heap.size) (fun w => StAt cf cx T' H' { tmps := tmps, defers := [] } w F ρ) (fun w D hw hD hlo => hw.avoid hlo0 hD hlo) (fun w hw => ?_) Ds w' hnd (fun D hD => ?_) st.nodef
    · exact (hQ e T' H' tmps w F ρ q hw).2
    · obtain ⟨l, q1, q2, q3⟩ := hds D hD
      exact ⟨l, q3⟩
  rcases key with ⟨rfl | rfl, hl⟩
  · exact hl
  · exact hl
def cfF (P : Program) (M : List FuncId) (n : Nat) : Cf := { P := P, M := M, n := n, b := 0, K := [], Iv := fun _ _ F => F = fun _ => none, A := fun _ => False, G := fun _ _ => False, o := true }
theorem cfF_ok (P : Program) (M : List FuncId) (n : Nat) (hn : n ≤ 1000) : (cfF P M n).ok := ⟨hn, by show 0 + 1000 ≤ 1000000000; decide, fun _ _ h => h, fun _ _ _ h => h, fun _ _ h => h.elim⟩
theorem sc_of {P : Program} {f : FuncId} {fn : Func} {c : Code} {sc : SCode} {rs : List SRes} {cs : List CV} {r : CV} (M : List FuncId) (hm : P.follows .mixedOrders = true) (hf : P.funcs[f]? = some fn) (hb : fn.body = some c) {n : Nat} (hn : fn.ntmps = n) (hn2 : n ≤ 1000) (hcomp : compCode P M n c = some sc.erase) (hres : compRes P fn.results.toList = some rs)
    (hle : cs.length ≤ n) (h : STri (cfF P M n) sc (initT 0 cs) [] (retQ rs r)) : SC P f cs r := fun w NA vs hna hs hv => by
  have e0 : tot (fun _ => none) (lookH []) = fun _ => none := by funext i; rfl
  have st0 : StAt (cfF P M n) ⟨w, fun _ => False, NA, w, fun _ => none, fun _ => none, hna, fun _ _ h => h⟩ (initT 0 cs) [] { tmps := vs ++ Array.replicate (fn.ntmps - vs.size) undef, defers := [] } w (fun _ => none) (fun _ => none) := by
    refine ⟨rfl, fun id t cells h => by simp at h, fun _ _ => rfl, fun _ _ _ => rfl, fun _ _ => rfl, .inl rfl, fun i hi => absurd rfl hi, fun i hi => absurd rfl hi, ⟨?_, ⟨?_, ?_, ⟨rfl, rfl, rfl, Nat.le_refl _, fun _ _ _ => rfl⟩, ?_⟩, fun i => ?_⟩, fun _ _ h => h.elim, ?_, [], rfl, List.nodup_nil, fun D hD => by cases hD⟩
    · show _ = n
      simp; omega
    · intro i j b h1; exact absurd (by rw [e0]) h1
    · intro id B hB; rw [e0] at hB; cases hB
    · rintro b ⟨i, h1, _⟩; exact absurd (by rw [e0]) h1
    · rw [initT_get, if_pos (Nat.zero_le _), Nat.sub_zero]
      cases hc : cs[i]? with
      | none => exact .dead _
      | some x =>
        have hi : i < vs.size := by rw [hs]; exact (List.getElem?_eq_some_iff.1 hc).1
        have : (vs ++ Array.replicate (fn.ntmps - vs.size) undef).getD i undef = vs[i] := by simp [hi, Array.getElem?_append_left hi]
        rw [this]
        refine .c x _ ((hv i x _ hc (Array.getElem?_eq_getElem hi)).move ⟨Nat.le_refl _, fun b _ hb => ⟨rfl, fun hm => ?_⟩⟩)
        rcases hm with hm | ⟨i, h1, _⟩
        · exact hb hm
        · exact h1 (by rw [e0])
    · rw [e0]; exact Trans.refl _ _ _ _
  refine calls_of_st (cf := cfF P M n) (cfF_ok P M n hn2) hm hf hb hcomp h (cx := ⟨w, fun _ => False, NA, w, fun _ => none, fun _ => none, hna, fun _ _ h => h⟩) (fun _ _ _ _ => rfl) (fun _ _ _ => rfl) (Nat.le_refl _) ⟨_, _, st0⟩ (fun e T' H' tmps w' F ρ hq st => ?_)
  obtain ⟨he, xs, hx1, hx2⟩ := hq
  refine ⟨he, ?_⟩
  have hF : F = fun _ => none := st.iv
  subst hF
  have e1 : tot (fun _ => none) (lookH H') = lookH H' := by
    funext i
    cases h : lookH H' i with
    | none => rw [tot_none h]
    | some B => rw [tot_some h]
  have q1 := st.rep.heap
  have q2 := st.rep.tmp
  rw [e1] at q1 q2
  obtain ⟨us, u1, u2, u3⟩ := res_run (P := P) q1 q2 hres hx1
  have hrun := results_eq (P := P) u1
  have hcalm : Calm w' (fun b => NA b ∧ ¬ Own ρ (lookH H') b) w' NA := ⟨Nat.le_refl _, fun b _ hb => ⟨rfl, fun hm => hb ⟨hm, fun ho => (q1.low b ho (hna b hm)).1.elim⟩⟩⟩
  have hrep : RepC w' NA (packC xs) (if h : us.toArray.size = 1 then us.toArray[0] else .tuple us.toArray) := by
    by_cases h1 : us.length = 1
    · match us, h1, xs, u2, u3 with
      | [u], _, [x], _, u3 => exact (u3 0 x u rfl rfl).move hcalm
      | [u], _, [], u2, _ => simp at u2
      | [u], _, _ :: _ :: _, u2, _ => simp at u2
    · rw [dif_neg (by simpa using h1)]
      have hp : packC xs = .tup xs := by
        match xs, u2 with
        | [], _ => rfl
        | [x], u2 => exact absurd u2 (by simpa using h1)
        | _ :: _ :: _, _ => rfl
      rw [hp]
      exact .tup xs us.toArray (by simpa using u2) (fun i x v hx hv => (u3 i x v hx (by simpa using hv)).move hcalm)
  have hext : Ext w w' := ⟨q1.fr.os, q1.fr.tape, q1.fr.output, q1.fr.size, fun b hb => q1.fr.block b hb (fun h => h)⟩
  exact ⟨_, hrun, _, rfl, hx2.rep hrep, hext⟩
end Go.Proofs.YtboifcengmgcaaaGreat
/- The shadow's code, IV: iterators. -/
namespace Go.Proofs.YtboifcengmgcaaaGreat
open Go.RowKit
def IterL (P : Program) (g : FuncId) (b : Nat) (fs cs : List CV) (xs : List (List CV)) : Prop :=
  ∀ (Iv : Inv) (A : Nat → Prop) (G : SV → Value → Prop) (id : Nat), (∀ i, Up b i → ¬ A i) → (∃ v, G (.yl id) v) → (∀ k row, xs[k]? = some row → YT P Iv A G id k row) →
    ∀ (w0 : World) (N0 NA : Nat → Prop) (ρ : Nat → Option Nat) (F : Nat → Option Blk) (l : Nat) (lo : Loop) (vf vc : Array Value) (w : World), (∀ b, NA b → b < w0.heap.size) → (∀ b, NA b → ¬ N0 b) → Iv 0 false F → ClosedF F → (∀ i, Up b i → F i = none) →
      RepH w0 N0 NA ρ F w → F id = some (.loop lo) → ρ id = some l → (∀ x v, G x v → RepS w NA ρ F x v) → vf.size = fs.length → vc.size = cs.length → (∀ (i : Nat) x v, fs[i]? = some x → vf[i]? = some v → RepC w (Mut NA ρ F) x v) →
      (∀ (i : Nat) x v, cs[i]? = some x → vc[i]? = some v → RepC w (Mut NA ρ F) x v) →
      Calls P g (vf ++ #[.func (.yield l) #[] #[]] ++ vc) w fun e w' => (∃ v, e = .returned v) ∧ ∃ k stop F' ρ', (stop = false → k = xs.length) ∧ Iv k stop F' ∧ ClosedF F' ∧ (∀ i, F' i ≠ none → F i ≠ none ∨ A i) ∧ RepH w0 N0 NA ρ' F' w' ∧ Trans NA w ρ F w' ρ' F'
def cfI (P : Program) (M : List FuncId) (n b : Nat) (Iv : Inv) (A : Nat → Prop) (G : SV → Value → Prop) : Cf := { P := P, M := M, n := n, b := b, K := [], Iv := Iv, A := A, G := G, o := true }
def initS : Nat → List SV → TL
  | _, [] => []
  | k, x :: xs => (k, x) :: initS (k + 1) xs
theorem initS_get : ∀ (cs : List SV) (k i : Nat), lookT (initS k cs) i = if k ≤ i then (cs[i - k]?).getD .dead else .dead
  | [], k, i => by simp [initS, lookT]
  | x :: xs, k, i => by
    simp only [initS, lookT]
    by_cases h : i = k
    · subst h; simp
    · rw [if_neg h, initS_get xs (k + 1) i]
      by_cases h1 : k ≤ i
      · rw [if_pos (show k + 1 ≤ i by omega), if_pos h1]
        have : i - k = (i - (k + 1)) + 1 := by omega
        rw [this]; rfl
      · rw [if_neg (show ¬ k + 1 ≤ i by omega), if_neg h1]
def itQ (b N : Nat) (e : Exit) (_ : TL) (H : HL) : Prop := (e = .normal ∨ e = .ret) ∧ ∃ k s, lookH H (1000000000 + b) = some (.gh k s) ∧ (s = false → k = N)
theorem rg_up {b i : Nat} (hb : b + 1000 ≤ 1000000000) (h : Rg b i) : Up b i := by
  unfold Up
  rcases h with h | h
  · omega
  · omega
theorem virt_gh {w0 w : World} {N0 NA : Nat → Prop} {ρ : Nat → Option Nat} {H : Nat → Option Blk} (h : RepH w0 N0 NA ρ H w) {id : Nat} (hid : H id = none) (k : Nat) (s : Bool) :
    RepH w0 N0 NA (setR ρ id none) (setH H (some (id, .gh k s))) w ∧ Trans NA w ρ H w (setR ρ id none) (setH H (some (id, .gh k s))) := by
  have hρ : ∀ i, i ≠ id → setR ρ id none i = ρ i := fun i hi => by simp [setR, hi]
  have hH : ∀ i, i ≠ id → setH H (some (id, .gh k s)) i = H i := fun i hi => by simp [setH, hi]
  have own : ∀ b, Own (setR ρ id none) (setH H (some (id, .gh k s))) b → Own ρ H b := by
    rintro b ⟨i, h1, h2⟩
    by_cases hi : i = id
    · subst hi; simp [setR] at h2
    · rw [hρ i hi] at h2; rw [hH i hi] at h1; exact ⟨i, h1, h2⟩
  have calm : Calm w (Mut NA ρ H) w (Mut NA (setR ρ id none) (setH H (some (id, .gh k s)))) := by
    refine ⟨Nat.le_refl _, fun b hb hn => ⟨rfl, fun hm => ?_⟩⟩
    rcases hm with hm | hm
    · exact hn (.inl hm)
    · exact hn (.inr (own b hm))
  have keep : ∀ i, KeepI w ρ H w (setR ρ id none) (setH H (some (id, .gh k s))) i := by
    intro i
    refine ⟨fun B' hi _ => ?_, fun t' k' rows hi => ?_⟩
    · have : i ≠ id := fun e => by rw [e, hid] at hi; cases hi
      exact ⟨B', by rw [hH i this]; exact hi, rfl, hρ i this⟩
    · have : i ≠ id := fun e => by rw [e, hid] at hi; cases hi
      exact ⟨rows, by rw [hH i this]; exact hi, Nat.le_refl _, fun _ => ⟨hρ i this, fun b cs t' hb hc => ⟨cs, hc, rfl⟩⟩⟩
  refine ⟨⟨?_, fun i B hi => ?_, h.fr, fun b hb => h.low b (own b hb)⟩, calm, keep⟩
  · intro i j b h1 h2 h3 h4
    by_cases hi : i = id
    · subst hi; simp [setR] at h3
    · by_cases hj : j = id
      · subst hj; simp [setR] at h4
      · rw [hρ i hi] at h3; rw [hρ j hj] at h4; rw [hH i hi] at h1; rw [hH j hj] at h2
        exact h.inj i j b h1 h2 h3 h4
  · by_cases hid' : i = id
    · subst hid'; simp [setH] at hi; subst hi
      show setR ρ i none i = none
      simp [setR]
    · rw [hH i hid'] at hi
      exact (h.blk i B hi).move calm keep (hρ i hid') (fun _ _ => rfl)
theorem only_rep {w0 w : World} {N0 NA : Nat → Prop} {ρ : Nat → Option Nat} {F H : Nat → Option Blk} (cl : ClosedF F) (hd : ∀ i, H i ≠ none → F i = none) (h : RepH w0 N0 NA ρ (tot F H) w) : RepH w0 N0 NA ρ F w ∧ Calm w (Mut NA ρ (tot F H)) w (Mut NA ρ F) ∧ (∀ i, F i ≠ none → tot F H i = F i) := by
  have e : ∀ i, F i ≠ none → tot F H i = F i := fun i hi => by
    cases hB : H i with
    | none => exact tot_none hB
    | some B => exact absurd (hd i (by rw [hB]; simp)) hi
  have ne : ∀ i, F i ≠ none → tot F H i ≠ none := fun i hi => by rw [e i hi]; exact hi
  have own : ∀ b, Own ρ F b → Own ρ (tot F H) b := fun b ⟨i, h1, h2⟩ => ⟨i, ne i h1, h2⟩
  have calm : Calm w (Mut NA ρ (tot F H)) w (Mut NA ρ F) := ⟨Nat.le_refl _, fun b _ hn => ⟨rfl, fun hm => hn (hm.imp_right (own b))⟩⟩
  refine ⟨⟨fun i j b h1 h2 => h.inj i j b (ne i h1) (ne j h2), fun id B hB => ?_, h.fr, fun b hb => h.low b (own b hb)⟩, calm, e⟩
  have hn : F id ≠ none := by rw [hB]; simp
  have hr := h.blk id B (by rw [e id hn]; exact hB)
  have sub : ∀ {x : SV} {v : Value}, RepS w NA ρ (tot F H) x v → x.inP (fun i => F i ≠ none) → RepS w NA ρ F x v := fun r hx =>
    r.less (D := fun i => F i ≠ none) (fun i B hB => by rw [e i (by rw [hB]; simp)]; exact hB) (fun i B hB hi => by rw [← e i hi]; exact hB) hx
  cases B with
  | box t cells =>
    obtain ⟨b, cs, e1, e2, e3, e4⟩ := hr
    exact ⟨b, cs, e1, e2, e3, fun j x v hx hv => sub (e4 j x v hx hv) (inPL_get (cl id t cells hB) j x hx)⟩
  | arr t k rows =>
    rcases hr with ⟨e1, e2⟩ | ⟨b, cs, cap, e1, e2, e3, e4, e5, e6, e7⟩
    · exact .inl ⟨e1, e2⟩
    · exact .inr ⟨b, cs, cap, e1, e2, e3, e4, e5, e6, fun j row m x hr hx => by
        obtain ⟨v, hv1, hv2⟩ := e7 j row m x hr hx
        exact ⟨v, hv1, hv2.move calm⟩⟩
  | map ag kd es =>
    obtain ⟨b, ents, clock, e1, e2, e3, e4⟩ := hr
    exact ⟨b, ents, clock, e1, e2, e3, fun i p e hp he => (e4 i p e hp he).move calm⟩
  | loop lo => exact hr
  | gh k s => exact hr
  | it ag kd l c =>
    obtain ⟨b, e1, e2⟩ := hr
    exact ⟨b, e1, e2.move calm rfl⟩
theorem iter_of {P : Program} {f : FuncId} {fn : Func} {c : Code} {sc : SCode} {b n : Nat} {fs cs : List CV} {xs : List (List CV)} (M : List FuncId) (hm : P.follows .mixedOrders = true) (hf : P.funcs[f]? = some fn) (hb : fn.body = some c) (hn : fn.ntmps = n) (hn2 : n ≤ 1000) (hb2 : b + 1000 ≤ 1000000000)
    (hcomp : compCode P M n c = some sc.erase) (hres : fn.results = #[]) (hle : fs.length + 1 + cs.length ≤ n)
    (h : ∀ Iv A G id, (∃ v, G (.yl id) v) → (∀ k row, xs[k]? = some row → YT P Iv A G id k row) → STri (cfI P M n b Iv A G) sc (initS 0 (fs.map .c ++ .yl id :: cs.map .c)) [(1000000000 + b, .gh 0 false)] (itQ b xs.length)) : IterL P f b fs cs xs := by
  intro Iv A G id hA hG hY w0 N0 NA ρ F l lo vf vc w hna hnn hIv hcl hF hrep hid hl hg hvf hvc hfs hcs
  have hgh : F (1000000000 + b) = none := hF _ (by unfold Up; omega)
  obtain ⟨v1, v2⟩ := virt_gh hrep hgh 0 false
  have e0 : tot F (lookH [(1000000000 + b, .gh 0 false)]) = setH F (some (1000000000 + b, .gh 0 false)) := by
    funext i
    by_cases hi : i = 1000000000 + b <;> simp [tot, lookH, setH, hi]
  have only : ∀ i, lookH [(1000000000 + b, Blk.gh 0 false)] i ≠ none → i = 1000000000 + b := fun i hi => by
    by_cases e : i = 1000000000 + b
    · exact e
    · simp [lookH, e] at hi
  have ok : (cfI P M n b Iv A G).ok := by
    refine ⟨hn2, hb2, fun i hi => hA i (rg_up hb2 hi), fun _ i hi => hA i hi, fun x v hx => ?_⟩
    refine inP_mono (fun i hi hr => absurd (hF i (rg_up hb2 hr)) hi) x (hg x v hx).inP
  obtain ⟨vs, hvs⟩ : ∃ vs, vs = vf ++ #[.func (.yield l) #[] #[]] ++ vc := ⟨_, rfl⟩
  rw [← hvs]
  have hsz : vs.size = fs.length + 1 + cs.length := by rw [hvs]; simp [hvf, hvc]
  have key : ∀ (i : Nat) x v, (fs.map SV.c ++ .yl id :: cs.map SV.c)[i]? = some x → vs[i]? = some v → RepS w NA ρ F x v := fun i x v hx hv => by
    rw [hvs] at hv
    rcases Nat.lt_trichotomy i fs.length with h1 | h1 | h1
    · rw [List.getElem?_append_left (by simpa using h1), List.getElem?_map] at hx
      obtain ⟨y, hy, rfl⟩ := Option.map_eq_some_iff.1 hx
      rw [Array.append_assoc, Array.getElem?_append_left (by omega)] at hv
      exact .c y v (hfs i y v hy hv)
    · subst h1
      rw [List.getElem?_append_right (by simp)] at hx
      simp at hx; subst hx
      rw [Array.append_assoc, Array.getElem?_append_right (by omega)] at hv
      rw [hvf, Nat.sub_self, Array.getElem?_append_left (by simp)] at hv
      simp at hv; subst hv
      exact .yl id lo l hid hl
    · rw [List.getElem?_append_right (by simp; omega)] at hx
      rw [Array.append_assoc, Array.getElem?_append_right (by omega), Array.getElem?_append_right (by simp; omega)] at hv
      obtain ⟨m, rfl⟩ : ∃ m, i = fs.length + 1 + m := ⟨i - (fs.length + 1), by omega⟩
      simp only [List.length_map] at hx
      rw [show fs.length + 1 + m - fs.length = m + 1 by omega, List.getElem?_cons_succ, List.getElem?_map] at hx
      obtain ⟨y, hy, rfl⟩ := Option.map_eq_some_iff.1 hx
      have e : fs.length + 1 + m - vf.size - 1 = m := by omega
      simp only [List.size_toArray, List.length_cons, List.length_nil, Nat.zero_add, e] at hv
      exact .c y v (hcs m y v hy hv)
  have st0 : StAt (cfI P M n b Iv A G) ⟨w0, N0, NA, w, ρ, F, hna, hnn⟩ (initS 0 (fs.map .c ++ .yl id :: cs.map .c)) [(1000000000 + b, .gh 0 false)] { tmps := vs ++ Array.replicate (fn.ntmps - vs.size) undef, defers := [] } w F (setR ρ (1000000000 + b) none) := by
    refine ⟨?_, hcl, fun i hi => hF i (rg_up hb2 hi), fun _ i hi => hF i hi, fun i hi => by rw [only i hi]; exact hgh, .inr ⟨0, false, by simp [lookH, cfI]⟩, fun i hi => by rw [only i hi]; exact .inr rfl, fun i hi => .inl hi, ⟨?_, ?_, fun i => ?_⟩, fun x v hx => ?_, ?_, [], rfl, List.nodup_nil, fun D hD => by cases hD⟩
    · show Iv (kOf b _).1 (kOf b _).2 F
      simp [kOf, lookH]; exact hIv
    · show _ = n
      simp; omega
    · rw [e0]; exact v1
    · rw [e0, initS_get, if_pos (Nat.zero_le _), Nat.sub_zero]
      cases hc : (fs.map SV.c ++ .yl id :: cs.map SV.c)[i]? with
      | none => exact .dead _
      | some x =>
        have hi : i < vs.size := by
          have := (List.getElem?_eq_some_iff.1 hc).1
          simp at this; omega
        have : (vs ++ Array.replicate (fn.ntmps - vs.size) undef).getD i undef = vs[i] := by simp [hi, Array.getElem?_append_left hi]
        rw [this]
        exact v2.mv (key i x _ hc (Array.getElem?_eq_getElem hi))
    · rw [e0]; exact v2.mv (hg x v hx)
    · rw [e0]; exact v2
  refine calls_of_st (cf := cfI P M n b Iv A G) ok hm hf hb hcomp (h Iv A G id hG hY) (cx := ⟨w0, N0, NA, w, ρ, F, hna, hnn⟩) (fun i h1 h2 _ => hF i (rg_up hb2 (.inl ⟨h1, h2⟩))) (fun _ i hi => hF i hi) hrep.fr.size ⟨_, _, st0⟩ (fun e T' H' tmps w' F' ρ' hq st => ?_)
  obtain ⟨he, k, s, hgh', hk⟩ := hq
  have hrun : (results fn tmps).run P w' = .ok (.tuple #[]) w' := by simpa using results_eq (P := P) (w := w') (fn := fn) (tmps := tmps) (vs := []) (by simp [hres])
  refine ⟨he, _, hrun, ⟨_, rfl⟩, k, s, F', ρ', hk, ?_, st.cl, st.dm, ?_⟩
  · have := st.iv
    have e : kOf b H' = (k, s) := by unfold kOf; rw [hgh']
    show Iv k s F'
    have h2 : Iv (kOf b H').1 (kOf b H').2 F' := this
    rw [e] at h2; exact h2
  · obtain ⟨r1, r2, r3⟩ := only_rep st.cl st.dis st.rep.heap
    refine ⟨r1, st.tr.1.trans r2, fun i => ?_⟩
    have hi := st.tr.2 i
    have hne : F i ≠ none → tot F' (lookH H') i = F' i := fun hn => by
      cases hB : lookH H' i with
      | none => exact tot_none hB
      | some B => exact absurd (hF i (rg_up hb2 (st.av i (by rw [hB]; simp)))) hn
    refine ⟨fun B hB hkd => ?_, fun t q rows hB => ?_⟩
    · have hn := hne (by rw [hB]; simp)
      have := hi.1 B hB hkd
      rw [hn] at this; exact this
    · have hn := hne (by rw [hB]; simp)
      have := hi.2 t q rows hB
      rw [hn] at this; exact this
end Go.Proofs.YtboifcengmgcaaaGreat
/- The shadow's code, V: loops over iterators. -/
namespace Go.Proofs.YtboifcengmgcaaaGreat
open Go.RowKit
def parT : List Nat → List CV → TL → TL
  | p :: ps, x :: xs, T => parT ps xs ((p, .c x) :: T)
  | _, _, T => T
def cfR (cf : Cf) (hk : List Nat) (Iv : Inv) (G : SV → Value → Prop) : Cf := { P := cf.P, M := cf.M, n := cf.n, b := cf.b, K := hk, Iv := Iv, A := cf.A, G := G, o := false }
def rangeQ (cf : Cf) (hk ys : List Nat) (I : Nat → HL → Prop) (k : Nat) (T : TL) (Q : Exit → TL → HL → Prop) : Exit → TL → HL → Prop
  | .normal, _, H => lessOK cf hk [] H = true ∧ clE ys (keepH hk H) = true ∧ I (k + 1) (keepH hk H)
  | .ret, _, H => lessOK cf hk [] H = true ∧ clE ys (keepH hk H) = true ∧ Q .ret T (keepH hk H)
  | .exit id, _, H => lessOK cf hk [] H = true ∧ clE ys (keepH hk H) = true ∧ Q (.exit id) T (keepH hk H)
  | _, _, _ => False
def Into (cf : Cf) (Iv : Inv) (G : SV → Value → Prop) : Prop := ∀ id k row, (∃ v, cf.G (.yl id) v) → YT cf.P cf.Iv cf.A cf.G id k row → YT cf.P Iv cf.A G id k row
def asgQ (cf : Cf) (hk ys : List Nat) (I : Nat → HL → Prop) (k : Nat) (T : TL) (G : SV → Value → Prop) (B : SCode) (Q : Exit → TL → HL → Prop) (e : Exit) (T2 : TL) (H2 : HL) : Prop :=
  e = .normal ∧ ∀ Iv, Into cf Iv G → STri (cfR cf hk Iv G) B T2 H2 (rangeQ (cfR cf hk Iv G) hk ys I k T Q)
structure FcOK (cf : Cf) (Hs : Nat → Option Blk) (Lp : Nat → Prop) (q : Nat × Bool) (Fc : Nat → Option Blk) : Prop where
  iv : cf.Iv q.1 q.2 Fc
  cl : ClosedF Fc
  up : ∀ i, Up cf.b i → Fc i = none
  dm : ∀ i, Fc i ≠ none → Hs i ≠ none ∨ cf.A i
  lp : ∀ j, Lp j → ∃ lo, Fc j = some (.loop lo)
structure ROK (cf : Cf) (hk ys : List Nat) (R : HL) : Prop where
  key : ∀ i, lookH R i ≠ none → i ∈ hk
  cl : clE ys R = true
  yd : lookH R (1000000000 + cf.b) = none ∨ ∃ k s, lookH R (1000000000 + cf.b) = some (.gh k s)
  rg : ∀ i, lookH R i ≠ none → Rg cf.b i
def jumpOf : Exit → Option Code
  | .ret => some .ret
  | .exit id => some (.exit id)
  | _ => none
def IvO (cf : Cf) (Hs : Nat → Option Blk) (hk ys : List Nat) (I : Nat → HL → Prop) (T : TL) (Q : Exit → TL → HL → Prop) (lo0 : Loop) : Inv := fun k s F =>
  ∃ R Fc lo, F = setH (tot Fc (lookH R)) (some (2000000000 + cf.b, .loop lo)) ∧ FcOK cf Hs (fun j => ∃ v, cf.G (.yl j) v) (kOf cf.b R) Fc ∧ ROK cf hk ys R ∧ (s = false → lo = lo0 ∧ I k R) ∧
    (s = true → ∃ e c, jumpOf e = some c ∧ lo = { lo0 with state := .done, pending := some c } ∧ Q e T R)
def GlI (cf : Cf) (E : Nat → Option Blk) (lo : Loop) (Fc0 : Nat → Option Blk) : Inv := fun k s F2 =>
  ∃ Fc, F2 = setH (tot E Fc) (some (2000000000 + cf.b, .loop lo)) ∧ FcOK cf Fc0 (fun j => ∃ lo, Fc0 j = some (.loop lo)) (k, s) Fc ∧ (∀ i, E i ≠ none → Fc i = none)
structure EOK (cf : Cf) (E Fc0 : Nat → Option Blk) : Prop where
  a : ∀ i, cf.A i → E i = none
  lid : E (2000000000 + cf.b) = none
  bx : ∀ i t cells, E i = some (.box t cells) → inPL (fun j => E j ≠ none ∨ j = 2000000000 + cf.b ∨ ∃ lo, Fc0 j = some (.loop lo)) cells
theorem gl_eq {E Fc E2 : Nat → Option Blk} {lid : Nat} {B : Blk} (hEF : ∀ i, E i ≠ none → Fc i = none) : tot (setH (tot E Fc) (some (lid, B))) E2 = tot Fc (tot (setH E (some (lid, B))) E2) := by
  funext i
  unfold tot setH
  cases h2 : E2 i with
  | some C => simp
  | none =>
    by_cases hi : i = lid
    · simp [hi]
    · simp only [hi, if_false]
      cases hE : E i with
      | none => cases hF : Fc i <;> simp
      | some C => rw [hEF i (by rw [hE]; simp)]
theorem glR_eq {E Fc R : Nat → Option Blk} {lid : Nat} {B : Blk} (hEF : ∀ i, E i ≠ none → Fc i = none) (hER : ∀ i, E i ≠ none → R i = none) (hE : E lid = none) (hR : R lid = none) : tot (setH (tot Fc R) (some (lid, B))) E = tot (setH (tot E Fc) (some (lid, B))) R := by
  funext i
  unfold tot setH
  by_cases hi : i = lid
  · subst hi; simp [hE, hR]
  · simp only [hi, if_false]
    cases h : E i with
    | none => cases h2 : R i <;> cases h3 : Fc i <;> simp
    | some C =>
      rw [hEF i (by rw [h]; simp), hER i (by rw [h]; simp)]
theorem closed_gl {cf : Cf} {E Fc0 F' : Nat → Option Blk} {lo : Loop} (eok : EOK cf E Fc0) (cl : ClosedF F') (lp : ∀ j, (∃ lo, Fc0 j = some (.loop lo)) → ∃ lo, F' j = some (.loop lo)) : ClosedF (setH (tot E F') (some (2000000000 + cf.b, .loop lo))) := by
  have ne1 : ∀ j, F' j ≠ none → setH (tot E F') (some (2000000000 + cf.b, .loop lo)) j ≠ none := fun j hj => by
    by_cases e : j = 2000000000 + cf.b
    · simp [setH, e]
    · cases hB : F' j with
      | none => exact absurd hB hj
      | some B => simp [setH, e, tot, hB]
  have ne2 : ∀ j, E j ≠ none → setH (tot E F') (some (2000000000 + cf.b, .loop lo)) j ≠ none := fun j hj => by
    by_cases e : j = 2000000000 + cf.b
    · simp [setH, e]
    · cases hB : F' j with
      | none => simp [setH, e, tot, hB]; exact hj
      | some B => simp [setH, e, tot, hB]
  intro id t cells hB
  by_cases e : id = 2000000000 + cf.b
  · simp [setH, e] at hB
  · simp only [setH, if_neg e] at hB
    cases hF : F' id with
    | some C =>
      rw [tot_some hF] at hB; cases hB
      exact inPL_mono ne1 cells (cl id t cells hF)
    | none =>
      rw [tot_none hF] at hB
      refine inPL_mono (fun j hj => ?_) cells (eok.bx id t cells hB)
      rcases hj with hj | rfl | hj
      · exact ne2 j hj
      · simp [setH]
      · obtain ⟨lo', h⟩ := lp j hj
        exact ne1 j (by rw [h]; simp)
theorem loop_kept {NA : Nat → Prop} {w w' : World} {ρ ρ' : Nat → Option Nat} {H H' : Nat → Option Blk} (tr : Trans NA w ρ H w' ρ' H') {j : Nat} {lo : Loop} (h : H j = some (.loop lo)) : (∃ lo', H' j = some (.loop lo')) ∧ ρ' j = ρ j := by
  obtain ⟨B', h1, h2, h3⟩ := (tr.2 j).1 _ h (by simp [Blk.kind])
  obtain ⟨lo', rfl⟩ := kind_loop h2
  exact ⟨⟨lo', h1⟩, h3⟩
theorem YT.into {cf : Cf} (ho : cf.o = true) (ok : cf.ok) {E Fc0 : Nat → Option Blk} {lo : Loop} {G1 : SV → Value → Prop} (eok : EOK cf E Fc0) (hG : ∀ x v, cf.G x v → G1 x v) (hL : ∀ j, (∃ v, cf.G (.yl j) v) → ∃ lo, Fc0 j = some (.loop lo)) : Into cf (GlI cf E lo Fc0) G1 := by
  intro id k row hid h w0 N0 NA ρ F2 E2 l vs w r m hna hnn hIv hcl hA hdis hE2 hrep hl hF2 hG2 hsz hrow
  obtain ⟨Fc, rfl, hf, hEF⟩ := hIv
  have lidU : Up cf.b (2000000000 + cf.b) := by
    have := ok.b
    unfold Up; omega
  have dis2 : ∀ i, E2 i ≠ none → Fc i = none := fun i hi => by
    have := hdis i hi
    by_cases e : i = 2000000000 + cf.b
    · simp [setH, e] at this
    · simp only [setH, if_neg e] at this
      cases hB : Fc i with
      | none => rfl
      | some B => rw [tot_some hB] at this; cases this
  have eq := gl_eq (E2 := E2) (lid := 2000000000 + cf.b) (B := .loop lo) hEF
  have lpF : ∀ j lo', setH (tot E Fc) (some (2000000000 + cf.b, .loop lo)) j = some (.loop lo') → (tot (setH E (some (2000000000 + cf.b, .loop lo))) E2) j ≠ none ∨ ∃ lo, Fc j = some (.loop lo) := fun j lo' hj => by
    by_cases e : j = 2000000000 + cf.b
    · left
      cases hB : E2 j with
      | none => rw [tot_none hB]; simp [setH, e]
      | some B => rw [tot_some hB]; simp
    · simp only [setH, if_neg e] at hj
      cases hB : Fc j with
      | some B => rw [tot_some hB] at hj; cases hj; exact .inr ⟨_, rfl⟩
      | none =>
        rw [tot_none hB] at hj
        left
        cases hC : E2 j with
        | none => rw [tot_none hC]; simp [setH, e, hj]
        | some B => rw [tot_some hC]; simp
  have inE' : ∀ j, E j ≠ none → (tot (setH E (some (2000000000 + cf.b, .loop lo))) E2) j ≠ none := fun j hj => by
    cases hC : E2 j with
    | none =>
      rw [tot_none hC]
      by_cases e : j = 2000000000 + cf.b
      · simp [setH, e]
      · simp only [setH, if_neg e]; exact hj
    | some B => rw [tot_some hC]; simp
  have res := h w0 N0 NA ρ Fc (tot (setH E (some (2000000000 + cf.b, .loop lo))) E2) l vs w r m hna hnn hf.iv hf.cl (fun i hi => ?_) (fun i hi => ?_) (fun i t cells hi => ?_) (by rw [← eq]; exact hrep) hl (hf.lp id (hL id hid)) (fun x v hx => by rw [← eq]; exact hG2 x v (hG x v hx)) hsz (fun i x v h1 h2 => by rw [← eq]; exact hrow i x v h1 h2)
  · obtain ⟨fn, tmps, asg, bd, hrun, hround⟩ := res
    refine ⟨fn, tmps, asg, bd, hrun, hround.mono fun e w' hh => ?_⟩
    obtain ⟨stop, F', ρ', he, iv', cl', dom', rep', tr'⟩ := hh
    have hEF' : ∀ i, E i ≠ none → F' i = none := fun i hi => by
      cases hB : F' i with
      | none => rfl
      | some B =>
        rcases dom' i (by rw [hB]; simp) with h1 | h1
        · exact absurd (hEF i hi) h1
        · exact absurd (eok.a i h1) hi
    have eq' := gl_eq (E2 := E2) (lid := 2000000000 + cf.b) (B := .loop lo) hEF'
    have lp' : ∀ j, (∃ lo, Fc0 j = some (.loop lo)) → ∃ lo, F' j = some (.loop lo) := fun j hj => by
      obtain ⟨lo1, h1⟩ := hf.lp j hj
      have hne : tot (setH E (some (2000000000 + cf.b, .loop lo))) E2 j = none := by
        cases hC : E2 j with
        | some C => rw [dis2 j (by rw [hC]; simp)] at h1; cases h1
        | none =>
          rw [tot_none hC]
          by_cases e : j = 2000000000 + cf.b
          · rw [e, hf.up _ lidU] at h1; cases h1
          · simp only [setH, if_neg e]
            cases hE : E j with
            | none => rfl
            | some C => rw [hEF j (by rw [hE]; simp)] at h1; cases h1
      obtain ⟨lo', h2⟩ : ∃ lo', F' j = some (.loop lo') := by
        have h3 : tot Fc (tot (setH E (some (2000000000 + cf.b, .loop lo))) E2) j = some (.loop lo1) := by rw [tot_none hne]; exact h1
        obtain ⟨⟨lo', h4⟩, _⟩ := loop_kept tr' h3
        rw [tot_none hne] at h4
        exact ⟨lo', h4⟩
      exact ⟨lo', h2⟩
    refine ⟨stop, setH (tot E F') (some (2000000000 + cf.b, .loop lo)), ρ', he, ⟨F', rfl, ⟨iv', cl', fun i hi => ?_, fun i hi => ?_, lp'⟩, hEF'⟩, closed_gl eok cl' lp', fun i hi => ?_, by rw [eq']; exact rep', by rw [eq, eq']; exact tr'⟩
    · cases hB : F' i with
      | none => rfl
      | some B =>
        rcases dom' i (by rw [hB]; simp) with h1 | h1
        · exact absurd (hf.up i hi) h1
        · exact absurd h1 (ok.A2 ho i hi)
    · rcases dom' i hi with h1 | h1
      · exact hf.dm i h1
      · exact .inr h1
    · by_cases e : i = 2000000000 + cf.b
      · left; simp [setH, e]
      · simp only [setH, if_neg e] at hi ⊢
        cases hB : F' i with
        | none =>
          rw [tot_none hB] at hi
          left
          rw [tot_none (hEF i hi)]; exact hi
        | some B =>
          rcases dom' i (by rw [hB]; simp) with h1 | h1
          · left
            cases hC : Fc i with
            | none => exact absurd hC h1
            | some C => rw [tot_some hC]; simp
          · exact .inr h1
  · have h2 := hA i hi
    rw [tot_none h2]
    by_cases e : i = 2000000000 + cf.b
    · subst e; exact absurd hi (ok.A2 ho _ lidU)
    · simp only [setH, if_neg e]; exact eok.a i hi
  · by_cases e : i = 2000000000 + cf.b
    · subst e; exact hf.up _ lidU
    · cases hC : E2 i with
      | some C => exact dis2 i (by rw [hC]; simp)
      | none =>
        rw [tot_none hC] at hi
        simp only [setH, if_neg e] at hi
        exact hEF i hi
  · cases hC : E2 i with
    | some C =>
      rw [tot_some hC] at hi; cases hi
      refine inPL_mono (fun j hj => ?_) cells (hE2 i t cells hC)
      rcases hj with hj | ⟨lo', hj⟩
      · left
        cases hD : E2 j with
        | none => exact absurd hD hj
        | some D => rw [tot_some hD]; simp
      · exact lpF j lo' hj
    | none =>
      rw [tot_none hC] at hi
      by_cases e : i = 2000000000 + cf.b
      · simp [setH, e] at hi
      · simp only [setH, if_neg e] at hi
        refine inPL_mono (fun j hj => ?_) cells (eok.bx i t cells hi)
        rcases hj with hj | rfl | hj
        · exact .inl (inE' j hj)
        · left
          cases hD : E2 (2000000000 + cf.b) with
          | none => rw [tot_none hD]; simp [setH]
          | some D => rw [tot_some hD]; simp
        · exact .inr (hf.lp j hj)
theorem lt_heap {w : World} {B : Nat} {o : Obj} (h : w.heap[B]? = some o) : B < w.heap.size := by
  rcases Nat.lt_or_ge B w.heap.size with h' | h'
  · exact h'
  · rw [Array.getElem?_eq_none h'] at h; cases h
theorem loop_put {w0 w : World} {N0 NA : Nat → Prop} {ρ : Nat → Option Nat} {H : Nat → Option Blk} (h : RepH w0 N0 NA ρ H w) {id l : Nat} {lo : Loop} (hid : H id = some (.loop lo)) (hl : ρ id = some l) (lo' : Loop) :
    RepH w0 N0 NA ρ (setH H (some (id, .loop lo'))) (w.putObj l (.loop lo')) ∧ Trans NA w ρ H (w.putObj l (.loop lo')) ρ (setH H (some (id, .loop lo'))) := by
  obtain ⟨b, e1, e2⟩ := h.blk id _ hid
  rw [hl] at e1; cases e1
  have eρ : setR ρ id (some l) = ρ := by
    funext i
    by_cases hi : i = id
    · subst hi; simp [setR, hl]
    · simp [setR, hi]
  have := upd_rep (B1 := .loop lo') (w' := w.putObj l (.loop lo')) (r := some l) h hid (by rw [hl]; exact grownBy_putObj' w l _) (.inl hl.symm)
    ⟨fun B hB _ => by (rw [hid] at hB; cases hB; exact ⟨.loop lo', by simp [setH], rfl, by simp [setR, hl]⟩), fun t k rows hB => by (rw [hid] at hB; cases hB)⟩
    (fun _ => ⟨l, by simp [setR], World.putObj_heap_same (lt_heap e2)⟩)
  rw [eρ] at this
  exact this
theorem par_rep {w : World} {NA : Nat → Prop} {ρ : Nat → Option Nat} {H : Nat → Option Blk} {n : Nat} : ∀ (ps : List Nat) (row : List CV) (vs : List Value) (T : TL) (tmps : Array Value), tmps.size = n → (∀ p ∈ ps, p < n) → vs.length = row.length → (∀ (i : Nat) x v, row[i]? = some x → vs[i]? = some v → RepC w (Mut NA ρ H) x v) →
    (∀ i, RepS w NA ρ H (lookT T i) (tmps.getD i undef)) → ((ps.zip vs).foldl (fun t (q : Nat × Value) => t.setIfInBounds q.1 q.2) tmps).size = n ∧ ∀ i, RepS w NA ρ H (lookT (parT ps row T) i) (((ps.zip vs).foldl (fun t (q : Nat × Value) => t.setIfInBounds q.1 q.2) tmps).getD i undef)
  | [], row, vs, T, tmps, h1, _, _, _, h5 => by
    cases row <;> exact ⟨by simpa using h1, by simpa [parT] using h5⟩
  | p :: ps, [], [], T, tmps, h1, _, _, _, h5 => by exact ⟨by simpa using h1, by simpa [parT] using h5⟩
  | p :: ps, [], v :: vs, T, tmps, _, _, h, _, _ => by simp at h
  | p :: ps, x :: row, [], T, tmps, _, _, h, _, _ => by simp at h
  | p :: ps, x :: row, v :: vs, T, tmps, h1, h2, h3, h4, h5 => by
    simp only [List.zip_cons_cons, List.foldl_cons, parT]
    refine par_rep ps row vs ((p, .c x) :: T) (tmps.setIfInBounds p v) (by simpa using h1) (fun q hq => h2 q (by simp [hq])) (by simpa using h3) (fun i y u hy hu => h4 (i + 1) y u (by simpa using hy) (by simpa using hu)) (fun i => ?_)
    have hp : p < tmps.size := by rw [h1]; exact h2 p (by simp)
    by_cases hi : i = p
    · subst hi
      simp only [lookT, if_pos]
      have : (tmps.setIfInBounds i v).getD i undef = v := by simp [hp]
      rw [this]
      exact .c x v (h4 0 x v rfl rfl)
    · simp only [lookT, if_neg hi]
      have : (tmps.setIfInBounds p v).getD i undef = tmps.getD i undef := by simp [Array.getElem?_setIfInBounds_ne (Ne.symm hi)]
      rw [this]
      exact h5 i
theorem zip_fold (ps : List Nat) (vs tmps : Array Value) : ((⟨ps⟩ : Array Nat).zip vs).foldl (fun t (q : Nat × Value) => t.setIfInBounds q.1 q.2) tmps = (ps.zip vs.toList).foldl (fun t (q : Nat × Value) => t.setIfInBounds q.1 q.2) tmps := by
  rw [← Array.foldl_toList, Array.toList_zip]
end Go.Proofs.YtboifcengmgcaaaGreat
/- The shadow's code, VI: the law of loops over iterators. -/
namespace Go.Proofs.YtboifcengmgcaaaGreat
open Go.RowKit
theorem StAt.noT {cf : Cf} {cx : Cx} {T : TL} {H : HL} {a : Act} {w : World} {F : Nat → Option Blk} {ρ : Nat → Option Nat} (h : StAt cf cx T H a w F ρ) : StAt cf cx [] H a w F ρ :=
  ⟨h.iv, h.cl, h.out, h.ol, h.dis, h.yd, h.av, h.dm, ⟨h.rep.size, h.rep.heap, fun _ => .dead _⟩, h.gh, h.tr, h.df⟩
theorem keepH_mem {hk : List Nat} {H : HL} {i : Nat} (h : lookH (keepH hk H) i ≠ none) : i ∈ hk := by
  have := mem_lookH h
  unfold keepH at this
  rw [List.mem_map] at this
  obtain ⟨p, hp, rfl⟩ := this
  rw [List.mem_filterMap] at hp
  obtain ⟨j, hj, hq⟩ := hp
  rw [Option.map_eq_some_iff] at hq
  obtain ⟨B, _, rfl⟩ := hq
  exact hj
theorem lid_up {cf : Cf} (ok : cf.ok) : Up cf.b (2000000000 + cf.b) := by
  have := ok.b
  unfold Up; omega
theorem lid_rg {cf : Cf} (ok : cf.ok) : ¬ Rg cf.b (2000000000 + cf.b) := by
  have := ok.b
  unfold Rg; omega
theorem rg_up' {cf : Cf} (ok : cf.ok) {i : Nat} (h : Rg cf.b i) : Up cf.b i := rg_up ok.b h
theorem closed_it {cf : Cf} {hk ys : List Nat} {R : HL} {Fc : Nat → Option Blk} (cl : ClosedF Fc) (rok : ROK cf hk ys R) (hd : ∀ i, lookH R i ≠ none → Fc i = none) (hys : ∀ j ∈ ys, ∃ lo, Fc j = some (.loop lo)) : ClosedF (tot Fc (lookH R)) := by
  have ne1 : ∀ j, Fc j ≠ none → tot Fc (lookH R) j ≠ none := fun j hj => by
    cases hB : lookH R j with
    | none => rw [tot_none hB]; exact hj
    | some B => rw [tot_some hB]; simp
  intro id t cells hB
  cases hR : lookH R id with
  | some C =>
    rw [tot_some hR] at hB; cases hB
    refine inPL_mono (fun j hj => ?_) cells ((clE_spec rok.cl).2 id t cells hR)
    rcases hj with hj | hj
    · cases hC : lookH R j with
      | none => exact absurd hC hj
      | some C => rw [tot_some hC]; simp
    · obtain ⟨lo, h⟩ := hys j hj
      exact ne1 j (by rw [h]; simp)
  | none =>
    rw [tot_none hR] at hB
    exact inPL_mono ne1 cells (cl id t cells hB)
theorem closed_set {F : Nat → Option Blk} (h : ClosedF F) (lid : Nat) (lo : Loop) : ClosedF (setH F (some (lid, .loop lo))) := by
  intro id t cells hB
  by_cases e : id = lid
  · simp [setH, e] at hB
  · simp only [setH, if_neg e] at hB
    refine inPL_mono (fun j hj => ?_) cells (h id t cells hB)
    by_cases e : j = lid
    · simp [setH, e]
    · simp only [setH, if_neg e]; exact hj
section
variable {cf : Cf} {Hs : Nat → Option Blk} {hk ys : List Nat} {I : Nat → HL → Prop} {T : TL} {Q : Exit → TL → HL → Prop} {ps : List Nat} {A B : SCode} {G1 : SV → Value → Prop} {xs : List (List CV)}
theorem range_round (ho : cf.o = true) (ok : cf.ok) (hm : cf.P.follows .mixedOrders = true) (okR : ∀ Iv, (cfR cf hk Iv G1).ok) (hG : ∀ x v, cf.G x v → G1 x v) (hys : ∀ j ∈ ys, ∃ v, cf.G (.yl j) v) (hps : ∀ row ∈ xs, row.length = ps.length) (hpn : ∀ p ∈ ps, p < cf.n)
    {ca cb : Code} (hca : compCode cf.P cf.M cf.n ca = some A.erase) (hcb : compCode cf.P cf.M cf.n cb = some B.erase) {fn : FuncId} {tmps : Array Value} {df : Nat} (htz : tmps.size = cf.n) (hT : ∀ i, G1 (lookT T i) (tmps.getD i undef))
    (hr : ∀ k row R, I k R → xs[k]? = some row → ∀ Iv, Into cf Iv G1 → STri (cfR cf hk Iv G1) A (parT ps row T) R (asgQ cf hk ys I k T G1 B Q)) {k : Nat} {row : List CV} (hrow : xs[k]? = some row) :
    YT cf.P (IvO cf Hs hk ys I T Q { state := .ready, pending := none, fn := fn, tmps := tmps, params := ⟨ps⟩, assign := ca, body := cb, defers := df }) (fun i => cf.A i ∨ Rg cf.b i) G1 (2000000000 + cf.b) k row := by
  obtain ⟨lo0, hlo0⟩ : ∃ lo0 : Loop, lo0 = { state := .ready, pending := none, fn := fn, tmps := tmps, params := ⟨ps⟩, assign := ca, body := cb, defers := df } := ⟨_, rfl⟩
  rw [← hlo0]
  intro w0 N0 NA ρ F E l vs W r m hna hnn hIv hcl hA hdis hbx hrep hl hFl hG' hsz hvs
  obtain ⟨R, Fc, lo, rfl, fok, rok, hs1, _⟩ := hIv
  obtain ⟨rfl, hI⟩ := hs1 rfl
  have lidU := lid_up ok
  have hRl : lookH R (2000000000 + cf.b) = none := by
    cases hB : lookH R (2000000000 + cf.b) with
    | none => rfl
    | some B => exact absurd (rok.rg _ (by rw [hB]; simp)) (lid_rg ok)
  have hEl : E (2000000000 + cf.b) = none := by
    cases hB : E (2000000000 + cf.b) with
    | none => rfl
    | some B =>
      have := hdis _ (show E (2000000000 + cf.b) ≠ none by rw [hB]; simp)
      simp [setH] at this
  have hRF : ∀ i, lookH R i ≠ none → Fc i = none := fun i hi => fok.up i (rg_up' ok (rok.rg i hi))
  have hEt : ∀ i, E i ≠ none → tot Fc (lookH R) i = none := fun i hi => by
    have h1 := hdis i hi
    have e : i ≠ 2000000000 + cf.b := fun e => by subst e; exact hi hEl
    simpa [setH, e] using h1
  have hER : ∀ i, E i ≠ none → lookH R i = none := fun i hi => by
    cases hB : lookH R i with
    | none => rfl
    | some B => have := hEt i hi; rw [tot_some hB] at this; cases this
  have hEF : ∀ i, E i ≠ none → Fc i = none := fun i hi => by
    have := hEt i hi
    rwa [tot_none (hER i hi)] at this
  have eok : EOK cf E Fc := ⟨fun i hi => hA i (.inl hi), hEl, fun i t cells hi => inPL_mono (fun j hj => by
    rcases hj with hj | ⟨lo', hj⟩
    · exact .inl hj
    · right
      by_cases e : j = 2000000000 + cf.b
      · exact .inl e
      · right
        simp only [setH, if_neg e] at hj
        cases hB : lookH R j with
        | none => rw [tot_none hB] at hj; exact ⟨_, hj⟩
        | some B => rw [tot_some hB] at hj; cases hj; exact absurd hB ((clE_spec rok.cl).1 j lo')) cells (hbx i t cells hi)⟩
  have hLp : ∀ j, (∃ v, cf.G (.yl j) v) → ∃ lo, Fc j = some (.loop lo) := fok.lp
  have into : ∀ lo, Into cf (GlI cf E lo Fc) G1 := fun lo => YT.into ho ok eok hG hLp
  have eq1 : tot (setH (tot Fc (lookH R)) (some (2000000000 + cf.b, .loop lo))) E = tot (setH (tot E Fc) (some (2000000000 + cf.b, .loop lo))) (lookH R) := glR_eq hEF hER hEl hRl
  have hs0 : tot (setH (tot Fc (lookH R)) (some (2000000000 + cf.b, .loop lo))) E (2000000000 + cf.b) = some (.loop lo) := by rw [tot_none hEl]; simp [setH]
  have hheap : W.heap[l]? = some (.loop lo) := by
    obtain ⟨b, e1, e2⟩ := hrep.blk _ _ hs0
    rw [hl] at e1; cases e1; exact e2
  have hlen : row.length = ps.length := hps row (List.mem_of_getElem? hrow)
  have hlo : lo.params.size = ps.length ∧ lo.tmps = tmps ∧ lo.assign = ca ∧ lo.body = cb ∧ lo.state = .ready ∧ lo.pending = none := by rw [hlo0]; simp
  have hy := run_yield (P := cf.P) (args := vs) hheap (by rw [hsz, hlen, hlo.1])
  refine ⟨lo.fn, _, lo.assign, lo.body, hy, roundIn_of_wpIn (F := WF r) trivial ?_⟩
  rw [hlo.2.1, hlo.2.2.1, hlo.2.2.2.1]
  have hpar : lo.params = ⟨ps⟩ := by rw [hlo0]
  rw [hpar]
  obtain ⟨tm, htm⟩ : ∃ tm, tm = ((⟨ps⟩ : Array Nat).zip vs).foldl (fun t (q : Nat × Value) => t.setIfInBounds q.1 q.2) tmps := ⟨_, rfl⟩
  have hpr := par_rep (w := W) (NA := NA) (ρ := ρ) (H := tot (setH (tot Fc (lookH R)) (some (2000000000 + cf.b, .loop lo))) E) ps row vs.toList T tmps htz hpn (by simpa using hsz) (fun i x v hx hv => hvs i x v hx (by simpa using hv)) (fun i => hG' _ _ (hT i))
  rw [← zip_fold, ← htm] at hpr
  have st1 : StAt (cfR cf hk (GlI cf E lo Fc) G1) ⟨w0, N0, NA, W, ρ, tot (setH (tot Fc (lookH R)) (some (2000000000 + cf.b, .loop lo))) E, hna, hnn⟩ (parT ps row T) R { tmps := tm, defers := [] } W (setH (tot E Fc) (some (2000000000 + cf.b, .loop lo))) ρ := by
    refine ⟨⟨Fc, rfl, ⟨fok.iv, fok.cl, fok.up, fun i hi => .inl hi, fun j hj => hj⟩, hEF⟩, closed_gl eok fok.cl (fun j hj => hj), fun i hi => ?_, fun h => by (simp [cfR] at h), fun i hi => ?_, rok.yd, rok.rg, fun i hi => ?_, ⟨hpr.1, by rw [← eq1]; exact hrep, fun i => by rw [← eq1]; exact hpr.2 i⟩, fun x v hx => by rw [← eq1]; exact hG' x v hx, by rw [← eq1]; exact Trans.refl _ _ _ _, [], rfl, List.nodup_nil, fun D hD => by cases hD⟩
    · have e : i ≠ 2000000000 + cf.b := fun e => by subst e; exact lid_rg ok hi
      simp only [setH, if_neg e]
      rw [tot_none (fok.up i (rg_up' ok hi))]
      exact hA i (.inr hi)
    · have hi' := rok.rg i hi
      have e : i ≠ 2000000000 + cf.b := fun e => by subst e; exact lid_rg ok hi'
      simp only [setH, if_neg e]
      rw [tot_none (fok.up i (rg_up' ok hi'))]
      exact hA i (.inr hi')
    · left
      show tot _ E i ≠ none
      cases hE : E i with
      | some C => rw [tot_some hE]; simp
      | none =>
        rw [tot_none hE]
        by_cases e : i = 2000000000 + cf.b
        · simp [setH, e]
        · simp only [setH, if_neg e] at hi ⊢
          cases hC : Fc i with
          | none => rw [tot_none hC] at hi; exact absurd hE hi
          | some C =>
            cases hD : lookH R i with
            | none => rw [tot_none hD, hC]; simp
            | some D => rw [tot_some hD]; simp
  have hHs1 : ∀ i, cf.b ≤ i → i < cf.b + 1000 → i ∉ hk → tot (setH (tot Fc (lookH R)) (some (2000000000 + cf.b, .loop lo))) E i = none := fun i h1 h2 h3 => by
    have hi : Rg cf.b i := .inl ⟨h1, h2⟩
    have e : i ≠ 2000000000 + cf.b := fun e => by subst e; exact lid_rg ok hi
    rw [tot_none (hA i (.inr hi))]
    simp only [setH, if_neg e]
    cases hB : lookH R i with
    | none => rw [tot_none hB]; exact fok.up i (rg_up' ok hi)
    | some B => exact absurd (rok.key i (by rw [hB]; simp)) h3
  -- what holds of a state of the round
  have at_l : ∀ {lo' : Loop} {T2 : TL} {H2 : HL} {a2 : Act} {w2 : World} {F2 : Nat → Option Blk} {ρ2 : Nat → Option Nat}, StAt (cfR cf hk (GlI cf E lo' Fc) G1) ⟨w0, N0, NA, W, ρ, tot (setH (tot Fc (lookH R)) (some (2000000000 + cf.b, .loop lo))) E, hna, hnn⟩ T2 H2 a2 w2 F2 ρ2 →
      ρ2 (2000000000 + cf.b) = some l ∧ tot F2 (lookH H2) (2000000000 + cf.b) = some (.loop lo') ∧ w2.heap[l]? = some (.loop lo') ∧ lookH H2 (2000000000 + cf.b) = none := fun {lo' T2 H2 a2 w2 F2 ρ2} st => by
    obtain ⟨Fc2, rfl, f2, hEF2⟩ := st.iv
    have h1 := (loop_kept st.tr hs0).2
    have h2 : lookH H2 (2000000000 + cf.b) = none := by
      cases hB : lookH H2 (2000000000 + cf.b) with
      | none => rfl
      | some B =>
        have hrg : Rg cf.b (2000000000 + cf.b) := st.av (2000000000 + cf.b) (by rw [hB]; simp)
        exact absurd hrg (lid_rg ok)
    have h3 : tot (setH (tot E Fc2) (some (2000000000 + cf.b, .loop lo'))) (lookH H2) (2000000000 + cf.b) = some (.loop lo') := by rw [tot_none h2]; simp [setH]
    obtain ⟨b, e1, e2⟩ := st.rep.heap.blk _ _ h3
    have h4 : ρ2 (2000000000 + cf.b) = some l := h1.trans hl
    rw [h4] at e1; cases e1
    exact ⟨h4, h3, e2, h2⟩
  refine wpIn_mono (hr k row R hI hrow (GlI cf E lo Fc) (into lo) (okR _) hm ca hca (some l) m (fun h => by (simp [cfR] at h)) ⟨w0, N0, NA, W, ρ, _, hna, hnn⟩ hHs1 (fun h => by (simp [cfR] at h)) _ W ⟨_, _, (by rw [htm] at st1; exact st1)⟩) fun e a1 W1 hq => ?_
  obtain ⟨T2, R2, ⟨rfl, hB⟩, F2, ρ2, st2⟩ := hq
  obtain ⟨g1, g2, g3, g4⟩ := at_l st2
  refine ⟨_, run_beginRound g3 hlo.2.2.2.2.1, ?_⟩
  obtain ⟨loB, hloB⟩ : ∃ loB : Loop, loB = { lo with state := .busy } := ⟨_, rfl⟩
  rw [← hloB]
  obtain ⟨Fc2, rfl, f2, hEF2⟩ := st2.iv
  obtain ⟨p1, p2⟩ := loop_put st2.rep.heap g2 g1 loB
  have eq2 : setH (tot (setH (tot E Fc2) (some (2000000000 + cf.b, .loop lo))) (lookH R2)) (some (2000000000 + cf.b, .loop loB)) = tot (setH (tot E Fc2) (some (2000000000 + cf.b, .loop loB))) (lookH R2) := by
    funext i
    by_cases e : i = 2000000000 + cf.b
    · subst e; rw [tot_none g4]; simp [setH]
    · simp [setH, e, tot]
  rw [eq2] at p1 p2
  have fne : ∀ {lo1 lo2 : Loop} {X : Nat → Option Blk} (i : Nat), setH X (some (2000000000 + cf.b, .loop lo1)) i ≠ none → setH X (some (2000000000 + cf.b, .loop lo2)) i ≠ none := fun {lo1 lo2 X} i hi => by
    by_cases e : i = 2000000000 + cf.b
    · simp [setH, e]
    · simpa [setH, e] using hi
  have st2' : StAt (cfR cf hk (GlI cf E loB Fc) G1) ⟨w0, N0, NA, W, ρ, tot (setH (tot Fc (lookH R)) (some (2000000000 + cf.b, .loop lo))) E, hna, hnn⟩ T2 R2 a1 (W1.putObj l (.loop loB)) (setH (tot E Fc2) (some (2000000000 + cf.b, .loop loB))) ρ2 := by
    refine ⟨⟨Fc2, rfl, f2, hEF2⟩, closed_gl eok f2.cl f2.lp, fun i hi => ?_, fun h => by (simp [cfR] at h), fun i hi => ?_, st2.yd, st2.av, fun i hi => st2.dm i (fne i hi), ⟨st2.rep.size, p1, fun i => p2.mv (st2.rep.tmp i)⟩, fun x v hx => p2.mv (st2.gh x v hx), st2.tr.trans p2, st2.df.move p2⟩
    · have := st2.out i hi
      have e : i ≠ 2000000000 + cf.b := fun e => by subst e; exact lid_rg ok hi
      simpa [setH, e] using this
    · have := st2.dis i hi
      have e : i ≠ 2000000000 + cf.b := fun e => by subst e; exact hi g4
      simpa [setH, e] using this
  refine wpIn_mono (hB (GlI cf E loB Fc) (into loB) (okR _) hm cb hcb (some l) m (fun h => by (simp [cfR] at h)) ⟨w0, N0, NA, W, ρ, _, hna, hnn⟩ hHs1 (fun h => by (simp [cfR] at h)) a1 _ ⟨_, _, st2'⟩) fun e a3 W3 hq => ?_
  obtain ⟨T3, H3, q, F3, ρ3, st3⟩ := hq
  -- the round's end
  have fin : ∀ jump : Option Code, lessOK (cfR cf hk (GlI cf E loB Fc) G1) hk [] H3 = true → clE ys (keepH hk H3) = true → (jump = none → I (k + 1) (keepH hk H3)) → (∀ c, jump = some c → ∃ e, jumpOf e = some c ∧ Q e T (keepH hk H3)) →
      ∃ v w', (Instr.endRound l jump).run cf.P W3 = .ok v w' ∧ ∃ stop F' ρ', Ending.returned v = .returned (.bool (!stop)) ∧ IvO cf Hs hk ys I T Q lo (k + 1) stop F' ∧ ClosedF F' ∧ (∀ i, F' i ≠ none → setH (tot Fc (lookH R)) (some (2000000000 + cf.b, .loop lo)) i ≠ none ∨ (cf.A i ∨ Rg cf.b i)) ∧
        RepH w0 N0 NA ρ' (tot F' E) w' ∧ Trans NA W ρ (tot (setH (tot Fc (lookH R)) (some (2000000000 + cf.b, .loop lo))) E) w' ρ' (tot F' E) := fun jump hless hcE hj1 hj2 => by
    have st3k := keep_rep (cf := cfR cf hk (GlI cf E loB Fc) G1) (okR _) (cx := ⟨w0, N0, NA, W, ρ, tot (setH (tot Fc (lookH R)) (some (2000000000 + cf.b, .loop lo))) E, hna, hnn⟩) hHs1 hless st3.noT
    obtain ⟨g1, g2, g3, g4⟩ := at_l st3k
    obtain ⟨Fc3, rfl, f3, hEF3⟩ := st3k.iv
    obtain ⟨loE, hloE⟩ : ∃ loE : Loop, loE = { loB with state := if jump.isNone then .ready else .done, pending := jump } := ⟨_, rfl⟩
    have hrun := run_endRound (P := cf.P) jump g3
    rw [← hloE] at hrun
    obtain ⟨p1, p2⟩ := loop_put st3k.rep.heap g2 g1 loE
    have hRg : ∀ i, lookH (keepH hk H3) i ≠ none → Rg cf.b i := st3k.av
    have hRF3 : ∀ i, lookH (keepH hk H3) i ≠ none → Fc3 i = none := fun i hi => f3.up i (rg_up' ok (hRg i hi))
    have hER3 : ∀ i, E i ≠ none → lookH (keepH hk H3) i = none := fun i hi => by
      cases hB : lookH (keepH hk H3) i with
      | none => rfl
      | some B => exact absurd (hA i (.inr (hRg i (by rw [hB]; simp)))) hi
    have eq3 : setH (tot (setH (tot E Fc3) (some (2000000000 + cf.b, .loop loB))) (lookH (keepH hk H3))) (some (2000000000 + cf.b, .loop loE)) = tot (setH (tot Fc3 (lookH (keepH hk H3))) (some (2000000000 + cf.b, .loop loE))) E := by
      rw [glR_eq hEF3 hER3 hEl g4]
      funext i
      by_cases e : i = 2000000000 + cf.b
      · subst e; rw [tot_none g4]; simp [setH]
      · simp [setH, e, tot]
    rw [eq3] at p1 p2
    have rok3 : ROK cf hk ys (keepH hk H3) := ⟨fun i hi => keepH_mem hi, hcE, st3k.yd, hRg⟩
    have hloR : jump = none → loE = lo := fun e => by
      rw [hloE, hloB, e, hlo0]; rfl
    refine ⟨_, _, hrun, jump.isSome, setH (tot Fc3 (lookH (keepH hk H3))) (some (2000000000 + cf.b, .loop loE)), ρ3, by cases jump <;> rfl, ⟨keepH hk H3, Fc3, loE, rfl, ⟨f3.iv, f3.cl, f3.up, fun i hi => ?_, fun j hj => f3.lp j (fok.lp j hj)⟩, rok3, fun hs => ?_, fun hs => ?_⟩, closed_set (closed_it f3.cl rok3 hRF3 (fun j hj => f3.lp j (fok.lp j (hys j hj)))) _ _, fun i hi => ?_, p1, st3k.tr.trans p2⟩
    · rcases f3.dm i hi with h1 | h1
      · exact fok.dm i h1
      · exact .inr h1
    · have e : jump = none := by cases jump <;> simp at hs ⊢
      exact ⟨hloR e, hj1 e⟩
    · obtain ⟨c, rfl⟩ := Option.isSome_iff_exists.1 hs
      obtain ⟨e, h1, h2⟩ := hj2 c rfl
      refine ⟨e, c, h1, ?_, h2⟩
      rw [hloE, hloB]; rfl
    · by_cases e : i = 2000000000 + cf.b
      · left; simp [setH, e]
      · simp only [setH, if_neg e] at hi ⊢
        cases hB : lookH (keepH hk H3) i with
        | some B => exact .inr (.inr (hRg i (by rw [hB]; simp)))
        | none =>
          rw [tot_none hB] at hi
          rcases f3.dm i hi with h1 | h1
          · left
            cases hC : lookH R i with
            | none => rw [tot_none hC]; exact h1
            | some C => rw [tot_some hC]; simp
          · exact .inr (.inl h1)
  cases e with
  | normal =>
    obtain ⟨q1, q2, q3⟩ := q
    exact fin none q1 q2 (fun _ => q3) (fun c h => by cases h)
  | ret =>
    obtain ⟨q1, q2, q3⟩ := q
    exact fin (some .ret) q1 q2 (fun h => by cases h) (fun c h => by cases h; exact ⟨.ret, rfl, q3⟩)
  | exit id =>
    obtain ⟨q1, q2, q3⟩ := q
    exact fin (some (.exit id)) q1 q2 (fun h => by cases h) (fun c h => by cases h; exact ⟨.exit id, rfl, q3⟩)
  | goto l => exact q.elim
  | panic ch => exact q.elim
  | outgrown => exact q.elim
end
end Go.Proofs.YtboifcengmgcaaaGreat
/- The shadow's code, VII: loops over iterators, the statement. -/
namespace Go.Proofs.YtboifcengmgcaaaGreat
open Go.RowKit
theorem trans_ne {NA : Nat → Prop} {w w' : World} {ρ ρ' : Nat → Option Nat} {H H' : Nat → Option Blk} (tr : Trans NA w ρ H w' ρ' H') {i : Nat} (h : H i ≠ none) : H' i ≠ none := by
  cases hB : H i with
  | none => exact absurd hB h
  | some B =>
    by_cases hk : B.kind.1 = 1
    · cases B with
      | arr t k rows => obtain ⟨rows', e, _⟩ := (tr.2 i).2 t k rows hB; rw [e]; simp
      | _ => simp [Blk.kind] at hk
    · obtain ⟨B', e, _⟩ := (tr.2 i).1 B hB hk
      rw [e]; simp
def toC2 : SV → Option CV
  | .c x => some x
  | .agg xs => (allC xs).map .agg
  | _ => none
def allC2 : List SV → Option (List CV)
  | [] => some []
  | x :: xs => match toC2 x, allC2 xs with
    | some y, some ys => some (y :: ys)
    | _, _ => none
def fnC : SV → Option CV
  | .c x => some x
  | .fn f fs cs => match allC2 fs, allC2 cs with
    | some xs, some ys => some (.fn f xs ys)
    | _, _ => none
  | _ => none
theorem allC_eq : ∀ {xs : List SV} {ys : List CV}, allC xs = some ys → xs = ys.map .c
  | [], ys, h => by simp [allC] at h; subst h; rfl
  | x :: xs, ys, h => by
    simp only [allC] at h
    split at h
    case h_2 => cases h
    case h_1 y zs h1 h2 =>
      cases h
      rw [List.map_cons, ← allC_eq h2]
      cases x with
      | c z => simp only [toC, Option.some.injEq] at h1; rw [h1]
      | _ => cases h1
section
variable {w : World} {NA : Nat → Prop} {ρ : Nat → Option Nat} {H : Nat → Option Blk}
theorem toC2_rep {x : SV} {y : CV} {v : Value} (h : RepS w NA ρ H x v) (hc : toC2 x = some y) : RepC w (Mut NA ρ H) y v := by
  cases h with
  | c z v r => simp only [toC2, Option.some.injEq] at hc; subst hc; exact r
  | agg xs vs h1 h2 =>
    simp only [toC2, Option.map_eq_some_iff] at hc
    obtain ⟨ys, hys, rfl⟩ := hc
    have e := allC_eq hys
    subst e
    refine .agg ys vs (by simpa using h1) (fun i x v hx hv => ?_)
    have := h2 i (.c x) v (by rw [List.getElem?_map, hx]; rfl) hv
    cases this with
    | c _ _ r => exact r
  | _ => simp [toC2] at hc
theorem allC2_rep : ∀ {xs : List SV} {ys : List CV} {vs : List Value}, allC2 xs = some ys → vs.length = xs.length → (∀ (i : Nat) x v, xs[i]? = some x → vs[i]? = some v → RepS w NA ρ H x v) → vs.length = ys.length ∧ ∀ (i : Nat) y v, ys[i]? = some y → vs[i]? = some v → RepC w (Mut NA ρ H) y v
  | [], ys, vs, h, hl, _ => by simp [allC2] at h; subst h; exact ⟨hl, fun i y v hy => by simp at hy⟩
  | x :: xs, ys, [], h, hl, _ => by simp at hl
  | x :: xs, ys, v :: vs, h, hl, hr => by
    simp only [allC2] at h
    split at h
    case h_2 => cases h
    case h_1 y zs h1 h2 =>
    cases h
    obtain ⟨g1, g2⟩ := allC2_rep h2 (vs := vs) (by simpa using hl) (fun i x v hx hv => hr (i + 1) x v (by simpa using hx) (by simpa using hv))
    refine ⟨by simp [g1], fun i z u hz hu => ?_⟩
    cases i with
    | zero => simp at hz hu; subst hz; subst hu; exact toC2_rep (hr 0 x _ rfl rfl) h1
    | succ i => exact g2 i z u (by simpa using hz) (by simpa using hu)
theorem fnC_rep {x : SV} {y : CV} {v : Value} (h : RepS w NA ρ H x v) (hc : fnC x = some y) : RepC w (Mut NA ρ H) y v := by
  cases h with
  | c z v r => simp only [fnC, Option.some.injEq] at hc; subst hc; exact r
  | fn f fs cs vf vc h1 h2 h3 h4 =>
    simp only [fnC] at hc
    split at hc
    case h_2 => cases hc
    case h_1 xs ys e1 e2 =>
    cases hc
    obtain ⟨g1, g2⟩ := allC2_rep e1 (vs := vf.toList) (by simpa using h1) (fun i x v hx hv => h3 i x v hx (by simpa using hv))
    obtain ⟨g3, g4⟩ := allC2_rep e2 (vs := vc.toList) (by simpa using h2) (fun i x v hx hv => h4 i x v hx (by simpa using hv))
    exact .fn f xs ys vf vc (by simpa using g1) (by simpa using g3) (fun i x v hx hv => g2 i x v hx (by simpa using hv)) (fun i x v hx hv => g4 i x v hx (by simpa using hv))
  | _ => simp [fnC] at hc
end
theorem st_range {cf : Cf} {x : Operand} {ps : List Nat} {A B : SCode} {T : TL} {H : HL} {Q : Exit → TL → HL → Prop} {g : FuncId} {fs es : List CV} {bs : Nat} {xs : List (List CV)} (hit : IterL cf.P g bs fs es xs) (hk ys : List Nat) (I : Nat → HL → Prop) (ho : cf.o = true) (hK : cf.K = [])
    (hx : fnC (ev (lookT T) x) = some (.fn g fs es)) (hent : entB cf.P g = true) (hbs : cf.b + 1000 ≤ bs) (hys : ∀ j ∈ ys, ∃ v, cf.G (.yl j) v) (hps : ∀ row ∈ xs, row.length = ps.length) (hl : lessOK cf hk T H = true) (hc : clE ys (keepH hk H) = true) (h0 : I 0 (keepH hk H))
    (hr : ∀ k row R, I k R → xs[k]? = some row → ∀ Iv G1, (∀ x v, cf.G x v → G1 x v) → Into cf Iv G1 → STri (cfR cf hk Iv G1) A (parT ps row T) R (asgQ cf hk ys I k T G1 B Q))
    (hd : ∀ R, I xs.length R → Q .normal T R) : STri cf (.range x ps A B) T H Q := fun ok hm c hcc r md hro cx hHs hu a w ⟨F, ρ, st0⟩ => by
  have hr0 := hro ho
  subst hr0
  have st := keep_rep ok hHs hl st0
  obtain ⟨ca, cb, rfl, hca, hcb, hpn⟩ := comp_range (by simpa [SCode.erase] using hcc)
  have lidU := lid_up ok
  have q := fnC_rep (rep_ev st.rep.tmp x) hx
  generalize hv : a.eval x = v at q
  cases q with
  | fn _ _ _ vf vc a1 a2 a3 a4 =>
  have hent' : ∀ args w, (callFunc g args).run cf.P w = .ok (.enter g args) w := fun args w => by
    unfold entB at hent
    split at hent
    case h_2 => cases hent
    case h_1 fn hfn' =>
    simp only [Bool.and_eq_true, Bool.not_eq_true'] at hent
    have hb' : ¬ fn.body = none := fun e => by rw [e] at hent; simp at hent
    have hnm' : ¬ fn.name = "runtime.NumGoroutine" := by simpa using hent.2
    simp [callFunc, hfn', hb', hnm']
  have hFl : F (2000000000 + cf.b) = none := st.ol ho _ lidU
  have hRl : lookH (keepH hk H) (2000000000 + cf.b) = none := by
    cases hB : lookH (keepH hk H) (2000000000 + cf.b) with
    | none => rfl
    | some B => exact absurd (st.av _ (by rw [hB]; simp)) (lid_rg ok)
  have htl : tot F (lookH (keepH hk H)) (2000000000 + cf.b) = none := by rw [tot_none hRl]; exact hFl
  refine wpIn_rangeFunc ?_
  intro fn hfn
  obtain ⟨lo0, hlo0⟩ : ∃ lo0 : Loop, lo0 = { state := .ready, pending := none, fn := fn, tmps := a.tmps, params := ⟨ps⟩, assign := ca, body := cb, defers := w.heap.size } := ⟨_, rfl⟩
  -- the record is laid
  have e1 : Ext w (w.alloc (.deferred (some []))) := (Ext.refl w).alloc _
  obtain ⟨x1, x2⟩ := ext_rep st.rep.heap e1
  obtain ⟨n1, n2⟩ := new_rep x1 htl (.loop lo0) (.loop lo0) (fun _ => ⟨_, by simp [setR], heap_alloc_new _ _⟩)
  have tr0 := x2.trans n2
  have hsz1 : (w.alloc (.deferred (some []))).heap.size = w.heap.size + 1 := by simp
  rw [hsz1] at n1 tr0
  obtain ⟨V, hV⟩ : ∃ V, (w.alloc (.deferred (some []))).alloc (.loop lo0) = V := ⟨_, rfl⟩
  rw [hV] at n1 tr0
  obtain ⟨ρ0, hρ0⟩ : ∃ ρ0, setR ρ (2000000000 + cf.b) (some (w.heap.size + 1)) = ρ0 := ⟨_, rfl⟩
  rw [hρ0] at n1 tr0
  have hl0 : ρ0 (2000000000 + cf.b) = some (w.heap.size + 1) := by rw [← hρ0]; simp [setR]
  have hVd : V.heap[w.heap.size]? = some (.deferred (some [])) := by
    rw [← hV]; exact (heap_alloc_old _ _ (by simp)).trans (heap_alloc_new w _)
  refine ⟨w.heap.size + 1, [{ target := .collected w.heap.size, args := #[] }], V, { target := .fn (.func g) vc, args := vf ++ #[.func (.yield (w.heap.size + 1)) #[] #[]] }, V, g,
    vf ++ #[.func (.yield (w.heap.size + 1)) #[] #[]] ++ vc, V, ?_, ?_, fun _ _ => trivial, ?_, fun h => WF_depth h, callsIn_WF ?_⟩
  · rw [← hV, hlo0]
    exact run_enterLoop_outer _ _ _ _ _
  · simp only [resolve, hv]
    simp [go_sem]
  · simp only [invoke]
    exact hent' _ _
  -- what must stay known
  obtain ⟨G1, hG1⟩ : ∃ G1 : SV → Value → Prop, G1 = fun y u => cf.G y u ∨ (∃ i, y = lookT T i ∧ u = a.tmps.getD i undef) ∨ (y = .yl (2000000000 + cf.b) ∧ u = .func (.yield (w.heap.size + 1)) #[] #[]) := ⟨_, rfl⟩
  have hGG : ∀ y u, cf.G y u → G1 y u := fun y u h => by rw [hG1]; exact .inl h
  have hs0 : setH (tot F (lookH (keepH hk H))) (some (2000000000 + cf.b, .loop lo0)) (2000000000 + cf.b) = some (.loop lo0) := by simp [setH]
  have hGr : ∀ y u, G1 y u → RepS V cx.NA ρ0 (setH (tot F (lookH (keepH hk H))) (some (2000000000 + cf.b, .loop lo0))) y u := fun y u h => by
    rw [hG1] at h
    rcases h with h | ⟨i, rfl, rfl⟩ | ⟨rfl, rfl⟩
    · exact tr0.mv (st.gh y u h)
    · exact tr0.mv (st.rep.tmp i)
    · exact .yl _ lo0 _ hs0 hl0
  have inK : ∀ i, tot F (lookH (keepH hk H)) i ≠ none → Rg cf.b i → i ∈ hk := fun i hi hrg => by
    rw [Ne, tot] at hi
    cases hB : lookH (keepH hk H) i with
    | some B => exact keepH_mem (by rw [hB]; simp)
    | none => rw [hB] at hi; exact absurd (st.out i hrg) hi
  have okR : ∀ Iv, (cfR cf hk Iv G1).ok := fun Iv => ⟨ok.n, ok.b, ok.A, fun h => by (simp [cfR] at h), fun y u h => by
    rw [show (cfR cf hk Iv G1).G = G1 from rfl, hG1] at h
    rcases h with h | ⟨i, rfl, rfl⟩ | ⟨rfl, rfl⟩
    · refine inP_mono (fun i hi hrg => ?_) y (ok.G y u h)
      have := hi hrg
      rw [hK] at this; cases this
    · exact inP_mono inK _ (st.rep.tmp i).inP
    · exact fun (h : Rg cf.b (2000000000 + cf.b)) => absurd h (lid_rg ok)⟩
  have hysF : ∀ j, (∃ v, cf.G (.yl j) v) → ∃ lo, F j = some (.loop lo) := fun j ⟨v, hv⟩ => by
    have := st.gh _ _ hv
    cases this with
    | yl _ lo b hH _ =>
      cases hB : lookH (keepH hk H) j with
      | none => rw [tot_none hB] at hH; exact ⟨lo, hH⟩
      | some B => rw [tot_some hB] at hH; cases hH; exact absurd hB ((clE_spec hc).1 j lo)
  have rok0 : ROK cf hk ys (keepH hk H) := ⟨fun i hi => keepH_mem hi, hc, st.yd, st.av⟩
  have fok0 : FcOK cf cx.Hs (fun j => ∃ v, cf.G (.yl j) v) (kOf cf.b (keepH hk H)) F := ⟨st.iv, st.cl, st.ol ho, st.dm, hysF⟩
  have hT1 : ∀ i, G1 (lookT T i) (a.tmps.getD i undef) := fun i => by rw [hG1]; exact .inr (.inl ⟨i, rfl, rfl⟩)
  refine (hit (IvO cf cx.Hs hk ys I T Q lo0) (fun i => cf.A i ∨ Rg cf.b i) G1 (2000000000 + cf.b) (fun i hi => ?_) ⟨_, by rw [hG1]; exact .inr (.inr ⟨rfl, rfl⟩)⟩ (fun k row hrow => by
      rw [hlo0]
      exact range_round ho ok hm okR hGG hys hps hpn hca hcb st.rep.size hT1 (fun k row R hI hrw Iv hin => hr k row R hI hrw Iv G1 hGG hin) hrow)
    cx.w0 cx.N0 cx.NA ρ0 (setH (tot F (lookH (keepH hk H))) (some (2000000000 + cf.b, .loop lo0))) (w.heap.size + 1) lo0 vf vc V cx.na cx.nn ⟨keepH hk H, F, lo0, rfl, fok0, rok0, fun _ => ⟨rfl, h0⟩, fun h => by cases h⟩
    (closed_set (closed_it st.cl rok0 st.dis (fun j hj => hysF j (hys j hj))) _ _) (fun i hi => ?_) n1 hs0 hl0 hGr a1 a2 (fun i y u hy hu => (a3 i y u hy hu).move tr0.1) (fun i y u hy hu => (a4 i y u hy hu).move tr0.1)).mono fun e W hpost => ?_
  · have hiU : Up cf.b i := by unfold Up at hi ⊢; omega
    rintro (h | h)
    · exact ok.A2 ho i hiU h
    · unfold Up at hi
      have := ok.b
      rcases h with h | h <;> omega
  · have hiU : Up cf.b i := by unfold Up at hi ⊢; omega
    have e : i ≠ 2000000000 + cf.b := fun e => by
      subst e
      have := ok.b
      unfold Up at hi; omega
    simp only [setH, if_neg e]
    cases hB : lookH (keepH hk H) i with
    | none => rw [tot_none hB]; exact st.ol ho i hiU
    | some B =>
      exfalso
      have h := st.av i (by rw [hB]; simp)
      unfold Up at hi
      have := ok.b
      rcases h with h | h <;> omega
  -- behind the loop
  obtain ⟨⟨v, rfl⟩, k, stop, F', ρ', hk', hIv', hcl', hdom', hrep', htr'⟩ := hpost
  obtain ⟨R, Fc, lo, rfl, fok, rok, hs1, hs2⟩ := hIv'
  have hl' : ρ' (2000000000 + cf.b) = some (w.heap.size + 1) := (loop_kept htr' hs0).2.trans hl0
  have hsl : setH (tot Fc (lookH R)) (some (2000000000 + cf.b, .loop lo)) (2000000000 + cf.b) = some (.loop lo) := by simp [setH]
  have hheap : W.heap[w.heap.size + 1]? = some (.loop lo) := by
    obtain ⟨b, e1, e2⟩ := hrep'.blk _ _ hsl
    rw [hl'] at e1; cases e1; exact e2
  have hRl' : lookH R (2000000000 + cf.b) = none := by
    cases hB : lookH R (2000000000 + cf.b) with
    | none => rfl
    | some B => exact absurd (rok.rg _ (by rw [hB]; simp)) (lid_rg ok)
  have hFt : tot Fc (lookH R) (2000000000 + cf.b) = none := by rw [tot_none hRl']; exact fok.up _ lidU
  have hRF : ∀ i, lookH R i ≠ none → Fc i = none := fun i hi => fok.up i (rg_up' ok (rok.rg i hi))
  have trA := tr0.trans htr'
  have fin : ∀ lo2 : Loop, StAt cf cx T R { a with defers := [{ target := .collected w.heap.size, args := #[] }] ++ a.defers } (W.putObj (w.heap.size + 1) (.loop lo2)) Fc ρ' := fun lo2 => by
    obtain ⟨p1, p2⟩ := loop_put hrep' hsl hl' lo2
    have eq4 : setH (setH (tot Fc (lookH R)) (some (2000000000 + cf.b, .loop lo))) (some (2000000000 + cf.b, .loop lo2)) = tot (tot Fc (lookH R)) (fun i => if i = 2000000000 + cf.b then some (.loop lo2) else none) := by
      funext i
      by_cases e : i = 2000000000 + cf.b <;> simp [setH, tot, e]
    rw [eq4] at p1 p2
    obtain ⟨o1, o2, o3⟩ := only_rep (closed_it fok.cl rok hRF (fun j hj => fok.lp j (hys j hj))) (fun i hi => by
      by_cases e : i = 2000000000 + cf.b
      · subst e; exact hFt
      · simp [e] at hi) p1
    have trB := trA.trans p2
    have kept : ∀ i, tot F (lookH (keepH hk H)) i ≠ none → tot Fc (lookH R) i ≠ none := fun i hi => by
      have h1 := trans_ne trB hi
      have e : i ≠ 2000000000 + cf.b := fun e => by subst e; exact hi htl
      rw [Ne, tot] at h1
      simpa [e] using h1
    have mv : ∀ y u, RepS w cx.NA ρ (tot F (lookH (keepH hk H))) y u → RepS (W.putObj (w.heap.size + 1) (.loop lo2)) cx.NA ρ' (tot Fc (lookH R)) y u := fun y u h =>
      (trB.mv h).less (D := fun i => tot Fc (lookH R) i ≠ none) (fun i B hB => by rw [o3 i (by rw [hB]; simp)]; exact hB) (fun i B hB hi => by rw [← o3 i hi]; exact hB) (inP_mono kept y h.inP)
    have trC : ∀ i, cx.Hs i ≠ none → i ≠ 2000000000 + cf.b := fun i hi e => by subst e; exact hi (hu ho _ lidU)
    have nD : ∀ D, ¬ Mut cx.NA ρ (tot F (lookH (keepH hk H))) D → D < w.heap.size → ¬ Mut cx.NA ρ' (tot Fc (lookH R)) D ∧ (W.putObj (w.heap.size + 1) (.loop lo2)).heap[D]? = w.heap[D]? := fun D h1 h2 => by
      obtain ⟨q1, q2⟩ := (trB.1.trans o2).same D h2 h1
      exact ⟨q2, q1⟩
    refine ⟨fok.iv, fok.cl, fun i hi => fok.up i (rg_up' ok hi), fun _ i hi => fok.up i hi, hRF, rok.yd, rok.rg, fok.dm, ⟨st.rep.size, o1, fun i => mv _ _ (st.rep.tmp i)⟩, fun y u h => mv y u (st.gh y u h), ⟨(st.tr.1.trans trB.1).trans o2, fun i => ?_⟩, ?_⟩
    · have hi := ((st.tr.trans trB).2 i)
      refine ⟨fun B hB hkd => ?_, fun t q rows hB => ?_⟩
      · obtain ⟨B', h1, h2⟩ := hi.1 B hB hkd
        have e := trC i (by rw [hB]; simp)
        refine ⟨B', ?_, h2⟩
        rw [← h1]
        simp [tot, e]
      · obtain ⟨rows', h1, h2⟩ := hi.2 t q rows hB
        have e := trC i (by rw [hB]; simp)
        refine ⟨rows', ?_, h2⟩
        rw [← h1]
        simp [tot, e]
    · obtain ⟨Ds, h1, h2, h3⟩ := st.df
      refine ⟨w.heap.size :: Ds, by rw [h1]; rfl, List.nodup_cons.2 ⟨fun hm => by have := (h3 _ hm).2.1; omega, h2⟩, fun D hD => ?_⟩
      have hszW : w.heap.size < W.heap.size := by
        have := lt_heap hheap; omega
      rcases List.mem_cons.1 hD with rfl | hD
      · have hn0 : ¬ Mut cx.NA ρ0 (setH (tot F (lookH (keepH hk H))) (some (2000000000 + cf.b, .loop lo0))) w.heap.size := by
          rintro (h | ⟨i, q1, q2⟩)
          · have := cx.na _ h
            have := st.rep.heap.fr.size
            omega
          · by_cases e : i = 2000000000 + cf.b
            · subst e; rw [hl0] at q2; simp at q2
            · simp only [setH, if_neg e] at q1
              rw [← hρ0] at q2
              simp only [setR, if_neg e] at q2
              have := st.rep.heap.lt ⟨i, q1, q2⟩
              omega
        obtain ⟨q1, q2⟩ := ((htr'.1.trans p2.1).trans o2).same w.heap.size (lt_heap hVd) hn0
        exact ⟨st.tr.1.size, by simpa using hszW, q2, q1.trans hVd⟩
      · obtain ⟨l1, l2, l3, l4⟩ := h3 D hD
        obtain ⟨q1, q2⟩ := nD D l3 l2
        exact ⟨l1, by simp; omega, q1, q2.trans l4⟩
  cases stop with
  | false =>
    obtain ⟨rfl, hI⟩ := hs1 rfl
    have hlo : lo.state = .ready ∧ lo.pending = none := by rw [hlo0]; simp
    have hrun := run_endLoop (P := cf.P) hheap (by rw [hlo.1]; simp)
    rw [hlo.2] at hrun
    rw [hk' rfl] at hI
    exact ⟨none, _, hrun, T, R, hd R hI, Fc, ρ', fin _⟩
  | true =>
    obtain ⟨e, c, h1, h2, h3⟩ := hs2 rfl
    have hlo : lo.state = .done ∧ lo.pending = some c := by rw [h2]; simp
    have hrun := run_endLoop (P := cf.P) hheap (by rw [hlo.1]; simp)
    rw [hlo.2] at hrun
    refine ⟨some c, _, hrun, ?_⟩
    cases e with
    | ret => cases h1; exact wpIn_ret ⟨T, R, h3, Fc, ρ', fin _⟩
    | exit id => cases h1; exact wpIn_exit ⟨T, R, h3, Fc, ρ', fin _⟩
    | _ => cases h1
end Go.Proofs.YtboifcengmgcaaaGreat
/- Small tools for runs of the shadow. -/
namespace Go.Proofs.YtboifcengmgcaaaGreat
open Go.RowKit
theorem follows : Tryz.prog.follows .mixedOrders = true := by kernel_rfl
theorem wrap_in (n : Int) (h1 : -9223372036854775808 ≤ n) (h2 : n ≤ 9223372036854775807) : IntKind.i64.wrap n = n := IntWalk.i64_in _ ⟨h1, h2⟩
abbrev I (n : Int) : CV := .val (.int .i64 n)
abbrev B (b : Bool) : CV := .val (.bool b)
attribute [simp] clsS rngS keyC nilS isNilP runP freeOK outP doesP actF ev lookT lookH putL setL setL1 binS binI unS boolS mkS aggS eqS rowsOf SRop.site Option.getD_some Option.getD_none Option.map_some Option.map_none keepT List.map_cons List.map_nil List.drop_zero
  List.drop_succ_cons List.take_zero List.take_succ_cons List.length_cons List.length_nil List.set_cons_zero List.set_cons_succ setMany SV.cells CV.cells SV.one CV.one SV.isC SV.pure List.all_cons List.all_nil closeAll close close1 closeL toC allC fillC chunk
  openC List.nil_append List.cons_append List.append_nil List.getElem?_cons_zero List.getElem?_cons_succ Bool.and_true Bool.true_and Bool.false_eq_true true_and and_true forall_const not_true_eq_false not_false_eq_true false_implies true_implies
  fp refs refP refsA comp2 wr al List.contains_cons List.contains_nil initT imp_self ne_eq decide_true decide_false Bool.not_true Bool.not_false List.flatten_nil List.replicate_zero List.replicate_succ List.flatten_cons maxF minF Int.toNat_natCast
  Bool.not_eq_true Bool.not_eq_false Bool.true_eq_false false_and and_false Bool.and_false Bool.false_and Bool.or_true Bool.true_or Bool.or_false Bool.false_or false_or or_false or_true true_or List.append_assoc exists_eq_left resC packC Option.some.injEq
  guardP_same guardP_tf guardP_ft optK_some boolP_of boolP_un eq_self reduceCtorEq ite_self SV.outD outDL Less LessT LessH Blk.outD lessOK keepH List.filterMap_cons List.filterMap_nil dropK dropOK newOK List.filter_nil List.filter_cons genP genD SOp.gen closeP closePL SV.inE inEL clE initS parT bound
  keyS intsOf getM putM entsS shiftS refs1 SRop.er SOp.erase itQ Option.isNone_none Option.isNone_some Option.isSome_some Option.isSome_none Nat.zero_add
section
variable (P : Program) (M : List FuncId) (n b : Nat) (Iv : Inv) (A : Nat → Prop) (G : SV → Value → Prop) (cf : Cf) (hk : List Nat)
@[simp] theorem cfF_P : (cfF P M n).P = P := rfl
@[simp] theorem cfF_b : (cfF P M n).b = 0 := rfl
@[simp] theorem cfF_K : (cfF P M n).K = [] := rfl
@[simp] theorem cfI_P : (cfI P M n b Iv A G).P = P := rfl
@[simp] theorem cfI_b : (cfI P M n b Iv A G).b = b := rfl
@[simp] theorem cfI_K : (cfI P M n b Iv A G).K = [] := rfl
@[simp] theorem cfI_G : (cfI P M n b Iv A G).G = G := rfl
@[simp] theorem cfI_A : (cfI P M n b Iv A G).A = A := rfl
@[simp] theorem cfI_Iv : (cfI P M n b Iv A G).Iv = Iv := rfl
@[simp] theorem cfR_P : (cfR cf hk Iv G).P = cf.P := rfl
@[simp] theorem cfR_b : (cfR cf hk Iv G).b = cf.b := rfl
@[simp] theorem cfR_K : (cfR cf hk Iv G).K = hk := rfl
@[simp] theorem cfR_G : (cfR cf hk Iv G).G = G := rfl
@[simp] theorem cfR_A : (cfR cf hk Iv G).A = cf.A := rfl
@[simp] theorem cfR_Iv : (cfR cf hk Iv G).Iv = Iv := rfl
end
theorem retQ_ret {rs : List SRes} {r : CV} {T : TL} {H : HL} (h : ∃ xs, resC (lookT T) (lookH H) rs = some xs ∧ CLe (packC xs) r) : retQ rs r .ret T H := ⟨.inr rfl, h⟩
theorem CLe.of_eq {x y : CV} (h : x = y) : CLe x y := h ▸ .refl x
theorem CLe.bool {a b : Bool} (h : a = b) : CLe (.val (.bool a)) (.val (.bool b)) := h ▸ .refl _
theorem CLe.int {k : IntKind} {a b : Int} (h : a = b) : CLe (.val (.int k a)) (.val (.int k b)) := h ▸ .refl _
theorem bool_tf {x : Bool} (h : x = true) (h' : x = false) : False := by rw [h] at h'; exact Bool.noConfusion h'
theorem bool_ft {x : Bool} (h : x = false) (h' : x = true) : False := bool_tf h' h
attribute [simp ↓] seqQ blockQ
def isValB : CV → Bool
  | .val _ => true
  | _ => false
theorem flat_all {xs : List CV} (h : xs.all isValB = true) : ∀ (i : Nat) x, xs[i]? = some x → Flat x := fun i x hx => by
  have := List.all_eq_true.1 h x (List.mem_of_getElem? hx)
  cases x <;> simp [isValB] at this
  exact .val _
theorem flat_agg {xs : List CV} (h : xs.all isValB = true) : Flat (.agg xs) := .agg xs (flat_all h)
theorem flat_tup {xs : List CV} (h : xs.all isValB = true) : Flat (.tup xs) := .tup xs (flat_all h)
def flatV : CV → Bool
  | .val _ => true
  | .agg xs | .tup xs => xs.all isValB
  | _ => false
theorem flatV_or {p : Bool} {r : CV} (h : (p || flatV r) = true) : p = true ∨ Flat r := by
  cases p with
  | true => exact .inl rfl
  | false =>
    right
    cases r with
    | val v => exact .val v
    | agg xs => exact flat_agg h
    | tup xs => exact flat_tup h
    | _ => cases h
theorem callP_b {P : Program} {f : FuncId} {cs : List CV} {p : Bool} {K : SV → Option (Nat × Blk) → Prop} {r : CV} (h : SC P f cs r) (hp : (p || flatV r) = true) (hK : K (openC r) none) : callP P f (some cs) p K .mk := callP_of h (flatV_or hp) hK
theorem callI_b {P : Program} {nm : String} {t : TypeId} {x : CV} {p : Bool} {f : FuncId} {cs : List CV} {K : SV → Option (Nat × Blk) → Prop} {r : CV} (h : SC P f (x :: cs) r) (hm : methF P t nm = some f) (hb : bodyB P f = true) (hp : (p || flatV r) = true) (hK : K (openC r) none) : callIP P nm (.c (.ifc t x)) (some cs) p K .mk := callI_of h hm hb (flatV_or hp) hK
def MethS (P : Program) (nm : String) (t : TypeId) (x : CV) (cs : List CV) (r : CV) : Prop := ∃ f, methF P t nm = some f ∧ bodyB P f = true ∧ SC P f (x :: cs) r
theorem callI_m {P : Program} {nm : String} {t : TypeId} {x : CV} {p : Bool} {cs : List CV} {K : SV → Option (Nat × Blk) → Prop} {r : CV} (h : MethS P nm t x cs r) (hp : (p || flatV r) = true) (hK : K (openC r) none) : callIP P nm (.c (.ifc t x)) (some cs) p K .mk :=
  have ⟨_, hm, hb, hs⟩ := h
  callI_b hs hm hb hp hK
theorem callV_b {cf : Cf} {f : FuncId} {fs cs es : List CV} {p : Bool} {H : HL} {K : SV → HL → Prop} {r : CV} (he : entB cf.P f = true) (h : SC cf.P f (fs ++ cs ++ es) r) (hp : (p || flatV r) = true) (hK : K (openC r) H) : callVP cf (.c (.fn f fs es)) (some cs) p H K .mk := callV_fn he h (flatV_or hp) hK
end Go.Proofs.YtboifcengmgcaaaGreat
/- Functions that turn a slice of their caller's own. -/
namespace Go.Proofs.YtboifcengmgcaaaGreat
open Go.RowKit
def off9 : SV → SV
  | .c x => .c x
  | .own id len => if id = 900 then .dead else .own id len
  | _ => .dead
def arr9 (H : HL) : Nat → Option Blk := fun i => if i = 900 then none else match lookH H i with
  | some (.arr t k rows) => some (.arr t k rows)
  | _ => none
def retM (rs : List SRes) (t : TypeId) (k : Nat) (n : Nat) (R : List (List CV) → Prop) (r : CV) (e : Exit) (T : TL) (H : HL) : Prop :=
  (e = .normal ∨ e = .ret) ∧ ∃ rows', lookH H 900 = some (.arr t k rows') ∧ R rows' ∧ rows'.length = n ∧ ∃ xs, resC (fun i => off9 (lookT T i)) (arr9 H) rs = some xs ∧ CLe (packC xs) r
theorem retM_ret {rs : List SRes} {t : TypeId} {k n : Nat} {R : List (List CV) → Prop} {r : CV} {T : TL} {H : HL} (h : ∃ rows', lookH H 900 = some (.arr t k rows') ∧ R rows' ∧ rows'.length = n ∧ ∃ xs, resC (fun i => off9 (lookT T i)) (arr9 H) rs = some xs ∧ CLe (packC xs) r) : retM rs t k n R r .ret T H := ⟨.inr rfl, h⟩
attribute [simp] off9 arr9 resM
end Go.Proofs.YtboifcengmgcaaaGreat
/- Own slices that lie in boxes are closed. -/
namespace Go.Proofs.YtboifcengmgcaaaGreat
open Go.RowKit
section
variable {cf : Cf} {cx : Cx} {T T' : TL} {H H' : HL} {a : Act} {w : World} {F : Nat → Option Blk} {ρ : Nat → Option Nat}
def CloC (H : HL) (X : Nat → Prop) (x y : SV) : Prop := x = y ∨ ∃ id t k rows, x = .own id rows.length ∧ lookH H id = some (.arr t k rows) ∧ X id ∧ y = .c (.sl k rows)
def CloL (H : HL) (X : Nat → Prop) : List SV → List SV → Prop
  | [], [] => True
  | x :: xs, y :: ys => CloC H X x y ∧ CloL H X xs ys
  | _, _ => False
theorem CloL.get {X : Nat → Prop} : ∀ {xs ys : List SV}, CloL H X xs ys → xs.length = ys.length ∧ ∀ (i : Nat) y, ys[i]? = some y → ∃ x, xs[i]? = some x ∧ CloC H X x y
  | [], [], _ => ⟨rfl, fun i y h => by simp at h⟩
  | x :: xs, y :: ys, h => by
    obtain ⟨h1, h2⟩ := CloL.get h.2
    refine ⟨by simp [h1], fun i z hz => ?_⟩
    cases i with
    | zero => simp at hz; subst hz; exact ⟨x, by simp, h.1⟩
    | succ i => simp at hz ⊢; exact h2 i z hz
  | [], _ :: _, h => h.elim
  | _ :: _, [], h => h.elim
structure Shut (cf : Cf) (H H' : HL) (X : Nat → Prop) : Prop where
  at' : ∀ i, X i → cf.b ≤ i ∧ i < cf.b + 1000 ∧ i ∉ cf.K
  keep : ∀ i, ¬ X i → lookH H' i = lookH H i ∨ ∃ t cs cs', lookH H i = some (.box t cs) ∧ lookH H' i = some (.box t cs') ∧ CloL H X cs cs'
  gone : ∀ i, X i → lookH H' i = none
  gh : lookH H' (1000000000 + cf.b) = lookH H (1000000000 + cf.b)
  cl : ∀ i t cells, lookH H' i = some (.box t cells) → inPL (fun j => ¬ X j) cells
theorem Shut.eqs {X : Nat → Prop} (d : Shut cf H H' X) (out : ∀ i, Rg cf.b i → F i = none) (i : Nat) : (X i → tot F (lookH H') i = none) ∧ (¬ X i → tot F (lookH H') i = tot F (lookH H) i ∨ ∃ t cs cs', tot F (lookH H) i = some (.box t cs) ∧ tot F (lookH H') i = some (.box t cs') ∧ CloL H X cs cs') := by
  refine ⟨fun hi => ?_, fun hi => ?_⟩
  · rw [tot_none (d.gone i hi)]
    exact out i (.inl ⟨(d.at' i hi).1, (d.at' i hi).2.1⟩)
  · rcases d.keep i hi with h | ⟨t, cs, cs', h1, h2, h3⟩
    · left; unfold tot; rw [h]
    · right; exact ⟨t, cs, cs', tot_some h1, tot_some h2, h3⟩
theorem RepS.less2 {w : World} {NA : Nat → Prop} {ρ : Nat → Option Nat} {H H' : Nat → Option Blk} {D : Nat → Prop} (hs : ∀ id, H' id ≠ none → H id ≠ none) (hD : ∀ id B, H id = some B → D id → H' id = some B ∨ ∃ t cs cs', B = .box t cs ∧ H' id = some (.box t cs')) {x : SV} {v : Value}
    (h : RepS w NA ρ H x v) (hx : x.inP D) : RepS w NA ρ H' x v := by
  have calm : Calm w (Mut NA ρ H) w (Mut NA ρ H') := ⟨Nat.le_refl _, fun b _ hn => ⟨rfl, fun hm => by
    rcases hm with hm | ⟨i, h1, h2⟩
    · exact hn (.inl hm)
    · exact hn (.inr ⟨i, hs i h1, h2⟩)⟩⟩
  induction h with
  | c x v r => exact .c x v (r.move calm)
  | agg xs vs h1 _ ih => exact .agg xs vs h1 (fun i x v hx' hv => ih i x v hx' hv (inPL_get hx i x hx'))
  | tup xs vs h1 _ ih => exact .tup xs vs h1 (fun i x v hx' hv => ih i x v hx' hv (inPL_get hx i x hx'))
  | own id len t k rows v hH hl ho hv =>
    rcases hD id _ hH hx with h | ⟨_, _, _, h, _⟩
    · exact .own id len t k rows v h hl ho hv
    · cases h
  | ptrB id j t cells b hH hb =>
    rcases hD id _ hH hx with h | ⟨t', cs, cs', h, h'⟩
    · exact .ptrB id j t cells b h hb
    · cases h; exact .ptrB id j t cs' b h' hb
  | ptrA id len i j t k rows v hH hl ho hv =>
    rcases hD id _ hH hx with h | ⟨_, _, _, h, _⟩
    · exact .ptrA id len i j t k rows v h hl ho hv
    · cases h
  | pel k rows i j b off c hc hi => exact .pel k rows i j b off c (hc.move calm) hi
  | fn f fs cs vf vc h1 h2 _ _ ih1 ih2 =>
    exact .fn f fs cs vf vc h1 h2 (fun i x v hx' hv => ih1 i x v hx' hv (inPL_get hx.1 i x hx')) (fun i x v hx' hv => ih2 i x v hx' hv (inPL_get hx.2 i x hx'))
  | yl id lo b hH hb =>
    rcases hD id _ hH hx with h | ⟨_, _, _, h, _⟩
    · exact .yl id lo b h hb
    · cases h
  | om id ag kd es b hH hb =>
    rcases hD id _ hH hx with h | ⟨_, _, _, h, _⟩
    · exact .om id ag kd es b h hb
    · cases h
  | it id ag kd l c b hH hb =>
    rcases hD id _ hH hx with h | ⟨_, _, _, h, _⟩
    · exact .it id ag kd l c b h hb
    · cases h
  | dead v => exact .dead v
theorem Shut.ne {X : Nat → Prop} (d : Shut cf H H' X) (out : ∀ i, Rg cf.b i → F i = none) (id : Nat) (hn : tot F (lookH H') id ≠ none) : tot F (lookH H) id ≠ none ∧ ¬ X id := by
  by_cases hx : X id
  · exact absurd ((d.eqs out id).1 hx) hn
  · rcases (d.eqs out id).2 hx with h | ⟨t, cs, cs', h1, _⟩
    · exact ⟨by rw [← h]; exact hn, hx⟩
    · exact ⟨by rw [h1]; simp, hx⟩
theorem Shut.sub {X : Nat → Prop} (d : Shut cf H H' X) (out : ∀ i, Rg cf.b i → F i = none) {x : SV} {v : Value} {NA : Nat → Prop} (r : RepS w NA ρ (tot F (lookH H)) x v) (hx : x.inP (fun j => ¬ X j)) : RepS w NA ρ (tot F (lookH H')) x v := by
  refine r.less2 (D := fun j => ¬ X j) (fun id hn => (d.ne out id hn).1) (fun id B hB hid => ?_) hx
  rcases (d.eqs out id).2 hid with h | ⟨t, cs, cs', h1, h2, _⟩
  · left; rw [h, hB]
  · right; rw [hB] at h1; cases h1; exact ⟨t, cs, cs', rfl, h2⟩
theorem shut_own (h : StAt cf cx T H a w F ρ) {X : Nat → Prop} (d : Shut cf H H' X) {id : Nat} {t : TypeId} {k : Nat} {rows : List (List CV)} (hH : lookH H id = some (.arr t k rows)) (hX : X id) {v : Value} (hv : RepS w cx.NA ρ (tot F (lookH H)) (.own id rows.length) v) :
    RepS w cx.NA ρ (tot F (lookH H')) (.c (.sl k rows)) v := by
  have hne := d.ne (F := F) h.out
  have calm : Calm w (Mut cx.NA ρ (tot F (lookH H))) w (Mut cx.NA ρ (tot F (lookH H'))) := ⟨Nat.le_refl _, fun b _ hn => ⟨rfl, fun hm => by
    rcases hm with hm | ⟨i, h1, h2⟩
    · exact hn (.inl hm)
    · exact hn (.inr ⟨i, (hne i h1).1, h2⟩)⟩⟩
  have e2 := tot_some (F := F) hH
  have q1 := h.rep.heap
  cases hv with
  | own _ _ t' k' rows' _ hH' hl ho hv =>
    rw [e2] at hH'; cases hH'
    rcases hv rfl with ⟨q0, q1', rfl⟩ | ⟨b, cap, cs, t2, p1, rfl, p3, p4, p5, p6⟩
    · have : rows = [] := List.length_eq_zero_iff.1 q1'
      subst this; exact .c _ _ (.nil k none 0 (Nat.zero_le _))
    · rcases q1.blk id _ e2 with ⟨g1, _⟩ | ⟨b', cs', cap', g1, g2, g3, g4, g5, g6, g7⟩
      · rw [p1] at g1; cases g1
      · rw [p1] at g1; cases g1
        rw [p3] at g2; cases g2
        have hown : Own ρ (tot F (lookH H)) b := ⟨id, by rw [e2]; simp, p1⟩
        refine .c _ _ (.sl k rows b 0 cap (fun j i => cs.getD (j * k + i) undef) p5 p6 (q1.lt hown) (fun hm => ?_) g6 (fun j row i x hj hx => ?_) (fun j row i x hj hx => ?_))
        · rcases hm with hm | ⟨j, z1, z2⟩
          · exact cx.nn b hm (q1.low b hown (cx.na b hm)).1
          · obtain ⟨z3, z4⟩ := hne j z1
            have := q1.inj j id b z3 (by rw [e2]; simp) z2 p1
            subst this
            exact z4 hX
        · obtain ⟨v, hv1, _⟩ := g7 j row i x hj hx
          rw [Nat.zero_add, cell_of_row w b (j * k + i) cs _ (0, 0) p3]
          simp [hv1]
        · obtain ⟨v, hv1, hv2⟩ := g7 j row i x hj hx
          have : cs.getD (j * k + i) undef = v := by simp [hv1]
          rw [this]; exact hv2.move calm
theorem Shut.cell (h : StAt cf cx T H a w F ρ) {X : Nat → Prop} (d : Shut cf H H' X) {x y : SV} (hc : CloC H X x y) (hy : y.inP (fun j => ¬ X j)) {v : Value} (hv : RepS w cx.NA ρ (tot F (lookH H)) x v) : RepS w cx.NA ρ (tot F (lookH H')) y v := by
  rcases hc with rfl | ⟨id, t, k, rows, rfl, h2, h3, rfl⟩
  · exact d.sub h.out hv hy
  · exact shut_own h d h2 h3 hv
theorem StAt.shut (ok : cf.ok) (hHs : ∀ i, cf.b ≤ i → i < cf.b + 1000 → i ∉ cf.K → cx.Hs i = none) (h : StAt cf cx T H a w F ρ) {X : Nat → Prop} (d : Shut cf H H' X)
    (hT : ∀ i, (∀ v, RepS w cx.NA ρ (tot F (lookH H)) (lookT T i) v → RepS w cx.NA ρ (tot F (lookH H')) (lookT T' i) v)) : StAt cf cx T' H' a w F ρ := by
  have tt := d.eqs (F := F) h.out
  have hne := d.ne (F := F) h.out
  have own : ∀ b, Mut cx.NA ρ (tot F (lookH H')) b → Mut cx.NA ρ (tot F (lookH H)) b := fun b hm => by
    rcases hm with hm | ⟨i, h1, h2⟩
    · exact .inl hm
    · exact .inr ⟨i, (hne i h1).1, h2⟩
  have calm : Calm w (Mut cx.NA ρ (tot F (lookH H))) w (Mut cx.NA ρ (tot F (lookH H'))) := ⟨Nat.le_refl _, fun b _ hn => ⟨rfl, fun hm => hn (own b hm)⟩⟩
  have hgh := d.gh
  have hsub : ∀ i, lookH H' i ≠ none → lookH H i ≠ none := fun i hi => by
    by_cases hx : X i
    · exact absurd (d.gone i hx) hi
    · rcases d.keep i hx with h | ⟨t, cs, cs', h1, _⟩
      · rw [← h]; exact hi
      · rw [h1]; simp
  have boxF : ∀ id t cells, tot F (lookH H') id = some (.box t cells) → inPL (fun j => ¬ X j) cells := fun id t cells hB => by
    cases hL : lookH H' id with
    | some B =>
      rw [tot_some hL] at hB; cases hB
      exact d.cl id t cells hL
    | none =>
      rw [tot_none hL] at hB
      refine inPL_mono (fun j hj hx => hj ?_) cells (h.cl id t cells hB)
      exact h.out j (.inl ⟨(d.at' j hx).1, (d.at' j hx).2.1⟩)
  refine ⟨by unfold kOf at *; rw [hgh]; exact h.iv, h.cl, h.out, h.ol, fun i hi => h.dis i (hsub i hi), by rw [hgh]; exact h.yd, fun i hi => ?_, h.dm, ⟨h.rep.size, ⟨fun i j b h1 h2 => h.rep.heap.inj i j b (hne i h1).1 (hne j h2).1, fun id B hB => ?_, h.rep.heap.fr, fun b hb => h.rep.heap.low b ?_⟩, fun i => hT i _ (h.rep.tmp i)⟩, fun x v hx => ?_, ⟨h.tr.1.trans calm, fun i => ?_⟩, ?_⟩
  · exact h.av i (hsub i hi)
  · have hx : ¬ X id := (hne id (by rw [hB]; simp)).2
    rcases (tt id).2 hx with he | ⟨t, cs, cs', e1, e2, e3⟩
    · have hr := h.rep.heap.blk id B (by rw [← he]; exact hB)
      cases B with
      | box t cells =>
        obtain ⟨b, cs, e1, e2, e3, e4⟩ := hr
        exact ⟨b, cs, e1, e2, e3, fun j x v hx hv => d.sub h.out (e4 j x v hx hv) (inPL_get (boxF id t cells hB) j x hx)⟩
      | arr t k rows =>
        rcases hr with ⟨e1, e2⟩ | ⟨b, cs, cap, e1, e2, e3, e4, e5, e6, e7⟩
        · exact .inl ⟨e1, e2⟩
        · exact .inr ⟨b, cs, cap, e1, e2, e3, e4, e5, e6, fun j row m x hr hx => by
            obtain ⟨v, hv1, hv2⟩ := e7 j row m x hr hx
            exact ⟨v, hv1, hv2.move calm⟩⟩
      | map ag kd es =>
        obtain ⟨b, ents, clock, e1, e2, e3, e4⟩ := hr
        exact ⟨b, ents, clock, e1, e2, e3, fun i p e hp he => (e4 i p e hp he).move calm⟩
      | loop lo => exact hr
      | gh k s => exact hr
      | it ag kd l c =>
        obtain ⟨b, e1, e2⟩ := hr
        exact ⟨b, e1, e2.move calm rfl⟩
    · rw [e2] at hB; cases hB
      obtain ⟨b, vs, q1, q2, q3, q4⟩ := h.rep.heap.blk id _ e1
      obtain ⟨c1, c2⟩ := e3.get
      refine ⟨b, vs, q1, q2, by rw [q3, c1], fun j y v hy hv => ?_⟩
      obtain ⟨x, hx1, hx2⟩ := c2 j y hy
      exact d.cell h hx2 (inPL_get (boxF id t cs' e2) j y hy) (q4 j x v hx1 hv)
  · obtain ⟨i, h1, h2⟩ := hb
    exact ⟨i, (hne i h1).1, h2⟩
  · refine d.sub h.out (h.gh x v hx) (inP_mono (fun j hj hX => ?_) x (ok.G x v hx))
    obtain ⟨q1, q2, q3⟩ := d.at' j hX
    exact q3 (hj (.inl ⟨q1, q2⟩))
  · have hi := h.tr.2 i
    by_cases hX : X i
    · obtain ⟨q1, q2, q3⟩ := d.at' i hX
      have := hHs i q1 q2 q3
      refine ⟨fun B hB _ => ?_, fun t k rows hB => ?_⟩
      · rw [this] at hB; cases hB
      · rw [this] at hB; cases hB
    · refine hi.trans ?_
      rcases (tt i).2 hX with he | ⟨t, cs, cs', e1, e2, _⟩
      · unfold KeepI
        rw [he]
        exact KeepI.refl w ρ _ i
      · refine ⟨fun B hB _ => ⟨_, e2, ?_, rfl⟩, fun t k rows hB => ?_⟩
        · rw [e1] at hB; cases hB; rfl
        · rw [e1] at hB; cases hB
  · obtain ⟨Ds, h1, h2, h3⟩ := h.df
    exact ⟨Ds, h1, h2, fun D hD => by
      obtain ⟨l, q1, q2, q3⟩ := h3 D hD
      exact ⟨l, q1, fun hm => q2 (own D hm), q3⟩⟩
end
def ownS (X : List Nat) (H : HL) : SV → SV → Prop
  | .own id n, .c (.sl k rows) => n = rows.length ∧ X.contains id = true ∧ ∃ t, lookH H id = some (.arr t k rows)
  | _, _ => False
def ownL (X : List Nat) (H : HL) : List SV → List SV → Prop
  | [], [] => True
  | x :: xs, y :: ys => (x = y ∨ ownS X H x y) ∧ ownL X H xs ys
  | _, _ => False
theorem ownS_clo {X : List Nat} {H : HL} : ∀ {x y : SV}, ownS X H x y → CloC H (fun i => i ∈ X) x y := fun {x y} h => by
  unfold ownS at h
  split at h
  · obtain ⟨rfl, h2, t, h3⟩ := h
    exact .inr ⟨_, t, _, _, rfl, h3, by simpa using h2, rfl⟩
  · exact h.elim
theorem ownL_clo {X : List Nat} {H : HL} : ∀ {xs ys : List SV}, ownL X H xs ys → CloL H (fun i => i ∈ X) xs ys
  | [], [], _ => trivial
  | _ :: _, _ :: _, h => ⟨h.1.elim .inl ownS_clo, ownL_clo h.2⟩
  | [], _ :: _, h => h.elim
  | _ :: _, [], h => h.elim
def ShutB (X : List Nat) (H : HL) : Blk → Blk → Prop
  | .box t cs, .box t' cs' => t = t' ∧ ownL X H cs cs'
  | B, B' => B = B'
theorem shutB_or {X : List Nat} {H : HL} {B B' : Blk} (h : ShutB X H B B') : B = B' ∨ ∃ t cs cs', B = .box t cs ∧ B' = .box t cs' ∧ CloL H (fun i => i ∈ X) cs cs' := by
  unfold ShutB at h
  split at h
  · obtain ⟨rfl, h⟩ := h; exact .inr ⟨_, _, _, rfl, rfl, ownL_clo h⟩
  · exact .inl h
def ShutH (X : List Nat) (H : HL) : HL → Prop
  | [] => True
  | (id, B') :: r => (∃ B, lookH H id = some B ∧ ShutB X H B B') ∧ B'.outD X = true ∧ ShutH X H r
theorem ShutH.get {X : List Nat} {H : HL} : ∀ {H' : HL}, ShutH X H H' → ∀ i B', lookH H' i = some B' → (∃ B, lookH H i = some B ∧ ShutB X H B B') ∧ B'.outD X = true
  | [], _, i, B, h => by simp [lookH] at h
  | (j, C) :: r, h, i, B, hB => by
    obtain ⟨h1, h2, h3⟩ := h
    by_cases hi : i = j
    · subst hi; simp [lookH] at hB; subst hB; exact ⟨h1, h2⟩
    · simp only [lookH, if_neg hi] at hB; exact ShutH.get h3 i B hB
theorem shut_drop {cf : Cf} {H H' : HL} (hb : cf.b + 1000 ≤ 1000000000) (hg : lookH H (1000000000 + cf.b) = none ∨ ∃ k s, lookH H (1000000000 + cf.b) = some (.gh k s)) (h1 : dropOK cf (dropK H (H'.map (·.1))) = true) (h2 : ShutH (dropK H (H'.map (·.1))) H H') : Shut cf H H' (fun i => i ∈ dropK H (H'.map (·.1))) := by
  have mem : ∀ i, i ∈ dropK H (H'.map (·.1)) ↔ i ∈ H.map (·.1) ∧ i ∉ H'.map (·.1) := fun i => by
    unfold dropK; rw [List.mem_filter]
    simp only [Bool.not_eq_true', List.contains_eq_mem, decide_eq_false_iff_not]
  have at' : ∀ i, i ∈ dropK H (H'.map (·.1)) → cf.b ≤ i ∧ i < cf.b + 1000 ∧ i ∉ cf.K := fun i hi => by
    unfold dropOK at h1
    rw [List.all_eq_true] at h1
    have := h1 i hi
    simp only [Bool.and_eq_true, decide_eq_true_eq, Bool.not_eq_true', List.contains_eq_mem, decide_eq_false_iff_not] at this
    exact ⟨this.1.1, this.1.2, this.2⟩
  have keep : ∀ i, ¬ i ∈ dropK H (H'.map (·.1)) → lookH H' i = lookH H i ∨ ∃ t cs cs', lookH H i = some (.box t cs) ∧ lookH H' i = some (.box t cs') ∧ CloL H (fun i => i ∈ dropK H (H'.map (·.1))) cs cs' := fun i hi => by
    cases hB : lookH H' i with
    | some B' =>
      obtain ⟨⟨B, e1, e2⟩, _⟩ := h2.get i B' hB
      rcases shutB_or e2 with rfl | ⟨t, cs, cs', rfl, rfl, e3⟩
      · left; rw [e1]
      · right; exact ⟨t, cs, cs', e1, rfl, e3⟩
    | none =>
      cases hC : lookH H i with
      | none => left; rfl
      | some C =>
        exfalso
        refine hi ((mem i).2 ⟨mem_lookH (by rw [hC]; simp), fun hm => ?_⟩)
        obtain ⟨B, hB'⟩ := lookH_mem hm
        rw [hB] at hB'; cases hB'
  refine ⟨at', keep, fun i hi => ?_, ?_, fun i t cells hB => ?_⟩
  · cases hB : lookH H' i with
    | none => rfl
    | some B => exact absurd (mem_lookH (by rw [hB]; simp)) ((mem i).1 hi).2
  · have hn : ¬ (1000000000 + cf.b) ∈ dropK H (H'.map (·.1)) := fun hm => by have := (at' _ hm).2.1; omega
    rcases keep _ hn with h | ⟨t, cs, cs', e1, _⟩
    · exact h
    · rcases hg with hg | ⟨k, s, hg⟩
      · rw [e1] at hg; cases hg
      · rw [e1] at hg; cases hg
  · have := (h2.get i _ hB).2
    exact outDL_inP cells this
theorem shut_rep {cf : Cf} (ok : cf.ok) {cx : Cx} (hHs : ∀ i, cf.b ≤ i → i < cf.b + 1000 → i ∉ cf.K → cx.Hs i = none) {T T' : TL} {H H' : HL} (h0 : dropOK cf (dropK H (H'.map (·.1))) = true) (h1 : ClosT (dropK H (H'.map (·.1))) T H T') (h2 : ShutH (dropK H (H'.map (·.1))) H H') {a : Act} {w : World} (h : RepSt cf cx T H a w) : RepSt cf cx T' H' a w := by
  obtain ⟨F, ρ, h⟩ := h
  have d := shut_drop ok.b h.yd h0 h2
  refine ⟨F, ρ, h.shut ok hHs d (fun i v hv => ?_)⟩
  rcases h1.get i with e | ⟨e1, e2⟩ | ⟨id, t, k, rows, e1, e2, e3, e4⟩
  · rw [e]; exact .dead _
  · rw [← e1] at hv
    exact d.sub h.out hv (outD_inP _ e2)
  · rw [e4]
    rw [e1] at hv
    exact shut_own h d e2 e3 hv
theorem st_shut {cf : Cf} {sc : SCode} {T : TL} {H : HL} {Q : Exit → TL → HL → Prop} (T' : TL) (H' : HL) (hl0 : dropOK cf (dropK H (H'.map (·.1))) = true) (hl1 : ClosT (dropK H (H'.map (·.1))) T H T') (hl2 : ShutH (dropK H (H'.map (·.1))) H H') (h : STri cf sc T' H' Q) : STri cf sc T H Q :=
  st_weak (fun ok _ hHs _ _ hr => shut_rep ok hHs hl0 hl1 hl2 hr) h
@[simp] def shS (id k : Nat) (rows : List (List CV)) : SV → SV
  | .own i n => if i = id then .c (.sl k rows) else .own i n
  | x => x
@[simp] def shB (id k : Nat) (rows : List (List CV)) : Blk → Blk
  | .box t cs => .box t (cs.map (shS id k rows))
  | B => B
@[simp] def shT (id k : Nat) (rows : List (List CV)) : TL → TL
  | [] => []
  | (i, x) :: r => (i, shS id k rows x) :: shT id k rows r
@[simp] def shH (id k : Nat) (rows : List (List CV)) : HL → HL
  | [] => []
  | (i, B) :: r => if i = id then shH id k rows r else (i, shB id k rows B) :: shH id k rows r
def ClosO (X : List Nat) (T : TL) (H : HL) : TL → Prop
  | [] => True
  | (i, x) :: r => ((lookT T i = x ∧ x.outD X = true) ∨ ownS X H (lookT T i) x) ∧ ClosO X T H r
theorem ClosO.clos {X : List Nat} {T : TL} {H : HL} : ∀ {T' : TL}, ClosO X T H T' → ClosT X T H T'
  | [], _ => trivial
  | (_, _) :: _, h => ⟨h.1.elim .inl fun h => by
      generalize lookT _ _ = y at *
      unfold ownS at h
      split at h
      · obtain ⟨rfl, h2, t, h3⟩ := h
        exact .inr ⟨_, t, _, _, rfl, h3, h2, rfl⟩
      · exact h.elim, ClosO.clos h.2⟩
theorem st_shut1 {cf : Cf} {sc : SCode} {T : TL} {H : HL} {Q : Exit → TL → HL → Prop} (id : Nat) {t : TypeId} {k : Nat} {rows : List (List CV)} (hid : lookH H id = some (.arr t k rows)) (hl0 : dropOK cf (dropK H ((shH id k rows H).map (·.1))) = true)
    (hl1 : ClosO (dropK H ((shH id k rows H).map (·.1))) T H (shT id k rows T)) (hl2 : ShutH (dropK H ((shH id k rows H).map (·.1))) H (shH id k rows H)) (h : STri cf sc (shT id k rows T) (shH id k rows H) Q) : STri cf sc T H Q :=
  st_shut _ _ hl0 hl1.clos hl2 h
end Go.Proofs.YtboifcengmgcaaaGreat
/- Functions whose answer holds a slice that nobody else has; functions that read a slice of their caller's own and keep nothing of it. -/
namespace Go.Proofs.YtboifcengmgcaaaGreat
open Go.RowKit
def off1 : SV → SV
  | .c x => .c x
  | .own id len => if id = 900 then .dead else .own id len
  | _ => .dead
theorem callG_b {P : Program} {site : Nat} {f : FuncId} {vs : List SV} {H : HL} {K : SV → Option (Nat × Blk) → Prop} {cs : List CV} {r : CV} (h : SC P f cs r) (hc : closeAll (lookH H) vs = some cs) (hp : (vs.all SV.pure || flatV r) = true) (hK : K (openC r) none) : callGP P site f vs H K .mk := callG_c h hc (flatV_or hp) hK
attribute [simp] holeS holeX off1
end Go.Proofs.YtboifcengmgcaaaGreat
/- Boxes and maps of the call's own are closed. -/
namespace Go.Proofs.YtboifcengmgcaaaGreat
open Go.RowKit
section
variable {cf : Cf} {cx : Cx} {T T' : TL} {H H' : HL} {a : Act} {w : World} {F : Nat → Option Blk} {ρ : Nat → Option Nat}
end
def RefT (X : List Nat) (T : TL) (H : HL) : TL → Prop
  | [] => True
  | (i, x) :: r => ((lookT T i = x ∧ x.outD X = true) ∨ (∃ id j t cs xs, lookT T i = .ptr id j ∧ lookH H id = some (.box t cs) ∧ X.contains id = true ∧ allC (cs.drop j) = some xs ∧ xs.all CV.one = true ∧ x = .c (.ref xs)) ∨
      ∃ id ag kd es, lookT T i = .om id ∧ lookH H id = some (.map ag kd es) ∧ X.contains id = true ∧ x = .c (.map ag kd es)) ∧ RefT X T H r
theorem RefT.get {X : List Nat} {T : TL} {H : HL} : ∀ {T' : TL}, RefT X T H T' → ∀ i, lookT T' i = .dead ∨ (lookT T' i = lookT T i ∧ (lookT T' i).outD X = true) ∨
    (∃ id j t cs xs, lookT T i = .ptr id j ∧ lookH H id = some (.box t cs) ∧ id ∈ X ∧ allC (cs.drop j) = some xs ∧ xs.all CV.one = true ∧ lookT T' i = .c (.ref xs)) ∨ ∃ id ag kd es, lookT T i = .om id ∧ lookH H id = some (.map ag kd es) ∧ id ∈ X ∧ lookT T' i = .c (.map ag kd es)
  | [], _, i => .inl rfl
  | (j, x) :: r, h, i => by
    obtain ⟨h1, h3⟩ := h
    by_cases hi : i = j
    · subst hi
      right
      rcases h1 with ⟨h1, h2⟩ | ⟨id, j, t, cs, xs, e1, e2, e3, e4, e5, e6⟩ | ⟨id, ag, kd, es, e1, e2, e3, e4⟩
      · left; simp [lookT, h1, h2]
      · right; left; exact ⟨id, j, t, cs, xs, e1, e2, by simpa using e3, e4, e5, by simp [lookT, e6]⟩
      · right; right; exact ⟨id, ag, kd, es, e1, e2, by simpa using e3, by simp [lookT, e4]⟩
    · simp only [lookT, if_neg hi]; exact RefT.get h3 i
end Go.Proofs.YtboifcengmgcaaaGreat
/- What several chapters share: plain. -/
namespace Go.Proofs.YtboifcengmgcaaaGreat
open Go.RowKit
def rowI (x : Int) : List CV := [I x]
def slI (xs : List Int) : CV := .sl 1 (xs.map rowI)
attribute [simp] rowI slI
def outB (lo hi n : Int) : Bool := decide (n < lo) || decide (n > hi)
structure Ent (P : Program) (f : FuncId) : Prop where
  h : entB P f = true
def ixF (p : Int → Bool) (l : List Int) : Int := match l.findIdx? p with
  | some i => i
  | none => -1
def NoneTo (p : Int → Bool) (l : List Int) (k : Nat) : Prop := ∀ x ∈ l.take k, p x = false
theorem ix_at {p : Int → Bool} {l : List Int} {k : Nat} (hlt : k < l.length) (h : NoneTo p l k) (hc : p l[k] = true) : ixF p l = k := by
  have : l.findIdx? p = some k := by
    rw [List.findIdx?_eq_some_iff_getElem]
    refine ⟨hlt, hc, fun j hj => ?_⟩
    have := h l[j] (List.mem_take_iff_getElem.2 ⟨j, by omega, rfl⟩)
    simp [this]
  unfold ixF; rw [this]
theorem ix_none {p : Int → Bool} {l : List Int} (h : NoneTo p l l.length) : ixF p l = -1 := by
  have : l.findIdx? p = none := by
    rw [List.findIdx?_eq_none_iff]
    intro x hx
    exact h x (by rw [List.take_length]; exact hx)
  unfold ixF; rw [this]
theorem none_succ {p : Int → Bool} {l : List Int} {k : Nat} (hlt : k < l.length) (h : NoneTo p l k) (hc : p l[k] = false) : NoneTo p l (k + 1) := fun x hx => by
  rw [List.take_succ_eq_append_getElem hlt, List.mem_append] at hx
  rcases hx with hx | hx
  · exact h x hx
  · simp at hx; rw [hx]; exact hc
theorem ix_pos {p : Int → Bool} {l : List Int} : decide (ixF p l ≥ 0) = l.any p := by
  unfold ixF
  rw [Bool.eq_iff_iff]
  cases h : l.findIdx? p with
  | none =>
    rw [List.findIdx?_eq_none_iff] at h
    simp; exact h
  | some i =>
    have h1 := (List.findIdx?_eq_some_iff_getElem.1 h)
    obtain ⟨hi, hp, _⟩ := h1
    simp
    exact ⟨l[i], List.getElem_mem hi, hp⟩
def inB (lo hi n : Int) : Bool := decide (lo ≤ n) && decide (n ≤ hi)
def allIn (lo hi : Int) (l : List Int) : Bool := l.all (inB lo hi)
theorem allIn_eq (lo hi : Int) (l : List Int) : (!l.any (outB lo hi)) = allIn lo hi l := by
  unfold allIn
  rw [List.not_any_eq_all_not]
  congr 1
  funext n
  unfold outB inB
  rw [Bool.eq_iff_iff]; simp
theorem mod_eq (n b : Int) (h : 0 < b) : (n.tmod b + b).tmod b = n % b := by
  have h0 := Int.emod_nonneg n (show b ≠ 0 by omega)
  have h1 := Int.emod_lt_of_pos n h
  have e : n.tmod b = n % b ∨ n.tmod b = n % b - b := by
    rw [Int.tmod_eq_emod]
    split
    · left; omega
    · right; omega
  rcases e with e | e
  · rw [e, Int.tmod_eq_emod_of_nonneg (by omega), Int.add_emod_right, Int.emod_emod]
  · rw [e, Int.sub_add_cancel, Int.tmod_eq_emod_of_nonneg h0, Int.emod_emod]
theorem tmod_lt (n b : Int) (h : 0 < b) : -b < n.tmod b ∧ n.tmod b < b := by
  have h0 := Int.emod_nonneg n (show b ≠ 0 by omega)
  have h1 := Int.emod_lt_of_pos n h
  rw [Int.tmod_eq_emod]
  split <;> omega
theorem sc_cle {P : Program} {f : FuncId} {cs cs' : List CV} {r : CV} (h : SC P f cs r) (hl : cs'.length = cs.length) (hc : ∀ (i : Nat) x y, cs'[i]? = some x → cs[i]? = some y → CLe x y) : SC P f cs' r := fun w NA vs hNA hs hv =>
  h w NA vs hNA (hs.trans hl) fun i y v hy hv' => by
    have hi : i < cs'.length := by rw [hl]; exact (List.getElem?_eq_some_iff.1 hy).1
    exact (hc i _ y (List.getElem?_eq_getElem hi) hy).rep (hv i _ v (List.getElem?_eq_getElem hi) hv')
theorem CLes.refl : ∀ xs : List CV, CLes xs xs
  | [] => .nil
  | x :: xs => .cons _ _ _ _ (.refl x) (CLes.refl xs)
theorem cle_nilT (k : Nat) (xs : List CV) : CLe (.tup (.val (.slice none 0 0) :: xs)) (.tup (.sl k [] :: xs)) := .tup _ _ (.cons _ _ _ _ (.nil k) (CLes.refl xs))
end Go.Proofs.YtboifcengmgcaaaGreat
/- The shadow code of functions, as the kit's translation has them. -/
namespace Go.Proofs.YtboifcengmgcaaaGreat
open Go.RowKit
def k0_0 : SCode := .reg [⟨some 4, none, .mov (.const (.bool false)), [], false⟩] [0, 1]
def k0_1 : SCode := .reg [⟨some 5, none, .mov (.tmp 0), [], false⟩, ⟨some 6, none, .mov (.tmp 1), [], false⟩, ⟨some 7, none, .call 75 [(.tmp 5), (.tmp 6)], [], false⟩, ⟨some 8, none, .bin .geq (.tmp 7) (.const (.int .i64 0)), [], false⟩, ⟨some 4, none, .mov (.tmp 8), [], false⟩] [4]
def k0_2 : SCode := .seq k0_1 .ret
def k0_3 : SCode := .seq k0_0 k0_2
@[simp] def rs_slices_ContainsFunc_int_int : List SRes := [.tmp 4]
theorem law_slices_ContainsFunc_int_int (cs : List CV) (r : CV) (hl : cs.length ≤ 9) (h : STri (cfF Tryz.prog [] 9) k0_3 (initT 0 cs) [] (retQ rs_slices_ContainsFunc_int_int r)) : SC Tryz.prog 51 cs r :=
  sc_of [] follows Tryz.func51 rfl Tryz.ntmps51 (by decide) (by kernel_rfl) (by kernel_rfl) hl h
def k1_0 : SCode := .reg [⟨some 4, none, .mov (.const (.int .i64 0)), [], false⟩] [0, 1]
def k1_1 : SCode := .reg [⟨some 6, none, .mov (.tmp 0), [], false⟩, ⟨some 7, none, .len (.tmp 6), [], false⟩, ⟨some 8, none, .mov (.const (.int .i64 0)), [], false⟩] [0, 1, 7, 8]
def k1_2 : SCode := .reg [⟨some 9, none, .bin .lss (.tmp 8) (.tmp 7), [], false⟩] [0, 1, 7, 8, 9]
def k1_3 : SCode := .cond (.tmp 9) .skip (.exit 0)
def k1_4 : SCode := .reg [⟨some 10, none, .mov (.tmp 8), [], false⟩, ⟨some 5, none, .mov (.tmp 10), [], false⟩] [0, 1, 5, 7, 8]
def k1_5 : SCode := .reg [⟨some 11, none, .mov (.tmp 1), [], false⟩, ⟨some 12, none, .mov (.tmp 0), [], false⟩, ⟨some 13, none, .mov (.tmp 5), [], false⟩, ⟨some 14, none, .idxS 1 (.tmp 12) (.tmp 13), [], false⟩, ⟨some 15, none, .load false 1 (.tmp 14), [], false⟩, ⟨some 16, none, .callV (.tmp 11) [(.tmp 15)], [], false⟩] [0, 1, 5, 7, 8, 16]
def k1_6 : SCode := .reg [⟨some 17, none, .mov (.tmp 5), [], false⟩, ⟨some 4, none, .mov (.tmp 17), [], false⟩] [4]
def k1_7 : SCode := .seq k1_6 .ret
def k1_8 : SCode := .cond (.tmp 16) k1_7 .skip
def k1_9 : SCode := .seq k1_5 k1_8
def k1_10 : SCode := .seq k1_4 k1_9
def k1_11 : SCode := .block 1 k1_10
def k1_12 : SCode := .reg [⟨some 18, none, .bin .add (.tmp 8) (.const (.int .i64 1)), [], false⟩, ⟨some 8, none, .mov (.tmp 18), [], false⟩] [0, 1, 7, 8]
def k1_13 : SCode := .seq k1_11 k1_12
def k1_14 : SCode := .seq k1_3 k1_13
def k1_15 : SCode := .seq k1_2 k1_14
def k1_16 : SCode := .loop k1_15
def k1_17 : SCode := .block 0 k1_16
def k1_18 : SCode := .seq k1_1 k1_17
def k1_19 : SCode := .reg [⟨some 4, none, .mov (.const (.int .i64 (-1))), [], false⟩] [4]
def k1_20 : SCode := .seq k1_19 .ret
def k1_21 : SCode := .seq k1_18 k1_20
def k1_22 : SCode := .seq k1_0 k1_21
@[simp] def rs_slices_IndexFunc_int_int : List SRes := [.tmp 4]
theorem law_slices_IndexFunc_int_int (cs : List CV) (r : CV) (hl : cs.length ≤ 19) (h : STri (cfF Tryz.prog [] 19) k1_22 (initT 0 cs) [] (retQ rs_slices_IndexFunc_int_int r)) : SC Tryz.prog 75 cs r :=
  sc_of [] follows Tryz.func75 rfl Tryz.ntmps75 (by decide) (by kernel_rfl) (by kernel_rfl) hl h
end Go.Proofs.YtboifcengmgcaaaGreat
/- What several chapters share: contracts of the library. -/
namespace Go.Proofs.YtboifcengmgcaaaGreat
open Go.RowKit
theorem sIndexFunc (l : List Int) (f : FuncId) (fs cs : List CV) (p : Int → Bool) (hl : l.length ≤ 1000000) (he : Ent Tryz.prog f) (hp : ∀ x ∈ l, SC Tryz.prog f (fs ++ [I x] ++ cs) (B (p x))) : SC Tryz.prog 75 [slI l, .fn f fs cs] (I (ixF p l)) := by
  refine law_slices_IndexFunc_int_int _ _ (by simp) ?_
  unfold slI
  (repeat' (first | ((first | with_reducible refine st_skip ?_ | with_reducible refine st_exit ?_); (try simp only [seqQ, blockQ, loopQ, forQ, whileQ, reduceIte, Nat.reduceEqDiff])) | (with_reducible refine st_ret ?_; ((try simp only [seqQ, blockQ, loopQ, forQ, whileQ]); first | (with_reducible refine retM_ret ?_) | refine retQ_ret ?_; simp)) | refine st_seq ?_ | refine st_block ?_ | ((with_reducible show (STri _ _ _ _ _) ∧ (STri _ _ _ _ _)); refine And.intro ?_ ?_) | ((first | refine st_reg ?_ | refine buildP_own ?_ | refine appP_own ?_) <;> (simp -dsimp; (repeat (simp -dsimp (disch := (first | omega | assumption | (refine Bool.eq_false_iff.1 ?_; assumption))) only [wrap_in, if_pos, if_neg]; (try simp -dsimp))))) | ((first | refine guardP_of (fun hc => ?_) (fun hc => ?_) | refine st_cond rfl (fun hc => ?_) (fun hc => ?_)) <;> (try simp only [lqA, lqB, lqC, lqD, lqE, lqF, lqG, lqH, lqI, lqJ, lqK, lqL, lqM, lqN, lqO] at hc) <;> (try (exfalso; first | omega | exact bool_tf hc (by assumption) | exact bool_ft hc (by assumption) | exact absurd (by assumption) hc)) <;> (first | with_reducible show STri _ _ _ _ _ _ | (simp -dsimp [hc]; (repeat (simp -dsimp (disch := (first | omega | assumption | (refine Bool.eq_false_iff.1 ?_; assumption))) only [wrap_in, if_pos, if_neg]; (try simp -dsimp [hc]))))))))
  refine st_for [] l.length (fun k T H => NoneTo p l k ∧ T = [(0, .c (.sl 1 (l.map rowI))), (1, .c (.fn f fs cs)), (7, .c (I l.length)), (8, .c (I k))] ∧ H = []) (by simp) ⟨by simp [NoneTo], by simp, rfl⟩ ?_
  rintro k T H hk ⟨ht, rfl, rfl⟩
  by_cases hlt : k < l.length
  · (repeat' (first | ((first | with_reducible refine st_skip ?_ | with_reducible refine st_exit ?_); (try simp only [seqQ, blockQ, loopQ, forQ, whileQ, reduceIte, Nat.reduceEqDiff])) | (with_reducible refine st_ret ?_; ((try simp only [seqQ, blockQ, loopQ, forQ, whileQ]); first | (with_reducible refine retM_ret ?_) | refine retQ_ret ?_; simp [hlt])) | refine st_seq ?_ | refine st_block ?_ | ((with_reducible show (STri _ _ _ _ _) ∧ (STri _ _ _ _ _)); refine And.intro ?_ ?_) | ((first | refine st_reg ?_ | ((with_reducible show callVP _ _ _ _ _ _ _); refine callV_b (by first | exact Ent.h (by assumption) | kernel_rfl) (hp l[k] (List.getElem_mem hlt)) rfl ?_) | refine buildP_own ?_ | refine appP_own ?_) <;> (simp -dsimp [hlt]; (repeat (simp -dsimp (disch := (first | omega | assumption | (refine Bool.eq_false_iff.1 ?_; assumption))) only [wrap_in, if_pos, if_neg]; (try simp -dsimp [hlt]))))) | ((first | refine guardP_of (fun hc => ?_) (fun hc => ?_) | refine st_cond rfl (fun hc => ?_) (fun hc => ?_)) <;> (try simp only [lqA, lqB, lqC, lqD, lqE, lqF, lqG, lqH, lqI, lqJ, lqK, lqL, lqM, lqN, lqO] at hc) <;> (try (exfalso; first | omega | exact bool_tf hc (by assumption) | exact bool_ft hc (by assumption) | exact absurd (by assumption) hc)) <;> (first | with_reducible show STri _ _ _ _ _ _ | (simp -dsimp [hlt, hc]; (repeat (simp -dsimp (disch := (first | omega | assumption | (refine Bool.eq_false_iff.1 ?_; assumption))) only [wrap_in, if_pos, if_neg]; (try simp -dsimp [hlt, hc]))))))))
    · refine CLe.int ?_; rw [ix_at hlt ht hc]
    · exact ⟨hlt, by simp, none_succ hlt ht hc, by simp, rfl⟩
  · (repeat' (first | ((first | with_reducible refine st_skip ?_ | with_reducible refine st_exit ?_); (try simp only [seqQ, blockQ, loopQ, forQ, whileQ, reduceIte, Nat.reduceEqDiff])) | (with_reducible refine st_ret ?_; ((try simp only [seqQ, blockQ, loopQ, forQ, whileQ]); first | (with_reducible refine retM_ret ?_) | refine retQ_ret ?_; simp [hlt])) | refine st_seq ?_ | refine st_block ?_ | ((with_reducible show (STri _ _ _ _ _) ∧ (STri _ _ _ _ _)); refine And.intro ?_ ?_) | ((first | refine st_reg ?_ | refine buildP_own ?_ | refine appP_own ?_) <;> (simp -dsimp [hlt]; (repeat (simp -dsimp (disch := (first | omega | assumption | (refine Bool.eq_false_iff.1 ?_; assumption))) only [wrap_in, if_pos, if_neg]; (try simp -dsimp [hlt]))))) | ((first | refine guardP_of (fun hc => ?_) (fun hc => ?_) | refine st_cond rfl (fun hc => ?_) (fun hc => ?_)) <;> (try simp only [lqA, lqB, lqC, lqD, lqE, lqF, lqG, lqH, lqI, lqJ, lqK, lqL, lqM, lqN, lqO] at hc) <;> (try (exfalso; first | omega | exact bool_tf hc (by assumption) | exact bool_ft hc (by assumption) | exact absurd (by assumption) hc)) <;> (first | with_reducible show STri _ _ _ _ _ _ | (simp -dsimp [hlt, hc]; (repeat (simp -dsimp (disch := (first | omega | assumption | (refine Bool.eq_false_iff.1 ?_; assumption))) only [wrap_in, if_pos, if_neg]; (try simp -dsimp [hlt, hc]))))))))
    have : k = l.length := by omega
    subst this
    refine CLe.int ?_; rw [ix_none ht]
theorem sContainsFunc (l : List Int) (f : FuncId) (fs cs : List CV) (p : Int → Bool) (hl : l.length ≤ 1000000) (he : Ent Tryz.prog f) (hp : ∀ x ∈ l, SC Tryz.prog f (fs ++ [I x] ++ cs) (B (p x))) : SC Tryz.prog 51 [slI l, .fn f fs cs] (B (l.any p)) := by
  refine law_slices_ContainsFunc_int_int _ _ (by simp) ?_
  (repeat' (first | ((first | with_reducible refine st_skip ?_ | with_reducible refine st_exit ?_); (try simp only [seqQ, blockQ, loopQ, forQ, whileQ, reduceIte, Nat.reduceEqDiff])) | (with_reducible refine st_ret ?_; ((try simp only [seqQ, blockQ, loopQ, forQ, whileQ]); first | (with_reducible refine retM_ret ?_) | refine retQ_ret ?_; simp)) | refine st_seq ?_ | refine st_block ?_ | ((with_reducible show (STri _ _ _ _ _) ∧ (STri _ _ _ _ _)); refine And.intro ?_ ?_) | ((first | refine st_reg ?_ | refine buildP_own ?_ | refine appP_own ?_ | refine callP_b (sIndexFunc l f fs cs p hl he hp) rfl ?_) <;> (simp -dsimp; (repeat (simp -dsimp (disch := (first | omega | assumption | (refine Bool.eq_false_iff.1 ?_; assumption))) only [wrap_in, if_pos, if_neg]; (try simp -dsimp))))) | ((first | refine guardP_of (fun hc => ?_) (fun hc => ?_) | refine st_cond rfl (fun hc => ?_) (fun hc => ?_)) <;> (try simp only [lqA, lqB, lqC, lqD, lqE, lqF, lqG, lqH, lqI, lqJ, lqK, lqL, lqM, lqN, lqO] at hc) <;> (try (exfalso; first | omega | exact bool_tf hc (by assumption) | exact bool_ft hc (by assumption) | exact absurd (by assumption) hc)) <;> (first | with_reducible show STri _ _ _ _ _ _ | (simp -dsimp [hc]; (repeat (simp -dsimp (disch := (first | omega | assumption | (refine Bool.eq_false_iff.1 ?_; assumption))) only [wrap_in, if_pos, if_neg]; (try simp -dsimp [hc]))))))))
  all_goals (refine CLe.bool ?_; exact ix_pos)
end Go.Proofs.YtboifcengmgcaaaGreat
/- The shadow code of functions, as the kit's translation has them. -/
namespace Go.Proofs.YtboifcengmgcaaaGreat
open Go.RowKit
def k2_0 : SCode := .reg [⟨some 3, none, .box 81 (.tmp 0), [], false⟩, ⟨some 4, none, .box 43 (.tmp 1), [], false⟩, ⟨some 6, none, .mov (.const (.bool false)), [], false⟩] [2, 3, 4]
def k2_1 : SCode := .reg [⟨some 8, none, .fld 1 (.tmp 4), [], false⟩, ⟨some 9, none, .load false 1 (.tmp 8), [], false⟩, ⟨some 10, none, .mov (.tmp 2), [], false⟩, ⟨some 11, none, .bin .add (.tmp 9) (.tmp 10), [], false⟩, ⟨some 7, none, .mov (.tmp 11), [], false⟩] [3, 4, 7]
def k2_2 : SCode := .reg [⟨some 12, none, .mov (.tmp 7), [], false⟩, ⟨some 13, none, .buildSl 3 1 [(.int .i64 0)] 1 [(0, (.tmp 12))], [], false⟩, ⟨some 14, none, .call 46 [(.const (.int .i64 0)), (.const (.int .i64 3155760000)), (.tmp 13)], [], false⟩, ⟨some 15, none, .mov (.tmp 14), [], false⟩, ⟨some 16, (some (15, true)), .fld 0 (.tmp 3), [], false⟩, ⟨some 17, (some (15, true)), .load false 1 (.tmp 16), [], false⟩, ⟨some 18, (some (15, true)), .fld 0 (.tmp 4), [], false⟩, ⟨some 19, (some (15, true)), .load false 1 (.tmp 18), [], false⟩, ⟨some 20, (some (15, true)), .idxS 1 (.tmp 17) (.tmp 19), [], false⟩, ⟨some 21, (some (15, true)), .load false 1 (.tmp 20), [], false⟩, ⟨some 22, (some (15, true)), .mov (.tmp 7), [], false⟩, ⟨some 23, (some (15, true)), .fld 2 (.tmp 4), [], false⟩, ⟨some 24, (some (15, true)), .load false 1 (.tmp 23), [], false⟩, ⟨some 25, (some (15, true)), .fld 1 (.tmp 3), [], false⟩, ⟨some 26, (some (15, true)), .load false 1 (.tmp 25), [], false⟩, ⟨some 27, (some (15, true)), .fld 0 (.tmp 4), [], false⟩, ⟨some 28, (some (15, true)), .load false 1 (.tmp 27), [], false⟩, ⟨some 29, (some (15, true)), .idxS 2 (.tmp 26) (.tmp 28), [], false⟩, ⟨some 30, (some (15, true)), .load true 2 (.tmp 29), [], false⟩, ⟨some 31, (some (15, true)), .nilC (.tmp 21), [], false⟩, ⟨some 32, (some (15, true)), .mov (.tmp 21), [], false⟩, ⟨some 33, (some (15, true)), .callI "turret/wire.isRight" (.tmp 32) [(.tmp 22), (.tmp 24), (.tmp 30)], [], false⟩, ⟨some 34, none, .pick (.tmp 15) (.tmp 33) (.const (.bool false)), [], false⟩, ⟨some 6, none, .mov (.tmp 34), [], false⟩] [6]
def k2_3 : SCode := .seq k2_2 .ret
def k2_4 : SCode := .seq k2_1 k2_3
def k2_5 : SCode := .seq k2_0 k2_4
@[simp] def rs_wire_book_isRight : List SRes := [.tmp 6]
theorem law_wire_book_isRight (cs : List CV) (r : CV) (hl : cs.length ≤ 35) (h : STri (cfF Tryz.prog [] 35) k2_5 (initT 0 cs) [] (retQ rs_wire_book_isRight r)) : SC Tryz.prog 94 cs r :=
  sc_of [] follows Tryz.func94 rfl Tryz.ntmps94 (by decide) (by kernel_rfl) (by kernel_rfl) hl h
def k3_0 : SCode := .reg [⟨some 1, none, .box 81 (.tmp 0), [], false⟩, ⟨some 2, none, .mov (.const (.int .i64 0)), [], false⟩] [1]
def k3_1 : SCode := .reg [⟨some 5, none, .fld 0 (.tmp 1), [], false⟩, ⟨some 6, none, .load false 1 (.tmp 5), [], false⟩, ⟨some 7, none, .len (.tmp 6), [], false⟩, ⟨some 3, none, .mov (.tmp 7), [], false⟩] [1, 3]
def k3_2 : SCode := .reg [⟨some 8, none, .load true 5 (.tmp 1), [], false⟩, ⟨some 9, none, .call 55 [(.tmp 8)], [], false⟩, ⟨some 10, none, .rng false .u64 (.tmp 9), [], false⟩] [3, 10]
def k3_3 : SCode := .reg [⟨some 11, none, .nxt (.tmp 10), [], false⟩, ⟨some 12, none, .ext (.tmp 11) 0, [], false⟩] [3, 10, 12]
def k3_4 : SCode := .cond (.tmp 12) .skip (.exit 0)
def k3_5 : SCode := .reg [⟨some 13, none, .ent (.tmp 10), [], false⟩, ⟨some 14, none, .ext (.tmp 13) 0, [], false⟩, ⟨some 4, none, .mov (.tmp 14), [], false⟩] [3, 4, 10]
def k3_6 : SCode := .reg [⟨some 15, none, .mov (.tmp 3), [], false⟩, ⟨some 16, none, .mov (.tmp 4), [], false⟩, ⟨some 17, none, .call 56 [(.tmp 16)], [], false⟩, ⟨some 18, none, .min [(.tmp 15), (.tmp 17)], [], false⟩, ⟨some 3, none, .mov (.tmp 18), [], false⟩] [3, 10]
def k3_7 : SCode := .seq k3_5 k3_6
def k3_8 : SCode := .block 1 k3_7
def k3_9 : SCode := .seq k3_4 k3_8
def k3_10 : SCode := .seq k3_3 k3_9
def k3_11 : SCode := .loop k3_10
def k3_12 : SCode := .block 0 k3_11
def k3_13 : SCode := .seq k3_2 k3_12
def k3_14 : SCode := .reg [⟨some 19, none, .mov (.tmp 3), [], false⟩, ⟨some 2, none, .mov (.tmp 19), [], false⟩] [2]
def k3_15 : SCode := .seq k3_14 .ret
def k3_16 : SCode := .seq k3_13 k3_15
def k3_17 : SCode := .seq k3_1 k3_16
def k3_18 : SCode := .seq k3_0 k3_17
@[simp] def rs_wire_book_fewest : List SRes := [.tmp 2]
theorem law_wire_book_fewest (cs : List CV) (r : CV) (hl : cs.length ≤ 20) (h : STri (cfF Tryz.prog [] 20) k3_18 (initT 0 cs) [] (retQ rs_wire_book_fewest r)) : SC Tryz.prog 54 cs r :=
  sc_of [] follows Tryz.func54 rfl Tryz.ntmps54 (by decide) (by kernel_rfl) (by kernel_rfl) hl h
@[simp] def rs_wire_book_least : List SRes := [.tmp 2]
def k4_0 : SCode := .reg [⟨some 5, none, .box 24 (.tmp 2), [], false⟩, ⟨some 6, none, .mov (.const (.int .i64 0)), [], false⟩, ⟨some 7, none, .mov (.const (.int .i64 0)), [], false⟩] [0, 1, 5]
def k4_1 : SCode := .reg [⟨some 12, none, .mov (.tmp 0), [], false⟩, ⟨some 13, none, .mov (.tmp 1), [], false⟩, ⟨some 14, none, .load true 2 (.tmp 5), [], false⟩, ⟨some 15, none, .call 24 [(.tmp 12), (.tmp 13), (.tmp 14)], [], false⟩, ⟨some 11, none, .mov (.tmp 15), [], false⟩, ⟨some 16, none, .ext (.tmp 11) 0, [], false⟩, ⟨some 17, none, .ext (.tmp 11) 1, [], false⟩, ⟨some 8, none, .alloc 81 [(.slice none 0 0), (.slice none 0 0), (.slice none 0 0), (.int .i64 0), (.int .i64 0)], [], false⟩, ⟨none, none, .store 5 (.tmp 8) (.tmp 16), [], false⟩, ⟨some 9, none, .mov (.tmp 17), [], false⟩] [8, 9]
def k4_2 : SCode := .reg [⟨some 18, none, .mov (.tmp 9), [], false⟩, ⟨some 19, none, .bin .neq (.tmp 18) (.const (.int .i64 0)), [], false⟩] [8, 9, 19]
def k4_3 : SCode := .reg [⟨some 20, none, .mov (.tmp 9), [], false⟩, ⟨some 6, none, .mov (.const (.int .i64 0)), [], false⟩, ⟨some 7, none, .mov (.tmp 20), [], false⟩] [6, 7]
def k4_4 : SCode := .seq k4_3 .ret
def k4_5 : SCode := .cond (.tmp 19) k4_4 .skip
def k4_6 : SCode := .seq k4_2 k4_5
def k4_7 : SCode := .reg [⟨some 21, none, .load true 5 (.tmp 8), [], false⟩, ⟨some 22, none, .call 34 [(.tmp 21)], [], false⟩, ⟨some 10, none, .mov (.tmp 22), [], false⟩] [10]
def k4_8 : SCode := .reg [⟨some 24, none, .mov (.tmp 10), [], false⟩, ⟨some 25, none, .idxS 1 (.tmp 24) (.const (.int .i64 0)), [], false⟩, ⟨some 26, none, .load false 1 (.tmp 25), [], false⟩, ⟨some 27, none, .len (.tmp 26), [], false⟩, ⟨some 28, none, .bin .eql (.tmp 27) (.const (.int .i64 0)), [], false⟩, ⟨some 23, none, .mov (.tmp 28), [], false⟩] [10, 23]
def k4_9 : SCode := .reg [⟨some 6, none, .mov (.const (.int .i64 0)), [], false⟩, ⟨some 7, none, .mov (.const (.int .i64 7)), [], false⟩] [6, 7]
def k4_10 : SCode := .seq k4_9 .ret
def k4_11 : SCode := .reg [⟨some 30, none, .mov (.tmp 10), [], false⟩, ⟨some 31, none, .idxS 1 (.tmp 30) (.const (.int .i64 0)), [], false⟩, ⟨some 32, none, .load false 1 (.tmp 31), [], false⟩, ⟨some 33, none, .len (.tmp 32), [], false⟩, ⟨some 34, none, .bin .gtr (.tmp 33) (.const (.int .i64 1)), [], false⟩, ⟨some 29, none, .mov (.tmp 34), [], false⟩] [10, 29]
def k4_12 : SCode := .reg [⟨some 6, none, .mov (.const (.int .i64 0)), [], false⟩, ⟨some 7, none, .mov (.const (.int .i64 9)), [], false⟩] [6, 7]
def k4_13 : SCode := .seq k4_12 .ret
def k4_14 : SCode := .reg [⟨some 36, none, .mov (.tmp 10), [], false⟩, ⟨some 37, none, .len (.tmp 36), [], false⟩, ⟨some 38, none, .bin .gtr (.tmp 37) (.const (.int .i64 1)), [], false⟩, ⟨some 35, none, .mov (.tmp 38), [], false⟩] [10, 35]
def k4_15 : SCode := .reg [⟨some 6, none, .mov (.const (.int .i64 0)), [], false⟩, ⟨some 7, none, .mov (.const (.int .i64 6)), [], false⟩] [6, 7]
def k4_16 : SCode := .seq k4_15 .ret
def k4_17 : SCode := .cond (.tmp 35) k4_16 .skip
def k4_18 : SCode := .seq k4_14 k4_17
def k4_19 : SCode := .cond (.tmp 29) k4_13 k4_18
def k4_20 : SCode := .seq k4_11 k4_19
def k4_21 : SCode := .cond (.tmp 23) k4_10 k4_20
def k4_22 : SCode := .seq k4_8 k4_21
def k4_23 : SCode := .block 0 k4_22
def k4_24 : SCode := .reg [⟨some 39, none, .mov (.tmp 10), [], false⟩, ⟨some 40, none, .idxS 1 (.tmp 39) (.const (.int .i64 0)), [], false⟩, ⟨some 41, none, .load false 1 (.tmp 40), [], false⟩, ⟨some 42, none, .idxS 1 (.tmp 41) (.const (.int .i64 0)), [], false⟩, ⟨some 43, none, .load false 1 (.tmp 42), [], false⟩, ⟨some 6, none, .mov (.tmp 43), [], false⟩, ⟨some 7, none, .mov (.const (.int .i64 0)), [], false⟩] [6, 7]
def k4_25 : SCode := .seq k4_24 .ret
def k4_26 : SCode := .seq k4_23 k4_25
def k4_27 : SCode := .seq k4_7 k4_26
def k4_28 : SCode := .seq k4_6 k4_27
def k4_29 : SCode := .seq k4_1 k4_28
def k4_30 : SCode := .seq k4_0 k4_29
@[simp] def rs_wire_Convict : List SRes := [.tmp 6, .tmp 7]
theorem law_wire_Convict (cs : List CV) (r : CV) (hl : cs.length ≤ 44) (h : STri (cfF Tryz.prog [] 44) k4_30 (initT 0 cs) [] (retQ rs_wire_Convict r)) : SC Tryz.prog 16 cs r :=
  sc_of [] follows Tryz.func16 rfl Tryz.ntmps16 (by decide) (by kernel_rfl) (by kernel_rfl) hl h
def k5_0 : SCode := .reg [⟨some 5, none, .box 24 (.tmp 2), [], false⟩, ⟨some 6, none, .alloc 81 [(.slice none 0 0), (.slice none 0 0), (.slice none 0 0), (.int .i64 0), (.int .i64 0)], [], false⟩, ⟨some 7, none, .mov (.const (.int .i64 0)), [], false⟩] [0, 1, 5, 6]
def k5_1 : SCode := .reg [⟨some 14, none, .mov (.tmp 0), [], false⟩, ⟨some 15, none, .len (.tmp 14), [], false⟩, ⟨some 16, none, .buildSl 3 1 [(.int .i64 0)] 1 [(0, (.tmp 15))], [], false⟩, ⟨some 17, none, .call 46 [(.const (.int .i64 1)), (.const (.int .i64 10)), (.tmp 16)], [], false⟩, ⟨some 18, none, .un .not (.tmp 17), [], false⟩] [0, 1, 5, 6, 18]
def k5_2 : SCode := .reg [⟨some 19, none, .load true 5 (.tmp 6), [], false⟩, ⟨none, none, .store 5 (.tmp 6) (.tmp 19), [], false⟩, ⟨some 7, none, .mov (.const (.int .i64 2)), [], false⟩] [6, 7]
def k5_3 : SCode := .seq k5_2 .ret
def k5_4 : SCode := .cond (.tmp 18) k5_3 .skip
def k5_5 : SCode := .seq k5_1 k5_4
def k5_6 : SCode := .reg [⟨some 20, none, .mov (.tmp 0), [], false⟩, ⟨some 21, none, .len (.tmp 20), [], false⟩, ⟨some 22, none, .mov (.const (.int .i64 0)), [], false⟩] [0, 1, 5, 6, 20, 21, 22]
def k5_7 : SCode := .reg [⟨some 23, none, .bin .lss (.tmp 22) (.tmp 21), [], false⟩] [0, 1, 5, 6, 20, 21, 22, 23]
def k5_8 : SCode := .cond (.tmp 23) .skip (.exit 0)
def k5_9 : SCode := .reg [⟨some 24, none, .idxS 8 (.tmp 20) (.tmp 22), [], false⟩, ⟨some 25, none, .load true 8 (.tmp 24), [], false⟩, ⟨some 9, none, .alloc 40 [(.int .i64 0), (.int .i64 0), (.int .i64 0), (.int .i64 0), (.int .i64 0), (.int .i64 0), (.int .i64 0), (.slice none 0 0)], [], false⟩, ⟨none, none, .store 8 (.tmp 9) (.tmp 25), [], false⟩] [0, 1, 5, 6, 9, 20, 21, 22]
def k5_10 : SCode := .reg [⟨some 27, none, .load true 8 (.tmp 9), [], false⟩, ⟨some 28, none, .call 47 [(.tmp 27)], [], false⟩, ⟨some 26, none, .mov (.tmp 28), [], false⟩, ⟨some 29, none, .ext (.tmp 26) 0, [], false⟩, ⟨some 30, none, .ext (.tmp 26) 1, [], false⟩, ⟨some 10, none, .mov (.tmp 29), [], false⟩, ⟨some 11, none, .mov (.tmp 30), [], false⟩] [0, 1, 5, 6, 9, 10, 11, 20, 21, 22]
def k5_11 : SCode := .reg [⟨some 31, none, .mov (.tmp 11), [], false⟩, ⟨some 32, none, .un .not (.tmp 31), [], false⟩] [0, 1, 5, 6, 9, 10, 20, 21, 22, 32]
def k5_12 : SCode := .reg [⟨some 33, none, .load true 5 (.tmp 6), [], false⟩, ⟨none, none, .store 5 (.tmp 6) (.tmp 33), [], false⟩, ⟨some 7, none, .mov (.const (.int .i64 2)), [], false⟩] [6, 7]
def k5_13 : SCode := .seq k5_12 .ret
def k5_14 : SCode := .cond (.tmp 32) k5_13 .skip
def k5_15 : SCode := .seq k5_11 k5_14
def k5_16 : SCode := .reg [⟨some 34, none, .fld 0 (.tmp 6), [], true⟩, ⟨some 35, none, .load false 1 (.tmp 34), [], true⟩, ⟨some 36, none, .mov (.tmp 10), [], false⟩, ⟨some 37, none, .buildSl 119 1 [.nilIface] 1 [(0, (.tmp 36))], [0, 1], true⟩, ⟨some 38, none, .append 119 1 16 (.tmp 35) (.tmp 37), [], true⟩, ⟨some 39, none, .fld 1 (.tmp 6), [3, 4], true⟩, ⟨some 40, none, .load false 1 (.tmp 39), [3, 4], true⟩, ⟨some 41, none, .fld 1 (.tmp 9), [3, 4], false⟩, ⟨some 42, none, .load true 2 (.tmp 41), [3, 4], false⟩, ⟨some 43, none, .buildSl 24 2 [(.int .i64 0), (.int .i64 0)] 1 [(0, (.tmp 42))], [0, 1, 4, 5, 6], true⟩, ⟨some 44, none, .append 24 2 16 (.tmp 40) (.tmp 43), [], true⟩, ⟨some 45, none, .fld 0 (.tmp 6), [9, 10], false⟩, ⟨none, none, .store 1 (.tmp 45) (.tmp 38), [], false⟩, ⟨some 46, none, .fld 1 (.tmp 6), [], false⟩, ⟨none, none, .store 1 (.tmp 46) (.tmp 44), [], false⟩] [0, 1, 5, 6, 20, 21, 22]
def k5_17 : SCode := .seq k5_15 k5_16
def k5_18 : SCode := .seq k5_10 k5_17
def k5_19 : SCode := .seq k5_9 k5_18
def k5_20 : SCode := .block 1 k5_19
def k5_21 : SCode := .reg [⟨some 47, none, .bin .add (.tmp 22) (.const (.int .i64 1)), [], false⟩, ⟨some 22, none, .mov (.tmp 47), [], false⟩] [0, 1, 5, 6, 20, 21, 22]
def k5_22 : SCode := .seq k5_20 k5_21
def k5_23 : SCode := .seq k5_8 k5_22
def k5_24 : SCode := .seq k5_7 k5_23
def k5_25 : SCode := .loop k5_24
def k5_26 : SCode := .block 0 k5_25
def k5_27 : SCode := .seq k5_6 k5_26
def k5_28 : SCode := .reg [⟨some 48, none, .mov (.tmp 1), [], false⟩, ⟨some 49, none, .len (.tmp 48), [], false⟩, ⟨some 50, none, .bin .gtr (.tmp 49) (.const (.int .i64 60)), [], false⟩] [0, 1, 5, 6, 50]
def k5_29 : SCode := .reg [⟨some 51, none, .load true 5 (.tmp 6), [], false⟩, ⟨none, none, .store 5 (.tmp 6) (.tmp 51), [], false⟩, ⟨some 7, none, .mov (.const (.int .i64 5)), [], false⟩] [6, 7]
def k5_30 : SCode := .seq k5_29 .ret
def k5_31 : SCode := .cond (.tmp 50) k5_30 .skip
def k5_32 : SCode := .seq k5_28 k5_31
def k5_33 : SCode := .reg [⟨some 52, none, .mov (.tmp 1), [], false⟩, ⟨some 53, none, .len (.tmp 52), [], false⟩, ⟨some 54, none, .mov (.const (.int .i64 0)), [], false⟩] [0, 1, 5, 6, 52, 53, 54]
def k5_34 : SCode := .reg [⟨some 55, none, .bin .lss (.tmp 54) (.tmp 53), [], false⟩] [0, 1, 5, 6, 52, 53, 54, 55]
def k5_35 : SCode := .cond (.tmp 55) .skip (.exit 2)
def k5_36 : SCode := .reg [⟨some 56, none, .idxS 3 (.tmp 52) (.tmp 54), [], false⟩, ⟨some 57, none, .load true 3 (.tmp 56), [], false⟩, ⟨some 13, none, .alloc 43 [(.int .i64 0), (.int .i64 0), (.int .i64 0)], [], false⟩, ⟨none, none, .store 3 (.tmp 13) (.tmp 57), [], false⟩] [0, 1, 5, 6, 13, 52, 53, 54]
def k5_37 : SCode := .reg [⟨some 59, none, .mov (.tmp 0), [], false⟩, ⟨some 60, none, .len (.tmp 59), [], false⟩, ⟨some 61, none, .bin .sub (.tmp 60) (.const (.int .i64 1)), [], false⟩, ⟨some 62, none, .fld 0 (.tmp 13), [], false⟩, ⟨some 63, none, .load false 1 (.tmp 62), [], false⟩, ⟨some 64, none, .buildSl 3 1 [(.int .i64 0)] 1 [(0, (.tmp 63))], [], false⟩, ⟨some 65, none, .call 46 [(.const (.int .i64 0)), (.tmp 61), (.tmp 64)], [], false⟩, ⟨some 66, none, .un .not (.tmp 65), [], false⟩, ⟨some 58, none, .mov (.tmp 66), [], false⟩] [0, 1, 5, 6, 13, 52, 53, 54, 58]
def k5_38 : SCode := .reg [⟨some 67, none, .load true 5 (.tmp 6), [], false⟩, ⟨none, none, .store 5 (.tmp 6) (.tmp 67), [], false⟩, ⟨some 7, none, .mov (.const (.int .i64 7)), [], false⟩] [6, 7]
def k5_39 : SCode := .seq k5_38 .ret
def k5_40 : SCode := .reg [⟨some 69, none, .fld 1 (.tmp 13), [], false⟩, ⟨some 70, none, .load false 1 (.tmp 69), [], false⟩, ⟨some 71, none, .buildSl 3 1 [(.int .i64 0)] 1 [(0, (.tmp 70))], [], false⟩, ⟨some 72, none, .call 46 [(.const (.int .i64 0)), (.const (.int .i64 3155760000)), (.tmp 71)], [], false⟩, ⟨some 73, none, .un .not (.tmp 72), [], false⟩, ⟨some 68, none, .mov (.tmp 73), [], false⟩] [0, 1, 5, 6, 13, 52, 53, 54, 68]
def k5_41 : SCode := .reg [⟨some 74, none, .fld 0 (.tmp 6), [], false⟩, ⟨some 75, none, .load false 1 (.tmp 74), [], false⟩, ⟨some 76, none, .fld 0 (.tmp 13), [], false⟩, ⟨some 77, none, .load false 1 (.tmp 76), [], false⟩, ⟨some 78, none, .idxS 1 (.tmp 75) (.tmp 77), [], false⟩, ⟨some 79, none, .load false 1 (.tmp 78), [], false⟩, ⟨some 80, none, .fld 2 (.tmp 13), [], false⟩, ⟨some 81, none, .load false 1 (.tmp 80), [], false⟩, ⟨some 82, none, .callI "turret/wire.isSaid" (.tmp 79) [(.tmp 81)], [], false⟩, ⟨some 83, none, .un .not (.tmp 82), [], false⟩, ⟨some 68, none, .mov (.tmp 83), [], false⟩] [0, 1, 5, 6, 52, 53, 54, 68]
def k5_42 : SCode := .cond (.tmp 68) .skip k5_41
def k5_43 : SCode := .seq k5_40 k5_42
def k5_44 : SCode := .reg [⟨some 84, none, .load true 5 (.tmp 6), [], false⟩, ⟨none, none, .store 5 (.tmp 6) (.tmp 84), [], false⟩, ⟨some 7, none, .mov (.const (.int .i64 2)), [], false⟩] [6, 7]
def k5_45 : SCode := .seq k5_44 .ret
def k5_46 : SCode := .cond (.tmp 68) k5_45 .skip
def k5_47 : SCode := .seq k5_43 k5_46
def k5_48 : SCode := .cond (.tmp 58) k5_39 k5_47
def k5_49 : SCode := .seq k5_37 k5_48
def k5_50 : SCode := .block 4 k5_49
def k5_51 : SCode := .seq k5_36 k5_50
def k5_52 : SCode := .block 3 k5_51
def k5_53 : SCode := .reg [⟨some 85, none, .bin .add (.tmp 54) (.const (.int .i64 1)), [], false⟩, ⟨some 54, none, .mov (.tmp 85), [], false⟩] [0, 1, 5, 6, 52, 53, 54]
def k5_54 : SCode := .seq k5_52 k5_53
def k5_55 : SCode := .seq k5_35 k5_54
def k5_56 : SCode := .seq k5_34 k5_55
def k5_57 : SCode := .loop k5_56
def k5_58 : SCode := .block 2 k5_57
def k5_59 : SCode := .seq k5_33 k5_58
def k5_60 : SCode := .reg [⟨some 86, none, .load true 2 (.tmp 5), [], false⟩, ⟨some 87, none, .call 48 [(.tmp 86), (.const (.int .i64 7200))], [], false⟩, ⟨some 88, none, .un .not (.tmp 87), [], false⟩] [1, 5, 6, 88]
def k5_61 : SCode := .reg [⟨some 89, none, .load true 5 (.tmp 6), [], false⟩, ⟨none, none, .store 5 (.tmp 6) (.tmp 89), [], false⟩, ⟨some 7, none, .mov (.const (.int .i64 3)), [], false⟩] [6, 7]
def k5_62 : SCode := .seq k5_61 .ret
def k5_63 : SCode := .cond (.tmp 88) k5_62 .skip
def k5_64 : SCode := .seq k5_60 k5_63
def k5_65 : SCode := .reg [⟨some 90, none, .mov (.tmp 1), [], false⟩, ⟨some 91, none, .load true 2 (.tmp 5), [], true⟩, ⟨some 92, none, .fld 2 (.tmp 6), [], false⟩, ⟨none, none, .store 1 (.tmp 92) (.tmp 90), [1], false⟩, ⟨some 93, none, .fld 3 (.tmp 6), [], false⟩, ⟨none, none, .store 2 (.tmp 93) (.tmp 91), [], false⟩] [6]
def k5_66 : SCode := .reg [⟨some 94, none, .load true 5 (.tmp 6), [], false⟩, ⟨none, none, .store 5 (.tmp 6) (.tmp 94), [], false⟩, ⟨some 7, none, .mov (.const (.int .i64 0)), [], false⟩] [6, 7]
def k5_67 : SCode := .seq k5_66 .ret
def k5_68 : SCode := .seq k5_65 k5_67
def k5_69 : SCode := .seq k5_64 k5_68
def k5_70 : SCode := .seq k5_59 k5_69
def k5_71 : SCode := .seq k5_32 k5_70
def k5_72 : SCode := .seq k5_27 k5_71
def k5_73 : SCode := .seq k5_5 k5_72
def k5_74 : SCode := .seq k5_0 k5_73
@[simp] def rs_wire_newBook : List SRes := [.cell 6 true 5, .tmp 7]
theorem law_wire_newBook (cs : List CV) (r : CV) (hl : cs.length ≤ 95) (h : STri (cfF Tryz.prog [] 95) k5_74 (initT 0 cs) [] (retQ rs_wire_newBook r)) : SC Tryz.prog 24 cs r :=
  sc_of [] follows Tryz.func24 rfl Tryz.ntmps24 (by decide) (by kernel_rfl) (by kernel_rfl) hl h
def k6_0 : SCode := .reg [⟨some 2, none, .box 81 (.tmp 0), [], false⟩, ⟨some 3, none, .box 85 (.tmp 1), [], false⟩, ⟨some 4, none, .alloc 29 [(.slice none 0 0)], [], false⟩] [2, 3, 4]
def k6_1 : SCode := .reg [⟨some 8, none, .load true 5 (.tmp 2), [], false⟩, ⟨some 9, none, .mkFn 49 [(.tmp 8)] [], [], false⟩] [3, 4, 9]
def k6_2 : SCode := .reg [⟨some 5, none, .mov (.tmp 10), [], false⟩] [3, 4, 5, 11]
def k6_3 : SCode := .reg [⟨some 6, none, .mov (.tmp 11), [], false⟩] [3, 4, 5, 6]
def k6_4 : SCode := .seq k6_2 k6_3
def k6_5 : SCode := .reg [⟨some 12, none, .load false 1 (.tmp 3), [], false⟩, ⟨some 13, none, .mov (.tmp 6), [], false⟩, ⟨some 14, none, .callV (.tmp 12) [(.tmp 13)], [], false⟩, ⟨some 15, none, .un .not (.tmp 14), [], false⟩] [4, 5, 15]
def k6_6 : SCode := .cond (.tmp 15) (.exit 1) .skip
def k6_7 : SCode := .seq k6_5 k6_6
def k6_8 : SCode := .reg [⟨some 16, none, .load false 1 (.tmp 4), [], false⟩, ⟨some 17, none, .len (.tmp 16), [], false⟩, ⟨some 18, none, .bin .sub (.tmp 17) (.const (.int .i64 1)), [], false⟩, ⟨some 7, none, .mov (.tmp 18), [], false⟩] [4, 5, 7]
def k6_9 : SCode := .reg [⟨some 19, none, .mov (.tmp 7), [], false⟩, ⟨some 20, none, .bin .geq (.tmp 19) (.const (.int .i64 0)), [], false⟩, ⟨some 21, none, .mov (.tmp 20), [], false⟩, ⟨some 22, (some (21, true)), .load false 1 (.tmp 4), [], false⟩, ⟨some 23, (some (21, true)), .mov (.tmp 7), [], false⟩, ⟨some 24, (some (21, true)), .idxS 2 (.tmp 22) (.tmp 23), [], false⟩, ⟨some 25, (some (21, true)), .fld 1 (.tmp 24), [], false⟩, ⟨some 26, (some (21, true)), .load false 1 (.tmp 25), [], false⟩, ⟨some 27, (some (21, true)), .mov (.tmp 5), [], false⟩, ⟨some 28, (some (21, true)), .bin .sub (.tmp 27) (.const (.int .i64 1)), [], false⟩, ⟨some 29, (some (21, true)), .bin .eql (.tmp 26) (.tmp 28), [], false⟩, ⟨some 30, none, .pick (.tmp 21) (.tmp 29) (.const (.bool false)), [], false⟩] [4, 5, 7, 30]
def k6_10 : SCode := .reg [⟨some 31, none, .load false 1 (.tmp 4), [], false⟩, ⟨some 32, none, .mov (.tmp 7), [], false⟩, ⟨some 33, none, .mov (.tmp 5), [], false⟩, ⟨some 34, none, .idxS 2 (.tmp 31) (.tmp 32), [], false⟩, ⟨some 35, none, .fld 1 (.tmp 34), [], false⟩, ⟨none, none, .store 1 (.tmp 35) (.tmp 33), [], false⟩] []
def k6_11 : SCode := .reg [⟨some 36, none, .load false 1 (.tmp 4), [], false⟩, ⟨some 37, none, .mov (.tmp 5), [], false⟩, ⟨some 38, none, .mov (.tmp 5), [], false⟩, ⟨some 39, none, .build [(.int .i64 0), (.int .i64 0)] [(0, 1, (.tmp 37)), (1, 1, (.tmp 38))], [], false⟩, ⟨some 40, none, .buildSl 24 2 [(.int .i64 0), (.int .i64 0)] 1 [(0, (.tmp 39))], [], false⟩, ⟨some 41, none, .append 24 2 16 (.tmp 36) (.tmp 40), [], false⟩, ⟨none, none, .store 1 (.tmp 4) (.tmp 41), [], false⟩] []
def k6_12 : SCode := .cond (.tmp 30) k6_10 k6_11
def k6_13 : SCode := .seq k6_9 k6_12
def k6_14 : SCode := .seq k6_8 k6_13
def k6_15 : SCode := .seq k6_7 k6_14
def k6_16 : SCode := .block 1 k6_15
def k6_17 : SCode := .range (.tmp 9) [10, 11] k6_4 k6_16
def k6_18 : SCode := .block 0 k6_17
def k6_19 : SCode := .seq k6_1 k6_18
def k6_20 : SCode := .reg [⟨some 42, none, .load false 1 (.tmp 4), [], false⟩, ⟨none, none, .store 1 (.tmp 4) (.tmp 42), [], false⟩] [4]
def k6_21 : SCode := .seq k6_20 .ret
def k6_22 : SCode := .seq k6_19 k6_21
def k6_23 : SCode := .seq k6_0 k6_22
@[simp] def rs_wire_book_spans : List SRes := [.cell 4 false 1]
theorem law_wire_book_spans (cs : List CV) (r : CV) (hl : cs.length ≤ 43) (h : STri (cfF Tryz.prog [] 43) k6_23 (initT 0 cs) [] (retQ rs_wire_book_spans r)) : SC Tryz.prog 25 cs r :=
  sc_of [] follows Tryz.func25 rfl Tryz.ntmps25 (by decide) (by kernel_rfl) (by kernel_rfl) hl h
def k7_0 : SCode := .reg [⟨some 2, none, .mov (.const (.bool false)), [], false⟩] [0]
def k7_1 : SCode := .reg [⟨some 3, none, .mov (.tmp 0), [], false⟩, ⟨some 4, none, .bin .eql (.tmp 3) (.const (.int .u64 0)), [], false⟩, ⟨some 2, none, .mov (.tmp 4), [], false⟩] [2]
def k7_2 : SCode := .seq k7_1 .ret
def k7_3 : SCode := .seq k7_0 k7_2
@[simp] def rs_wire_nobody : List SRes := [.tmp 2]
theorem law_wire_nobody (cs : List CV) (r : CV) (hl : cs.length ≤ 5) (h : STri (cfF Tryz.prog [] 5) k7_3 (initT 0 cs) [] (retQ rs_wire_nobody r)) : SC Tryz.prog 26 cs r :=
  sc_of [] follows Tryz.func26 rfl Tryz.ntmps26 (by decide) (by kernel_rfl) (by kernel_rfl) hl h
def k8_0 : SCode := .reg [⟨some 1, none, .box 81 (.tmp 0), [], false⟩, ⟨some 2, none, .mov (.const (.map none)), [], false⟩] [1, 2]
def k8_1 : SCode := .reg [⟨some 6, none, .mkMap false .u64, [], false⟩, ⟨some 3, none, .alloc 129 [(.map none)], [], false⟩, ⟨none, none, .store 1 (.tmp 3) (.tmp 6), [], false⟩] [1, 2, 3]
def k8_2 : SCode := .reg [⟨some 7, none, .load true 5 (.tmp 1), [], false⟩, ⟨some 8, none, .mkFn 49 [(.tmp 7)] [], [], false⟩] [2, 3, 8]
def k8_3 : SCode := .reg [⟨some 5, none, .mov (.tmp 10), [], false⟩] [3, 5]
def k8_4 : SCode := .reg [⟨some 11, none, .load false 1 (.tmp 3), [], false⟩, ⟨some 12, none, .mov (.tmp 5), [], false⟩, ⟨none, none, .mapUpd false .u64 (.tmp 11) (.tmp 12) (.const (.bool true)), [], false⟩] []
def k8_5 : SCode := .block 1 k8_4
def k8_6 : SCode := .range (.tmp 8) [9, 10] k8_3 k8_5
def k8_7 : SCode := .block 0 k8_6
def k8_8 : SCode := .seq k8_2 k8_7
def k8_9 : SCode := .reg [⟨some 13, none, .load false 1 (.tmp 3), [], false⟩, ⟨some 2, none, .mov (.tmp 13), [], false⟩] [2]
def k8_10 : SCode := .seq k8_9 .ret
def k8_11 : SCode := .seq k8_8 k8_10
def k8_12 : SCode := .seq k8_1 k8_11
def k8_13 : SCode := .seq k8_0 k8_12
@[simp] def rs_wire_book_sets : List SRes := [.tmp 2]
theorem law_wire_book_sets (cs : List CV) (r : CV) (hl : cs.length ≤ 14) (h : STri (cfF Tryz.prog [] 14) k8_13 (initT 0 cs) [] (retQ rs_wire_book_sets r)) : SC Tryz.prog 55 cs r :=
  sc_of [] follows Tryz.func55 rfl Tryz.ntmps55 (by decide) (by kernel_rfl) (by kernel_rfl) hl h
def k9_0 : SCode := .reg [⟨some 3, none, .boxZ 3 (.tmp 0), [], false⟩, ⟨some 4, none, .boxZ 3 (.tmp 1), [], false⟩, ⟨some 6, none, .mov (.const (.bool false)), [], false⟩] [2, 3, 4]
def k9_1 : SCode := .reg [⟨some 7, none, .mov (.tmp 2), [], false⟩, ⟨some 8, none, .mkFn 72 [] [(.tmp 3), (.tmp 4)], [], false⟩, ⟨some 9, none, .call 51 [(.tmp 7), (.tmp 8)], [], false⟩, ⟨some 10, none, .un .not (.tmp 9), [], false⟩, ⟨some 6, none, .mov (.tmp 10), [], false⟩] [6]
def k9_2 : SCode := .seq k9_1 .ret
def k9_3 : SCode := .seq k9_0 k9_2
@[simp] def rs_wire_within : List SRes := [.tmp 6]
theorem law_wire_within (cs : List CV) (r : CV) (hl : cs.length ≤ 11) (h : STri (cfF Tryz.prog [] 11) k9_3 (initT 0 cs) [] (retQ rs_wire_within r)) : SC Tryz.prog 46 cs r :=
  sc_of [] follows Tryz.func46 rfl Tryz.ntmps46 (by decide) (by kernel_rfl) (by kernel_rfl) hl h
def k10_0 : SCode := .reg [⟨some 1, none, .box 40 (.tmp 0), [], false⟩, ⟨some 2, none, .mov (.const .nilIface), [], false⟩, ⟨some 3, none, .mov (.const (.bool false)), [], false⟩] [1]
def k10_1 : SCode := .reg [⟨some 8, none, .call 73 [], [], false⟩, ⟨some 9, none, .fld 0 (.tmp 1), [], false⟩, ⟨some 10, none, .load false 1 (.tmp 9), [], false⟩, ⟨some 11, none, .lookup false .i64 .nilFunc true (.tmp 8) (.tmp 10), [], false⟩, ⟨some 7, none, .mov (.tmp 11), [], false⟩, ⟨some 12, none, .ext (.tmp 7) 0, [], false⟩, ⟨some 13, none, .ext (.tmp 7) 1, [], false⟩, ⟨some 4, none, .mov (.tmp 12), [], false⟩, ⟨some 5, none, .mov (.tmp 13), [], false⟩] [1, 4, 5]
def k10_2 : SCode := .reg [⟨some 14, none, .mov (.tmp 5), [], false⟩, ⟨some 15, none, .un .not (.tmp 14), [], false⟩, ⟨some 16, none, .mov (.tmp 15), [], false⟩, ⟨some 17, (some (16, false)), .fld 1 (.tmp 1), [], false⟩, ⟨some 18, (some (16, false)), .load true 2 (.tmp 17), [], false⟩, ⟨some 19, (some (16, false)), .call 48 [(.tmp 18), (.const (.int .i64 3600))], [], false⟩, ⟨some 20, (some (16, false)), .un .not (.tmp 19), [], false⟩, ⟨some 21, none, .pick (.tmp 16) (.const (.bool true)) (.tmp 20), [], false⟩] [1, 4, 21]
def k10_3 : SCode := .reg [⟨some 2, none, .mov (.const .nilIface), [], false⟩, ⟨some 3, none, .mov (.const (.bool false)), [], false⟩] [2, 3]
def k10_4 : SCode := .seq k10_3 .ret
def k10_5 : SCode := .cond (.tmp 21) k10_4 .skip
def k10_6 : SCode := .seq k10_2 k10_5
def k10_7 : SCode := .reg [⟨some 22, none, .mov (.tmp 4), [], false⟩, ⟨some 23, none, .load true 8 (.tmp 1), [], false⟩, ⟨some 24, none, .callV (.tmp 22) [(.tmp 23)], [], false⟩, ⟨some 6, none, .mov (.tmp 24), [], false⟩] [6]
def k10_8 : SCode := .reg [⟨some 25, none, .mov (.tmp 6), [], false⟩, ⟨some 26, none, .mov (.tmp 6), [], false⟩, ⟨some 27, none, .callI "turret/wire.isValid" (.tmp 26) [], [], false⟩, ⟨some 2, none, .mov (.tmp 25), [], false⟩, ⟨some 3, none, .mov (.tmp 27), [], false⟩] [2, 3]
def k10_9 : SCode := .seq k10_8 .ret
def k10_10 : SCode := .seq k10_7 k10_9
def k10_11 : SCode := .seq k10_6 k10_10
def k10_12 : SCode := .seq k10_1 k10_11
def k10_13 : SCode := .seq k10_0 k10_12
@[simp] def rs_wire_newSource : List SRes := [.tmp 2, .tmp 3]
theorem law_wire_newSource (cs : List CV) (r : CV) (hl : cs.length ≤ 28) (h : STri (cfF Tryz.prog [] 28) k10_13 (initT 0 cs) [] (retQ rs_wire_newSource r)) : SC Tryz.prog 47 cs r :=
  sc_of [] follows Tryz.func47 rfl Tryz.ntmps47 (by decide) (by kernel_rfl) (by kernel_rfl) hl h
def k11_0 : SCode := .reg [⟨some 2, none, .box 24 (.tmp 0), [], false⟩, ⟨some 4, none, .mov (.const (.bool false)), [], false⟩] [1, 2]
def k11_1 : SCode := .reg [⟨some 5, none, .mov (.tmp 1), [], false⟩, ⟨some 6, none, .un .neg (.tmp 5), [], false⟩, ⟨some 7, none, .mov (.tmp 1), [], false⟩, ⟨some 8, none, .fld 0 (.tmp 2), [], false⟩, ⟨some 9, none, .load false 1 (.tmp 8), [], false⟩, ⟨some 10, none, .fld 1 (.tmp 2), [], false⟩, ⟨some 11, none, .load false 1 (.tmp 10), [], false⟩, ⟨some 12, none, .buildSl 3 1 [(.int .i64 0)] 2 [(0, (.tmp 9)), (1, (.tmp 11))], [], false⟩, ⟨some 13, none, .call 46 [(.tmp 6), (.tmp 7), (.tmp 12)], [], false⟩, ⟨some 14, none, .mov (.tmp 13), [], false⟩, ⟨some 15, (some (14, true)), .fld 0 (.tmp 2), [], false⟩, ⟨some 16, (some (14, true)), .load false 1 (.tmp 15), [], false⟩, ⟨some 17, (some (14, true)), .fld 1 (.tmp 2), [], false⟩, ⟨some 18, (some (14, true)), .load false 1 (.tmp 17), [], false⟩, ⟨some 19, (some (14, true)), .bin .leq (.tmp 16) (.tmp 18), [], false⟩, ⟨some 20, none, .pick (.tmp 14) (.tmp 19) (.const (.bool false)), [], false⟩, ⟨some 4, none, .mov (.tmp 20), [], false⟩] [4]
def k11_2 : SCode := .seq k11_1 .ret
def k11_3 : SCode := .seq k11_0 k11_2
@[simp] def rs_wire_isSpan : List SRes := [.tmp 4]
theorem law_wire_isSpan (cs : List CV) (r : CV) (hl : cs.length ≤ 21) (h : STri (cfF Tryz.prog [] 21) k11_3 (initT 0 cs) [] (retQ rs_wire_isSpan r)) : SC Tryz.prog 48 cs r :=
  sc_of [] follows Tryz.func48 rfl Tryz.ntmps48 (by decide) (by kernel_rfl) (by kernel_rfl) hl h
def k12_0 : SCode := .reg [⟨some 2, none, .box 81 (.tmp 0), [], false⟩] [1, 2]
def k12_1 : SCode := .reg [⟨some 5, none, .fld 3 (.tmp 2), [], false⟩, ⟨some 6, none, .fld 0 (.tmp 5), [], false⟩, ⟨some 7, none, .load false 1 (.tmp 6), [], false⟩, ⟨some 4, none, .mov (.tmp 7), [], false⟩] [1, 2, 4]
def k12_2 : SCode := .reg [⟨some 8, none, .mov (.tmp 4), [], false⟩, ⟨some 9, none, .fld 3 (.tmp 2), [], false⟩, ⟨some 10, none, .fld 1 (.tmp 9), [], false⟩, ⟨some 11, none, .load false 1 (.tmp 10), [], false⟩, ⟨some 12, none, .bin .leq (.tmp 8) (.tmp 11), [], false⟩] [1, 2, 4, 12]
def k12_3 : SCode := .cond (.tmp 12) .skip (.exit 0)
def k12_4 : SCode := .seq k12_2 k12_3
def k12_5 : SCode := .reg [⟨some 15, none, .mov (.tmp 1), [], false⟩, ⟨some 16, none, .mov (.tmp 4), [], false⟩, ⟨some 17, none, .load true 5 (.tmp 2), [], false⟩, ⟨some 18, none, .mov (.tmp 4), [], false⟩, ⟨some 19, none, .call 74 [(.tmp 17), (.tmp 18)], [], false⟩, ⟨some 20, none, .callV (.tmp 15) [(.tmp 16), (.tmp 19)], [], false⟩, ⟨some 21, none, .un .not (.tmp 20), [], false⟩] [1, 2, 4, 21]
def k12_6 : SCode := .cond (.tmp 21) .ret .skip
def k12_7 : SCode := .seq k12_5 k12_6
def k12_8 : SCode := .block 1 k12_7
def k12_9 : SCode := .reg [⟨some 13, none, .mov (.tmp 4), [], false⟩, ⟨some 14, none, .bin .add (.tmp 13) (.const (.int .i64 1)), [], false⟩, ⟨some 4, none, .mov (.tmp 14), [], false⟩] [1, 2, 4]
def k12_10 : SCode := .seq k12_8 k12_9
def k12_11 : SCode := .seq k12_4 k12_10
def k12_12 : SCode := .loop k12_11
def k12_13 : SCode := .block 0 k12_12
def k12_14 : SCode := .seq k12_1 k12_13
def k12_15 : SCode := .seq k12_0 k12_14
theorem ilaw_wire_book_all (b : Nat) (fs cs : List CV) (xs : List (List CV)) (hb2 : b + 1000 ≤ 1000000000) (hl : fs.length + 1 + cs.length ≤ 22) (h : ∀ Iv A G id, (∃ v, G (.yl id) v) → (∀ k row, xs[k]? = some row → YT Tryz.prog Iv A G id k row) → STri (cfI Tryz.prog [] 22 b Iv A G) k12_15 (initS 0 (fs.map .c ++ .yl id :: cs.map .c)) [(1000000000 + b, .gh 0 false)] (itQ b xs.length)) : IterL Tryz.prog 49 b fs cs xs :=
  iter_of [] follows Tryz.func49 rfl Tryz.ntmps49 (by decide) hb2 (by kernel_rfl) rfl hl h
def k13_0 : SCode := .reg [⟨some 2, none, .mov (.const (.slice none 0 0)), [], false⟩] [0, 2]
def k13_1 : SCode := .reg [⟨some 4, none, .mov (.tmp 0), [], false⟩, ⟨some 5, none, .call 78 [(.tmp 4)], [], false⟩, ⟨some 6, none, .mov (.const (.int .i64 0)), [], false⟩] [0, 2, 5, 6]
def k13_2 : SCode := .reg [⟨some 7, none, .bin .lss (.tmp 6) (.tmp 5), [], false⟩] [0, 2, 5, 6, 7]
def k13_3 : SCode := .cond (.tmp 7) .skip (.exit 0)
def k13_4 : SCode := .reg [⟨some 8, none, .mov (.tmp 6), [], false⟩, ⟨some 3, none, .mov (.tmp 8), [], false⟩] [0, 2, 3, 5, 6]
def k13_5 : SCode := .reg [⟨some 9, none, .mov (.tmp 0), [], false⟩, ⟨some 10, none, .mov (.tmp 3), [], false⟩, ⟨some 11, none, .shift false (.tmp 9) (.tmp 10), [], false⟩, ⟨some 12, none, .bin .and (.tmp 11) (.const (.int .u64 1)), [], false⟩, ⟨some 13, none, .bin .eql (.tmp 12) (.const (.int .u64 1)), [], false⟩] [0, 2, 3, 5, 6, 13]
def k13_6 : SCode := .reg [⟨some 14, none, .mov (.tmp 2), [], false⟩, ⟨some 15, none, .mov (.tmp 3), [], false⟩, ⟨some 16, none, .buildSl 3 1 [(.int .i64 0)] 1 [(0, (.tmp 15))], [], false⟩, ⟨some 17, none, .append 3 1 8 (.tmp 14) (.tmp 16), [], false⟩, ⟨some 2, none, .mov (.tmp 17), [], false⟩] [0, 2, 5, 6]
def k13_7 : SCode := .cond (.tmp 13) k13_6 .skip
def k13_8 : SCode := .seq k13_5 k13_7
def k13_9 : SCode := .seq k13_4 k13_8
def k13_10 : SCode := .block 1 k13_9
def k13_11 : SCode := .reg [⟨some 18, none, .bin .add (.tmp 6) (.const (.int .i64 1)), [], false⟩, ⟨some 6, none, .mov (.tmp 18), [], false⟩] [0, 2, 5, 6]
def k13_12 : SCode := .seq k13_10 k13_11
def k13_13 : SCode := .seq k13_3 k13_12
def k13_14 : SCode := .seq k13_2 k13_13
def k13_15 : SCode := .loop k13_14
def k13_16 : SCode := .block 0 k13_15
def k13_17 : SCode := .seq k13_1 k13_16
def k13_18 : SCode := .reg [⟨some 19, none, .mov (.tmp 2), [], false⟩, ⟨some 2, none, .mov (.tmp 19), [], false⟩] [2]
def k13_19 : SCode := .seq k13_18 .ret
def k13_20 : SCode := .seq k13_17 k13_19
def k13_21 : SCode := .seq k13_0 k13_20
@[simp] def rs_wire_numbers : List SRes := [.tmp 2]
theorem law_wire_numbers (cs : List CV) (r : CV) (hl : cs.length ≤ 20) (h : STri (cfF Tryz.prog [] 20) k13_21 (initT 0 cs) [] (retQ rs_wire_numbers r)) : SC Tryz.prog 57 cs r :=
  sc_of [] follows Tryz.func57 rfl Tryz.ntmps57 (by decide) (by kernel_rfl) (by kernel_rfl) hl h
def k14_0 : SCode := .reg [⟨some 4, none, .mov (.const (.bool false)), [], false⟩] [0, 1, 2]
def k14_1 : SCode := .reg [⟨some 5, none, .mov (.tmp 0), [], false⟩, ⟨some 6, none, .load false 1 (.tmp 1), [], false⟩, ⟨some 7, none, .bin .lss (.tmp 5) (.tmp 6), [], false⟩, ⟨some 8, none, .mov (.tmp 7), [], false⟩, ⟨some 9, (some (8, false)), .mov (.tmp 0), [], false⟩, ⟨some 10, (some (8, false)), .load false 1 (.tmp 2), [], false⟩, ⟨some 11, (some (8, false)), .bin .gtr (.tmp 9) (.tmp 10), [], false⟩, ⟨some 12, none, .pick (.tmp 8) (.const (.bool true)) (.tmp 11), [], false⟩, ⟨some 4, none, .mov (.tmp 12), [], false⟩] [4]
def k14_2 : SCode := .seq k14_1 .ret
def k14_3 : SCode := .seq k14_0 k14_2
@[simp] def rs_wire_within_1 : List SRes := [.tmp 4]
theorem law_wire_within_1 (cs : List CV) (r : CV) (hl : cs.length ≤ 13) (h : STri (cfF Tryz.prog [] 13) k14_3 (initT 0 cs) [] (retQ rs_wire_within_1 r)) : SC Tryz.prog 72 cs r :=
  sc_of [] follows Tryz.func72 rfl Tryz.ntmps72 (by decide) (by kernel_rfl) (by kernel_rfl) hl h
def k15_0 : SCode := .reg [⟨some 0, none, .mov (.const (.map none)), [], false⟩] []
def k15_1 : SCode := .reg [⟨some 1, none, .mkMap false .i64, [], false⟩, ⟨none, none, .mapUpd false .i64 (.tmp 1) (.const (.int .i64 1)) (.func 90), [], false⟩, ⟨none, none, .mapUpd false .i64 (.tmp 1) (.const (.int .i64 2)) (.func 91), [], false⟩, ⟨none, none, .mapUpd false .i64 (.tmp 1) (.const (.int .i64 3)) (.func 92), [], false⟩, ⟨none, none, .mapUpd false .i64 (.tmp 1) (.const (.int .i64 4)) (.func 93), [], false⟩, ⟨some 2, none, .mov (.tmp 1), [], false⟩, ⟨some 0, none, .mov (.tmp 2), [], false⟩] [0]
def k15_2 : SCode := .seq k15_1 .ret
def k15_3 : SCode := .seq k15_0 k15_2
@[simp] def rs_wire_kinds : List SRes := [.tmp 0]
theorem law_wire_kinds (cs : List CV) (r : CV) (hl : cs.length ≤ 3) (h : STri (cfF Tryz.prog [] 3) k15_3 (initT 0 cs) [] (retQ rs_wire_kinds r)) : SC Tryz.prog 73 cs r :=
  sc_of [] follows Tryz.func73 rfl Tryz.ntmps73 (by decide) (by kernel_rfl) (by kernel_rfl) hl h
def k16_0 : SCode := .reg [⟨some 2, none, .box 81 (.tmp 0), [], false⟩, ⟨some 4, none, .mov (.const (.int .u64 0)), [], false⟩] [1, 2, 4]
def k16_1 : SCode := .reg [⟨some 7, none, .fld 2 (.tmp 2), [], false⟩, ⟨some 8, none, .load false 1 (.tmp 7), [], false⟩, ⟨some 9, none, .len (.tmp 8), [], false⟩, ⟨some 10, none, .mov (.const (.int .i64 0)), [], false⟩] [1, 2, 4, 8, 9, 10]
def k16_2 : SCode := .reg [⟨some 11, none, .bin .lss (.tmp 10) (.tmp 9), [], false⟩] [1, 2, 4, 8, 9, 10, 11]
def k16_3 : SCode := .cond (.tmp 11) .skip (.exit 0)
def k16_4 : SCode := .reg [⟨some 12, none, .idxS 3 (.tmp 8) (.tmp 10), [], false⟩, ⟨some 13, none, .load true 3 (.tmp 12), [], false⟩, ⟨some 6, none, .alloc 43 [(.int .i64 0), (.int .i64 0), (.int .i64 0)], [], false⟩, ⟨none, none, .store 3 (.tmp 6) (.tmp 13), [], false⟩] [1, 2, 4, 6, 8, 9, 10]
def k16_5 : SCode := .reg [⟨some 14, none, .mov (.tmp 4), [], false⟩, ⟨some 15, none, .fld 0 (.tmp 6), [], false⟩, ⟨some 16, none, .load false 1 (.tmp 15), [], false⟩, ⟨some 17, none, .shift false (.tmp 14) (.tmp 16), [], false⟩, ⟨some 18, none, .bin .and (.tmp 17) (.const (.int .u64 1)), [], false⟩, ⟨some 19, none, .bin .eql (.tmp 18) (.const (.int .u64 0)), [], false⟩, ⟨some 20, none, .mov (.tmp 19), [], false⟩, ⟨some 21, (some (20, true)), .load true 5 (.tmp 2), [], false⟩, ⟨some 22, (some (20, true)), .load true 3 (.tmp 6), [], false⟩, ⟨some 23, (some (20, true)), .mov (.tmp 1), [], false⟩, ⟨some 24, (some (20, true)), .call 94 [(.tmp 21), (.tmp 22), (.tmp 23)], [], false⟩, ⟨some 25, (some (20, true)), .un .not (.tmp 24), [], false⟩, ⟨some 26, none, .pick (.tmp 20) (.tmp 25) (.const (.bool false)), [], false⟩] [1, 2, 4, 6, 8, 9, 10, 26]
def k16_6 : SCode := .reg [⟨some 27, none, .mov (.tmp 4), [], false⟩, ⟨some 28, none, .fld 0 (.tmp 6), [], false⟩, ⟨some 29, none, .load false 1 (.tmp 28), [], false⟩, ⟨some 30, none, .shift true (.const (.int .u64 1)) (.tmp 29), [], false⟩, ⟨some 31, none, .bin .or (.tmp 27) (.tmp 30), [], false⟩, ⟨some 4, none, .mov (.tmp 31), [], false⟩] [1, 2, 4, 8, 9, 10]
def k16_7 : SCode := .cond (.tmp 26) k16_6 .skip
def k16_8 : SCode := .seq k16_5 k16_7
def k16_9 : SCode := .seq k16_4 k16_8
def k16_10 : SCode := .block 1 k16_9
def k16_11 : SCode := .reg [⟨some 32, none, .bin .add (.tmp 10) (.const (.int .i64 1)), [], false⟩, ⟨some 10, none, .mov (.tmp 32), [], false⟩] [1, 2, 4, 8, 9, 10]
def k16_12 : SCode := .seq k16_10 k16_11
def k16_13 : SCode := .seq k16_3 k16_12
def k16_14 : SCode := .seq k16_2 k16_13
def k16_15 : SCode := .loop k16_14
def k16_16 : SCode := .block 0 k16_15
def k16_17 : SCode := .seq k16_1 k16_16
def k16_18 : SCode := .reg [⟨some 33, none, .mov (.tmp 4), [], false⟩, ⟨some 4, none, .mov (.tmp 33), [], false⟩] [4]
def k16_19 : SCode := .seq k16_18 .ret
def k16_20 : SCode := .seq k16_17 k16_19
def k16_21 : SCode := .seq k16_0 k16_20
@[simp] def rs_wire_book_wrong : List SRes := [.tmp 4]
theorem law_wire_book_wrong (cs : List CV) (r : CV) (hl : cs.length ≤ 34) (h : STri (cfF Tryz.prog [] 34) k16_21 (initT 0 cs) [] (retQ rs_wire_book_wrong r)) : SC Tryz.prog 74 cs r :=
  sc_of [] follows Tryz.func74 rfl Tryz.ntmps74 (by decide) (by kernel_rfl) (by kernel_rfl) hl h
def k17_0 : SCode := .reg [⟨some 1, none, .box 40 (.tmp 0), [], false⟩, ⟨some 2, none, .mov (.const .nilIface), [], false⟩] [1]
def k17_1 : SCode := .reg [⟨some 3, none, .load true 8 (.tmp 1), [], false⟩, ⟨some 4, none, .build [(.int .i64 0), (.int .i64 0), (.int .i64 0), (.int .i64 0), (.int .i64 0), (.int .i64 0), (.int .i64 0), (.slice none 0 0)] [(0, 8, (.tmp 3))], [], false⟩, ⟨some 5, none, .mkIfc 166 (.tmp 4), [], false⟩, ⟨some 2, none, .mov (.tmp 5), [], false⟩] [2]
def k17_2 : SCode := .seq k17_1 .ret
def k17_3 : SCode := .seq k17_0 k17_2
@[simp] def rs_wire_kinds_1 : List SRes := [.tmp 2]
theorem law_wire_kinds_1 (cs : List CV) (r : CV) (hl : cs.length ≤ 6) (h : STri (cfF Tryz.prog [] 6) k17_3 (initT 0 cs) [] (retQ rs_wire_kinds_1 r)) : SC Tryz.prog 90 cs r :=
  sc_of [] follows Tryz.func90 rfl Tryz.ntmps90 (by decide) (by kernel_rfl) (by kernel_rfl) hl h
def k18_0 : SCode := .reg [⟨some 1, none, .box 40 (.tmp 0), [], false⟩, ⟨some 2, none, .mov (.const .nilIface), [], false⟩] [1]
def k18_1 : SCode := .reg [⟨some 3, none, .load true 8 (.tmp 1), [], false⟩, ⟨some 4, none, .build [(.int .i64 0), (.int .i64 0), (.int .i64 0), (.int .i64 0), (.int .i64 0), (.int .i64 0), (.int .i64 0), (.slice none 0 0)] [(0, 8, (.tmp 3))], [], false⟩, ⟨some 5, none, .mkIfc 167 (.tmp 4), [], false⟩, ⟨some 2, none, .mov (.tmp 5), [], false⟩] [2]
def k18_2 : SCode := .seq k18_1 .ret
def k18_3 : SCode := .seq k18_0 k18_2
@[simp] def rs_wire_kinds_2 : List SRes := [.tmp 2]
theorem law_wire_kinds_2 (cs : List CV) (r : CV) (hl : cs.length ≤ 6) (h : STri (cfF Tryz.prog [] 6) k18_3 (initT 0 cs) [] (retQ rs_wire_kinds_2 r)) : SC Tryz.prog 91 cs r :=
  sc_of [] follows Tryz.func91 rfl Tryz.ntmps91 (by decide) (by kernel_rfl) (by kernel_rfl) hl h
def k19_0 : SCode := .reg [⟨some 1, none, .box 40 (.tmp 0), [], false⟩, ⟨some 2, none, .mov (.const .nilIface), [], false⟩] [1]
def k19_1 : SCode := .reg [⟨some 3, none, .load true 8 (.tmp 1), [], false⟩, ⟨some 4, none, .build [(.int .i64 0), (.int .i64 0), (.int .i64 0), (.int .i64 0), (.int .i64 0), (.int .i64 0), (.int .i64 0), (.slice none 0 0)] [(0, 8, (.tmp 3))], [], false⟩, ⟨some 5, none, .mkIfc 168 (.tmp 4), [], false⟩, ⟨some 2, none, .mov (.tmp 5), [], false⟩] [2]
def k19_2 : SCode := .seq k19_1 .ret
def k19_3 : SCode := .seq k19_0 k19_2
@[simp] def rs_wire_kinds_3 : List SRes := [.tmp 2]
theorem law_wire_kinds_3 (cs : List CV) (r : CV) (hl : cs.length ≤ 6) (h : STri (cfF Tryz.prog [] 6) k19_3 (initT 0 cs) [] (retQ rs_wire_kinds_3 r)) : SC Tryz.prog 92 cs r :=
  sc_of [] follows Tryz.func92 rfl Tryz.ntmps92 (by decide) (by kernel_rfl) (by kernel_rfl) hl h
def k20_0 : SCode := .reg [⟨some 1, none, .box 40 (.tmp 0), [], false⟩, ⟨some 2, none, .mov (.const .nilIface), [], false⟩] [1]
def k20_1 : SCode := .reg [⟨some 3, none, .load true 8 (.tmp 1), [], false⟩, ⟨some 4, none, .build [(.int .i64 0), (.int .i64 0), (.int .i64 0), (.int .i64 0), (.int .i64 0), (.int .i64 0), (.int .i64 0), (.slice none 0 0)] [(0, 8, (.tmp 3))], [], false⟩, ⟨some 5, none, .mkIfc 169 (.tmp 4), [], false⟩, ⟨some 2, none, .mov (.tmp 5), [], false⟩] [2]
def k20_2 : SCode := .seq k20_1 .ret
def k20_3 : SCode := .seq k20_0 k20_2
@[simp] def rs_wire_kinds_4 : List SRes := [.tmp 2]
theorem law_wire_kinds_4 (cs : List CV) (r : CV) (hl : cs.length ≤ 6) (h : STri (cfF Tryz.prog [] 6) k20_3 (initT 0 cs) [] (retQ rs_wire_kinds_4 r)) : SC Tryz.prog 93 cs r :=
  sc_of [] follows Tryz.func93 rfl Tryz.ntmps93 (by decide) (by kernel_rfl) (by kernel_rfl) hl h
def k21_0 : SCode := .reg [⟨some 4, none, .box 166 (.tmp 0), [], false⟩, ⟨some 7, none, .box 24 (.tmp 3), [], false⟩, ⟨some 8, none, .mov (.const (.bool false)), [], false⟩] [1, 2, 4, 7]
def k21_1 : SCode := .reg [⟨some 12, none, .mov (.tmp 1), [], false⟩, ⟨some 13, none, .fld 0 (.tmp 4), [], false⟩, ⟨some 14, none, .fld 3 (.tmp 13), [], false⟩, ⟨some 15, none, .load false 1 (.tmp 14), [], false⟩, ⟨some 16, none, .bin .sub (.tmp 12) (.tmp 15), [], false⟩, ⟨some 9, none, .mov (.tmp 16), [], false⟩] [1, 2, 4, 7, 9]
def k21_2 : SCode := .reg [⟨some 17, none, .fld 0 (.tmp 7), [], false⟩, ⟨some 18, none, .load false 1 (.tmp 17), [], false⟩, ⟨some 19, none, .fld 0 (.tmp 4), [], false⟩, ⟨some 20, none, .fld 4 (.tmp 19), [], false⟩, ⟨some 21, none, .fld 0 (.tmp 20), [], false⟩, ⟨some 22, none, .load false 1 (.tmp 21), [], false⟩, ⟨some 23, none, .mov (.tmp 9), [], false⟩, ⟨some 24, none, .bin .mul (.tmp 22) (.tmp 23), [], false⟩, ⟨some 25, none, .call 162 [(.tmp 24), (.const (.int .i64 86400000))], [], false⟩, ⟨some 26, none, .bin .add (.tmp 18) (.tmp 25), [], false⟩, ⟨some 10, none, .mov (.tmp 26), [], false⟩] [1, 2, 4, 7, 9, 10]
def k21_3 : SCode := .reg [⟨some 27, none, .fld 1 (.tmp 7), [], false⟩, ⟨some 28, none, .load false 1 (.tmp 27), [], false⟩, ⟨some 29, none, .fld 0 (.tmp 4), [], false⟩, ⟨some 30, none, .fld 4 (.tmp 29), [], false⟩, ⟨some 31, none, .fld 1 (.tmp 30), [], false⟩, ⟨some 32, none, .load false 1 (.tmp 31), [], false⟩, ⟨some 33, none, .mov (.tmp 9), [], false⟩, ⟨some 34, none, .bin .mul (.tmp 32) (.tmp 33), [], false⟩, ⟨some 35, none, .call 163 [(.tmp 34), (.const (.int .i64 86400000))], [], false⟩, ⟨some 36, none, .bin .add (.tmp 28) (.tmp 35), [], false⟩, ⟨some 11, none, .mov (.tmp 36), [], false⟩] [1, 2, 9, 10, 11]
def k21_4 : SCode := .reg [⟨some 37, none, .mov (.tmp 9), [], false⟩, ⟨some 38, none, .bin .geq (.tmp 37) (.const (.int .i64 0)), [], false⟩, ⟨some 39, none, .mov (.tmp 38), [], false⟩, ⟨some 40, (some (39, true)), .mov (.tmp 2), [], false⟩, ⟨some 41, (some (39, true)), .mov (.tmp 1), [], false⟩, ⟨some 42, (some (39, true)), .bin .sub (.tmp 40) (.tmp 41), [], false⟩, ⟨some 43, (some (39, true)), .mov (.tmp 10), [], false⟩, ⟨some 44, (some (39, true)), .bin .sub (.tmp 42) (.tmp 43), [], false⟩, ⟨some 45, (some (39, true)), .call 164 [(.tmp 44), (.const (.int .i64 43200))], [], false⟩, ⟨some 46, (some (39, true)), .mov (.tmp 11), [], false⟩, ⟨some 47, (some (39, true)), .mov (.tmp 10), [], false⟩, ⟨some 48, (some (39, true)), .bin .sub (.tmp 46) (.tmp 47), [], false⟩, ⟨some 49, (some (39, true)), .bin .leq (.tmp 45) (.tmp 48), [], false⟩, ⟨some 50, none, .pick (.tmp 39) (.tmp 49) (.const (.bool false)), [], false⟩, ⟨some 8, none, .mov (.tmp 50), [], false⟩] [8]
def k21_5 : SCode := .seq k21_4 .ret
def k21_6 : SCode := .seq k21_3 k21_5
def k21_7 : SCode := .seq k21_2 k21_6
def k21_8 : SCode := .seq k21_1 k21_7
def k21_9 : SCode := .seq k21_0 k21_8
@[simp] def rs_wire_clock_isRight : List SRes := [.tmp 8]
theorem law_wire_clock_isRight (cs : List CV) (r : CV) (hl : cs.length ≤ 51) (h : STri (cfF Tryz.prog [] 51) k21_9 (initT 0 cs) [] (retQ rs_wire_clock_isRight r)) : SC Tryz.prog 159 cs r :=
  sc_of [] follows Tryz.func159 rfl Tryz.ntmps159 (by decide) (by kernel_rfl) (by kernel_rfl) hl h
def k22_0 : SCode := .reg [⟨some 2, none, .box 166 (.tmp 0), [], false⟩, ⟨some 4, none, .mov (.const (.bool false)), [], false⟩] [1]
def k22_1 : SCode := .reg [⟨some 5, none, .mov (.tmp 1), [], false⟩, ⟨some 6, none, .buildSl 3 1 [(.int .i64 0)] 1 [(0, (.tmp 5))], [], false⟩, ⟨some 7, none, .call 46 [(.const (.int .i64 0)), (.const (.int .i64 43199)), (.tmp 6)], [], false⟩, ⟨some 4, none, .mov (.tmp 7), [], false⟩] [4]
def k22_2 : SCode := .seq k22_1 .ret
def k22_3 : SCode := .seq k22_0 k22_2
@[simp] def rs_wire_clock_isSaid : List SRes := [.tmp 4]
theorem law_wire_clock_isSaid (cs : List CV) (r : CV) (hl : cs.length ≤ 8) (h : STri (cfF Tryz.prog [] 8) k22_3 (initT 0 cs) [] (retQ rs_wire_clock_isSaid r)) : SC Tryz.prog 160 cs r :=
  sc_of [] follows Tryz.func160 rfl Tryz.ntmps160 (by decide) (by kernel_rfl) (by kernel_rfl) hl h
def k23_0 : SCode := .reg [⟨some 1, none, .box 166 (.tmp 0), [], false⟩, ⟨some 2, none, .mov (.const (.bool false)), [], false⟩] [1]
def k23_1 : SCode := .reg [⟨some 3, none, .fld 0 (.tmp 1), [], false⟩, ⟨some 4, none, .fld 3 (.tmp 3), [], false⟩, ⟨some 5, none, .load false 1 (.tmp 4), [], false⟩, ⟨some 6, none, .buildSl 3 1 [(.int .i64 0)] 1 [(0, (.tmp 5))], [], false⟩, ⟨some 7, none, .call 46 [(.const (.int .i64 0)), (.const (.int .i64 3155760000)), (.tmp 6)], [], false⟩, ⟨some 8, none, .mov (.tmp 7), [], false⟩, ⟨some 9, (some (8, true)), .fld 0 (.tmp 1), [], false⟩, ⟨some 10, (some (8, true)), .fld 4 (.tmp 9), [], false⟩, ⟨some 11, (some (8, true)), .load true 2 (.tmp 10), [], false⟩, ⟨some 12, (some (8, true)), .call 48 [(.tmp 11), (.const (.int .i64 100000))], [], false⟩, ⟨some 13, none, .pick (.tmp 8) (.tmp 12) (.const (.bool false)), [], false⟩, ⟨some 2, none, .mov (.tmp 13), [], false⟩] [2]
def k23_2 : SCode := .seq k23_1 .ret
def k23_3 : SCode := .seq k23_0 k23_2
@[simp] def rs_wire_clock_isValid : List SRes := [.tmp 2]
theorem law_wire_clock_isValid (cs : List CV) (r : CV) (hl : cs.length ≤ 14) (h : STri (cfF Tryz.prog [] 14) k23_3 (initT 0 cs) [] (retQ rs_wire_clock_isValid r)) : SC Tryz.prog 161 cs r :=
  sc_of [] follows Tryz.func161 rfl Tryz.ntmps161 (by decide) (by kernel_rfl) (by kernel_rfl) hl h
def k24_0 : SCode := .reg [⟨some 4, none, .mov (.const (.int .i64 0)), [], false⟩] [0, 1]
def k24_1 : SCode := .reg [⟨some 5, none, .mov (.tmp 0), [], false⟩, ⟨some 6, none, .mov (.tmp 0), [], false⟩, ⟨some 7, none, .mov (.tmp 1), [], false⟩, ⟨some 8, none, .call 164 [(.tmp 6), (.tmp 7)], [], false⟩, ⟨some 9, none, .bin .sub (.tmp 5) (.tmp 8), [], false⟩, ⟨some 10, none, .mov (.tmp 1), [], false⟩, ⟨some 11, none, .bin .quo (.tmp 9) (.tmp 10), [], false⟩, ⟨some 4, none, .mov (.tmp 11), [], false⟩] [4]
def k24_2 : SCode := .seq k24_1 .ret
def k24_3 : SCode := .seq k24_0 k24_2
@[simp] def rs_wire_down : List SRes := [.tmp 4]
theorem law_wire_down (cs : List CV) (r : CV) (hl : cs.length ≤ 12) (h : STri (cfF Tryz.prog [] 12) k24_3 (initT 0 cs) [] (retQ rs_wire_down r)) : SC Tryz.prog 162 cs r :=
  sc_of [] follows Tryz.func162 rfl Tryz.ntmps162 (by decide) (by kernel_rfl) (by kernel_rfl) hl h
def k25_0 : SCode := .reg [⟨some 4, none, .mov (.const (.int .i64 0)), [], false⟩] [0, 1]
def k25_1 : SCode := .reg [⟨some 5, none, .mov (.tmp 0), [], false⟩, ⟨some 6, none, .un .neg (.tmp 5), [], false⟩, ⟨some 7, none, .mov (.tmp 1), [], false⟩, ⟨some 8, none, .call 162 [(.tmp 6), (.tmp 7)], [], false⟩, ⟨some 9, none, .un .neg (.tmp 8), [], false⟩, ⟨some 4, none, .mov (.tmp 9), [], false⟩] [4]
def k25_2 : SCode := .seq k25_1 .ret
def k25_3 : SCode := .seq k25_0 k25_2
@[simp] def rs_wire_up : List SRes := [.tmp 4]
theorem law_wire_up (cs : List CV) (r : CV) (hl : cs.length ≤ 10) (h : STri (cfF Tryz.prog [] 10) k25_3 (initT 0 cs) [] (retQ rs_wire_up r)) : SC Tryz.prog 163 cs r :=
  sc_of [] follows Tryz.func163 rfl Tryz.ntmps163 (by decide) (by kernel_rfl) (by kernel_rfl) hl h
def k26_0 : SCode := .reg [⟨some 4, none, .mov (.const (.int .i64 0)), [], false⟩] [0, 1]
def k26_1 : SCode := .reg [⟨some 5, none, .mov (.tmp 0), [], false⟩, ⟨some 6, none, .mov (.tmp 1), [], false⟩, ⟨some 7, none, .bin .rem (.tmp 5) (.tmp 6), [], false⟩, ⟨some 8, none, .mov (.tmp 1), [], false⟩, ⟨some 9, none, .bin .add (.tmp 7) (.tmp 8), [], false⟩, ⟨some 10, none, .mov (.tmp 1), [], false⟩, ⟨some 11, none, .bin .rem (.tmp 9) (.tmp 10), [], false⟩, ⟨some 4, none, .mov (.tmp 11), [], false⟩] [4]
def k26_2 : SCode := .seq k26_1 .ret
def k26_3 : SCode := .seq k26_0 k26_2
@[simp] def rs_wire_modulo : List SRes := [.tmp 4]
theorem law_wire_modulo (cs : List CV) (r : CV) (hl : cs.length ≤ 12) (h : STri (cfF Tryz.prog [] 12) k26_3 (initT 0 cs) [] (retQ rs_wire_modulo r)) : SC Tryz.prog 164 cs r :=
  sc_of [] follows Tryz.func164 rfl Tryz.ntmps164 (by decide) (by kernel_rfl) (by kernel_rfl) hl h
def k27_0 : SCode := .reg [⟨some 4, none, .box 167 (.tmp 0), [], false⟩, ⟨some 7, none, .box 24 (.tmp 3), [], false⟩, ⟨some 8, none, .mov (.const (.bool false)), [], false⟩] [1, 4, 7]
def k27_1 : SCode := .reg [⟨some 11, none, .mov (.tmp 1), [], false⟩, ⟨some 12, none, .fld 0 (.tmp 4), [], false⟩, ⟨some 13, none, .fld 3 (.tmp 12), [], false⟩, ⟨some 14, none, .load false 1 (.tmp 13), [], false⟩, ⟨some 15, none, .bin .sub (.tmp 11) (.tmp 14), [], false⟩, ⟨some 16, none, .fld 1 (.tmp 7), [], false⟩, ⟨some 17, none, .load false 1 (.tmp 16), [], false⟩, ⟨some 18, none, .bin .sub (.tmp 15) (.tmp 17), [], false⟩, ⟨some 19, none, .fld 0 (.tmp 4), [], false⟩, ⟨some 20, none, .fld 6 (.tmp 19), [], false⟩, ⟨some 21, none, .load false 1 (.tmp 20), [], false⟩, ⟨some 22, none, .call 163 [(.tmp 18), (.tmp 21)], [], false⟩, ⟨some 23, none, .mov (.tmp 1), [], false⟩, ⟨some 24, none, .fld 0 (.tmp 4), [], false⟩, ⟨some 25, none, .fld 3 (.tmp 24), [], false⟩, ⟨some 26, none, .load false 1 (.tmp 25), [], false⟩, ⟨some 27, none, .bin .sub (.tmp 23) (.tmp 26), [], false⟩, ⟨some 28, none, .fld 0 (.tmp 7), [], false⟩, ⟨some 29, none, .load false 1 (.tmp 28), [], false⟩, ⟨some 30, none, .bin .sub (.tmp 27) (.tmp 29), [], false⟩, ⟨some 31, none, .fld 0 (.tmp 4), [], false⟩, ⟨some 32, none, .fld 6 (.tmp 31), [], false⟩, ⟨some 33, none, .load false 1 (.tmp 32), [], false⟩, ⟨some 34, none, .call 162 [(.tmp 30), (.tmp 33)], [], false⟩, ⟨some 9, none, .mov (.tmp 22), [], false⟩, ⟨some 10, none, .mov (.tmp 34), [], false⟩] [9, 10]
def k27_2 : SCode := .reg [⟨some 35, none, .mov (.tmp 9), [], false⟩, ⟨some 36, none, .max [(.const (.int .i64 0)), (.tmp 35)], [], false⟩, ⟨some 37, none, .mov (.tmp 10), [], false⟩, ⟨some 38, none, .bin .leq (.tmp 36) (.tmp 37), [], false⟩, ⟨some 8, none, .mov (.tmp 38), [], false⟩] [8]
def k27_3 : SCode := .seq k27_2 .ret
def k27_4 : SCode := .seq k27_1 k27_3
def k27_5 : SCode := .seq k27_0 k27_4
@[simp] def rs_wire_event_isRight : List SRes := [.tmp 8]
theorem law_wire_event_isRight (cs : List CV) (r : CV) (hl : cs.length ≤ 39) (h : STri (cfF Tryz.prog [] 39) k27_5 (initT 0 cs) [] (retQ rs_wire_event_isRight r)) : SC Tryz.prog 165 cs r :=
  sc_of [] follows Tryz.func165 rfl Tryz.ntmps165 (by decide) (by kernel_rfl) (by kernel_rfl) hl h
def k28_0 : SCode := .reg [⟨some 2, none, .box 167 (.tmp 0), [], false⟩, ⟨some 4, none, .mov (.const (.bool false)), [], false⟩] [1]
def k28_1 : SCode := .reg [⟨some 5, none, .build [] [], [], false⟩, ⟨some 6, none, .mov (.tmp 1), [], false⟩, ⟨some 7, none, .call 168 [(.tmp 5), (.tmp 6)], [], false⟩, ⟨some 4, none, .mov (.tmp 7), [], false⟩] [4]
def k28_2 : SCode := .seq k28_1 .ret
def k28_3 : SCode := .seq k28_0 k28_2
@[simp] def rs_wire_event_isSaid : List SRes := [.tmp 4]
theorem law_wire_event_isSaid (cs : List CV) (r : CV) (hl : cs.length ≤ 8) (h : STri (cfF Tryz.prog [] 8) k28_3 (initT 0 cs) [] (retQ rs_wire_event_isSaid r)) : SC Tryz.prog 166 cs r :=
  sc_of [] follows Tryz.func166 rfl Tryz.ntmps166 (by decide) (by kernel_rfl) (by kernel_rfl) hl h
def k29_0 : SCode := .reg [⟨some 1, none, .box 167 (.tmp 0), [], false⟩, ⟨some 2, none, .mov (.const (.bool false)), [], false⟩] [1]
def k29_1 : SCode := .reg [⟨some 3, none, .fld 0 (.tmp 1), [], false⟩, ⟨some 4, none, .fld 3 (.tmp 3), [], false⟩, ⟨some 5, none, .load false 1 (.tmp 4), [], false⟩, ⟨some 6, none, .buildSl 3 1 [(.int .i64 0)] 1 [(0, (.tmp 5))], [], false⟩, ⟨some 7, none, .call 46 [(.const (.int .i64 0)), (.const (.int .i64 3155760000)), (.tmp 6)], [], false⟩, ⟨some 8, none, .mov (.tmp 7), [], false⟩, ⟨some 9, (some (8, true)), .fld 0 (.tmp 1), [], false⟩, ⟨some 10, (some (8, true)), .fld 6 (.tmp 9), [], false⟩, ⟨some 11, (some (8, true)), .load false 1 (.tmp 10), [], false⟩, ⟨some 12, (some (8, true)), .buildSl 3 1 [(.int .i64 0)] 1 [(0, (.tmp 11))], [], false⟩, ⟨some 13, (some (8, true)), .call 46 [(.const (.int .i64 1)), (.const (.int .i64 3155760000)), (.tmp 12)], [], false⟩, ⟨some 14, none, .pick (.tmp 8) (.tmp 13) (.const (.bool false)), [], false⟩, ⟨some 2, none, .mov (.tmp 14), [], false⟩] [2]
def k29_2 : SCode := .seq k29_1 .ret
def k29_3 : SCode := .seq k29_0 k29_2
@[simp] def rs_wire_event_isValid : List SRes := [.tmp 2]
theorem law_wire_event_isValid (cs : List CV) (r : CV) (hl : cs.length ≤ 15) (h : STri (cfF Tryz.prog [] 15) k29_3 (initT 0 cs) [] (retQ rs_wire_event_isValid r)) : SC Tryz.prog 167 cs r :=
  sc_of [] follows Tryz.func167 rfl Tryz.ntmps167 (by decide) (by kernel_rfl) (by kernel_rfl) hl h
def k30_0 : SCode := .reg [⟨some 2, none, .box 222 (.tmp 0), [], false⟩, ⟨some 4, none, .mov (.const (.bool false)), [], false⟩] [1]
def k30_1 : SCode := .reg [⟨some 5, none, .mov (.tmp 1), [], false⟩, ⟨some 6, none, .bin .eql (.tmp 5) (.const (.int .i64 0)), [], false⟩, ⟨some 4, none, .mov (.tmp 6), [], false⟩] [4]
def k30_2 : SCode := .seq k30_1 .ret
def k30_3 : SCode := .seq k30_0 k30_2
@[simp] def rs_wire_nothing_isSaid : List SRes := [.tmp 4]
theorem law_wire_nothing_isSaid (cs : List CV) (r : CV) (hl : cs.length ≤ 7) (h : STri (cfF Tryz.prog [] 7) k30_3 (initT 0 cs) [] (retQ rs_wire_nothing_isSaid r)) : SC Tryz.prog 168 cs r :=
  sc_of [] follows Tryz.func168 rfl Tryz.ntmps168 (by decide) (by kernel_rfl) (by kernel_rfl) hl h
def k31_0 : SCode := .reg [⟨some 4, none, .box 168 (.tmp 0), [], false⟩, ⟨some 5, none, .box 3 (.tmp 1), [], false⟩, ⟨some 7, none, .box 24 (.tmp 3), [], false⟩, ⟨some 8, none, .alloc 4 [(.bool false)], [], false⟩] [4, 5, 7, 8]
def k31_1 : SCode := .reg [⟨some 11, none, .load true 8 (.tmp 4), [], false⟩, ⟨some 12, none, .load false 1 (.tmp 5), [], false⟩, ⟨some 13, none, .call 172 [(.tmp 11), (.tmp 12)], [], false⟩] [5, 7, 8, 13]
def k31_2 : SCode := .reg [⟨some 10, none, .mov (.tmp 15), [], false⟩] [5, 7, 8, 10]
def k31_3 : SCode := .reg [⟨some 16, none, .fld 0 (.tmp 7), [], false⟩, ⟨some 17, none, .load false 1 (.tmp 16), [], false⟩, ⟨some 18, none, .fld 1 (.tmp 7), [], false⟩, ⟨some 19, none, .load false 1 (.tmp 18), [], false⟩, ⟨some 20, none, .load false 1 (.tmp 5), [], false⟩, ⟨some 21, none, .mov (.tmp 10), [], false⟩, ⟨some 22, none, .bin .sub (.tmp 20) (.tmp 21), [], false⟩, ⟨some 23, none, .buildSl 3 1 [(.int .i64 0)] 1 [(0, (.tmp 22))], [], false⟩, ⟨some 24, none, .call 46 [(.tmp 17), (.tmp 19), (.tmp 23)], [], false⟩] [8, 24]
def k31_4 : SCode := .reg [⟨none, none, .store 1 (.tmp 8) (.const (.bool true)), [], false⟩] []
def k31_5 : SCode := .seq k31_4 .ret
def k31_6 : SCode := .cond (.tmp 24) k31_5 .skip
def k31_7 : SCode := .seq k31_3 k31_6
def k31_8 : SCode := .block 1 k31_7
def k31_9 : SCode := .range (.tmp 13) [14, 15] k31_2 k31_8
def k31_10 : SCode := .block 0 k31_9
def k31_11 : SCode := .seq k31_1 k31_10
def k31_12 : SCode := .reg [⟨none, none, .store 1 (.tmp 8) (.const (.bool false)), [], false⟩] [8]
def k31_13 : SCode := .seq k31_12 .ret
def k31_14 : SCode := .seq k31_11 k31_13
def k31_15 : SCode := .seq k31_0 k31_14
@[simp] def rs_wire_sun_isRight : List SRes := [.cell 8 false 1]
theorem law_wire_sun_isRight (cs : List CV) (r : CV) (hl : cs.length ≤ 25) (h : STri (cfF Tryz.prog [] 25) k31_15 (initT 0 cs) [] (retQ rs_wire_sun_isRight r)) : SC Tryz.prog 169 cs r :=
  sc_of [] follows Tryz.func169 rfl Tryz.ntmps169 (by decide) (by kernel_rfl) (by kernel_rfl) hl h
def k32_0 : SCode := .reg [⟨some 2, none, .box 168 (.tmp 0), [], false⟩, ⟨some 4, none, .mov (.const (.bool false)), [], false⟩] [1]
def k32_1 : SCode := .reg [⟨some 5, none, .build [] [], [], false⟩, ⟨some 6, none, .mov (.tmp 1), [], false⟩, ⟨some 7, none, .call 168 [(.tmp 5), (.tmp 6)], [], false⟩, ⟨some 4, none, .mov (.tmp 7), [], false⟩] [4]
def k32_2 : SCode := .seq k32_1 .ret
def k32_3 : SCode := .seq k32_0 k32_2
@[simp] def rs_wire_sun_isSaid : List SRes := [.tmp 4]
theorem law_wire_sun_isSaid (cs : List CV) (r : CV) (hl : cs.length ≤ 8) (h : STri (cfF Tryz.prog [] 8) k32_3 (initT 0 cs) [] (retQ rs_wire_sun_isSaid r)) : SC Tryz.prog 170 cs r :=
  sc_of [] follows Tryz.func170 rfl Tryz.ntmps170 (by decide) (by kernel_rfl) (by kernel_rfl) hl h
def k33_0 : SCode := .reg [⟨some 1, none, .box 168 (.tmp 0), [], false⟩, ⟨some 2, none, .mov (.const (.bool false)), [], false⟩] [1]
def k33_1 : SCode := .reg [⟨some 3, none, .fld 0 (.tmp 1), [], false⟩, ⟨some 4, none, .fld 7 (.tmp 3), [], false⟩, ⟨some 5, none, .load false 1 (.tmp 4), [], false⟩, ⟨some 6, none, .len (.tmp 5), [], false⟩, ⟨some 7, none, .buildSl 3 1 [(.int .i64 0)] 1 [(0, (.tmp 6))], [], false⟩, ⟨some 8, none, .call 46 [(.const (.int .i64 1)), (.const (.int .i64 366)), (.tmp 7)], [], false⟩, ⟨some 9, none, .mov (.tmp 8), [], false⟩, ⟨some 10, (some (9, true)), .fld 0 (.tmp 1), [], false⟩, ⟨some 11, (some (9, true)), .fld 7 (.tmp 10), [], false⟩, ⟨some 12, (some (9, true)), .load false 1 (.tmp 11), [], false⟩, ⟨some 13, (some (9, true)), .call 46 [(.const (.int .i64 (-3600))), (.const (.int .i64 3600)), (.tmp 12)], [], false⟩, ⟨some 14, none, .pick (.tmp 9) (.tmp 13) (.const (.bool false)), [], false⟩, ⟨some 2, none, .mov (.tmp 14), [], false⟩] [2]
def k33_2 : SCode := .seq k33_1 .ret
def k33_3 : SCode := .seq k33_0 k33_2
@[simp] def rs_wire_sun_isValid : List SRes := [.tmp 2]
theorem law_wire_sun_isValid (cs : List CV) (r : CV) (hl : cs.length ≤ 15) (h : STri (cfF Tryz.prog [] 15) k33_3 (initT 0 cs) [] (retQ rs_wire_sun_isValid r)) : SC Tryz.prog 171 cs r :=
  sc_of [] follows Tryz.func171 rfl Tryz.ntmps171 (by decide) (by kernel_rfl) (by kernel_rfl) hl h
def k34_0 : SCode := .reg [⟨some 2, none, .boxZ 168 (.tmp 0), [], false⟩, ⟨some 3, none, .boxZ 3 (.tmp 1), [], false⟩, ⟨some 4, none, .mov (.const .nilFunc), [], false⟩] [2, 3]
def k34_1 : SCode := .reg [⟨some 5, none, .mkFn 173 [] [(.tmp 3), (.tmp 2)], [], false⟩, ⟨some 4, none, .mov (.tmp 5), [], false⟩] [4]
def k34_2 : SCode := .seq k34_1 .ret
def k34_3 : SCode := .seq k34_0 k34_2
@[simp] def rs_wire_sun_days : List SRes := [.tmp 4]
theorem law_wire_sun_days (cs : List CV) (r : CV) (hl : cs.length ≤ 6) (h : STri (cfF Tryz.prog [] 6) k34_3 (initT 0 cs) [] (retQ rs_wire_sun_days r)) : SC Tryz.prog 172 cs r :=
  sc_of [] follows Tryz.func172 rfl Tryz.ntmps172 (by decide) (by kernel_rfl) (by kernel_rfl) hl h
def k35_0 : SCode := .reg [⟨some 5, none, .load false 1 (.tmp 1), [], false⟩, ⟨some 6, none, .bin .quo (.tmp 5) (.const (.int .i64 86400)), [], false⟩, ⟨some 7, none, .bin .sub (.tmp 6) (.const (.int .i64 1)), [], false⟩, ⟨some 8, none, .max [(.const (.int .i64 0)), (.tmp 7)], [], false⟩, ⟨some 4, none, .mov (.tmp 8), [], false⟩] [0, 1, 2, 4]
def k35_1 : SCode := .reg [⟨some 9, none, .mov (.tmp 4), [], false⟩, ⟨some 10, none, .load false 1 (.tmp 1), [], false⟩, ⟨some 11, none, .bin .quo (.tmp 10) (.const (.int .i64 86400)), [], false⟩, ⟨some 12, none, .bin .add (.tmp 11) (.const (.int .i64 1)), [], false⟩, ⟨some 13, none, .bin .leq (.tmp 9) (.tmp 12), [], false⟩] [0, 1, 2, 4, 13]
def k35_2 : SCode := .cond (.tmp 13) .skip (.exit 0)
def k35_3 : SCode := .seq k35_1 k35_2
def k35_4 : SCode := .reg [⟨some 16, none, .mov (.tmp 0), [], false⟩, ⟨some 17, none, .mov (.tmp 4), [], false⟩, ⟨some 18, none, .mov (.tmp 4), [], false⟩, ⟨some 19, none, .bin .mul (.tmp 18) (.const (.int .i64 86400)), [], false⟩, ⟨some 20, none, .fld 0 (.tmp 2), [], false⟩, ⟨some 21, none, .fld 7 (.tmp 20), [], false⟩, ⟨some 22, none, .load false 1 (.tmp 21), [], false⟩, ⟨some 23, none, .mov (.tmp 4), [], false⟩, ⟨some 24, none, .fld 0 (.tmp 2), [], false⟩, ⟨some 25, none, .fld 7 (.tmp 24), [], false⟩, ⟨some 26, none, .load false 1 (.tmp 25), [], false⟩, ⟨some 27, none, .len (.tmp 26), [], false⟩, ⟨some 28, none, .bin .rem (.tmp 23) (.tmp 27), [], false⟩, ⟨some 29, none, .idxS 1 (.tmp 22) (.tmp 28), [], false⟩, ⟨some 30, none, .load false 1 (.tmp 29), [], false⟩, ⟨some 31, none, .bin .add (.tmp 19) (.tmp 30), [], false⟩, ⟨some 32, none, .callV (.tmp 16) [(.tmp 17), (.tmp 31)], [], false⟩, ⟨some 33, none, .un .not (.tmp 32), [], false⟩] [0, 1, 2, 4, 33]
def k35_5 : SCode := .cond (.tmp 33) .ret .skip
def k35_6 : SCode := .seq k35_4 k35_5
def k35_7 : SCode := .block 1 k35_6
def k35_8 : SCode := .reg [⟨some 14, none, .mov (.tmp 4), [], false⟩, ⟨some 15, none, .bin .add (.tmp 14) (.const (.int .i64 1)), [], false⟩, ⟨some 4, none, .mov (.tmp 15), [], false⟩] [0, 1, 2, 4]
def k35_9 : SCode := .seq k35_7 k35_8
def k35_10 : SCode := .seq k35_3 k35_9
def k35_11 : SCode := .loop k35_10
def k35_12 : SCode := .block 0 k35_11
def k35_13 : SCode := .seq k35_0 k35_12
theorem ilaw_wire_sun_days_1 (b : Nat) (fs cs : List CV) (xs : List (List CV)) (hb2 : b + 1000 ≤ 1000000000) (hl : fs.length + 1 + cs.length ≤ 34) (h : ∀ Iv A G id, (∃ v, G (.yl id) v) → (∀ k row, xs[k]? = some row → YT Tryz.prog Iv A G id k row) → STri (cfI Tryz.prog [] 34 b Iv A G) k35_13 (initS 0 (fs.map .c ++ .yl id :: cs.map .c)) [(1000000000 + b, .gh 0 false)] (itQ b xs.length)) : IterL Tryz.prog 173 b fs cs xs :=
  iter_of [] follows Tryz.func173 rfl Tryz.ntmps173 (by decide) hb2 (by kernel_rfl) rfl hl h
def k36_0 : SCode := .reg [⟨some 4, none, .box 169 (.tmp 0), [], false⟩, ⟨some 7, none, .box 24 (.tmp 3), [], false⟩, ⟨some 8, none, .mov (.const (.bool false)), [], false⟩] [1, 2, 7]
def k36_1 : SCode := .reg [⟨some 9, none, .fld 0 (.tmp 7), [], false⟩, ⟨some 10, none, .load false 1 (.tmp 9), [], false⟩, ⟨some 11, none, .fld 1 (.tmp 7), [], false⟩, ⟨some 12, none, .load false 1 (.tmp 11), [], false⟩, ⟨some 13, none, .mov (.tmp 1), [], false⟩, ⟨some 14, none, .mov (.tmp 2), [], false⟩, ⟨some 15, none, .bin .sub (.tmp 13) (.tmp 14), [], false⟩, ⟨some 16, none, .buildSl 3 1 [(.int .i64 0)] 1 [(0, (.tmp 15))], [], false⟩, ⟨some 17, none, .call 46 [(.tmp 10), (.tmp 12), (.tmp 16)], [], false⟩, ⟨some 8, none, .mov (.tmp 17), [], false⟩] [8]
def k36_2 : SCode := .seq k36_1 .ret
def k36_3 : SCode := .seq k36_0 k36_2
@[simp] def rs_wire_signal_isRight : List SRes := [.tmp 8]
theorem law_wire_signal_isRight (cs : List CV) (r : CV) (hl : cs.length ≤ 18) (h : STri (cfF Tryz.prog [] 18) k36_3 (initT 0 cs) [] (retQ rs_wire_signal_isRight r)) : SC Tryz.prog 174 cs r :=
  sc_of [] follows Tryz.func174 rfl Tryz.ntmps174 (by decide) (by kernel_rfl) (by kernel_rfl) hl h
def k37_0 : SCode := .reg [⟨some 2, none, .box 169 (.tmp 0), [], false⟩, ⟨some 4, none, .mov (.const (.bool false)), [], false⟩] [1]
def k37_1 : SCode := .reg [⟨some 5, none, .mov (.tmp 1), [], false⟩, ⟨some 6, none, .buildSl 3 1 [(.int .i64 0)] 1 [(0, (.tmp 5))], [], false⟩, ⟨some 7, none, .call 46 [(.const (.int .i64 0)), (.const (.int .i64 3155760000)), (.tmp 6)], [], false⟩, ⟨some 4, none, .mov (.tmp 7), [], false⟩] [4]
def k37_2 : SCode := .seq k37_1 .ret
def k37_3 : SCode := .seq k37_0 k37_2
@[simp] def rs_wire_signal_isSaid : List SRes := [.tmp 4]
theorem law_wire_signal_isSaid (cs : List CV) (r : CV) (hl : cs.length ≤ 8) (h : STri (cfF Tryz.prog [] 8) k37_3 (initT 0 cs) [] (retQ rs_wire_signal_isSaid r)) : SC Tryz.prog 175 cs r :=
  sc_of [] follows Tryz.func175 rfl Tryz.ntmps175 (by decide) (by kernel_rfl) (by kernel_rfl) hl h
def k38_0 : SCode := .reg [⟨some 1, none, .box 169 (.tmp 0), [], false⟩, ⟨some 2, none, .mov (.const (.bool false)), [], false⟩] []
def k38_1 : SCode := .reg [⟨some 2, none, .mov (.const (.bool true)), [], false⟩] [2]
def k38_2 : SCode := .seq k38_1 .ret
def k38_3 : SCode := .seq k38_0 k38_2
@[simp] def rs_wire_signal_isValid : List SRes := [.tmp 2]
theorem law_wire_signal_isValid (cs : List CV) (r : CV) (hl : cs.length ≤ 3) (h : STri (cfF Tryz.prog [] 3) k38_3 (initT 0 cs) [] (retQ rs_wire_signal_isValid r)) : SC Tryz.prog 176 cs r :=
  sc_of [] follows Tryz.func176 rfl Tryz.ntmps176 (by decide) (by kernel_rfl) (by kernel_rfl) hl h
def k39_0 : SCode := .reg [⟨some 5, none, .box 24 (.tmp 2), [], false⟩, ⟨some 6, none, .mov (.const (.slice none 0 0)), [], false⟩, ⟨some 7, none, .mov (.const (.int .i64 0)), [], false⟩] [0, 1, 5]
def k39_1 : SCode := .reg [⟨some 12, none, .mov (.tmp 0), [], false⟩, ⟨some 13, none, .mov (.tmp 1), [], false⟩, ⟨some 14, none, .load true 2 (.tmp 5), [], false⟩, ⟨some 15, none, .call 24 [(.tmp 12), (.tmp 13), (.tmp 14)], [], false⟩, ⟨some 11, none, .mov (.tmp 15), [], false⟩, ⟨some 16, none, .ext (.tmp 11) 0, [], false⟩, ⟨some 17, none, .ext (.tmp 11) 1, [], false⟩, ⟨some 8, none, .alloc 81 [(.slice none 0 0), (.slice none 0 0), (.slice none 0 0), (.int .i64 0), (.int .i64 0)], [], false⟩, ⟨none, none, .store 5 (.tmp 8) (.tmp 16), [], false⟩, ⟨some 9, none, .mov (.tmp 17), [], false⟩] [8, 9]
def k39_2 : SCode := .reg [⟨some 18, none, .mov (.tmp 9), [], false⟩, ⟨some 19, none, .bin .neq (.tmp 18) (.const (.int .i64 0)), [], false⟩] [8, 9, 19]
def k39_3 : SCode := .reg [⟨some 20, none, .mov (.tmp 9), [], false⟩, ⟨some 6, none, .mov (.const (.slice none 0 0)), [], false⟩, ⟨some 7, none, .mov (.tmp 20), [], false⟩] [6, 7]
def k39_4 : SCode := .seq k39_3 .ret
def k39_5 : SCode := .cond (.tmp 19) k39_4 .skip
def k39_6 : SCode := .seq k39_2 k39_5
def k39_7 : SCode := .reg [⟨some 21, none, .load true 5 (.tmp 8), [], false⟩, ⟨some 22, none, .call 25 [(.tmp 21), (.func 26)], [], false⟩, ⟨some 10, none, .mov (.tmp 22), [], false⟩] [10]
def k39_8 : SCode := .reg [⟨some 23, none, .mov (.tmp 10), [], false⟩, ⟨some 24, none, .len (.tmp 23), [], false⟩, ⟨some 25, none, .bin .eql (.tmp 24) (.const (.int .i64 0)), [], false⟩] [10, 25]
def k39_9 : SCode := .reg [⟨some 6, none, .mov (.const (.slice none 0 0)), [], false⟩, ⟨some 7, none, .mov (.const (.int .i64 7)), [], false⟩] [6, 7]
def k39_10 : SCode := .seq k39_9 .ret
def k39_11 : SCode := .cond (.tmp 25) k39_10 .skip
def k39_12 : SCode := .seq k39_8 k39_11
def k39_13 : SCode := .reg [⟨some 26, none, .mov (.tmp 10), [], false⟩, ⟨some 6, none, .mov (.tmp 26), [], false⟩, ⟨some 7, none, .mov (.const (.int .i64 0)), [], false⟩] [6, 7]
def k39_14 : SCode := .seq k39_13 .ret
def k39_15 : SCode := .seq k39_12 k39_14
def k39_16 : SCode := .seq k39_7 k39_15
def k39_17 : SCode := .seq k39_6 k39_16
def k39_18 : SCode := .seq k39_1 k39_17
def k39_19 : SCode := .seq k39_0 k39_18
@[simp] def rs_wire_Fits : List SRes := [.tmp 6, .tmp 7]
theorem law_wire_Fits (cs : List CV) (r : CV) (hl : cs.length ≤ 27) (h : STri (cfF Tryz.prog [] 27) k39_19 (initT 0 cs) [] (retQ rs_wire_Fits r)) : SC Tryz.prog 14 cs r :=
  sc_of [] follows Tryz.func14 rfl Tryz.ntmps14 (by decide) (by kernel_rfl) (by kernel_rfl) hl h
end Go.Proofs.YtboifcengmgcaaaGreat
/- Wire, I: small functions. -/
namespace Go.Proofs.YtboifcengmgcaaaGreat
open Go.RowKit
theorem sWithin1W (n lo hi : Int) : SC Tryz.prog 72 [I n, .ref [I lo], .ref [I hi]] (B (outB lo hi n)) := by
  refine law_wire_within_1 _ _ (by simp) ?_
  unfold outB
  (repeat' (first | ((first | with_reducible refine st_skip ?_ | with_reducible refine st_exit ?_); (try simp only [seqQ, blockQ, loopQ, forQ, whileQ, reduceIte, Nat.reduceEqDiff])) | (with_reducible refine st_ret ?_; ((try simp only [seqQ, blockQ, loopQ, forQ, whileQ]); first | (with_reducible refine retM_ret ?_) | refine retQ_ret ?_; simp)) | refine st_seq ?_ | refine st_block ?_ | ((with_reducible show (STri _ _ _ _ _) ∧ (STri _ _ _ _ _)); refine And.intro ?_ ?_) | ((first | refine st_reg ?_ | refine buildP_own ?_ | refine appP_own ?_) <;> (simp -dsimp; (repeat (simp -dsimp (disch := (first | omega | assumption | (refine Bool.eq_false_iff.1 ?_; assumption))) only [wrap_in, if_pos, if_neg]; (try simp -dsimp))))) | ((first | refine guardP_of (fun hc => ?_) (fun hc => ?_) | refine st_cond rfl (fun hc => ?_) (fun hc => ?_)) <;> (try simp only [lqA, lqB, lqC, lqD, lqE, lqF, lqG, lqH, lqI, lqJ, lqK, lqL, lqM, lqN, lqO] at hc) <;> (try (exfalso; first | omega | exact bool_tf hc (by assumption) | exact bool_ft hc (by assumption) | exact absurd (by assumption) hc)) <;> (first | with_reducible show STri _ _ _ _ _ _ | (simp -dsimp [hc]; (repeat (simp -dsimp (disch := (first | omega | assumption | (refine Bool.eq_false_iff.1 ?_; assumption))) only [wrap_in, if_pos, if_neg]; (try simp -dsimp [hc]))))))))
  all_goals (refine CLe.bool ?_; rw [Bool.eq_iff_iff]; simp; try omega)
theorem sWithinW (lo hi : Int) (l : List Int) (hl : l.length ≤ 1000000) : SC Tryz.prog 46 [I lo, I hi, slI l] (B (allIn lo hi l)) := by
  refine law_wire_within _ _ (by simp) ?_
  (repeat' (first | ((first | with_reducible refine st_skip ?_ | with_reducible refine st_exit ?_); (try simp only [seqQ, blockQ, loopQ, forQ, whileQ, reduceIte, Nat.reduceEqDiff])) | (with_reducible refine st_ret ?_; ((try simp only [seqQ, blockQ, loopQ, forQ, whileQ]); first | (with_reducible refine retM_ret ?_) | refine retQ_ret ?_; simp)) | refine st_seq ?_ | refine st_block ?_ | ((with_reducible show (STri _ _ _ _ _) ∧ (STri _ _ _ _ _)); refine And.intro ?_ ?_) | ((first | refine st_reg ?_ | refine buildP_own ?_ | refine appP_own ?_ | refine callP_b (sContainsFunc l 72 [] [.ref [I lo], .ref [I hi]] (outB lo hi) hl ⟨by kernel_rfl⟩ (fun x _ => sWithin1W x lo hi)) rfl ?_) <;> (simp -dsimp; (repeat (simp -dsimp (disch := (first | omega | assumption | (refine Bool.eq_false_iff.1 ?_; assumption))) only [wrap_in, if_pos, if_neg]; (try simp -dsimp))))) | ((first | refine guardP_of (fun hc => ?_) (fun hc => ?_) | refine st_cond rfl (fun hc => ?_) (fun hc => ?_)) <;> (try simp only [lqA, lqB, lqC, lqD, lqE, lqF, lqG, lqH, lqI, lqJ, lqK, lqL, lqM, lqN, lqO] at hc) <;> (try (exfalso; first | omega | exact bool_tf hc (by assumption) | exact bool_ft hc (by assumption) | exact absurd (by assumption) hc)) <;> (first | with_reducible show STri _ _ _ _ _ _ | (simp -dsimp [hc]; (repeat (simp -dsimp (disch := (first | omega | assumption | (refine Bool.eq_false_iff.1 ?_; assumption))) only [wrap_in, if_pos, if_neg]; (try simp -dsimp [hc]))))))))
  all_goals (refine CLe.bool ?_; exact allIn_eq lo hi l)
def spanW (lo hi most : Int) : Bool := decide (-most ≤ lo) && decide (lo ≤ hi) && decide (hi ≤ most)
theorem sIsSpanW (lo hi most : Int) (h : 0 ≤ most) (h2 : most ≤ 1000000) : SC Tryz.prog 48 [.agg [I lo, I hi], I most] (B (spanW lo hi most)) := by
  refine law_wire_isSpan _ _ (by simp) ?_
  have e : (allIn (-most) most [lo, hi] && decide (lo ≤ hi)) = spanW lo hi most := by
    unfold allIn inB spanW
    rw [Bool.eq_iff_iff]; simp; omega
  (repeat' (first | ((first | with_reducible refine st_skip ?_ | with_reducible refine st_exit ?_); (try simp only [seqQ, blockQ, loopQ, forQ, whileQ, reduceIte, Nat.reduceEqDiff])) | (with_reducible refine st_ret ?_; ((try simp only [seqQ, blockQ, loopQ, forQ, whileQ]); first | (with_reducible refine retM_ret ?_) | refine retQ_ret ?_; simp)) | refine st_seq ?_ | refine st_block ?_ | ((with_reducible show (STri _ _ _ _ _) ∧ (STri _ _ _ _ _)); refine And.intro ?_ ?_) | ((first | refine st_reg ?_ | refine buildP_own ?_ | refine appP_own ?_ | refine callP_b (sWithinW (-most) most [lo, hi] (by simp)) rfl ?_) <;> (simp -dsimp; (repeat (simp -dsimp (disch := (first | omega | assumption | (refine Bool.eq_false_iff.1 ?_; assumption))) only [wrap_in, if_pos, if_neg]; (try simp -dsimp))))) | ((first | refine guardP_of (fun hc => ?_) (fun hc => ?_) | refine st_cond rfl (fun hc => ?_) (fun hc => ?_)) <;> (try simp only [lqA, lqB, lqC, lqD, lqE, lqF, lqG, lqH, lqI, lqJ, lqK, lqL, lqM, lqN, lqO] at hc) <;> (try (exfalso; first | omega | exact bool_tf hc (by assumption) | exact bool_ft hc (by assumption) | exact absurd (by assumption) hc)) <;> (first | with_reducible show STri _ _ _ _ _ _ | (simp -dsimp [hc]; (repeat (simp -dsimp (disch := (first | omega | assumption | (refine Bool.eq_false_iff.1 ?_; assumption))) only [wrap_in, if_pos, if_neg]; (try simp -dsimp [hc]))))))))
  all_goals (refine CLe.bool ?_; simp_all)
theorem sModuloW (n b : Int) (h3 : 0 < b) (h4 : b ≤ 1000000000000) : SC Tryz.prog 164 [I n, I b] (I (n % b)) := by
  refine law_wire_modulo _ _ (by simp) ?_
  have hne : ¬ b = 0 := by omega
  have hb : IntKind.i64.wrap (n.tmod b + b) = n.tmod b + b := by
    have := tmod_lt n b h3
    exact wrap_in _ (by omega) (by omega)
  have he := mod_eq n b h3
  (repeat' (first | ((first | with_reducible refine st_skip ?_ | with_reducible refine st_exit ?_); (try simp only [seqQ, blockQ, loopQ, forQ, whileQ, reduceIte, Nat.reduceEqDiff])) | (with_reducible refine st_ret ?_; ((try simp only [seqQ, blockQ, loopQ, forQ, whileQ]); first | (with_reducible refine retM_ret ?_) | refine retQ_ret ?_; simp [hne, hb, he])) | refine st_seq ?_ | refine st_block ?_ | ((with_reducible show (STri _ _ _ _ _) ∧ (STri _ _ _ _ _)); refine And.intro ?_ ?_) | ((first | refine st_reg ?_ | refine buildP_own ?_ | refine appP_own ?_) <;> (simp -dsimp [hne, hb, he]; (repeat (simp -dsimp (disch := (first | omega | assumption | (refine Bool.eq_false_iff.1 ?_; assumption))) only [wrap_in, if_pos, if_neg]; (try simp -dsimp [hne, hb, he]))))) | ((first | refine guardP_of (fun hc => ?_) (fun hc => ?_) | refine st_cond rfl (fun hc => ?_) (fun hc => ?_)) <;> (try simp only [lqA, lqB, lqC, lqD, lqE, lqF, lqG, lqH, lqI, lqJ, lqK, lqL, lqM, lqN, lqO] at hc) <;> (try (exfalso; first | omega | exact bool_tf hc (by assumption) | exact bool_ft hc (by assumption) | exact absurd (by assumption) hc)) <;> (first | with_reducible show STri _ _ _ _ _ _ | (simp -dsimp [hne, hb, he, hc]; (repeat (simp -dsimp (disch := (first | omega | assumption | (refine Bool.eq_false_iff.1 ?_; assumption))) only [wrap_in, if_pos, if_neg]; (try simp -dsimp [hne, hb, he, hc]))))))))
  exact .refl _
theorem sDownW (n b : Int) (h1 : -1000000000000000000 ≤ n) (h2 : n ≤ 1000000000000000000) (h3 : 0 < b) (h4 : b ≤ 1000000000000) : SC Tryz.prog 162 [I n, I b] (I (n / b)) := by
  refine law_wire_down _ _ (by simp) ?_
  have hne : ¬ b = 0 := by omega
  have h5 := Int.emod_nonneg n (show b ≠ 0 by omega)
  have h6 := Int.emod_lt_of_pos n h3
  have h7 : (n - n % b).tdiv b = n / b := by
    have e : n - n % b = b * (n / b) := by have := Int.emod_add_mul_ediv n b; omega
    rw [e, Int.mul_tdiv_cancel_left _ hne]
  have h8 : IntKind.i64.wrap (n / b) = n / b := by
    have e := Int.natAbs_tdiv_le_natAbs (n - n % b) b
    rw [h7] at e
    exact wrap_in _ (by omega) (by omega)
  (repeat' (first | ((first | with_reducible refine st_skip ?_ | with_reducible refine st_exit ?_); (try simp only [seqQ, blockQ, loopQ, forQ, whileQ, reduceIte, Nat.reduceEqDiff])) | (with_reducible refine st_ret ?_; ((try simp only [seqQ, blockQ, loopQ, forQ, whileQ]); first | (with_reducible refine retM_ret ?_) | refine retQ_ret ?_; simp [hne, h7, h8])) | refine st_seq ?_ | refine st_block ?_ | ((with_reducible show (STri _ _ _ _ _) ∧ (STri _ _ _ _ _)); refine And.intro ?_ ?_) | ((first | refine st_reg ?_ | refine buildP_own ?_ | refine appP_own ?_ | refine callP_b (sModuloW n b h3 h4) rfl ?_) <;> (simp -dsimp [hne, h7, h8]; (repeat (simp -dsimp (disch := (first | omega | assumption | (refine Bool.eq_false_iff.1 ?_; assumption))) only [wrap_in, if_pos, if_neg]; (try simp -dsimp [hne, h7, h8]))))) | ((first | refine guardP_of (fun hc => ?_) (fun hc => ?_) | refine st_cond rfl (fun hc => ?_) (fun hc => ?_)) <;> (try simp only [lqA, lqB, lqC, lqD, lqE, lqF, lqG, lqH, lqI, lqJ, lqK, lqL, lqM, lqN, lqO] at hc) <;> (try (exfalso; first | omega | exact bool_tf hc (by assumption) | exact bool_ft hc (by assumption) | exact absurd (by assumption) hc)) <;> (first | with_reducible show STri _ _ _ _ _ _ | (simp -dsimp [hne, h7, h8, hc]; (repeat (simp -dsimp (disch := (first | omega | assumption | (refine Bool.eq_false_iff.1 ?_; assumption))) only [wrap_in, if_pos, if_neg]; (try simp -dsimp [hne, h7, h8, hc]))))))))
  exact .refl _
def upI (n b : Int) : Int := -(-n / b)
theorem sUpW (n b : Int) (h1 : -1000000000000000000 ≤ n) (h2 : n ≤ 1000000000000000000) (h3 : 0 < b) (h4 : b ≤ 1000000000000) : SC Tryz.prog 163 [I n, I b] (I (upI n b)) := by
  refine law_wire_up _ _ (by simp) ?_
  unfold upI
  have e := Int.natAbs_ediv_le_natAbs (-n) b
  (repeat' (first | ((first | with_reducible refine st_skip ?_ | with_reducible refine st_exit ?_); (try simp only [seqQ, blockQ, loopQ, forQ, whileQ, reduceIte, Nat.reduceEqDiff])) | (with_reducible refine st_ret ?_; ((try simp only [seqQ, blockQ, loopQ, forQ, whileQ]); first | (with_reducible refine retM_ret ?_) | refine retQ_ret ?_; simp)) | refine st_seq ?_ | refine st_block ?_ | ((with_reducible show (STri _ _ _ _ _) ∧ (STri _ _ _ _ _)); refine And.intro ?_ ?_) | ((first | refine st_reg ?_ | refine buildP_own ?_ | refine appP_own ?_ | refine callP_b (sDownW (-n) b (by omega) (by omega) h3 h4) rfl ?_) <;> (simp -dsimp; (repeat (simp -dsimp (disch := (first | omega | assumption | (refine Bool.eq_false_iff.1 ?_; assumption))) only [wrap_in, if_pos, if_neg]; (try simp -dsimp))))) | ((first | refine guardP_of (fun hc => ?_) (fun hc => ?_) | refine st_cond rfl (fun hc => ?_) (fun hc => ?_)) <;> (try simp only [lqA, lqB, lqC, lqD, lqE, lqF, lqG, lqH, lqI, lqJ, lqK, lqL, lqM, lqN, lqO] at hc) <;> (try (exfalso; first | omega | exact bool_tf hc (by assumption) | exact bool_ft hc (by assumption) | exact absurd (by assumption) hc)) <;> (first | with_reducible show STri _ _ _ _ _ _ | (simp -dsimp [hc]; (repeat (simp -dsimp (disch := (first | omega | assumption | (refine Bool.eq_false_iff.1 ?_; assumption))) only [wrap_in, if_pos, if_neg]; (try simp -dsimp [hc]))))))))
  exact .refl _
end Go.Proofs.YtboifcengmgcaaaGreat
