/- Part 4 of a proof: Tri2, ShT. -/
import Derived.Test.YtdgplebmlggmcaaJ3
import Derived.Test.YtdgplebmlggmcaaRows
set_option linter.unusedSimpArgs false
set_option linter.unusedVariables false
/- The shadow's code, II: less is known; nil; functions. -/
namespace Go.Proofs.Ytdgplebmlggmcaa
open Go.RowKit

mutual
def SV.inD (D : List Nat) : SV → Bool
  | .own id _ | .ptr id _ | .pow id _ _ _ => D.contains id
  | .agg xs | .tup xs => inDL D xs
  | .fn _ a b => inDL D a && inDL D b
  | _ => true
def inDL (D : List Nat) : List SV → Bool
  | [] => true
  | x :: xs => x.inD D && inDL D xs
end

theorem inDL_get {D : List Nat} : ∀ {xs : List SV}, inDL D xs = true → ∀ (i : Nat) x, xs[i]? = some x → x.inD D = true
  | [], _, i, x, hx => by simp at hx
  | y :: ys, h, i, x, hx => by
    simp only [inDL, Bool.and_eq_true] at h
    cases i with
    | zero => simp at hx; subst hx; exact h.1
    | succ i => exact inDL_get h.2 i x (by simpa using hx)

/-- Fewer blocks. -/
theorem RepS.less {w : World} {NA : Nat → Prop} {ρ : Nat → Option Nat} {H H' : Nat → Option Blk} {D : List Nat} (hs : ∀ id B, H' id = some B → H id = some B) (hD : ∀ id B, H id = some B → id ∈ D → H' id = some B) {x : SV} {v : Value}
    (h : RepS w NA ρ H x v) (hx : x.inD D = true) : RepS w NA ρ H' x v := by
  have calm : Calm w (Mut NA ρ H) w (Mut NA ρ H') := ⟨Nat.le_refl _, fun b _ hn => ⟨rfl, fun hm => by
    rcases hm with hm | ⟨i, h1, h2⟩
    · exact hn (.inl hm)
    · cases hB : H' i with
      | none => exact h1 hB
      | some B => exact hn (.inr ⟨i, by rw [hs i B hB]; simp, h2⟩)⟩⟩
  induction h with
  | c x v r => exact .c x v (r.move calm)
  | agg xs vs h1 _ ih => exact .agg xs vs h1 (fun i x v hx' hv => ih i x v hx' hv (inDL_get (by simpa [SV.inD] using hx) i x hx'))
  | tup xs vs h1 _ ih => exact .tup xs vs h1 (fun i x v hx' hv => ih i x v hx' hv (inDL_get (by simpa [SV.inD] using hx) i x hx'))
  | own id len t k rows v hH hl ho hv => exact .own id len t k rows v (hD id _ hH (by simpa [SV.inD] using hx)) hl ho hv
  | ptrB id j t cells b hH hb => exact .ptrB id j t cells b (hD id _ hH (by simpa [SV.inD] using hx)) hb
  | ptrA id len i j t k rows v hH hl ho hv => exact .ptrA id len i j t k rows v (hD id _ hH (by simpa [SV.inD] using hx)) hl ho hv
  | pel k rows i j b off c hc hi => exact .pel k rows i j b off c (hc.move calm) hi
  | fn f fs cs vf vc h1 h2 _ _ ih1 ih2 =>
    simp only [SV.inD, Bool.and_eq_true] at hx
    exact .fn f fs cs vf vc h1 h2 (fun i x v hx' hv => ih1 i x v hx' hv (inDL_get hx.1 i x hx')) (fun i x v hx' hv => ih2 i x v hx' hv (inDL_get hx.2 i x hx'))
  | dead v => exact .dead v

def Blk.inD (D : List Nat) : Blk → Bool
  | .box _ cs => inDL D cs
  | .arr .. => true

/-- What is kept of a state. -/
def LessT (D : List Nat) (T : TL) : TL → Prop
  | [] => True
  | (i, x) :: r => lookT T i = x ∧ x.inD D = true ∧ LessT D T r
def LessH (D : List Nat) (H : HL) : HL → Prop
  | [] => True
  | (id, B) :: r => lookH H id = some B ∧ B.inD D = true ∧ LessH D H r
def Less (T : TL) (H : HL) (T' : TL) (H' : HL) : Prop := LessT (H'.map (·.1)) T T' ∧ LessH (H'.map (·.1)) H H'

theorem LessT.get {D : List Nat} {T : TL} : ∀ {T' : TL}, LessT D T T' → ∀ i, lookT T' i = .dead ∨ (lookT T' i = lookT T i ∧ (lookT T' i).inD D = true)
  | [], _, i => .inl rfl
  | (j, x) :: r, h, i => by
    obtain ⟨h1, h2, h3⟩ := h
    by_cases hi : i = j
    · subst hi; right; simp [lookT, h1, h2]
    · simp only [lookT, if_neg hi]; exact LessT.get h3 i
theorem LessH.get {D : List Nat} {H : HL} : ∀ {H' : HL}, LessH D H H' → ∀ i B, lookH H' i = some B → lookH H i = some B ∧ B.inD D = true
  | [], _, i, B, h => by simp [lookH] at h
  | (j, C) :: r, h, i, B, hB => by
    obtain ⟨h1, h2, h3⟩ := h
    by_cases hi : i = j
    · subst hi; simp [lookH] at hB; subst hB; exact ⟨h1, h2⟩
    · simp only [lookH, if_neg hi] at hB; exact LessH.get h3 i B hB
theorem lookH_mem {H : HL} {i : Nat} : i ∈ H.map (·.1) → ∃ B, lookH H i = some B := by
  induction H with
  | nil => intro h; simp at h
  | cons p r ih =>
    obtain ⟨j, C⟩ := p
    intro h
    by_cases hi : i = j
    · exact ⟨C, by simp [lookH, hi]⟩
    · simp only [List.map_cons, List.mem_cons] at h
      obtain ⟨B, hB⟩ := ih (h.resolve_left hi)
      exact ⟨B, by simp [lookH, hi, hB]⟩

theorem less_rep {T : TL} {H : HL} {T' : TL} {H' : HL} (hl : Less T H T' H') {w0 : World} {N0 NA : Nat → Prop} {n : Nat} {a : Act} {w : World} (h : RepSt w0 N0 NA n (lookT T) (lookH H) a w) : RepSt w0 N0 NA n (lookT T') (lookH H') a w := by
  obtain ⟨ρ, q1, q2⟩ := h.rep
  have hs : ∀ id B, lookH H' id = some B → lookH H id = some B := fun id B hB => (hl.2.get id B hB).1
  have hD : ∀ id B, lookH H id = some B → id ∈ H'.map (·.1) → lookH H' id = some B := fun id B hB hm => by
    obtain ⟨B', hB'⟩ := lookH_mem hm
    have := hs id B' hB'
    rw [hB] at this; cases this; exact hB'
  have hne : ∀ id, lookH H' id ≠ none → lookH H id ≠ none := fun id hn => by
    cases hB : lookH H' id with
    | none => exact absurd hB hn
    | some B => rw [hs id B hB]; simp
  have calm : Calm w (Mut NA ρ (lookH H)) w (Mut NA ρ (lookH H')) := ⟨Nat.le_refl _, fun b _ hn => ⟨rfl, fun hm => by
    rcases hm with hm | ⟨i, h1, h2⟩
    · exact hn (.inl hm)
    · exact hn (.inr ⟨i, hne i h1, h2⟩)⟩⟩
  refine ⟨h.size, h.defs, h.na, ρ, ⟨fun i j b h1 h2 => q1.inj i j b (hne i h1) (hne j h2), fun id B hB => ?_, q1.fr, fun b hb => q1.low b ?_⟩, fun i => ?_⟩
  · have hr := q1.blk id B (hs id B hB)
    cases B with
    | box t cells =>
      obtain ⟨b, cs, e1, e2, e3, e4⟩ := hr
      have hin : inDL (H'.map (·.1)) cells = true := (hl.2.get id _ hB).2
      exact ⟨b, cs, e1, e2, e3, fun j x v hx hv => (e4 j x v hx hv).less hs hD (inDL_get hin j x hx)⟩
    | arr t k rows =>
      rcases hr with ⟨e1, e2⟩ | ⟨b, cs, cap, e1, e2, e3, e4, e5, e6, e7⟩
      · exact .inl ⟨e1, e2⟩
      · exact .inr ⟨b, cs, cap, e1, e2, e3, e4, e5, e6, fun j row m x hr hx => by
          obtain ⟨v, hv1, hv2⟩ := e7 j row m x hr hx
          exact ⟨v, hv1, hv2.move calm⟩⟩
  · obtain ⟨i, h1, h2⟩ := hb
    exact ⟨i, hne i h1, h2⟩
  · rcases hl.1.get i with h1 | ⟨h1, h2⟩
    · rw [h1]; exact .dead _
    · have := q2 i
      rw [← h1] at this
      exact this.less hs hD h2

theorem st_less {P : Program} {n : Nat} {sc : SCode} {T : TL} {H : HL} {Q : Exit → TL → HL → Prop} (T' : TL) (H' : HL) (hl : Less T H T' H') (h : STri P n sc T' H' Q) : STri P n sc T H Q :=
  st_weak (fun _ _ _ _ _ hr => less_rep hl hr) h

/-- Own slices that become closed values; their blocks are let go. -/
def ClosT (D : List Nat) (T : TL) (H : HL) : TL → Prop
  | [] => True
  | (i, x) :: r => ((lookT T i = x ∧ x.inD D = true) ∨ ∃ id t k rows, lookT T i = .own id rows.length ∧ lookH H id = some (.arr t k rows) ∧ id ∉ D ∧ x = .c (.sl k rows)) ∧ ClosT D T H r
theorem ClosT.get {D : List Nat} {T : TL} {H : HL} : ∀ {T' : TL}, ClosT D T H T' → ∀ i, lookT T' i = .dead ∨ (lookT T' i = lookT T i ∧ (lookT T' i).inD D = true) ∨ ∃ id t k rows, lookT T i = .own id rows.length ∧ lookH H id = some (.arr t k rows) ∧ id ∉ D ∧ lookT T' i = .c (.sl k rows)
  | [], _, i => .inl rfl
  | (j, x) :: r, h, i => by
    obtain ⟨h1, h3⟩ := h
    by_cases hi : i = j
    · subst hi
      right
      rcases h1 with ⟨h1, h2⟩ | ⟨id, t, k, rows, e1, e2, e3, e4⟩
      · left; simp [lookT, h1, h2]
      · right; exact ⟨id, t, k, rows, e1, e2, e3, by simp [lookT, e4]⟩
    · simp only [lookT, if_neg hi]; exact ClosT.get h3 i
theorem mem_lookH {H : HL} {i : Nat} (h : lookH H i ≠ none) : i ∈ H.map (·.1) := by
  induction H with
  | nil => exact absurd rfl h
  | cons p r ih =>
    obtain ⟨j, C⟩ := p
    by_cases hi : i = j
    · simp [hi]
    · simp only [lookH, if_neg hi] at h
      simp only [List.map_cons, List.mem_cons]; exact .inr (ih h)

theorem close_rep {T : TL} {H : HL} {T' : TL} {H' : HL} (hl1 : ClosT (H'.map (·.1)) T H T') (hl2 : LessH (H'.map (·.1)) H H') {w0 : World} {N0 NA : Nat → Prop} {n : Nat} {a : Act} {w : World} (h : RepSt w0 N0 NA n (lookT T) (lookH H) a w) : RepSt w0 N0 NA n (lookT T') (lookH H') a w := by
  obtain ⟨ρ, q1, q2⟩ := h.rep
  have hs : ∀ id B, lookH H' id = some B → lookH H id = some B := fun id B hB => (hl2.get id B hB).1
  have hD : ∀ id B, lookH H id = some B → id ∈ H'.map (·.1) → lookH H' id = some B := fun id B hB hm => by
    obtain ⟨B', hB'⟩ := lookH_mem hm
    have := hs id B' hB'
    rw [hB] at this; cases this; exact hB'
  have hne : ∀ id, lookH H' id ≠ none → lookH H id ≠ none := fun id hn => by
    cases hB : lookH H' id with
    | none => exact absurd hB hn
    | some B => rw [hs id B hB]; simp
  have calm : Calm w (Mut NA ρ (lookH H)) w (Mut NA ρ (lookH H')) := ⟨Nat.le_refl _, fun b _ hn => ⟨rfl, fun hm => by
    rcases hm with hm | ⟨i, h1, h2⟩
    · exact hn (.inl hm)
    · exact hn (.inr ⟨i, hne i h1, h2⟩)⟩⟩
  refine ⟨h.size, h.defs, h.na, ρ, ⟨fun i j b h1 h2 => q1.inj i j b (hne i h1) (hne j h2), fun id B hB => ?_, q1.fr, fun b hb => q1.low b ?_⟩, fun i => ?_⟩
  · have hr := q1.blk id B (hs id B hB)
    cases B with
    | box t cells =>
      obtain ⟨b, cs, e1, e2, e3, e4⟩ := hr
      have hin : inDL (H'.map (·.1)) cells = true := (hl2.get id _ hB).2
      exact ⟨b, cs, e1, e2, e3, fun j x v hx hv => (e4 j x v hx hv).less hs hD (inDL_get hin j x hx)⟩
    | arr t k rows =>
      rcases hr with ⟨e1, e2⟩ | ⟨b, cs, cap, e1, e2, e3, e4, e5, e6, e7⟩
      · exact .inl ⟨e1, e2⟩
      · exact .inr ⟨b, cs, cap, e1, e2, e3, e4, e5, e6, fun j row m x hr hx => by
          obtain ⟨v, hv1, hv2⟩ := e7 j row m x hr hx
          exact ⟨v, hv1, hv2.move calm⟩⟩
  · obtain ⟨i, h1, h2⟩ := hb
    exact ⟨i, hne i h1, h2⟩
  · rcases hl1.get i with h1 | ⟨h1, h2⟩ | ⟨id, t, k, rows, e1, e2, e3, e4⟩
    · rw [h1]; exact .dead _
    · have := q2 i
      rw [← h1] at this
      exact this.less hs hD h2
    · have hi := q2 i
      rw [e1] at hi
      rw [e4]
      generalize a.tmps.getD i undef = v at hi ⊢
      cases hi with
      | own _ _ t' k' rows' _ hH hl ho hv =>
        rw [e2] at hH; cases hH
        rcases hv rfl with ⟨q0, q1', rfl⟩ | ⟨b, cap, cs, t2, p1, rfl, p3, p4, p5, p6⟩
        · have : rows = [] := List.length_eq_zero_iff.1 q1'
          subst this; exact .c _ _ (.nil k none 0 (Nat.zero_le _))
        · rcases q1.blk id _ e2 with ⟨g1, _⟩ | ⟨b', cs', cap', g1, g2, g3, g4, g5, g6, g7⟩
          · rw [p1] at g1; cases g1
          · rw [p1] at g1; cases g1
            rw [p3] at g2; cases g2
            have hown : Own ρ (lookH H) b := ⟨id, by rw [e2]; simp, p1⟩
            refine .c _ _ (.sl k rows b 0 cap (fun j i => cs.getD (j * k + i) undef) p5 p6 (q1.lt hown) (fun hm => ?_) g6 (fun j row i x hj hx => ?_) (fun j row i x hj hx => ?_))
            · rcases hm with hm | ⟨j, z1, z2⟩
              · obtain ⟨y1, y2⟩ := h.na b hm
                exact y2 (q1.low b hown y1)
              · have := q1.inj j id b (hne j z1) (by rw [e2]; simp) z2 p1
                subst this
                exact e3 (mem_lookH z1)
            · obtain ⟨v, hv1, _⟩ := g7 j row i x hj hx
              rw [Nat.zero_add, cell_of_row w b (j * k + i) cs _ (0, 0) p3]
              simp [hv1]
            · obtain ⟨v, hv1, hv2⟩ := g7 j row i x hj hx
              have : cs.getD (j * k + i) undef = v := by simp [hv1]
              rw [this]; exact hv2.move calm

theorem st_close {P : Program} {n : Nat} {sc : SCode} {T : TL} {H : HL} {Q : Exit → TL → HL → Prop} (T' : TL) (H' : HL) (hl1 : ClosT (H'.map (·.1)) T H T') (hl2 : LessH (H'.map (·.1)) H H') (h : STri P n sc T' H' Q) : STri P n sc T H Q :=
  st_weak (fun _ _ _ _ _ hr => close_rep hl1 hl2 hr) h

def keepH (hk : List Nat) (H : HL) : HL := hk.filterMap fun i => (lookH H i).map fun B => (i, B)
def lessOK (hk : List Nat) (T : TL) (H : HL) : Bool := T.all (fun p => p.2.inD hk) && hk.all fun i => match lookH H i with
  | some B => B.inD hk
  | none => false

theorem keepH_keys {H : HL} : ∀ {hk : List Nat}, (hk.all fun i => (lookH H i).isSome) = true → (keepH hk H).map (·.1) = hk
  | [], _ => rfl
  | i :: hk, h => by
    simp only [List.all_cons, Bool.and_eq_true] at h
    obtain ⟨B, hB⟩ := Option.isSome_iff_exists.1 h.1
    have := keepH_keys (H := H) (hk := hk) h.2
    simp [keepH, hB] at this ⊢
    exact this

theorem less_keep {hk : List Nat} {T : TL} {H : HL} (h : lessOK hk T H = true) : (∀ i, lookT T i = .dead ∨ (lookT T i).inD ((keepH hk H).map (·.1)) = true) ∧ LessH ((keepH hk H).map (·.1)) H (keepH hk H) := by
  unfold lessOK at h
  rw [Bool.and_eq_true, List.all_eq_true, List.all_eq_true] at h
  obtain ⟨h1, h2⟩ := h
  have hk1 : (keepH hk H).map (·.1) = hk := keepH_keys (by
    rw [List.all_eq_true]
    intro i hi
    have := h2 i hi
    split at this
    · rename_i B hB; simp [hB]
    · cases this)
  rw [hk1]
  refine ⟨fun i => ?_, ?_⟩
  · clear h2 hk1
    induction T with
    | nil => exact .inl rfl
    | cons p r ih =>
      obtain ⟨j, x⟩ := p
      by_cases hi : i = j
      · right; simp only [lookT, if_pos hi]; exact h1 (j, x) (by simp)
      · simp only [lookT, if_neg hi]; exact ih (fun q hq => h1 q (by simp [hq]))
  · have key : ∀ l : List Nat, (∀ i ∈ l, i ∈ hk) → LessH hk H (l.filterMap fun i => (lookH H i).map fun B => (i, B)) := by
      intro l
      induction l with
      | nil => intro _; trivial
      | cons i l ih =>
        intro hl
        have hh := h2 i (hl i (by simp))
        split at hh
        · rename_i B hB
          simp only [List.filterMap_cons, hB, Option.map_some]
          exact ⟨hB, hh, ih (fun j hj => hl j (by simp [hj]))⟩
        · cases hh
    exact key hk (fun i hi => hi)

theorem keep_rep {hk : List Nat} {T : TL} {H : HL} (hl : lessOK hk T H = true) {w0 : World} {N0 NA : Nat → Prop} {n : Nat} {a : Act} {w : World} (h : RepSt w0 N0 NA n (lookT T) (lookH H) a w) : RepSt w0 N0 NA n (lookT T) (lookH (keepH hk H)) a w := by
  obtain ⟨h1, h2⟩ := less_keep hl
  have hz := less_rep (T := T) (H := H) (T' := []) (H' := keepH hk H) ⟨trivial, h2⟩ h
  obtain ⟨ρ, q1, q2⟩ := h.rep
  have hs : ∀ id B, lookH (keepH hk H) id = some B → lookH H id = some B := fun id B hB => (h2.get id B hB).1
  have hD : ∀ id B, lookH H id = some B → id ∈ (keepH hk H).map (·.1) → lookH (keepH hk H) id = some B := fun id B hB hm => by
    obtain ⟨B', hB'⟩ := lookH_mem hm
    have := hs id B' hB'
    rw [hB] at this; cases this; exact hB'
  have hne : ∀ id, lookH (keepH hk H) id ≠ none → lookH H id ≠ none := fun id hn => by
    cases hB : lookH (keepH hk H) id with
    | none => exact absurd hB hn
    | some B => rw [hs id B hB]; simp
  have calm : Calm w (Mut NA ρ (lookH H)) w (Mut NA ρ (lookH (keepH hk H))) := ⟨Nat.le_refl _, fun b _ hn => ⟨rfl, fun hm => by
    rcases hm with hm | ⟨i, h1, h2⟩
    · exact hn (.inl hm)
    · exact hn (.inr ⟨i, hne i h1, h2⟩)⟩⟩
  refine ⟨h.size, h.defs, h.na, ρ, ⟨fun i j b h1 h2 => q1.inj i j b (hne i h1) (hne j h2), fun id B hB => ?_, q1.fr, fun b hb => q1.low b ?_⟩, fun i => ?_⟩
  · have hr := q1.blk id B (hs id B hB)
    cases B with
    | box t cells =>
      obtain ⟨b, cs, e1, e2, e3, e4⟩ := hr
      have hin : inDL ((keepH hk H).map (·.1)) cells = true := (h2.get id _ hB).2
      exact ⟨b, cs, e1, e2, e3, fun j x v hx hv => (e4 j x v hx hv).less hs hD (inDL_get hin j x hx)⟩
    | arr t k rows =>
      rcases hr with ⟨e1, e2⟩ | ⟨b, cs, cap, e1, e2, e3, e4, e5, e6, e7⟩
      · exact .inl ⟨e1, e2⟩
      · exact .inr ⟨b, cs, cap, e1, e2, e3, e4, e5, e6, fun j row m x hr hx => by
          obtain ⟨v, hv1, hv2⟩ := e7 j row m x hr hx
          exact ⟨v, hv1, hv2.move calm⟩⟩
  · obtain ⟨i, h1, h2⟩ := hb
    exact ⟨i, hne i h1, h2⟩
  · rcases h1 i with h1 | h1
    · rw [h1]; exact .dead _
    · exact (q2 i).less hs hD h1

/-- The blocks are dropped but some. -/
theorem st_keep {P : Program} {n : Nat} {sc : SCode} {T : TL} {H : HL} {Q : Exit → TL → HL → Prop} (hk : List Nat) (hl : lessOK hk T H = true) (h : STri P n sc T (keepH hk H) Q) : STri P n sc T H Q :=
  st_weak (fun _ _ _ _ _ hr => keep_rep hl hr) h

def whileQ (hk : List Nat) (I : Nat → TL → HL → Prop) (m : Nat) (Q : Exit → TL → HL → Prop) : Exit → TL → HL → Prop
  | .normal, T, H => ∃ m', m' < m ∧ lessOK hk T H = true ∧ I m' T (keepH hk H)
  | e, T, H => Q e T H

/-- A loop: what holds at each round's head, and a number that goes down; the blocks hk are kept. -/
theorem st_while {P : Program} {n : Nat} {A : SCode} {T : TL} {H : HL} {Q : Exit → TL → HL → Prop} (hk : List Nat) (I : Nat → TL → HL → Prop) (m0 : Nat) (hl : lessOK hk T H = true) (h0 : I m0 T (keepH hk H)) (hr : ∀ m T H, I m T H → STri P n A T H (whileQ hk I m Q)) :
    STri P n (.loop A) T H Q := by
  refine st_keep hk hl ?_
  refine st_loop (fun m T H => ∃ H', lessOK hk T H' = true ∧ H = H' ∧ I m T (keepH hk H') ∨ (H = H' ∧ I m T H')) ⟨keepH hk H, .inr ⟨rfl, h0⟩⟩ (m0 := m0) ?_
  rintro m T H ⟨H', ⟨h1, rfl, h3⟩ | ⟨rfl, h3⟩⟩
  · refine st_keep hk h1 ((hr m T _ h3).mono fun e T H h => ?_)
    cases e with
    | normal =>
      obtain ⟨m', h1, h2, h3⟩ := h
      exact ⟨m', h1, H, .inl ⟨h2, rfl, h3⟩⟩
    | _ => exact h
  · refine (hr m T _ h3).mono fun e T H h => ?_
    cases e with
    | normal =>
      obtain ⟨m', h1, h2, h3⟩ := h
      exact ⟨m', h1, H, .inl ⟨h2, rfl, h3⟩⟩
    | _ => exact h

def forQ (hk : List Nat) (I : Nat → TL → HL → Prop) (n k : Nat) (Q : Exit → TL → HL → Prop) : Exit → TL → HL → Prop
  | .normal, T, H => k < n ∧ lessOK hk T H = true ∧ I (k + 1) T (keepH hk H)
  | e, T, H => Q e T H

/-- A loop that counts. -/
theorem st_for {P : Program} {n : Nat} {A : SCode} {T : TL} {H : HL} {Q : Exit → TL → HL → Prop} (hk : List Nat) (N : Nat) (I : Nat → TL → HL → Prop) (hl : lessOK hk T H = true) (h0 : I 0 T (keepH hk H)) (hr : ∀ k T H, k ≤ N → I k T H → STri P n A T H (forQ hk I N k Q)) :
    STri P n (.loop A) T H Q := by
  refine st_while hk (fun m T H => ∃ k, k ≤ N ∧ m = N - k ∧ I k T H) (N - 0) hl ⟨0, Nat.zero_le _, rfl, h0⟩ ?_
  rintro m T H ⟨k, hk', rfl, hI⟩
  refine (hr k T H hk' hI).mono fun e T H h => ?_
  cases e with
  | normal => exact ⟨N - (k + 1), by have := h.1; omega, h.2.1, k + 1, h.1, rfl, h.2.2⟩
  | _ => exact h

/-- nil, in a temporary, as a slice of the call's own. -/
theorem nil_rep {T : TL} {H : HL} {i id : Nat} {e : TypeId} {k : Nat} (hi : lookT T i = .c (.val (.slice none 0 0))) (hid : lookH H id = none) {w0 : World} {N0 NA : Nat → Prop} {n : Nat} {a : Act} {w : World} (h : RepSt w0 N0 NA n (lookT T) (lookH H) a w) :
    RepSt w0 N0 NA n (lookT ((i, .own id 0) :: T)) (lookH ((id, .arr e k []) :: H)) a w := by
  obtain ⟨ρ, q1, q2⟩ := h.rep
  obtain ⟨v1, v2, v3, v4⟩ := virt_rep q1 q2 hid e k
  have hH : lookH ((id, .arr e k []) :: H) = setH (lookH H) (some (id, .arr e k [])) := rfl
  refine ⟨h.size, h.defs, h.na, setR ρ id none, by rw [hH]; exact v1, fun j => ?_⟩
  rw [hH]
  by_cases hj : j = i
  · subst hj
    have := q2 j
    rw [hi] at this
    simp only [lookT, if_pos]
    generalize a.tmps.getD j undef = u at this ⊢
    cases this with
    | c _ _ r => cases r with
      | val => exact .own id 0 e k [] _ (by simp [setH]) (Nat.le_refl _) rfl (fun _ => .inl ⟨by simp [setR], rfl, rfl⟩)
  · simp only [lookT, if_neg hj]
    exact v2 j

theorem st_nil {P : Program} {n : Nat} {sc : SCode} {T : TL} {H : HL} {Q : Exit → TL → HL → Prop} (i id : Nat) (e : TypeId) (k : Nat) (hi : lookT T i = .c (.val (.slice none 0 0))) (hid : lookH H id = none)
    (h : STri P n sc ((i, .own id 0) :: T) ((id, .arr e k []) :: H) Q) : STri P n sc T H Q :=
  st_weak (fun _ _ _ _ _ hr => nil_rep hi hid hr) h

/-- nil, in a variable's cell, as a slice of the call's own. -/
theorem nilB_rep {T : TL} {H : HL} {bx j id : Nat} {e : TypeId} {k : Nat} {t : TypeId} {cs : List SV} (hb : lookH H bx = some (.box t cs)) (hj : cs[j]? = some (.c (.val (.slice none 0 0)))) (hid : lookH H id = none) {w0 : World} {N0 NA : Nat → Prop} {n : Nat} {a : Act} {w : World}
    (h : RepSt w0 N0 NA n (lookT T) (lookH H) a w) : RepSt w0 N0 NA n (lookT T) (lookH (setL1 ((id, .arr e k []) :: H) bx (.box t (cs.set j (.own id 0))))) a w := by
  obtain ⟨ρ, q1, q2⟩ := h.rep
  obtain ⟨v1, v2, v3, v4⟩ := virt_rep q1 q2 hid e k
  have hne : bx ≠ id := fun e => by rw [e, hid] at hb; cases hb
  have hb1 : setH (lookH H) (some (id, .arr e k [])) bx = some (.box t cs) := by simp [setH, hne, hb]
  obtain ⟨b, cc, e1, e2, e3, e4⟩ := v1.blk bx _ hb1
  have hid1 : setH (lookH H) (some (id, .arr e k [])) id = some (.arr e k []) := by simp [setH]
  obtain ⟨r1, r2, r3⟩ := upd_rep (B1 := .box t (cs.set j (.own id 0))) (w' := w) (r := setR ρ id none bx) v1 hb1 ⟨rfl, rfl, rfl, Nat.le_refl _, fun _ _ _ => rfl⟩ (.inl rfl)
    ⟨fun t' c' he => by (rw [hb1] at he; cases he; exact ⟨cs.set j (.own id 0), by simp [setH], by simp [setR]⟩), fun t' k' r' he => by (rw [hb1] at he; cases he)⟩
    (fun calm keep => by
      refine ⟨b, cc, by rw [← e1]; simp [setR], e2, by simpa using e3, fun i x v hx hv => ?_⟩
      rw [List.getElem?_set] at hx
      by_cases hij : j = i
      · subst hij
        have hlt : j < cs.length := (List.getElem?_eq_some_iff.1 hj).1
        rw [if_pos rfl, if_pos hlt] at hx
        cases hx
        have := e4 j _ v hj hv
        refine RepS.move calm keep ?_
        cases this with
        | c _ _ r => cases r with
          | val => exact .own id 0 e k [] _ hid1 (Nat.le_refl _) rfl (fun _ => .inl ⟨by simp [setR], rfl, rfl⟩)
      · rw [if_neg hij] at hx
        exact (e4 i x v hx hv).move calm keep)
  refine ⟨h.size, h.defs, h.na, setR (setR ρ id none) bx (setR ρ id none bx), ?_, fun i => ?_⟩
  · rw [lookH_set1]; exact r1
  · rw [lookH_set1]; exact (v2 i).move r2 r3

theorem st_nilB {P : Program} {n : Nat} {sc : SCode} {T : TL} {H : HL} {Q : Exit → TL → HL → Prop} (bx j id : Nat) (e : TypeId) (k : Nat) {t : TypeId} {cs : List SV} (hb : lookH H bx = some (.box t cs)) (hj : cs[j]? = some (.c (.val (.slice none 0 0)))) (hid : lookH H id = none)
    (h : STri P n sc T (setL1 ((id, .arr e k []) :: H) bx (.box t (cs.set j (.own id 0)))) Q) : STri P n sc T H Q :=
  st_weak (fun _ _ _ _ _ hr => nilB_rep hb hj hid hr) h

mutual
/-- The same value, nil as an empty slice. -/
inductive CLe : CV → CV → Prop
  | refl (x : CV) : CLe x x
  | nil (k : Nat) : CLe (.val (.slice none 0 0)) (.sl k [])
  | empty (k k' : Nat) : CLe (.sl k []) (.sl k' [])
  | agg (xs ys : List CV) : CLes xs ys → CLe (.agg xs) (.agg ys)
  | tup (xs ys : List CV) : CLes xs ys → CLe (.tup xs) (.tup ys)
inductive CLes : List CV → List CV → Prop
  | nil : CLes [] []
  | cons (x y : CV) (xs ys : List CV) : CLe x y → CLes xs ys → CLes (x :: xs) (y :: ys)
end

mutual
theorem CLe.rep {w : World} {N : Nat → Prop} : ∀ {x y : CV} {v : Value}, CLe x y → RepC w N x v → RepC w N y v
  | _, _, _, .refl _, h => h
  | _, _, _, .nil k, h => by cases h; exact .nil k none 0 (Nat.zero_le _)
  | _, _, _, .empty k k', h => by
    obtain ⟨ad, c, rfl, _, h2, _⟩ := h.sl_inv
    exact .nil k' ad c h2
  | _, _, _, .agg xs ys hs, h => by
    cases h with
    | agg _ vs h1 h2 =>
      obtain ⟨h3, h4⟩ := CLes.rep (w := w) (N := N) hs (vs := vs.toList) (fun i x v hx hv => h2 i x v hx (by simpa using hv))
      exact .agg ys vs (h1.trans h3) (fun i x v hx hv => h4 i x v hx (by simpa using hv))
  | _, _, _, .tup xs ys hs, h => by
    cases h with
    | tup _ vs h1 h2 =>
      obtain ⟨h3, h4⟩ := CLes.rep (w := w) (N := N) hs (vs := vs.toList) (fun i x v hx hv => h2 i x v hx (by simpa using hv))
      exact .tup ys vs (h1.trans h3) (fun i x v hx hv => h4 i x v hx (by simpa using hv))
theorem CLes.rep {w : World} {N : Nat → Prop} : ∀ {xs ys : List CV}, CLes xs ys → ∀ {vs : List Value}, (∀ (i : Nat) x v, xs[i]? = some x → vs[i]? = some v → RepC w N x v) → xs.length = ys.length ∧ ∀ (i : Nat) x v, ys[i]? = some x → vs[i]? = some v → RepC w N x v
  | _, _, .nil, vs, h => ⟨rfl, h⟩
  | _, _, .cons x y xs ys hx hs, vs, h => by
    cases vs with
    | nil =>
      obtain ⟨h1, _⟩ := CLes.rep (w := w) (N := N) hs (vs := []) (fun i x v _ hv => by simp at hv)
      exact ⟨by simp [h1], fun i x v _ hv => by simp at hv⟩
    | cons u us =>
      obtain ⟨h1, h2⟩ := CLes.rep (w := w) (N := N) hs (vs := us) (fun i x v hx hv => h (i + 1) x v (by simpa using hx) (by simpa using hv))
      refine ⟨by simp [h1], fun i z v hz hv => ?_⟩
      cases i with
      | zero => simp at hz hv; subst hz; subst hv; exact CLe.rep hx (h 0 x u rfl rfl)
      | succ i => exact h2 i z v (by simpa using hz) (by simpa using hv)
end

/-- A contract serves for the same arguments, nil as an empty slice, and gives its result so. -/
theorem SC.le {P : Program} {f : FuncId} {cs cs' : List CV} {r r' : CV} (h : SC P f cs r) (hc : CLes cs' cs) (hr : CLe r r') : SC P f cs' r' := fun w NA vs hn hs hv => by
  obtain ⟨h1, h2⟩ := CLes.rep (w := w) (N := NA) hc (vs := vs.toList) (fun i x v hx hv' => hv i x v hx (by simpa using hv'))
  exact (h w NA vs hn (hs.trans h1) (fun i x v hx hv' => h2 i x v hx (by simpa using hv'))).mono fun e w' ⟨v, e1, e2, e3⟩ => ⟨v, e1, hr.rep e2, e3⟩

inductive SRes where
  | tmp (t : Nat)
  | cell (p : Nat) (ag : Bool) (n : Nat)

def compRes (P : Program) : List ResultVar → Option (List SRes)
  | [] => some []
  | .tmp t :: r => (compRes P r).map (.tmp t :: ·)
  | .cell p ty :: r => match isAggT P ty, sizeT P ty, compRes P r with
    | some ag, some n, some l => if ag = true ∨ n = 1 then some (.cell p ag n :: l) else none
    | _, _, _ => none

def resC (T : Nat → SV) (H : Nat → Option Blk) : List SRes → Option (List CV)
  | [] => some []
  | .tmp t :: r => match close H (T t), resC T H r with
    | some x, some l => some (x :: l)
    | _, _ => none
  | .cell p ag n :: r => match T p with
    | .ptr id j => match H id with
      | some (.box _ cs) => if j + n ≤ cs.length then match mkS ag ((cs.drop j).take n) with
          | some y => match close H y, resC T H r with
            | some x, some l => some (x :: l)
            | _, _ => none
          | none => none
        else none
      | _ => none
    | _ => none

def packC : List CV → CV
  | [x] => x
  | xs => .tup xs

def initT : Nat → List CV → TL
  | _, [] => []
  | k, x :: xs => (k, .c x) :: initT (k + 1) xs

def retQ (rs : List SRes) (r : CV) (e : Exit) (T : TL) (H : HL) : Prop := (e = .normal ∨ e = .ret) ∧ ∃ xs, resC (lookT T) (lookH H) rs = some xs ∧ CLe (packC xs) r

theorem initT_get : ∀ (cs : List CV) (k i : Nat), lookT (initT k cs) i = if k ≤ i then (match cs[i - k]? with | some x => .c x | none => .dead) else .dead
  | [], k, i => by simp [initT, lookT]
  | x :: xs, k, i => by
    simp only [initT, lookT]
    by_cases h : i = k
    · subst h; simp
    · rw [if_neg h, initT_get xs (k + 1) i]
      by_cases h1 : k ≤ i
      · rw [if_pos (show k + 1 ≤ i by omega), if_pos h1]
        have : i - k = (i - (k + 1)) + 1 := by omega
        rw [this]; rfl
      · rw [if_neg (show ¬ k + 1 ≤ i by omega), if_neg h1]

theorem rep_mk {w : World} {NA : Nat → Prop} {ρ : Nat → Option Nat} {H : Nat → Option Blk} (xs : List SV) (ag : Bool) {cs : Array Value} {ty : TypeId} {P : Program} {n : Nat} {b j : Nat} {t : TypeId} (ha : isAggT P ty = some ag) (hn : sizeT P ty = some n) (hag : ag = true ∨ n = 1)
    (hb : w.heap[b]? = some (.cells cs t (0, 0))) (hr : RepL w NA ρ H xs cs.toList) (hj : j + n ≤ xs.length) {y : SV} (hy : mkS ag ((xs.drop j).take n) = some y) : ∃ v, (loadVar ty ⟨b, j, none⟩).run P w = .ok v w ∧ RepS w NA ρ H y v := by
  have hl : ((cs.toList.drop j).take n).length = n := by have := hr.1; simp at this ⊢; omega
  have h1 := loadVar_run (P := P) (w := w) ha (us := (cs.toList.drop j).take n) (by rw [hl]; exact hn) (b := b) (off := j) (fun m v hm => by
    have := sub_get _ _ _ _ _ hm
    rw [cell_of_row w b (j + m) cs t (0, 0) hb]; simpa using this) (by rw [hl]; exact hag)
  have h2 := mkS_rep (hr.sub j n) hy
  refine ⟨_, h1, ?_⟩
  cases ag with
  | true => simpa using h2
  | false =>
    obtain ⟨v, hv1, hv2⟩ := (by simpa using h2 : ∃ v, (cs.toList.drop j).take n = [v] ∧ RepS w NA ρ H y v)
    rw [hv1]; simpa using hv2

/-- One result. -/
def resOne (tmps : Array Value) : ResultVar → Sem Value
  | .tmp t => pure (tmps.getD t undef)
  | .cell a t => do loadVar t (← asAddr (tmps.getD a undef))

theorem results_eq {P : Program} {w : World} {fn : Func} {tmps : Array Value} {vs : List Value} (h : (fn.results.toList.mapM (resOne tmps)).run P w = .ok vs w) : (results fn tmps).run P w = .ok (if h : vs.toArray.size = 1 then vs.toArray[0] else .tuple vs.toArray) w := by
  have e : results fn tmps = (fn.results.mapM (resOne tmps) >>= fun vs => pure (if h : vs.size = 1 then vs[0] else .tuple vs)) := by
    unfold results
    rfl
  rw [e, Array.mapM_eq_mapM_toList]
  simp [h]

theorem res_run {P : Program} {w0 w : World} {N0 NA : Nat → Prop} {ρ : Nat → Option Nat} {H : Nat → Option Blk} {T : Nat → SV} {tmps : Array Value} (h : RepH w0 N0 NA ρ H w) (ht : ∀ i, RepS w NA ρ H (T i) (tmps.getD i undef)) : ∀ {rv : List ResultVar} {rs : List SRes} {xs : List CV},
    compRes P rv = some rs → resC T H rs = some xs → ∃ vs : List Value, (rv.mapM (resOne tmps)).run P w = .ok vs w ∧
      vs.length = xs.length ∧ ∀ (i : Nat) x v, xs[i]? = some x → vs[i]? = some v → RepC w (fun b => NA b ∧ ¬ Own ρ H b) x v
  | [], rs, xs, hc, hx => by
    simp [compRes] at hc; subst hc
    simp [resC] at hx; subst hx
    exact ⟨[], by simp, rfl, fun i x v h => by simp at h⟩
  | .tmp t :: rv, rs, xs, hc, hx => by
    simp only [compRes, Option.map_eq_some_iff] at hc
    obtain ⟨l, hl, rfl⟩ := hc
    simp only [resC] at hx
    split at hx
    case h_2 => cases hx
    case h_1 x xs' hx1 hx2 =>
    cases hx
    obtain ⟨vs, h1, h2, h3⟩ := res_run h ht hl hx2
    obtain ⟨g1, g2, _⟩ := closeAll_rep h (RepL.cons (ht t) RepL.nil) (cs := [x]) (by simp [closeAll, hx1])
    refine ⟨tmps.getD t undef :: vs, by simp [List.mapM_cons, resOne, h1], by simp [h2], fun i y v hy hv => ?_⟩
    cases i with
    | zero => simp only [List.getElem?_cons_zero, Option.some.injEq] at hy hv; subst hy; subst hv; exact g2 0 _ _ rfl rfl
    | succ i => exact h3 i y v (by simpa using hy) (by simpa using hv)
  | .cell p ty :: rv, rs, xs, hc, hx => by
    simp only [compRes] at hc
    split at hc
    case h_2 => cases hc
    case h_1 ag n l ha hn hl =>
    split at hc
    case isFalse => cases hc
    case isTrue hag =>
    cases hc
    simp only [resC] at hx
    split at hx
    case h_2 => cases hx
    case h_1 id j hp =>
    split at hx
    case h_2 => cases hx
    case h_1 t cs hH =>
    split at hx
    case isFalse => cases hx
    case isTrue hj =>
    split at hx
    case h_2 => cases hx
    case h_1 y hy =>
    split at hx
    case h_2 => cases hx
    case h_1 x xs' hx1 hx2 =>
    cases hx
    obtain ⟨vs, h1, h2, h3⟩ := res_run h ht hl hx2
    have hpt := ht p
    rw [hp] at hpt
    generalize hv : tmps.getD p undef = v at hpt
    cases hpt with
    | ptrB _ _ t' cells b hH' hb =>
      rw [hH] at hH'; cases hH'
      obtain ⟨b', cc, e1, e2, e3, e4⟩ := h.blk id _ hH
      rw [hb] at e1; cases e1
      obtain ⟨u, hu1, hu2⟩ := rep_mk (P := P) (j := j) cs ag ha hn hag e2 ⟨by simpa using e3, fun i x v hx hv => e4 i x v hx (by simpa using hv)⟩ hj hy
      obtain ⟨g1, g2, _⟩ := closeAll_rep h (RepL.cons hu2 RepL.nil) (cs := [x]) (by simp [closeAll, hx1])
      refine ⟨u :: vs, by simp only [List.mapM_cons, resOne, Sem.run_bind, hv, asAddr, Sem.run_pure, Result.andThen_ok, hu1, h1], by simp [h2], fun i y v hy hv => ?_⟩
      cases i with
      | zero => simp only [List.getElem?_cons_zero, Option.some.injEq] at hy hv; subst hy; subst hv; exact g2 0 _ _ rfl rfl
      | succ i => exact h3 i y v (by simpa using hy) (by simpa using hv)

/-- The law of functions. -/
theorem sc_of {P : Program} {f : FuncId} {fn : Func} {c : Code} {sc : SCode} {rs : List SRes} {cs : List CV} {r : CV} (hf : P.funcs[f]? = some fn) (hb : fn.body = some c) {n : Nat} (hn : fn.ntmps = n) (hcomp : compCode P n c = some sc.erase) (hres : compRes P fn.results.toList = some rs)
    (hle : cs.length ≤ n) (h : STri P n sc (initT 0 cs) [] (retQ rs r)) : SC P f cs r := fun w NA vs hna hs hv => by
  refine calls_of_wp hf hb (wp_mono (h c hcomp w (fun _ => False) NA _ w ⟨?_, rfl, fun b hb => ⟨hna b hb, fun h => h⟩, fun _ => none, ⟨?_, ?_, ⟨rfl, rfl, rfl, Nat.le_refl _, fun _ _ _ => rfl⟩, ?_⟩, fun i => ?_⟩) fun e a' w' hq => ?_)
  · simp; omega
  · intro i j b h1; simp [lookH] at h1
  · intro id B hB; simp [lookH] at hB
  · rintro b ⟨i, h1, _⟩; simp [lookH] at h1
  · rw [initT_get, if_pos (Nat.zero_le _), Nat.sub_zero]
    cases hc : cs[i]? with
    | none => exact .dead _
    | some x =>
      have hi : i < vs.size := by rw [hs]; exact (List.getElem?_eq_some_iff.1 hc).1
      have : (vs ++ Array.replicate (fn.ntmps - vs.size) undef).getD i undef = vs[i] := by simp [hi, Array.getElem?_append_left hi]
      rw [this]
      refine .c x _ ((hv i x _ hc (Array.getElem?_eq_getElem hi)).move ⟨Nat.le_refl _, fun b _ hb => ⟨rfl, fun hm => ?_⟩⟩)
      rcases hm with hm | ⟨i, h1, _⟩
      · exact hb hm
      · simp [lookH] at h1
  · obtain ⟨T', H', ⟨he, xs, hx1, hx2⟩, hr⟩ := hq
    obtain ⟨ρ, q1, q2⟩ := hr.rep
    obtain ⟨us, u1, u2, u3⟩ := res_run (P := P) q1 q2 hres hx1
    have hrun := results_eq (P := P) u1
    have hcalm : Calm w' (fun b => NA b ∧ ¬ Own ρ (lookH H') b) w' NA := ⟨Nat.le_refl _, fun b _ hb => ⟨rfl, fun hm => hb ⟨hm, fun ho => (q1.low b ho (hna b hm)).elim⟩⟩⟩
    have hrep : RepC w' NA (packC xs) (if h : us.toArray.size = 1 then us.toArray[0] else .tuple us.toArray) := by
      by_cases h1 : us.length = 1
      · match us, h1, xs, u2, u3 with
        | [u], _, [x], _, u3 => exact (u3 0 x u rfl rfl).move hcalm
        | [u], _, [], u2, _ => simp at u2
        | [u], _, _ :: _ :: _, u2, _ => simp at u2
      · rw [dif_neg (by simpa using h1)]
        have hp : packC xs = .tup xs := by
          match xs, u2 with
          | [], _ => rfl
          | [x], u2 => exact absurd u2 (by simpa using h1)
          | _ :: _ :: _, _ => rfl
        rw [hp]
        exact .tup xs us.toArray (by simpa using u2) (fun i x v hx hv => (u3 i x v hx (by simpa using hv)).move hcalm)
    have hext : Ext w w' := ⟨q1.fr.os, q1.fr.tape, q1.fr.output, q1.fr.size, fun b hb => q1.fr.block b hb (fun h => h)⟩
    rcases he with rfl | rfl
    · exact ⟨hr.defs, _, hrun, _, rfl, hx2.rep hrep, hext⟩
    · exact ⟨hr.defs, _, hrun, _, rfl, hx2.rep hrep, hext⟩

end Go.Proofs.Ytdgplebmlggmcaa
/- Small tools for runs of the shadow. -/
namespace Go.Proofs.Ytdgplebmlggmcaa
open Go.RowKit

theorem follows : Try.prog.follows .mixedOrders = true := by kernel_rfl

theorem wrap_in (n : Int) (h1 : -9223372036854775808 ≤ n) (h2 : n ≤ 9223372036854775807) : IntKind.i64.wrap n = n := IntWalk.i64_in _ ⟨h1, h2⟩

abbrev I (n : Int) : CV := .val (.int .i64 n)
abbrev B (b : Bool) : CV := .val (.bool b)

theorem pick_if (b : Bool) (x y : SV) : (if b = true then x else y) = if b = true then x else y := rfl

attribute [simp] runP freeOK outP doesP actF ev lookT lookH putL setL setL1 binS binI unS boolS mkS aggS eqS rowsOf SRop.site Option.getD_some Option.getD_none Option.map_some Option.map_none keepT List.map_cons List.map_nil List.drop_zero
  List.drop_succ_cons List.take_zero List.take_succ_cons List.length_cons List.length_nil List.set_cons_zero List.set_cons_succ setMany SV.cells CV.cells SV.one CV.one SV.isC SV.pure List.all_cons List.all_nil closeAll close close1 closeL toC allC fillC chunk
  openC List.nil_append List.cons_append List.append_nil List.getElem?_cons_zero List.getElem?_cons_succ Bool.and_true Bool.true_and Bool.false_eq_true true_and and_true forall_const not_true_eq_false not_false_eq_true false_implies true_implies
  fp refs refP refsA comp2 wr al List.contains_cons List.contains_nil initT imp_self ne_eq decide_true decide_false Bool.not_true Bool.not_false List.flatten_nil List.replicate_zero List.replicate_succ List.flatten_cons maxF minF Int.toNat_natCast
  Bool.not_eq_true Bool.not_eq_false Bool.true_eq_false false_and and_false Bool.and_false Bool.false_and Bool.or_true Bool.true_or Bool.or_false Bool.false_or false_or or_false or_true true_or List.append_assoc exists_eq_left resC packC Option.some.injEq
  guardP_same guardP_tf guardP_ft optK_some boolP_of boolP_un eq_self reduceCtorEq ite_self SV.inD inDL Less LessT LessH Blk.inD lessOK keepH List.filterMap_cons List.filterMap_nil


theorem retQ_ret {rs : List SRes} {r : CV} {T : TL} {H : HL} (h : ∃ xs, resC (lookT T) (lookH H) rs = some xs ∧ CLe (packC xs) r) : retQ rs r .ret T H := ⟨.inr rfl, h⟩

theorem CLe.of_eq {x y : CV} (h : x = y) : CLe x y := h ▸ .refl x
theorem CLe.bool {a b : Bool} (h : a = b) : CLe (.val (.bool a)) (.val (.bool b)) := h ▸ .refl _
theorem CLe.int {k : IntKind} {a b : Int} (h : a = b) : CLe (.val (.int k a)) (.val (.int k b)) := h ▸ .refl _

theorem bool_tf {x : Bool} (h : x = true) (h' : x = false) : False := by rw [h] at h'; exact Bool.noConfusion h'
theorem bool_ft {x : Bool} (h : x = false) (h' : x = true) : False := bool_tf h' h

attribute [simp ↓] seqQ blockQ

end Go.Proofs.Ytdgplebmlggmcaa
