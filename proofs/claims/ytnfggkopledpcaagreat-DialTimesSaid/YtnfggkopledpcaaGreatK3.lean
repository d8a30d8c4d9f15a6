/- Part 3 of a proof: Tri3, Tri4, Tri5, Tri6, Tri7, ShT, Tri8, CodeD. -/
import Derived.Test.YtnfggkopledpcaaGreatK2
import Derived.RangeFuncOwn
import Derived.Test.YtnfggkopledpcaaGreatRows
set_option linter.unusedSimpArgs false
set_option linter.unusedVariables false
/- The shadow's code, III: functions. -/
namespace Go.Proofs.YtnfggkopledpcaaGreat
open Go.RowKit
section
variable {w : World} {D : Nat} {o : Obj}
theorem deferred_cell (hD : w.heap[D]? = some (.deferred (some []))) (off : Nat) : w.cell? ⟨D, off, none⟩ = none := by
  simp [World.cell?, hD]
theorem put_other {b : Nat} {x : Obj} (hD : w.heap[D]? = some (.deferred (some []))) (hx : w.heap[b]? = some x) (hne : ∀ ds, x ≠ .deferred ds) : (w.putObj D o).heap[b]? = some x := by
  rw [World.putObj_heap_other, hx]
  intro e; subst e
  rw [hD] at hx; cases hx
  exact hne _ rfl
theorem RepC.avoid {N : Nat → Prop} (hD : w.heap[D]? = some (.deferred (some []))) {x : CV} {v : Value} (r : RepC w N x v) : RepC (w.putObj D o) N x v := by
  have cell : ∀ b off v, w.cell? ⟨b, off, none⟩ = some v → (w.putObj D o).cell? ⟨b, off, none⟩ = some v := fun b off v h => by
    have : b ≠ D := fun e => by subst e; rw [deferred_cell hD] at h; cases h
    exact (World.cell?_of_block (w := w) (w' := w.putObj D o) (a := ⟨b, off, none⟩) (World.putObj_heap_other this)).trans h
  induction r with
  | val v => exact .val v
  | agg xs vs hs _ ih => exact .agg xs vs hs ih
  | tup xs vs hs _ ih => exact .tup xs vs hs ih
  | nil k a c hc => exact .nil k a c hc
  | sl k rows b off c u h1 h2 h3 h4 h5 h6 _ ih => exact .sl k rows b off c u h1 h2 (by simpa using h3) h4 h5 (fun j row i x hr hx => cell _ _ _ (h6 j row i x hr hx)) ih
  | slx k rows ad _ ih => exact .slx k rows ad ih
  | fn f fs cs vf vc h1 h2 _ _ ih1 ih2 => exact .fn f fs cs vf vc h1 h2 ih1 ih2
  | ref xs b off u h1 h2 h3 h4 _ ih => exact .ref xs b off u (by simpa using h1) h2 h3 (fun i x hx => cell _ _ _ (h4 i x hx)) ih
  | nilm ag kd => exact .nilm ag kd
  | map ag kd es b ents clock h1 h2 h3 h4 _ ih => exact .map ag kd es b ents clock (by simpa using h1) h2 (put_other hD h3 (fun ds h => by cases h)) h4 ih
  | ifc t x v _ ih => exact .ifc t x v ih
variable {NA : Nat → Prop} {ρ : Nat → Option Nat} {H : Nat → Option Blk}
theorem RepS.avoid (hD : w.heap[D]? = some (.deferred (some []))) {x : SV} {v : Value} (r : RepS w NA ρ H x v) : RepS (w.putObj D o) NA ρ H x v := by
  induction r with
  | c x v r => exact .c x v (r.avoid hD)
  | agg xs vs hs _ ih => exact .agg xs vs hs ih
  | tup xs vs hs _ ih => exact .tup xs vs hs ih
  | own id len t k rows v hH hl ho hv =>
    refine .own id len t k rows v hH hl ho (fun e => ?_)
    rcases hv e with h1 | ⟨b, cap, cs, t', h1, h2, h3, h4, h5, h6⟩
    · exact .inl h1
    · exact .inr ⟨b, cap, cs, t', h1, h2, put_other hD h3 (fun ds h => by cases h), h4, h5, h6⟩
  | ptrB id j t cells b hH hb => exact .ptrB id j t cells b hH hb
  | ptrA id len i j t k rows v hH hl ho hv => exact .ptrA id len i j t k rows v hH hl ho hv
  | pel k rows i j b off c hc hi => exact .pel k rows i j b off c (hc.avoid hD) hi
  | fn f fs cs vf vc h1 h2 _ _ ih1 ih2 => exact .fn f fs cs vf vc h1 h2 ih1 ih2
  | yl id lo b hH hb => exact .yl id lo b hH hb
  | om id ag kd es b hH hb => exact .om id ag kd es b hH hb
  | dead v => exact .dead v
theorem RepH.avoid {w0 : World} {N0 : Nat → Prop} (hD : w.heap[D]? = some (.deferred (some []))) (hlo : w0.heap.size ≤ D) (h : RepH w0 N0 NA ρ H w) : RepH w0 N0 NA ρ H (w.putObj D o) := by
  refine ⟨h.inj, fun id B hB => ?_, ⟨h.fr.os, h.fr.tape, h.fr.output, by simpa using h.fr.size, fun b hb hn => ?_⟩, h.low⟩
  · have hr := h.blk id B hB
    cases B with
    | box t cells =>
      obtain ⟨b, cs, e1, e2, e3, e4⟩ := hr
      exact ⟨b, cs, e1, put_other hD e2 (fun ds h => by cases h), e3, fun j x v hx hv => (e4 j x v hx hv).avoid hD⟩
    | arr t k rows =>
      rcases hr with ⟨e1, e2⟩ | ⟨b, cs, cap, e1, e2, e3, e4, e5, e6, e7⟩
      · exact .inl ⟨e1, e2⟩
      · exact .inr ⟨b, cs, cap, e1, put_other hD e2 (fun ds h => by cases h), e3, e4, e5, e6, fun j row m x hr hx => by
          obtain ⟨v, hv1, hv2⟩ := e7 j row m x hr hx
          exact ⟨v, hv1, hv2.avoid hD⟩⟩
    | map ag kd es =>
      obtain ⟨b, ents, clock, e1, e2, e3, e4⟩ := hr
      exact ⟨b, ents, clock, e1, put_other hD e2 (fun ds h => by cases h), e3, fun i p e hp he => (e4 i p e hp he).avoid hD⟩
    | loop lo =>
      obtain ⟨b, e1, e2⟩ := hr
      exact ⟨b, e1, put_other hD e2 (fun ds h => by cases h)⟩
    | gh k s => exact hr
  · rw [World.putObj_heap_other (by omega)]
    exact h.fr.block b hb hn
theorem Trans.avoid {ws : World} {ρs : Nat → Option Nat} {Hs : Nat → Option Blk} (hD : w.heap[D]? = some (.deferred (some []))) (hlo : ws.heap.size ≤ D) (h : Trans NA ws ρs Hs w ρ H) : Trans NA ws ρs Hs (w.putObj D o) ρ H := by
  refine ⟨⟨by simpa using h.1.size, fun b hb hn => ?_⟩, fun i => ⟨(h.2 i).1, fun t k rows hB => ?_⟩⟩
  · rw [World.putObj_heap_other (by omega)]
    exact h.1.same b hb hn
  · obtain ⟨rows', e1, e2, e3⟩ := (h.2 i).2 t k rows hB
    refine ⟨rows', e1, e2, fun he => ?_⟩
    obtain ⟨q1, q2⟩ := e3 he
    refine ⟨q1, fun b cs t' hb hc => ?_⟩
    obtain ⟨cs', c1, c2⟩ := q2 b cs t' hb hc
    exact ⟨cs', put_other hD c1 (fun ds h => by cases h), c2⟩
end
theorem StAt.avoid {cf : Cf} {cx : Cx} {T : TL} {H : HL} {tmps : Array Value} {ds : List Deferred} {w : World} {F : Nat → Option Blk} {ρ : Nat → Option Nat} (hlo0 : cx.w0.heap.size ≤ cx.ws.heap.size) {D : Nat} {o : Obj} (hD : w.heap[D]? = some (.deferred (some []))) (hlo : cx.ws.heap.size ≤ D)
    (h : StAt cf cx T H { tmps := tmps, defers := ds } w F ρ) : StAt cf cx T H { tmps := tmps, defers := [] } (w.putObj D o) F ρ :=
  ⟨h.iv, h.cl, h.out, h.ol, h.dis, h.yd, h.av, h.dm, ⟨h.rep.size, h.rep.heap.avoid hD (Nat.le_trans hlo0 hlo), fun i => (h.rep.tmp i).avoid hD⟩, fun x v hx => (h.gh x v hx).avoid hD, h.tr.avoid hD hlo, [], rfl, List.nodup_nil, fun D hD => by cases hD⟩
theorem StAt.nodef {cf : Cf} {cx : Cx} {T : TL} {H : HL} {tmps : Array Value} {ds : List Deferred} {w : World} {F : Nat → Option Blk} {ρ : Nat → Option Nat} (h : StAt cf cx T H { tmps := tmps, defers := ds } w F ρ) : StAt cf cx T H { tmps := tmps, defers := [] } w F ρ :=
  ⟨h.iv, h.cl, h.out, h.ol, h.dis, h.yd, h.av, h.dm, ⟨h.rep.size, h.rep.heap, h.rep.tmp⟩, h.gh, h.tr, [], rfl, List.nodup_nil, fun D hD => by cases hD⟩
theorem leaves_defs {n : Nat} {P : Program} {fn : Func} {tmps : Array Value} {R : Ending → World → Prop} {lo : Nat} (K : World → Prop) (hK : ∀ w D, K w → w.heap[D]? = some (.deferred (some [])) → lo ≤ D → K (w.putObj D (.deferred none))) (hend : ∀ w, K w → LeavesIn Fence.wide n P fn tmps R [] .returning w) :
    ∀ (Ds : List Nat) (w : World), Ds.Nodup → (∀ D ∈ Ds, lo ≤ D ∧ w.heap[D]? = some (.deferred (some []))) → K w → LeavesInM Fence.wide n P fn tmps R (Ds.map (fun D => { target := .collected D, args := #[] })) .returning w
  | [], w, _, _, hw => hend w hw
  | D :: Ds, w, hnd, hds, hw => by
    obtain ⟨h1, h2⟩ := hds D (by simp)
    refine ⟨by simp, .inl ⟨_, _, rfl, run_takeDeferred h2, ?_⟩⟩
    rw [List.nodup_cons] at hnd
    refine leaves_defs K hK hend Ds _ hnd.2 (fun E hE => ?_) (hK w D hw h2 h1)
    obtain ⟨g1, g2⟩ := hds E (by simp [hE])
    have hne : E ≠ D := fun e => by subst e; exact hnd.1 hE
    exact ⟨g1, by rw [World.putObj_heap_other hne]; exact g2⟩
theorem calls_of_st {cf : Cf} (ok : cf.ok) (hm : cf.P.follows .mixedOrders = true) {f : FuncId} {fn : Func} {c : Code} {sc : SCode} (hf : cf.P.funcs[f]? = some fn) (hb : fn.body = some c) (hcomp : compCode cf.P cf.M cf.n c = some sc.erase) {T : TL} {H : HL} {Q : Exit → TL → HL → Prop} (h : STri cf sc T H Q)
    {cx : Cx} (hHs : ∀ i, cf.b ≤ i → i < cf.b + 1000 → i ∉ cf.K → cx.Hs i = none) (hu : cf.o = true → ∀ i, Up cf.b i → cx.Hs i = none) (hlo0 : cx.w0.heap.size ≤ cx.ws.heap.size) {vs : Array Value} {w : World} (hst : RepSt cf cx T H { tmps := vs ++ Array.replicate (fn.ntmps - vs.size) undef, defers := [] } w) {R : Ending → World → Prop}
    (hQ : ∀ e T' H' tmps w' F ρ, Q e T' H' → StAt cf cx T' H' { tmps := tmps, defers := [] } w' F ρ → (e = .normal ∨ e = .ret) ∧ ∃ v, (results fn tmps).run cf.P w' = .ok v w' ∧ R (.returned v) w') : Calls cf.P f vs w R := by
  refine (callsIn_wide (n := 0)).1 (callsIn_of_wp_marks (F := Fence.wide) hf hb trivial (wpIn_mono (h ok hm c hcomp none 0 (fun _ => rfl) cx hHs hu _ w hst) fun e a' w' hq => ?_) rfl)
  obtain ⟨T', H', q, F, ρ, st⟩ := hq
  obtain ⟨tmps, ds⟩ := a'
  have key : (e = .normal ∨ e = .ret) ∧ LeavesInM Fence.wide 0 cf.P fn tmps R ds .returning w' := by
    have he := (hQ e T' H' tmps w' F ρ q st.nodef).1
    refine ⟨he, ?_⟩
    obtain ⟨Ds, rfl, hnd, hds⟩ := st.df
    refine leaves_defs (lo := cx.ws.heap.size) (fun w => StAt cf cx T' H' { tmps := tmps, defers := [] } w F ρ) (fun w D hw hD hlo => hw.avoid hlo0 hD hlo) (fun w hw => ?_) Ds w' hnd (fun D hD => ?_) st.nodef
    · exact (hQ e T' H' tmps w F ρ q hw).2
    · obtain ⟨l, q1, q2, q3⟩ := hds D hD
      exact ⟨l, q3⟩
  rcases key with ⟨rfl | rfl, hl⟩
  · exact hl
  · exact hl
def cfF (P : Program) (M : List FuncId) (n : Nat) : Cf := { P := P, M := M, n := n, b := 0, K := [], Iv := fun _ _ F => F = fun _ => none, A := fun _ => False, G := fun _ _ => False, o := true }
theorem cfF_ok (P : Program) (M : List FuncId) (n : Nat) (hn : n ≤ 1000) : (cfF P M n).ok := ⟨hn, by show 0 + 1000 ≤ 1000000000; decide, fun _ _ h => h, fun _ _ _ h => h, fun _ _ h => h.elim⟩
theorem sc_of {P : Program} {f : FuncId} {fn : Func} {c : Code} {sc : SCode} {rs : List SRes} {cs : List CV} {r : CV} (M : List FuncId) (hm : P.follows .mixedOrders = true) (hf : P.funcs[f]? = some fn) (hb : fn.body = some c) {n : Nat} (hn : fn.ntmps = n) (hn2 : n ≤ 1000) (hcomp : compCode P M n c = some sc.erase) (hres : compRes P fn.results.toList = some rs)
    (hle : cs.length ≤ n) (h : STri (cfF P M n) sc (initT 0 cs) [] (retQ rs r)) : SC P f cs r := fun w NA vs hna hs hv => by
  have e0 : tot (fun _ => none) (lookH []) = fun _ => none := by funext i; rfl
  have st0 : StAt (cfF P M n) ⟨w, fun _ => False, NA, w, fun _ => none, fun _ => none, hna, fun _ _ h => h⟩ (initT 0 cs) [] { tmps := vs ++ Array.replicate (fn.ntmps - vs.size) undef, defers := [] } w (fun _ => none) (fun _ => none) := by
    refine ⟨rfl, fun id t cells h => by simp at h, fun _ _ => rfl, fun _ _ _ => rfl, fun _ _ => rfl, .inl rfl, fun i hi => absurd rfl hi, fun i hi => absurd rfl hi, ⟨?_, ⟨?_, ?_, ⟨rfl, rfl, rfl, Nat.le_refl _, fun _ _ _ => rfl⟩, ?_⟩, fun i => ?_⟩, fun _ _ h => h.elim, ?_, [], rfl, List.nodup_nil, fun D hD => by cases hD⟩
    · show _ = n
      simp; omega
    · intro i j b h1; exact absurd (by rw [e0]) h1
    · intro id B hB; rw [e0] at hB; cases hB
    · rintro b ⟨i, h1, _⟩; exact absurd (by rw [e0]) h1
    · rw [initT_get, if_pos (Nat.zero_le _), Nat.sub_zero]
      cases hc : cs[i]? with
      | none => exact .dead _
      | some x =>
        have hi : i < vs.size := by rw [hs]; exact (List.getElem?_eq_some_iff.1 hc).1
        have : (vs ++ Array.replicate (fn.ntmps - vs.size) undef).getD i undef = vs[i] := by simp [hi, Array.getElem?_append_left hi]
        rw [this]
        refine .c x _ ((hv i x _ hc (Array.getElem?_eq_getElem hi)).move ⟨Nat.le_refl _, fun b _ hb => ⟨rfl, fun hm => ?_⟩⟩)
        rcases hm with hm | ⟨i, h1, _⟩
        · exact hb hm
        · exact h1 (by rw [e0])
    · rw [e0]; exact Trans.refl _ _ _ _
  refine calls_of_st (cf := cfF P M n) (cfF_ok P M n hn2) hm hf hb hcomp h (cx := ⟨w, fun _ => False, NA, w, fun _ => none, fun _ => none, hna, fun _ _ h => h⟩) (fun _ _ _ _ => rfl) (fun _ _ _ => rfl) (Nat.le_refl _) ⟨_, _, st0⟩ (fun e T' H' tmps w' F ρ hq st => ?_)
  obtain ⟨he, xs, hx1, hx2⟩ := hq
  refine ⟨he, ?_⟩
  have hF : F = fun _ => none := st.iv
  subst hF
  have e1 : tot (fun _ => none) (lookH H') = lookH H' := by
    funext i
    cases h : lookH H' i with
    | none => rw [tot_none h]
    | some B => rw [tot_some h]
  have q1 := st.rep.heap
  have q2 := st.rep.tmp
  rw [e1] at q1 q2
  obtain ⟨us, u1, u2, u3⟩ := res_run (P := P) q1 q2 hres hx1
  have hrun := results_eq (P := P) u1
  have hcalm : Calm w' (fun b => NA b ∧ ¬ Own ρ (lookH H') b) w' NA := ⟨Nat.le_refl _, fun b _ hb => ⟨rfl, fun hm => hb ⟨hm, fun ho => (q1.low b ho (hna b hm)).elim⟩⟩⟩
  have hrep : RepC w' NA (packC xs) (if h : us.toArray.size = 1 then us.toArray[0] else .tuple us.toArray) := by
    by_cases h1 : us.length = 1
    · match us, h1, xs, u2, u3 with
      | [u], _, [x], _, u3 => exact (u3 0 x u rfl rfl).move hcalm
      | [u], _, [], u2, _ => simp at u2
      | [u], _, _ :: _ :: _, u2, _ => simp at u2
    · rw [dif_neg (by simpa using h1)]
      have hp : packC xs = .tup xs := by
        match xs, u2 with
        | [], _ => rfl
        | [x], u2 => exact absurd u2 (by simpa using h1)
        | _ :: _ :: _, _ => rfl
      rw [hp]
      exact .tup xs us.toArray (by simpa using u2) (fun i x v hx hv => (u3 i x v hx (by simpa using hv)).move hcalm)
  have hext : Ext w w' := ⟨q1.fr.os, q1.fr.tape, q1.fr.output, q1.fr.size, fun b hb => q1.fr.block b hb (fun h => h)⟩
  exact ⟨_, hrun, _, rfl, hx2.rep hrep, hext⟩
end Go.Proofs.YtnfggkopledpcaaGreat
/- The shadow's code, IV: iterators. -/
namespace Go.Proofs.YtnfggkopledpcaaGreat
open Go.RowKit
def IterL (P : Program) (g : FuncId) (b : Nat) (fs cs : List CV) (xs : List (List CV)) : Prop :=
  ∀ (Iv : Inv) (A : Nat → Prop) (G : SV → Value → Prop) (id : Nat), (∀ i, Up b i → ¬ A i) → (∃ v, G (.yl id) v) → (∀ k row, xs[k]? = some row → YT P Iv A G id k row) →
    ∀ (w0 : World) (N0 NA : Nat → Prop) (ρ : Nat → Option Nat) (F : Nat → Option Blk) (l : Nat) (lo : Loop) (vf vc : Array Value) (w : World), (∀ b, NA b → b < w0.heap.size) → (∀ b, NA b → ¬ N0 b) → Iv 0 false F → ClosedF F → (∀ i, Up b i → F i = none) →
      RepH w0 N0 NA ρ F w → F id = some (.loop lo) → ρ id = some l → (∀ x v, G x v → RepS w NA ρ F x v) → vf.size = fs.length → vc.size = cs.length → (∀ (i : Nat) x v, fs[i]? = some x → vf[i]? = some v → RepC w (Mut NA ρ F) x v) →
      (∀ (i : Nat) x v, cs[i]? = some x → vc[i]? = some v → RepC w (Mut NA ρ F) x v) →
      Calls P g (vf ++ #[.func (.yield l) #[] #[]] ++ vc) w fun e w' => (∃ v, e = .returned v) ∧ ∃ k stop F' ρ', (stop = false → k = xs.length) ∧ Iv k stop F' ∧ ClosedF F' ∧ (∀ i, F' i ≠ none → F i ≠ none ∨ A i) ∧ RepH w0 N0 NA ρ' F' w' ∧ Trans NA w ρ F w' ρ' F'
def cfI (P : Program) (M : List FuncId) (n b : Nat) (Iv : Inv) (A : Nat → Prop) (G : SV → Value → Prop) : Cf := { P := P, M := M, n := n, b := b, K := [], Iv := Iv, A := A, G := G, o := true }
def initS : Nat → List SV → TL
  | _, [] => []
  | k, x :: xs => (k, x) :: initS (k + 1) xs
theorem initS_get : ∀ (cs : List SV) (k i : Nat), lookT (initS k cs) i = if k ≤ i then (cs[i - k]?).getD .dead else .dead
  | [], k, i => by simp [initS, lookT]
  | x :: xs, k, i => by
    simp only [initS, lookT]
    by_cases h : i = k
    · subst h; simp
    · rw [if_neg h, initS_get xs (k + 1) i]
      by_cases h1 : k ≤ i
      · rw [if_pos (show k + 1 ≤ i by omega), if_pos h1]
        have : i - k = (i - (k + 1)) + 1 := by omega
        rw [this]; rfl
      · rw [if_neg (show ¬ k + 1 ≤ i by omega), if_neg h1]
def itQ (b N : Nat) (e : Exit) (_ : TL) (H : HL) : Prop := (e = .normal ∨ e = .ret) ∧ ∃ k s, lookH H (1000000000 + b) = some (.gh k s) ∧ (s = false → k = N)
theorem rg_up {b i : Nat} (hb : b + 1000 ≤ 1000000000) (h : Rg b i) : Up b i := by
  unfold Up
  rcases h with h | h
  · omega
  · omega
theorem virt_gh {w0 w : World} {N0 NA : Nat → Prop} {ρ : Nat → Option Nat} {H : Nat → Option Blk} (h : RepH w0 N0 NA ρ H w) {id : Nat} (hid : H id = none) (k : Nat) (s : Bool) :
    RepH w0 N0 NA (setR ρ id none) (setH H (some (id, .gh k s))) w ∧ Trans NA w ρ H w (setR ρ id none) (setH H (some (id, .gh k s))) := by
  have hρ : ∀ i, i ≠ id → setR ρ id none i = ρ i := fun i hi => by simp [setR, hi]
  have hH : ∀ i, i ≠ id → setH H (some (id, .gh k s)) i = H i := fun i hi => by simp [setH, hi]
  have own : ∀ b, Own (setR ρ id none) (setH H (some (id, .gh k s))) b → Own ρ H b := by
    rintro b ⟨i, h1, h2⟩
    by_cases hi : i = id
    · subst hi; simp [setR] at h2
    · rw [hρ i hi] at h2; rw [hH i hi] at h1; exact ⟨i, h1, h2⟩
  have calm : Calm w (Mut NA ρ H) w (Mut NA (setR ρ id none) (setH H (some (id, .gh k s)))) := by
    refine ⟨Nat.le_refl _, fun b hb hn => ⟨rfl, fun hm => ?_⟩⟩
    rcases hm with hm | hm
    · exact hn (.inl hm)
    · exact hn (.inr (own b hm))
  have keep : ∀ i, KeepI w ρ H w (setR ρ id none) (setH H (some (id, .gh k s))) i := by
    intro i
    refine ⟨fun B' hi _ => ?_, fun t' k' rows hi => ?_⟩
    · have : i ≠ id := fun e => by rw [e, hid] at hi; cases hi
      exact ⟨B', by rw [hH i this]; exact hi, rfl, hρ i this⟩
    · have : i ≠ id := fun e => by rw [e, hid] at hi; cases hi
      exact ⟨rows, by rw [hH i this]; exact hi, Nat.le_refl _, fun _ => ⟨hρ i this, fun b cs t' hb hc => ⟨cs, hc, rfl⟩⟩⟩
  refine ⟨⟨?_, fun i B hi => ?_, h.fr, fun b hb => h.low b (own b hb)⟩, calm, keep⟩
  · intro i j b h1 h2 h3 h4
    by_cases hi : i = id
    · subst hi; simp [setR] at h3
    · by_cases hj : j = id
      · subst hj; simp [setR] at h4
      · rw [hρ i hi] at h3; rw [hρ j hj] at h4; rw [hH i hi] at h1; rw [hH j hj] at h2
        exact h.inj i j b h1 h2 h3 h4
  · by_cases hid' : i = id
    · subst hid'; simp [setH] at hi; subst hi
      show setR ρ i none i = none
      simp [setR]
    · rw [hH i hid'] at hi
      exact (h.blk i B hi).move calm keep (hρ i hid') (fun _ _ => rfl)
theorem only_rep {w0 w : World} {N0 NA : Nat → Prop} {ρ : Nat → Option Nat} {F H : Nat → Option Blk} (cl : ClosedF F) (hd : ∀ i, H i ≠ none → F i = none) (h : RepH w0 N0 NA ρ (tot F H) w) : RepH w0 N0 NA ρ F w ∧ Calm w (Mut NA ρ (tot F H)) w (Mut NA ρ F) ∧ (∀ i, F i ≠ none → tot F H i = F i) := by
  have e : ∀ i, F i ≠ none → tot F H i = F i := fun i hi => by
    cases hB : H i with
    | none => exact tot_none hB
    | some B => exact absurd (hd i (by rw [hB]; simp)) hi
  have ne : ∀ i, F i ≠ none → tot F H i ≠ none := fun i hi => by rw [e i hi]; exact hi
  have own : ∀ b, Own ρ F b → Own ρ (tot F H) b := fun b ⟨i, h1, h2⟩ => ⟨i, ne i h1, h2⟩
  have calm : Calm w (Mut NA ρ (tot F H)) w (Mut NA ρ F) := ⟨Nat.le_refl _, fun b _ hn => ⟨rfl, fun hm => hn (hm.imp_right (own b))⟩⟩
  refine ⟨⟨fun i j b h1 h2 => h.inj i j b (ne i h1) (ne j h2), fun id B hB => ?_, h.fr, fun b hb => h.low b (own b hb)⟩, calm, e⟩
  have hn : F id ≠ none := by rw [hB]; simp
  have hr := h.blk id B (by rw [e id hn]; exact hB)
  have sub : ∀ {x : SV} {v : Value}, RepS w NA ρ (tot F H) x v → x.inP (fun i => F i ≠ none) → RepS w NA ρ F x v := fun r hx =>
    r.less (D := fun i => F i ≠ none) (fun i B hB => by rw [e i (by rw [hB]; simp)]; exact hB) (fun i B hB hi => by rw [← e i hi]; exact hB) hx
  cases B with
  | box t cells =>
    obtain ⟨b, cs, e1, e2, e3, e4⟩ := hr
    exact ⟨b, cs, e1, e2, e3, fun j x v hx hv => sub (e4 j x v hx hv) (inPL_get (cl id t cells hB) j x hx)⟩
  | arr t k rows =>
    rcases hr with ⟨e1, e2⟩ | ⟨b, cs, cap, e1, e2, e3, e4, e5, e6, e7⟩
    · exact .inl ⟨e1, e2⟩
    · exact .inr ⟨b, cs, cap, e1, e2, e3, e4, e5, e6, fun j row m x hr hx => by
        obtain ⟨v, hv1, hv2⟩ := e7 j row m x hr hx
        exact ⟨v, hv1, hv2.move calm⟩⟩
  | map ag kd es =>
    obtain ⟨b, ents, clock, e1, e2, e3, e4⟩ := hr
    exact ⟨b, ents, clock, e1, e2, e3, fun i p e hp he => (e4 i p e hp he).move calm⟩
  | loop lo => exact hr
  | gh k s => exact hr
theorem iter_of {P : Program} {f : FuncId} {fn : Func} {c : Code} {sc : SCode} {b n : Nat} {fs cs : List CV} {xs : List (List CV)} (M : List FuncId) (hm : P.follows .mixedOrders = true) (hf : P.funcs[f]? = some fn) (hb : fn.body = some c) (hn : fn.ntmps = n) (hn2 : n ≤ 1000) (hb2 : b + 1000 ≤ 1000000000)
    (hcomp : compCode P M n c = some sc.erase) (hres : fn.results = #[]) (hle : fs.length + 1 + cs.length ≤ n)
    (h : ∀ Iv A G id, (∃ v, G (.yl id) v) → (∀ k row, xs[k]? = some row → YT P Iv A G id k row) → STri (cfI P M n b Iv A G) sc (initS 0 (fs.map .c ++ .yl id :: cs.map .c)) [(1000000000 + b, .gh 0 false)] (itQ b xs.length)) : IterL P f b fs cs xs := by
  intro Iv A G id hA hG hY w0 N0 NA ρ F l lo vf vc w hna hnn hIv hcl hF hrep hid hl hg hvf hvc hfs hcs
  have hgh : F (1000000000 + b) = none := hF _ (by unfold Up; omega)
  obtain ⟨v1, v2⟩ := virt_gh hrep hgh 0 false
  have e0 : tot F (lookH [(1000000000 + b, .gh 0 false)]) = setH F (some (1000000000 + b, .gh 0 false)) := by
    funext i
    by_cases hi : i = 1000000000 + b <;> simp [tot, lookH, setH, hi]
  have only : ∀ i, lookH [(1000000000 + b, Blk.gh 0 false)] i ≠ none → i = 1000000000 + b := fun i hi => by
    by_cases e : i = 1000000000 + b
    · exact e
    · simp [lookH, e] at hi
  have ok : (cfI P M n b Iv A G).ok := by
    refine ⟨hn2, hb2, fun i hi => hA i (rg_up hb2 hi), fun _ i hi => hA i hi, fun x v hx => ?_⟩
    refine inP_mono (fun i hi hr => absurd (hF i (rg_up hb2 hr)) hi) x (hg x v hx).inP
  obtain ⟨vs, hvs⟩ : ∃ vs, vs = vf ++ #[.func (.yield l) #[] #[]] ++ vc := ⟨_, rfl⟩
  rw [← hvs]
  have hsz : vs.size = fs.length + 1 + cs.length := by rw [hvs]; simp [hvf, hvc]
  have key : ∀ (i : Nat) x v, (fs.map SV.c ++ .yl id :: cs.map SV.c)[i]? = some x → vs[i]? = some v → RepS w NA ρ F x v := fun i x v hx hv => by
    rw [hvs] at hv
    rcases Nat.lt_trichotomy i fs.length with h1 | h1 | h1
    · rw [List.getElem?_append_left (by simpa using h1), List.getElem?_map] at hx
      obtain ⟨y, hy, rfl⟩ := Option.map_eq_some_iff.1 hx
      rw [Array.append_assoc, Array.getElem?_append_left (by omega)] at hv
      exact .c y v (hfs i y v hy hv)
    · subst h1
      rw [List.getElem?_append_right (by simp)] at hx
      simp at hx; subst hx
      rw [Array.append_assoc, Array.getElem?_append_right (by omega)] at hv
      rw [hvf, Nat.sub_self, Array.getElem?_append_left (by simp)] at hv
      simp at hv; subst hv
      exact .yl id lo l hid hl
    · rw [List.getElem?_append_right (by simp; omega)] at hx
      rw [Array.append_assoc, Array.getElem?_append_right (by omega), Array.getElem?_append_right (by simp; omega)] at hv
      obtain ⟨m, rfl⟩ : ∃ m, i = fs.length + 1 + m := ⟨i - (fs.length + 1), by omega⟩
      simp only [List.length_map] at hx
      rw [show fs.length + 1 + m - fs.length = m + 1 by omega, List.getElem?_cons_succ, List.getElem?_map] at hx
      obtain ⟨y, hy, rfl⟩ := Option.map_eq_some_iff.1 hx
      have e : fs.length + 1 + m - vf.size - 1 = m := by omega
      simp only [List.size_toArray, List.length_cons, List.length_nil, Nat.zero_add, e] at hv
      exact .c y v (hcs m y v hy hv)
  have st0 : StAt (cfI P M n b Iv A G) ⟨w0, N0, NA, w, ρ, F, hna, hnn⟩ (initS 0 (fs.map .c ++ .yl id :: cs.map .c)) [(1000000000 + b, .gh 0 false)] { tmps := vs ++ Array.replicate (fn.ntmps - vs.size) undef, defers := [] } w F (setR ρ (1000000000 + b) none) := by
    refine ⟨?_, hcl, fun i hi => hF i (rg_up hb2 hi), fun _ i hi => hF i hi, fun i hi => by rw [only i hi]; exact hgh, .inr ⟨0, false, by simp [lookH, cfI]⟩, fun i hi => by rw [only i hi]; exact .inr rfl, fun i hi => .inl hi, ⟨?_, ?_, fun i => ?_⟩, fun x v hx => ?_, ?_, [], rfl, List.nodup_nil, fun D hD => by cases hD⟩
    · show Iv (kOf b _).1 (kOf b _).2 F
      simp [kOf, lookH]; exact hIv
    · show _ = n
      simp; omega
    · rw [e0]; exact v1
    · rw [e0, initS_get, if_pos (Nat.zero_le _), Nat.sub_zero]
      cases hc : (fs.map SV.c ++ .yl id :: cs.map SV.c)[i]? with
      | none => exact .dead _
      | some x =>
        have hi : i < vs.size := by
          have := (List.getElem?_eq_some_iff.1 hc).1
          simp at this; omega
        have : (vs ++ Array.replicate (fn.ntmps - vs.size) undef).getD i undef = vs[i] := by simp [hi, Array.getElem?_append_left hi]
        rw [this]
        exact v2.mv (key i x _ hc (Array.getElem?_eq_getElem hi))
    · rw [e0]; exact v2.mv (hg x v hx)
    · rw [e0]; exact v2
  refine calls_of_st (cf := cfI P M n b Iv A G) ok hm hf hb hcomp (h Iv A G id hG hY) (cx := ⟨w0, N0, NA, w, ρ, F, hna, hnn⟩) (fun i h1 h2 _ => hF i (rg_up hb2 (.inl ⟨h1, h2⟩))) (fun _ i hi => hF i hi) hrep.fr.size ⟨_, _, st0⟩ (fun e T' H' tmps w' F' ρ' hq st => ?_)
  obtain ⟨he, k, s, hgh', hk⟩ := hq
  have hrun : (results fn tmps).run P w' = .ok (.tuple #[]) w' := by simpa using results_eq (P := P) (w := w') (fn := fn) (tmps := tmps) (vs := []) (by simp [hres])
  refine ⟨he, _, hrun, ⟨_, rfl⟩, k, s, F', ρ', hk, ?_, st.cl, st.dm, ?_⟩
  · have := st.iv
    have e : kOf b H' = (k, s) := by unfold kOf; rw [hgh']
    show Iv k s F'
    have h2 : Iv (kOf b H').1 (kOf b H').2 F' := this
    rw [e] at h2; exact h2
  · obtain ⟨r1, r2, r3⟩ := only_rep st.cl st.dis st.rep.heap
    refine ⟨r1, st.tr.1.trans r2, fun i => ?_⟩
    have hi := st.tr.2 i
    have hne : F i ≠ none → tot F' (lookH H') i = F' i := fun hn => by
      cases hB : lookH H' i with
      | none => exact tot_none hB
      | some B => exact absurd (hF i (rg_up hb2 (st.av i (by rw [hB]; simp)))) hn
    refine ⟨fun B hB hkd => ?_, fun t q rows hB => ?_⟩
    · have hn := hne (by rw [hB]; simp)
      have := hi.1 B hB hkd
      rw [hn] at this; exact this
    · have hn := hne (by rw [hB]; simp)
      have := hi.2 t q rows hB
      rw [hn] at this; exact this
end Go.Proofs.YtnfggkopledpcaaGreat
/- The shadow's code, V: loops over iterators. -/
namespace Go.Proofs.YtnfggkopledpcaaGreat
open Go.RowKit
def parT : List Nat → List CV → TL → TL
  | p :: ps, x :: xs, T => parT ps xs ((p, .c x) :: T)
  | _, _, T => T
def cfR (cf : Cf) (hk : List Nat) (Iv : Inv) (G : SV → Value → Prop) : Cf := { P := cf.P, M := cf.M, n := cf.n, b := cf.b, K := hk, Iv := Iv, A := cf.A, G := G, o := false }
def rangeQ (cf : Cf) (hk ys : List Nat) (I : Nat → HL → Prop) (k : Nat) (T : TL) (Q : Exit → TL → HL → Prop) : Exit → TL → HL → Prop
  | .normal, _, H => lessOK cf hk [] H = true ∧ clE ys (keepH hk H) = true ∧ I (k + 1) (keepH hk H)
  | .ret, _, H => lessOK cf hk [] H = true ∧ clE ys (keepH hk H) = true ∧ Q .ret T (keepH hk H)
  | .exit id, _, H => lessOK cf hk [] H = true ∧ clE ys (keepH hk H) = true ∧ Q (.exit id) T (keepH hk H)
  | _, _, _ => False
def Into (cf : Cf) (Iv : Inv) (G : SV → Value → Prop) : Prop := ∀ id k row, (∃ v, cf.G (.yl id) v) → YT cf.P cf.Iv cf.A cf.G id k row → YT cf.P Iv cf.A G id k row
def asgQ (cf : Cf) (hk ys : List Nat) (I : Nat → HL → Prop) (k : Nat) (T : TL) (G : SV → Value → Prop) (B : SCode) (Q : Exit → TL → HL → Prop) (e : Exit) (T2 : TL) (H2 : HL) : Prop :=
  e = .normal ∧ ∀ Iv, Into cf Iv G → STri (cfR cf hk Iv G) B T2 H2 (rangeQ (cfR cf hk Iv G) hk ys I k T Q)
structure FcOK (cf : Cf) (Hs : Nat → Option Blk) (Lp : Nat → Prop) (q : Nat × Bool) (Fc : Nat → Option Blk) : Prop where
  iv : cf.Iv q.1 q.2 Fc
  cl : ClosedF Fc
  up : ∀ i, Up cf.b i → Fc i = none
  dm : ∀ i, Fc i ≠ none → Hs i ≠ none ∨ cf.A i
  lp : ∀ j, Lp j → ∃ lo, Fc j = some (.loop lo)
structure ROK (cf : Cf) (hk ys : List Nat) (R : HL) : Prop where
  key : ∀ i, lookH R i ≠ none → i ∈ hk
  cl : clE ys R = true
  yd : lookH R (1000000000 + cf.b) = none ∨ ∃ k s, lookH R (1000000000 + cf.b) = some (.gh k s)
  rg : ∀ i, lookH R i ≠ none → Rg cf.b i
def jumpOf : Exit → Option Code
  | .ret => some .ret
  | .exit id => some (.exit id)
  | _ => none
def IvO (cf : Cf) (Hs : Nat → Option Blk) (hk ys : List Nat) (I : Nat → HL → Prop) (T : TL) (Q : Exit → TL → HL → Prop) (lo0 : Loop) : Inv := fun k s F =>
  ∃ R Fc lo, F = setH (tot Fc (lookH R)) (some (2000000000 + cf.b, .loop lo)) ∧ FcOK cf Hs (fun j => ∃ v, cf.G (.yl j) v) (kOf cf.b R) Fc ∧ ROK cf hk ys R ∧ (s = false → lo = lo0 ∧ I k R) ∧
    (s = true → ∃ e c, jumpOf e = some c ∧ lo = { lo0 with state := .done, pending := some c } ∧ Q e T R)
def GlI (cf : Cf) (E : Nat → Option Blk) (lo : Loop) (Fc0 : Nat → Option Blk) : Inv := fun k s F2 =>
  ∃ Fc, F2 = setH (tot E Fc) (some (2000000000 + cf.b, .loop lo)) ∧ FcOK cf Fc0 (fun j => ∃ lo, Fc0 j = some (.loop lo)) (k, s) Fc ∧ (∀ i, E i ≠ none → Fc i = none)
structure EOK (cf : Cf) (E Fc0 : Nat → Option Blk) : Prop where
  a : ∀ i, cf.A i → E i = none
  lid : E (2000000000 + cf.b) = none
  bx : ∀ i t cells, E i = some (.box t cells) → inPL (fun j => E j ≠ none ∨ j = 2000000000 + cf.b ∨ ∃ lo, Fc0 j = some (.loop lo)) cells
theorem gl_eq {E Fc E2 : Nat → Option Blk} {lid : Nat} {B : Blk} (hEF : ∀ i, E i ≠ none → Fc i = none) : tot (setH (tot E Fc) (some (lid, B))) E2 = tot Fc (tot (setH E (some (lid, B))) E2) := by
  funext i
  unfold tot setH
  cases h2 : E2 i with
  | some C => simp
  | none =>
    by_cases hi : i = lid
    · simp [hi]
    · simp only [hi, if_false]
      cases hE : E i with
      | none => cases hF : Fc i <;> simp
      | some C => rw [hEF i (by rw [hE]; simp)]
theorem glR_eq {E Fc R : Nat → Option Blk} {lid : Nat} {B : Blk} (hEF : ∀ i, E i ≠ none → Fc i = none) (hER : ∀ i, E i ≠ none → R i = none) (hE : E lid = none) (hR : R lid = none) : tot (setH (tot Fc R) (some (lid, B))) E = tot (setH (tot E Fc) (some (lid, B))) R := by
  funext i
  unfold tot setH
  by_cases hi : i = lid
  · subst hi; simp [hE, hR]
  · simp only [hi, if_false]
    cases h : E i with
    | none => cases h2 : R i <;> cases h3 : Fc i <;> simp
    | some C =>
      rw [hEF i (by rw [h]; simp), hER i (by rw [h]; simp)]
theorem closed_gl {cf : Cf} {E Fc0 F' : Nat → Option Blk} {lo : Loop} (eok : EOK cf E Fc0) (cl : ClosedF F') (lp : ∀ j, (∃ lo, Fc0 j = some (.loop lo)) → ∃ lo, F' j = some (.loop lo)) : ClosedF (setH (tot E F') (some (2000000000 + cf.b, .loop lo))) := by
  have ne1 : ∀ j, F' j ≠ none → setH (tot E F') (some (2000000000 + cf.b, .loop lo)) j ≠ none := fun j hj => by
    by_cases e : j = 2000000000 + cf.b
    · simp [setH, e]
    · cases hB : F' j with
      | none => exact absurd hB hj
      | some B => simp [setH, e, tot, hB]
  have ne2 : ∀ j, E j ≠ none → setH (tot E F') (some (2000000000 + cf.b, .loop lo)) j ≠ none := fun j hj => by
    by_cases e : j = 2000000000 + cf.b
    · simp [setH, e]
    · cases hB : F' j with
      | none => simp [setH, e, tot, hB]; exact hj
      | some B => simp [setH, e, tot, hB]
  intro id t cells hB
  by_cases e : id = 2000000000 + cf.b
  · simp [setH, e] at hB
  · simp only [setH, if_neg e] at hB
    cases hF : F' id with
    | some C =>
      rw [tot_some hF] at hB; cases hB
      exact inPL_mono ne1 cells (cl id t cells hF)
    | none =>
      rw [tot_none hF] at hB
      refine inPL_mono (fun j hj => ?_) cells (eok.bx id t cells hB)
      rcases hj with hj | rfl | hj
      · exact ne2 j hj
      · simp [setH]
      · obtain ⟨lo', h⟩ := lp j hj
        exact ne1 j (by rw [h]; simp)
theorem loop_kept {NA : Nat → Prop} {w w' : World} {ρ ρ' : Nat → Option Nat} {H H' : Nat → Option Blk} (tr : Trans NA w ρ H w' ρ' H') {j : Nat} {lo : Loop} (h : H j = some (.loop lo)) : (∃ lo', H' j = some (.loop lo')) ∧ ρ' j = ρ j := by
  obtain ⟨B', h1, h2, h3⟩ := (tr.2 j).1 _ h (by simp [Blk.kind])
  obtain ⟨lo', rfl⟩ := kind_loop h2
  exact ⟨⟨lo', h1⟩, h3⟩
theorem YT.into {cf : Cf} (ho : cf.o = true) (ok : cf.ok) {E Fc0 : Nat → Option Blk} {lo : Loop} {G1 : SV → Value → Prop} (eok : EOK cf E Fc0) (hG : ∀ x v, cf.G x v → G1 x v) (hL : ∀ j, (∃ v, cf.G (.yl j) v) → ∃ lo, Fc0 j = some (.loop lo)) : Into cf (GlI cf E lo Fc0) G1 := by
  intro id k row hid h w0 N0 NA ρ F2 E2 l vs w r m hna hnn hIv hcl hA hdis hE2 hrep hl hF2 hG2 hsz hrow
  obtain ⟨Fc, rfl, hf, hEF⟩ := hIv
  have lidU : Up cf.b (2000000000 + cf.b) := by
    have := ok.b
    unfold Up; omega
  have dis2 : ∀ i, E2 i ≠ none → Fc i = none := fun i hi => by
    have := hdis i hi
    by_cases e : i = 2000000000 + cf.b
    · simp [setH, e] at this
    · simp only [setH, if_neg e] at this
      cases hB : Fc i with
      | none => rfl
      | some B => rw [tot_some hB] at this; cases this
  have eq := gl_eq (E2 := E2) (lid := 2000000000 + cf.b) (B := .loop lo) hEF
  have lpF : ∀ j lo', setH (tot E Fc) (some (2000000000 + cf.b, .loop lo)) j = some (.loop lo') → (tot (setH E (some (2000000000 + cf.b, .loop lo))) E2) j ≠ none ∨ ∃ lo, Fc j = some (.loop lo) := fun j lo' hj => by
    by_cases e : j = 2000000000 + cf.b
    · left
      cases hB : E2 j with
      | none => rw [tot_none hB]; simp [setH, e]
      | some B => rw [tot_some hB]; simp
    · simp only [setH, if_neg e] at hj
      cases hB : Fc j with
      | some B => rw [tot_some hB] at hj; cases hj; exact .inr ⟨_, rfl⟩
      | none =>
        rw [tot_none hB] at hj
        left
        cases hC : E2 j with
        | none => rw [tot_none hC]; simp [setH, e, hj]
        | some B => rw [tot_some hC]; simp
  have inE' : ∀ j, E j ≠ none → (tot (setH E (some (2000000000 + cf.b, .loop lo))) E2) j ≠ none := fun j hj => by
    cases hC : E2 j with
    | none =>
      rw [tot_none hC]
      by_cases e : j = 2000000000 + cf.b
      · simp [setH, e]
      · simp only [setH, if_neg e]; exact hj
    | some B => rw [tot_some hC]; simp
  have res := h w0 N0 NA ρ Fc (tot (setH E (some (2000000000 + cf.b, .loop lo))) E2) l vs w r m hna hnn hf.iv hf.cl (fun i hi => ?_) (fun i hi => ?_) (fun i t cells hi => ?_) (by rw [← eq]; exact hrep) hl (hf.lp id (hL id hid)) (fun x v hx => by rw [← eq]; exact hG2 x v (hG x v hx)) hsz (fun i x v h1 h2 => by rw [← eq]; exact hrow i x v h1 h2)
  · obtain ⟨fn, tmps, asg, bd, hrun, hround⟩ := res
    refine ⟨fn, tmps, asg, bd, hrun, hround.mono fun e w' hh => ?_⟩
    obtain ⟨stop, F', ρ', he, iv', cl', dom', rep', tr'⟩ := hh
    have hEF' : ∀ i, E i ≠ none → F' i = none := fun i hi => by
      cases hB : F' i with
      | none => rfl
      | some B =>
        rcases dom' i (by rw [hB]; simp) with h1 | h1
        · exact absurd (hEF i hi) h1
        · exact absurd (eok.a i h1) hi
    have eq' := gl_eq (E2 := E2) (lid := 2000000000 + cf.b) (B := .loop lo) hEF'
    have lp' : ∀ j, (∃ lo, Fc0 j = some (.loop lo)) → ∃ lo, F' j = some (.loop lo) := fun j hj => by
      obtain ⟨lo1, h1⟩ := hf.lp j hj
      have hne : tot (setH E (some (2000000000 + cf.b, .loop lo))) E2 j = none := by
        cases hC : E2 j with
        | some C => rw [dis2 j (by rw [hC]; simp)] at h1; cases h1
        | none =>
          rw [tot_none hC]
          by_cases e : j = 2000000000 + cf.b
          · rw [e, hf.up _ lidU] at h1; cases h1
          · simp only [setH, if_neg e]
            cases hE : E j with
            | none => rfl
            | some C => rw [hEF j (by rw [hE]; simp)] at h1; cases h1
      obtain ⟨lo', h2⟩ : ∃ lo', F' j = some (.loop lo') := by
        have h3 : tot Fc (tot (setH E (some (2000000000 + cf.b, .loop lo))) E2) j = some (.loop lo1) := by rw [tot_none hne]; exact h1
        obtain ⟨⟨lo', h4⟩, _⟩ := loop_kept tr' h3
        rw [tot_none hne] at h4
        exact ⟨lo', h4⟩
      exact ⟨lo', h2⟩
    refine ⟨stop, setH (tot E F') (some (2000000000 + cf.b, .loop lo)), ρ', he, ⟨F', rfl, ⟨iv', cl', fun i hi => ?_, fun i hi => ?_, lp'⟩, hEF'⟩, closed_gl eok cl' lp', fun i hi => ?_, by rw [eq']; exact rep', by rw [eq, eq']; exact tr'⟩
    · cases hB : F' i with
      | none => rfl
      | some B =>
        rcases dom' i (by rw [hB]; simp) with h1 | h1
        · exact absurd (hf.up i hi) h1
        · exact absurd h1 (ok.A2 ho i hi)
    · rcases dom' i hi with h1 | h1
      · exact hf.dm i h1
      · exact .inr h1
    · by_cases e : i = 2000000000 + cf.b
      · left; simp [setH, e]
      · simp only [setH, if_neg e] at hi ⊢
        cases hB : F' i with
        | none =>
          rw [tot_none hB] at hi
          left
          rw [tot_none (hEF i hi)]; exact hi
        | some B =>
          rcases dom' i (by rw [hB]; simp) with h1 | h1
          · left
            cases hC : Fc i with
            | none => exact absurd hC h1
            | some C => rw [tot_some hC]; simp
          · exact .inr h1
  · have h2 := hA i hi
    rw [tot_none h2]
    by_cases e : i = 2000000000 + cf.b
    · subst e; exact absurd hi (ok.A2 ho _ lidU)
    · simp only [setH, if_neg e]; exact eok.a i hi
  · by_cases e : i = 2000000000 + cf.b
    · subst e; exact hf.up _ lidU
    · cases hC : E2 i with
      | some C => exact dis2 i (by rw [hC]; simp)
      | none =>
        rw [tot_none hC] at hi
        simp only [setH, if_neg e] at hi
        exact hEF i hi
  · cases hC : E2 i with
    | some C =>
      rw [tot_some hC] at hi; cases hi
      refine inPL_mono (fun j hj => ?_) cells (hE2 i t cells hC)
      rcases hj with hj | ⟨lo', hj⟩
      · left
        cases hD : E2 j with
        | none => exact absurd hD hj
        | some D => rw [tot_some hD]; simp
      · exact lpF j lo' hj
    | none =>
      rw [tot_none hC] at hi
      by_cases e : i = 2000000000 + cf.b
      · simp [setH, e] at hi
      · simp only [setH, if_neg e] at hi
        refine inPL_mono (fun j hj => ?_) cells (eok.bx i t cells hi)
        rcases hj with hj | rfl | hj
        · exact .inl (inE' j hj)
        · left
          cases hD : E2 (2000000000 + cf.b) with
          | none => rw [tot_none hD]; simp [setH]
          | some D => rw [tot_some hD]; simp
        · exact .inr (hf.lp j hj)
theorem lt_heap {w : World} {B : Nat} {o : Obj} (h : w.heap[B]? = some o) : B < w.heap.size := by
  rcases Nat.lt_or_ge B w.heap.size with h' | h'
  · exact h'
  · rw [Array.getElem?_eq_none h'] at h; cases h
theorem loop_put {w0 w : World} {N0 NA : Nat → Prop} {ρ : Nat → Option Nat} {H : Nat → Option Blk} (h : RepH w0 N0 NA ρ H w) {id l : Nat} {lo : Loop} (hid : H id = some (.loop lo)) (hl : ρ id = some l) (lo' : Loop) :
    RepH w0 N0 NA ρ (setH H (some (id, .loop lo'))) (w.putObj l (.loop lo')) ∧ Trans NA w ρ H (w.putObj l (.loop lo')) ρ (setH H (some (id, .loop lo'))) := by
  obtain ⟨b, e1, e2⟩ := h.blk id _ hid
  rw [hl] at e1; cases e1
  have eρ : setR ρ id (some l) = ρ := by
    funext i
    by_cases hi : i = id
    · subst hi; simp [setR, hl]
    · simp [setR, hi]
  have := upd_rep (B1 := .loop lo') (w' := w.putObj l (.loop lo')) (r := some l) h hid (by rw [hl]; exact grownBy_putObj' w l _) (.inl hl.symm)
    ⟨fun B hB _ => by (rw [hid] at hB; cases hB; exact ⟨.loop lo', by simp [setH], rfl, by simp [setR, hl]⟩), fun t k rows hB => by (rw [hid] at hB; cases hB)⟩
    (fun _ => ⟨l, by simp [setR], World.putObj_heap_same (lt_heap e2)⟩)
  rw [eρ] at this
  exact this
theorem par_rep {w : World} {NA : Nat → Prop} {ρ : Nat → Option Nat} {H : Nat → Option Blk} {n : Nat} : ∀ (ps : List Nat) (row : List CV) (vs : List Value) (T : TL) (tmps : Array Value), tmps.size = n → (∀ p ∈ ps, p < n) → vs.length = row.length → (∀ (i : Nat) x v, row[i]? = some x → vs[i]? = some v → RepC w (Mut NA ρ H) x v) →
    (∀ i, RepS w NA ρ H (lookT T i) (tmps.getD i undef)) → ((ps.zip vs).foldl (fun t (q : Nat × Value) => t.setIfInBounds q.1 q.2) tmps).size = n ∧ ∀ i, RepS w NA ρ H (lookT (parT ps row T) i) (((ps.zip vs).foldl (fun t (q : Nat × Value) => t.setIfInBounds q.1 q.2) tmps).getD i undef)
  | [], row, vs, T, tmps, h1, _, _, _, h5 => by
    cases row <;> exact ⟨by simpa using h1, by simpa [parT] using h5⟩
  | p :: ps, [], [], T, tmps, h1, _, _, _, h5 => by exact ⟨by simpa using h1, by simpa [parT] using h5⟩
  | p :: ps, [], v :: vs, T, tmps, _, _, h, _, _ => by simp at h
  | p :: ps, x :: row, [], T, tmps, _, _, h, _, _ => by simp at h
  | p :: ps, x :: row, v :: vs, T, tmps, h1, h2, h3, h4, h5 => by
    simp only [List.zip_cons_cons, List.foldl_cons, parT]
    refine par_rep ps row vs ((p, .c x) :: T) (tmps.setIfInBounds p v) (by simpa using h1) (fun q hq => h2 q (by simp [hq])) (by simpa using h3) (fun i y u hy hu => h4 (i + 1) y u (by simpa using hy) (by simpa using hu)) (fun i => ?_)
    have hp : p < tmps.size := by rw [h1]; exact h2 p (by simp)
    by_cases hi : i = p
    · subst hi
      simp only [lookT, if_pos]
      have : (tmps.setIfInBounds i v).getD i undef = v := by simp [hp]
      rw [this]
      exact .c x v (h4 0 x v rfl rfl)
    · simp only [lookT, if_neg hi]
      have : (tmps.setIfInBounds p v).getD i undef = tmps.getD i undef := by simp [Array.getElem?_setIfInBounds_ne (Ne.symm hi)]
      rw [this]
      exact h5 i
theorem zip_fold (ps : List Nat) (vs tmps : Array Value) : ((⟨ps⟩ : Array Nat).zip vs).foldl (fun t (q : Nat × Value) => t.setIfInBounds q.1 q.2) tmps = (ps.zip vs.toList).foldl (fun t (q : Nat × Value) => t.setIfInBounds q.1 q.2) tmps := by
  rw [← Array.foldl_toList, Array.toList_zip]
end Go.Proofs.YtnfggkopledpcaaGreat
/- The shadow's code, VI: the law of loops over iterators. -/
namespace Go.Proofs.YtnfggkopledpcaaGreat
open Go.RowKit
theorem StAt.noT {cf : Cf} {cx : Cx} {T : TL} {H : HL} {a : Act} {w : World} {F : Nat → Option Blk} {ρ : Nat → Option Nat} (h : StAt cf cx T H a w F ρ) : StAt cf cx [] H a w F ρ :=
  ⟨h.iv, h.cl, h.out, h.ol, h.dis, h.yd, h.av, h.dm, ⟨h.rep.size, h.rep.heap, fun _ => .dead _⟩, h.gh, h.tr, h.df⟩
theorem keepH_mem {hk : List Nat} {H : HL} {i : Nat} (h : lookH (keepH hk H) i ≠ none) : i ∈ hk := by
  have := mem_lookH h
  unfold keepH at this
  rw [List.mem_map] at this
  obtain ⟨p, hp, rfl⟩ := this
  rw [List.mem_filterMap] at hp
  obtain ⟨j, hj, hq⟩ := hp
  rw [Option.map_eq_some_iff] at hq
  obtain ⟨B, _, rfl⟩ := hq
  exact hj
theorem lid_up {cf : Cf} (ok : cf.ok) : Up cf.b (2000000000 + cf.b) := by
  have := ok.b
  unfold Up; omega
theorem lid_rg {cf : Cf} (ok : cf.ok) : ¬ Rg cf.b (2000000000 + cf.b) := by
  have := ok.b
  unfold Rg; omega
theorem rg_up' {cf : Cf} (ok : cf.ok) {i : Nat} (h : Rg cf.b i) : Up cf.b i := rg_up ok.b h
theorem closed_it {cf : Cf} {hk ys : List Nat} {R : HL} {Fc : Nat → Option Blk} (cl : ClosedF Fc) (rok : ROK cf hk ys R) (hd : ∀ i, lookH R i ≠ none → Fc i = none) (hys : ∀ j ∈ ys, ∃ lo, Fc j = some (.loop lo)) : ClosedF (tot Fc (lookH R)) := by
  have ne1 : ∀ j, Fc j ≠ none → tot Fc (lookH R) j ≠ none := fun j hj => by
    cases hB : lookH R j with
    | none => rw [tot_none hB]; exact hj
    | some B => rw [tot_some hB]; simp
  intro id t cells hB
  cases hR : lookH R id with
  | some C =>
    rw [tot_some hR] at hB; cases hB
    refine inPL_mono (fun j hj => ?_) cells ((clE_spec rok.cl).2 id t cells hR)
    rcases hj with hj | hj
    · cases hC : lookH R j with
      | none => exact absurd hC hj
      | some C => rw [tot_some hC]; simp
    · obtain ⟨lo, h⟩ := hys j hj
      exact ne1 j (by rw [h]; simp)
  | none =>
    rw [tot_none hR] at hB
    exact inPL_mono ne1 cells (cl id t cells hB)
theorem closed_set {F : Nat → Option Blk} (h : ClosedF F) (lid : Nat) (lo : Loop) : ClosedF (setH F (some (lid, .loop lo))) := by
  intro id t cells hB
  by_cases e : id = lid
  · simp [setH, e] at hB
  · simp only [setH, if_neg e] at hB
    refine inPL_mono (fun j hj => ?_) cells (h id t cells hB)
    by_cases e : j = lid
    · simp [setH, e]
    · simp only [setH, if_neg e]; exact hj
section
variable {cf : Cf} {Hs : Nat → Option Blk} {hk ys : List Nat} {I : Nat → HL → Prop} {T : TL} {Q : Exit → TL → HL → Prop} {ps : List Nat} {A B : SCode} {G1 : SV → Value → Prop} {xs : List (List CV)}
theorem range_round (ho : cf.o = true) (ok : cf.ok) (hm : cf.P.follows .mixedOrders = true) (okR : ∀ Iv, (cfR cf hk Iv G1).ok) (hG : ∀ x v, cf.G x v → G1 x v) (hys : ∀ j ∈ ys, ∃ v, cf.G (.yl j) v) (hps : ∀ row ∈ xs, row.length = ps.length) (hpn : ∀ p ∈ ps, p < cf.n)
    {ca cb : Code} (hca : compCode cf.P cf.M cf.n ca = some A.erase) (hcb : compCode cf.P cf.M cf.n cb = some B.erase) {fn : FuncId} {tmps : Array Value} {df : Nat} (htz : tmps.size = cf.n) (hT : ∀ i, G1 (lookT T i) (tmps.getD i undef))
    (hr : ∀ k row R, I k R → xs[k]? = some row → ∀ Iv, Into cf Iv G1 → STri (cfR cf hk Iv G1) A (parT ps row T) R (asgQ cf hk ys I k T G1 B Q)) {k : Nat} {row : List CV} (hrow : xs[k]? = some row) :
    YT cf.P (IvO cf Hs hk ys I T Q { state := .ready, pending := none, fn := fn, tmps := tmps, params := ⟨ps⟩, assign := ca, body := cb, defers := df }) (fun i => cf.A i ∨ Rg cf.b i) G1 (2000000000 + cf.b) k row := by
  obtain ⟨lo0, hlo0⟩ : ∃ lo0 : Loop, lo0 = { state := .ready, pending := none, fn := fn, tmps := tmps, params := ⟨ps⟩, assign := ca, body := cb, defers := df } := ⟨_, rfl⟩
  rw [← hlo0]
  intro w0 N0 NA ρ F E l vs W r m hna hnn hIv hcl hA hdis hbx hrep hl hFl hG' hsz hvs
  obtain ⟨R, Fc, lo, rfl, fok, rok, hs1, _⟩ := hIv
  obtain ⟨rfl, hI⟩ := hs1 rfl
  have lidU := lid_up ok
  have hRl : lookH R (2000000000 + cf.b) = none := by
    cases hB : lookH R (2000000000 + cf.b) with
    | none => rfl
    | some B => exact absurd (rok.rg _ (by rw [hB]; simp)) (lid_rg ok)
  have hEl : E (2000000000 + cf.b) = none := by
    cases hB : E (2000000000 + cf.b) with
    | none => rfl
    | some B =>
      have := hdis _ (show E (2000000000 + cf.b) ≠ none by rw [hB]; simp)
      simp [setH] at this
  have hRF : ∀ i, lookH R i ≠ none → Fc i = none := fun i hi => fok.up i (rg_up' ok (rok.rg i hi))
  have hEt : ∀ i, E i ≠ none → tot Fc (lookH R) i = none := fun i hi => by
    have h1 := hdis i hi
    have e : i ≠ 2000000000 + cf.b := fun e => by subst e; exact hi hEl
    simpa [setH, e] using h1
  have hER : ∀ i, E i ≠ none → lookH R i = none := fun i hi => by
    cases hB : lookH R i with
    | none => rfl
    | some B => have := hEt i hi; rw [tot_some hB] at this; cases this
  have hEF : ∀ i, E i ≠ none → Fc i = none := fun i hi => by
    have := hEt i hi
    rwa [tot_none (hER i hi)] at this
  have eok : EOK cf E Fc := ⟨fun i hi => hA i (.inl hi), hEl, fun i t cells hi => inPL_mono (fun j hj => by
    rcases hj with hj | ⟨lo', hj⟩
    · exact .inl hj
    · right
      by_cases e : j = 2000000000 + cf.b
      · exact .inl e
      · right
        simp only [setH, if_neg e] at hj
        cases hB : lookH R j with
        | none => rw [tot_none hB] at hj; exact ⟨_, hj⟩
        | some B => rw [tot_some hB] at hj; cases hj; exact absurd hB ((clE_spec rok.cl).1 j lo')) cells (hbx i t cells hi)⟩
  have hLp : ∀ j, (∃ v, cf.G (.yl j) v) → ∃ lo, Fc j = some (.loop lo) := fok.lp
  have into : ∀ lo, Into cf (GlI cf E lo Fc) G1 := fun lo => YT.into ho ok eok hG hLp
  have eq1 : tot (setH (tot Fc (lookH R)) (some (2000000000 + cf.b, .loop lo))) E = tot (setH (tot E Fc) (some (2000000000 + cf.b, .loop lo))) (lookH R) := glR_eq hEF hER hEl hRl
  have hs0 : tot (setH (tot Fc (lookH R)) (some (2000000000 + cf.b, .loop lo))) E (2000000000 + cf.b) = some (.loop lo) := by rw [tot_none hEl]; simp [setH]
  have hheap : W.heap[l]? = some (.loop lo) := by
    obtain ⟨b, e1, e2⟩ := hrep.blk _ _ hs0
    rw [hl] at e1; cases e1; exact e2
  have hlen : row.length = ps.length := hps row (List.mem_of_getElem? hrow)
  have hlo : lo.params.size = ps.length ∧ lo.tmps = tmps ∧ lo.assign = ca ∧ lo.body = cb ∧ lo.state = .ready ∧ lo.pending = none := by rw [hlo0]; simp
  have hy := run_yield (P := cf.P) (args := vs) hheap (by rw [hsz, hlen, hlo.1])
  refine ⟨lo.fn, _, lo.assign, lo.body, hy, roundIn_of_wpIn (F := WF r) trivial ?_⟩
  rw [hlo.2.1, hlo.2.2.1, hlo.2.2.2.1]
  have hpar : lo.params = ⟨ps⟩ := by rw [hlo0]
  rw [hpar]
  obtain ⟨tm, htm⟩ : ∃ tm, tm = ((⟨ps⟩ : Array Nat).zip vs).foldl (fun t (q : Nat × Value) => t.setIfInBounds q.1 q.2) tmps := ⟨_, rfl⟩
  have hpr := par_rep (w := W) (NA := NA) (ρ := ρ) (H := tot (setH (tot Fc (lookH R)) (some (2000000000 + cf.b, .loop lo))) E) ps row vs.toList T tmps htz hpn (by simpa using hsz) (fun i x v hx hv => hvs i x v hx (by simpa using hv)) (fun i => hG' _ _ (hT i))
  rw [← zip_fold, ← htm] at hpr
  have st1 : StAt (cfR cf hk (GlI cf E lo Fc) G1) ⟨w0, N0, NA, W, ρ, tot (setH (tot Fc (lookH R)) (some (2000000000 + cf.b, .loop lo))) E, hna, hnn⟩ (parT ps row T) R { tmps := tm, defers := [] } W (setH (tot E Fc) (some (2000000000 + cf.b, .loop lo))) ρ := by
    refine ⟨⟨Fc, rfl, ⟨fok.iv, fok.cl, fok.up, fun i hi => .inl hi, fun j hj => hj⟩, hEF⟩, closed_gl eok fok.cl (fun j hj => hj), fun i hi => ?_, fun h => by (simp [cfR] at h), fun i hi => ?_, rok.yd, rok.rg, fun i hi => ?_, ⟨hpr.1, by rw [← eq1]; exact hrep, fun i => by rw [← eq1]; exact hpr.2 i⟩, fun x v hx => by rw [← eq1]; exact hG' x v hx, by rw [← eq1]; exact Trans.refl _ _ _ _, [], rfl, List.nodup_nil, fun D hD => by cases hD⟩
    · have e : i ≠ 2000000000 + cf.b := fun e => by subst e; exact lid_rg ok hi
      simp only [setH, if_neg e]
      rw [tot_none (fok.up i (rg_up' ok hi))]
      exact hA i (.inr hi)
    · have hi' := rok.rg i hi
      have e : i ≠ 2000000000 + cf.b := fun e => by subst e; exact lid_rg ok hi'
      simp only [setH, if_neg e]
      rw [tot_none (fok.up i (rg_up' ok hi'))]
      exact hA i (.inr hi')
    · left
      show tot _ E i ≠ none
      cases hE : E i with
      | some C => rw [tot_some hE]; simp
      | none =>
        rw [tot_none hE]
        by_cases e : i = 2000000000 + cf.b
        · simp [setH, e]
        · simp only [setH, if_neg e] at hi ⊢
          cases hC : Fc i with
          | none => rw [tot_none hC] at hi; exact absurd hE hi
          | some C =>
            cases hD : lookH R i with
            | none => rw [tot_none hD, hC]; simp
            | some D => rw [tot_some hD]; simp
  have hHs1 : ∀ i, cf.b ≤ i → i < cf.b + 1000 → i ∉ hk → tot (setH (tot Fc (lookH R)) (some (2000000000 + cf.b, .loop lo))) E i = none := fun i h1 h2 h3 => by
    have hi : Rg cf.b i := .inl ⟨h1, h2⟩
    have e : i ≠ 2000000000 + cf.b := fun e => by subst e; exact lid_rg ok hi
    rw [tot_none (hA i (.inr hi))]
    simp only [setH, if_neg e]
    cases hB : lookH R i with
    | none => rw [tot_none hB]; exact fok.up i (rg_up' ok hi)
    | some B => exact absurd (rok.key i (by rw [hB]; simp)) h3
  -- what holds of a state of the round
  have at_l : ∀ {lo' : Loop} {T2 : TL} {H2 : HL} {a2 : Act} {w2 : World} {F2 : Nat → Option Blk} {ρ2 : Nat → Option Nat}, StAt (cfR cf hk (GlI cf E lo' Fc) G1) ⟨w0, N0, NA, W, ρ, tot (setH (tot Fc (lookH R)) (some (2000000000 + cf.b, .loop lo))) E, hna, hnn⟩ T2 H2 a2 w2 F2 ρ2 →
      ρ2 (2000000000 + cf.b) = some l ∧ tot F2 (lookH H2) (2000000000 + cf.b) = some (.loop lo') ∧ w2.heap[l]? = some (.loop lo') ∧ lookH H2 (2000000000 + cf.b) = none := fun {lo' T2 H2 a2 w2 F2 ρ2} st => by
    obtain ⟨Fc2, rfl, f2, hEF2⟩ := st.iv
    have h1 := (loop_kept st.tr hs0).2
    have h2 : lookH H2 (2000000000 + cf.b) = none := by
      cases hB : lookH H2 (2000000000 + cf.b) with
      | none => rfl
      | some B =>
        have hrg : Rg cf.b (2000000000 + cf.b) := st.av (2000000000 + cf.b) (by rw [hB]; simp)
        exact absurd hrg (lid_rg ok)
    have h3 : tot (setH (tot E Fc2) (some (2000000000 + cf.b, .loop lo'))) (lookH H2) (2000000000 + cf.b) = some (.loop lo') := by rw [tot_none h2]; simp [setH]
    obtain ⟨b, e1, e2⟩ := st.rep.heap.blk _ _ h3
    have h4 : ρ2 (2000000000 + cf.b) = some l := h1.trans hl
    rw [h4] at e1; cases e1
    exact ⟨h4, h3, e2, h2⟩
  refine wpIn_mono (hr k row R hI hrow (GlI cf E lo Fc) (into lo) (okR _) hm ca hca (some l) m (fun h => by (simp [cfR] at h)) ⟨w0, N0, NA, W, ρ, _, hna, hnn⟩ hHs1 (fun h => by (simp [cfR] at h)) _ W ⟨_, _, (by rw [htm] at st1; exact st1)⟩) fun e a1 W1 hq => ?_
  obtain ⟨T2, R2, ⟨rfl, hB⟩, F2, ρ2, st2⟩ := hq
  obtain ⟨g1, g2, g3, g4⟩ := at_l st2
  refine ⟨_, run_beginRound g3 hlo.2.2.2.2.1, ?_⟩
  obtain ⟨loB, hloB⟩ : ∃ loB : Loop, loB = { lo with state := .busy } := ⟨_, rfl⟩
  rw [← hloB]
  obtain ⟨Fc2, rfl, f2, hEF2⟩ := st2.iv
  obtain ⟨p1, p2⟩ := loop_put st2.rep.heap g2 g1 loB
  have eq2 : setH (tot (setH (tot E Fc2) (some (2000000000 + cf.b, .loop lo))) (lookH R2)) (some (2000000000 + cf.b, .loop loB)) = tot (setH (tot E Fc2) (some (2000000000 + cf.b, .loop loB))) (lookH R2) := by
    funext i
    by_cases e : i = 2000000000 + cf.b
    · subst e; rw [tot_none g4]; simp [setH]
    · simp [setH, e, tot]
  rw [eq2] at p1 p2
  have fne : ∀ {lo1 lo2 : Loop} {X : Nat → Option Blk} (i : Nat), setH X (some (2000000000 + cf.b, .loop lo1)) i ≠ none → setH X (some (2000000000 + cf.b, .loop lo2)) i ≠ none := fun {lo1 lo2 X} i hi => by
    by_cases e : i = 2000000000 + cf.b
    · simp [setH, e]
    · simpa [setH, e] using hi
  have st2' : StAt (cfR cf hk (GlI cf E loB Fc) G1) ⟨w0, N0, NA, W, ρ, tot (setH (tot Fc (lookH R)) (some (2000000000 + cf.b, .loop lo))) E, hna, hnn⟩ T2 R2 a1 (W1.putObj l (.loop loB)) (setH (tot E Fc2) (some (2000000000 + cf.b, .loop loB))) ρ2 := by
    refine ⟨⟨Fc2, rfl, f2, hEF2⟩, closed_gl eok f2.cl f2.lp, fun i hi => ?_, fun h => by (simp [cfR] at h), fun i hi => ?_, st2.yd, st2.av, fun i hi => st2.dm i (fne i hi), ⟨st2.rep.size, p1, fun i => p2.mv (st2.rep.tmp i)⟩, fun x v hx => p2.mv (st2.gh x v hx), st2.tr.trans p2, st2.df.move p2⟩
    · have := st2.out i hi
      have e : i ≠ 2000000000 + cf.b := fun e => by subst e; exact lid_rg ok hi
      simpa [setH, e] using this
    · have := st2.dis i hi
      have e : i ≠ 2000000000 + cf.b := fun e => by subst e; exact hi g4
      simpa [setH, e] using this
  refine wpIn_mono (hB (GlI cf E loB Fc) (into loB) (okR _) hm cb hcb (some l) m (fun h => by (simp [cfR] at h)) ⟨w0, N0, NA, W, ρ, _, hna, hnn⟩ hHs1 (fun h => by (simp [cfR] at h)) a1 _ ⟨_, _, st2'⟩) fun e a3 W3 hq => ?_
  obtain ⟨T3, H3, q, F3, ρ3, st3⟩ := hq
  -- the round's end
  have fin : ∀ jump : Option Code, lessOK (cfR cf hk (GlI cf E loB Fc) G1) hk [] H3 = true → clE ys (keepH hk H3) = true → (jump = none → I (k + 1) (keepH hk H3)) → (∀ c, jump = some c → ∃ e, jumpOf e = some c ∧ Q e T (keepH hk H3)) →
      ∃ v w', (Instr.endRound l jump).run cf.P W3 = .ok v w' ∧ ∃ stop F' ρ', Ending.returned v = .returned (.bool (!stop)) ∧ IvO cf Hs hk ys I T Q lo (k + 1) stop F' ∧ ClosedF F' ∧ (∀ i, F' i ≠ none → setH (tot Fc (lookH R)) (some (2000000000 + cf.b, .loop lo)) i ≠ none ∨ (cf.A i ∨ Rg cf.b i)) ∧
        RepH w0 N0 NA ρ' (tot F' E) w' ∧ Trans NA W ρ (tot (setH (tot Fc (lookH R)) (some (2000000000 + cf.b, .loop lo))) E) w' ρ' (tot F' E) := fun jump hless hcE hj1 hj2 => by
    have st3k := keep_rep (cf := cfR cf hk (GlI cf E loB Fc) G1) (okR _) (cx := ⟨w0, N0, NA, W, ρ, tot (setH (tot Fc (lookH R)) (some (2000000000 + cf.b, .loop lo))) E, hna, hnn⟩) hHs1 hless st3.noT
    obtain ⟨g1, g2, g3, g4⟩ := at_l st3k
    obtain ⟨Fc3, rfl, f3, hEF3⟩ := st3k.iv
    obtain ⟨loE, hloE⟩ : ∃ loE : Loop, loE = { loB with state := if jump.isNone then .ready else .done, pending := jump } := ⟨_, rfl⟩
    have hrun := run_endRound (P := cf.P) jump g3
    rw [← hloE] at hrun
    obtain ⟨p1, p2⟩ := loop_put st3k.rep.heap g2 g1 loE
    have hRg : ∀ i, lookH (keepH hk H3) i ≠ none → Rg cf.b i := st3k.av
    have hRF3 : ∀ i, lookH (keepH hk H3) i ≠ none → Fc3 i = none := fun i hi => f3.up i (rg_up' ok (hRg i hi))
    have hER3 : ∀ i, E i ≠ none → lookH (keepH hk H3) i = none := fun i hi => by
      cases hB : lookH (keepH hk H3) i with
      | none => rfl
      | some B => exact absurd (hA i (.inr (hRg i (by rw [hB]; simp)))) hi
    have eq3 : setH (tot (setH (tot E Fc3) (some (2000000000 + cf.b, .loop loB))) (lookH (keepH hk H3))) (some (2000000000 + cf.b, .loop loE)) = tot (setH (tot Fc3 (lookH (keepH hk H3))) (some (2000000000 + cf.b, .loop loE))) E := by
      rw [glR_eq hEF3 hER3 hEl g4]
      funext i
      by_cases e : i = 2000000000 + cf.b
      · subst e; rw [tot_none g4]; simp [setH]
      · simp [setH, e, tot]
    rw [eq3] at p1 p2
    have rok3 : ROK cf hk ys (keepH hk H3) := ⟨fun i hi => keepH_mem hi, hcE, st3k.yd, hRg⟩
    have hloR : jump = none → loE = lo := fun e => by
      rw [hloE, hloB, e, hlo0]; rfl
    refine ⟨_, _, hrun, jump.isSome, setH (tot Fc3 (lookH (keepH hk H3))) (some (2000000000 + cf.b, .loop loE)), ρ3, by cases jump <;> rfl, ⟨keepH hk H3, Fc3, loE, rfl, ⟨f3.iv, f3.cl, f3.up, fun i hi => ?_, fun j hj => f3.lp j (fok.lp j hj)⟩, rok3, fun hs => ?_, fun hs => ?_⟩, closed_set (closed_it f3.cl rok3 hRF3 (fun j hj => f3.lp j (fok.lp j (hys j hj)))) _ _, fun i hi => ?_, p1, st3k.tr.trans p2⟩
    · rcases f3.dm i hi with h1 | h1
      · exact fok.dm i h1
      · exact .inr h1
    · have e : jump = none := by cases jump <;> simp at hs ⊢
      exact ⟨hloR e, hj1 e⟩
    · obtain ⟨c, rfl⟩ := Option.isSome_iff_exists.1 hs
      obtain ⟨e, h1, h2⟩ := hj2 c rfl
      refine ⟨e, c, h1, ?_, h2⟩
      rw [hloE, hloB]; rfl
    · by_cases e : i = 2000000000 + cf.b
      · left; simp [setH, e]
      · simp only [setH, if_neg e] at hi ⊢
        cases hB : lookH (keepH hk H3) i with
        | some B => exact .inr (.inr (hRg i (by rw [hB]; simp)))
        | none =>
          rw [tot_none hB] at hi
          rcases f3.dm i hi with h1 | h1
          · left
            cases hC : lookH R i with
            | none => rw [tot_none hC]; exact h1
            | some C => rw [tot_some hC]; simp
          · exact .inr (.inl h1)
  cases e with
  | normal =>
    obtain ⟨q1, q2, q3⟩ := q
    exact fin none q1 q2 (fun _ => q3) (fun c h => by cases h)
  | ret =>
    obtain ⟨q1, q2, q3⟩ := q
    exact fin (some .ret) q1 q2 (fun h => by cases h) (fun c h => by cases h; exact ⟨.ret, rfl, q3⟩)
  | exit id =>
    obtain ⟨q1, q2, q3⟩ := q
    exact fin (some (.exit id)) q1 q2 (fun h => by cases h) (fun c h => by cases h; exact ⟨.exit id, rfl, q3⟩)
  | goto l => exact q.elim
  | panic ch => exact q.elim
  | outgrown => exact q.elim
end
end Go.Proofs.YtnfggkopledpcaaGreat
/- The shadow's code, VII: loops over iterators, the statement. -/
namespace Go.Proofs.YtnfggkopledpcaaGreat
open Go.RowKit
theorem trans_ne {NA : Nat → Prop} {w w' : World} {ρ ρ' : Nat → Option Nat} {H H' : Nat → Option Blk} (tr : Trans NA w ρ H w' ρ' H') {i : Nat} (h : H i ≠ none) : H' i ≠ none := by
  cases hB : H i with
  | none => exact absurd hB h
  | some B =>
    by_cases hk : B.kind.1 = 1
    · cases B with
      | arr t k rows => obtain ⟨rows', e, _⟩ := (tr.2 i).2 t k rows hB; rw [e]; simp
      | _ => simp [Blk.kind] at hk
    · obtain ⟨B', e, _⟩ := (tr.2 i).1 B hB hk
      rw [e]; simp
def toC2 : SV → Option CV
  | .c x => some x
  | .agg xs => (allC xs).map .agg
  | _ => none
def allC2 : List SV → Option (List CV)
  | [] => some []
  | x :: xs => match toC2 x, allC2 xs with
    | some y, some ys => some (y :: ys)
    | _, _ => none
def fnC : SV → Option CV
  | .c x => some x
  | .fn f fs cs => match allC2 fs, allC2 cs with
    | some xs, some ys => some (.fn f xs ys)
    | _, _ => none
  | _ => none
theorem allC_eq : ∀ {xs : List SV} {ys : List CV}, allC xs = some ys → xs = ys.map .c
  | [], ys, h => by simp [allC] at h; subst h; rfl
  | x :: xs, ys, h => by
    simp only [allC] at h
    split at h
    case h_2 => cases h
    case h_1 y zs h1 h2 =>
      cases h
      rw [List.map_cons, ← allC_eq h2]
      cases x with
      | c z => simp only [toC, Option.some.injEq] at h1; rw [h1]
      | _ => cases h1
section
variable {w : World} {NA : Nat → Prop} {ρ : Nat → Option Nat} {H : Nat → Option Blk}
theorem toC2_rep {x : SV} {y : CV} {v : Value} (h : RepS w NA ρ H x v) (hc : toC2 x = some y) : RepC w (Mut NA ρ H) y v := by
  cases h with
  | c z v r => simp only [toC2, Option.some.injEq] at hc; subst hc; exact r
  | agg xs vs h1 h2 =>
    simp only [toC2, Option.map_eq_some_iff] at hc
    obtain ⟨ys, hys, rfl⟩ := hc
    have e := allC_eq hys
    subst e
    refine .agg ys vs (by simpa using h1) (fun i x v hx hv => ?_)
    have := h2 i (.c x) v (by rw [List.getElem?_map, hx]; rfl) hv
    cases this with
    | c _ _ r => exact r
  | _ => simp [toC2] at hc
theorem allC2_rep : ∀ {xs : List SV} {ys : List CV} {vs : List Value}, allC2 xs = some ys → vs.length = xs.length → (∀ (i : Nat) x v, xs[i]? = some x → vs[i]? = some v → RepS w NA ρ H x v) → vs.length = ys.length ∧ ∀ (i : Nat) y v, ys[i]? = some y → vs[i]? = some v → RepC w (Mut NA ρ H) y v
  | [], ys, vs, h, hl, _ => by simp [allC2] at h; subst h; exact ⟨hl, fun i y v hy => by simp at hy⟩
  | x :: xs, ys, [], h, hl, _ => by simp at hl
  | x :: xs, ys, v :: vs, h, hl, hr => by
    simp only [allC2] at h
    split at h
    case h_2 => cases h
    case h_1 y zs h1 h2 =>
    cases h
    obtain ⟨g1, g2⟩ := allC2_rep h2 (vs := vs) (by simpa using hl) (fun i x v hx hv => hr (i + 1) x v (by simpa using hx) (by simpa using hv))
    refine ⟨by simp [g1], fun i z u hz hu => ?_⟩
    cases i with
    | zero => simp at hz hu; subst hz; subst hu; exact toC2_rep (hr 0 x _ rfl rfl) h1
    | succ i => exact g2 i z u (by simpa using hz) (by simpa using hu)
theorem fnC_rep {x : SV} {y : CV} {v : Value} (h : RepS w NA ρ H x v) (hc : fnC x = some y) : RepC w (Mut NA ρ H) y v := by
  cases h with
  | c z v r => simp only [fnC, Option.some.injEq] at hc; subst hc; exact r
  | fn f fs cs vf vc h1 h2 h3 h4 =>
    simp only [fnC] at hc
    split at hc
    case h_2 => cases hc
    case h_1 xs ys e1 e2 =>
    cases hc
    obtain ⟨g1, g2⟩ := allC2_rep e1 (vs := vf.toList) (by simpa using h1) (fun i x v hx hv => h3 i x v hx (by simpa using hv))
    obtain ⟨g3, g4⟩ := allC2_rep e2 (vs := vc.toList) (by simpa using h2) (fun i x v hx hv => h4 i x v hx (by simpa using hv))
    exact .fn f xs ys vf vc (by simpa using g1) (by simpa using g3) (fun i x v hx hv => g2 i x v hx (by simpa using hv)) (fun i x v hx hv => g4 i x v hx (by simpa using hv))
  | _ => simp [fnC] at hc
end
theorem st_range {cf : Cf} {x : Operand} {ps : List Nat} {A B : SCode} {T : TL} {H : HL} {Q : Exit → TL → HL → Prop} {g : FuncId} {fs es : List CV} {bs : Nat} {xs : List (List CV)} (hit : IterL cf.P g bs fs es xs) (hk ys : List Nat) (I : Nat → HL → Prop) (ho : cf.o = true) (hK : cf.K = [])
    (hx : fnC (ev (lookT T) x) = some (.fn g fs es)) (hent : entB cf.P g = true) (hbs : cf.b + 1000 ≤ bs) (hys : ∀ j ∈ ys, ∃ v, cf.G (.yl j) v) (hps : ∀ row ∈ xs, row.length = ps.length) (hl : lessOK cf hk T H = true) (hc : clE ys (keepH hk H) = true) (h0 : I 0 (keepH hk H))
    (hr : ∀ k row R, I k R → xs[k]? = some row → ∀ Iv G1, (∀ x v, cf.G x v → G1 x v) → Into cf Iv G1 → STri (cfR cf hk Iv G1) A (parT ps row T) R (asgQ cf hk ys I k T G1 B Q))
    (hd : ∀ R, I xs.length R → Q .normal T R) : STri cf (.range x ps A B) T H Q := fun ok hm c hcc r md hro cx hHs hu a w ⟨F, ρ, st0⟩ => by
  have hr0 := hro ho
  subst hr0
  have st := keep_rep ok hHs hl st0
  obtain ⟨ca, cb, rfl, hca, hcb, hpn⟩ := comp_range (by simpa [SCode.erase] using hcc)
  have lidU := lid_up ok
  have q := fnC_rep (rep_ev st.rep.tmp x) hx
  generalize hv : a.eval x = v at q
  cases q with
  | fn _ _ _ vf vc a1 a2 a3 a4 =>
  have hent' : ∀ args w, (callFunc g args).run cf.P w = .ok (.enter g args) w := fun args w => by
    unfold entB at hent
    split at hent
    case h_2 => cases hent
    case h_1 fn hfn' =>
    simp only [Bool.and_eq_true, Bool.not_eq_true'] at hent
    have hb' : ¬ fn.body = none := fun e => by rw [e] at hent; simp at hent
    have hnm' : ¬ fn.name = "runtime.NumGoroutine" := by simpa using hent.2
    simp [callFunc, hfn', hb', hnm']
  have hFl : F (2000000000 + cf.b) = none := st.ol ho _ lidU
  have hRl : lookH (keepH hk H) (2000000000 + cf.b) = none := by
    cases hB : lookH (keepH hk H) (2000000000 + cf.b) with
    | none => rfl
    | some B => exact absurd (st.av _ (by rw [hB]; simp)) (lid_rg ok)
  have htl : tot F (lookH (keepH hk H)) (2000000000 + cf.b) = none := by rw [tot_none hRl]; exact hFl
  refine wpIn_rangeFunc ?_
  intro fn hfn
  obtain ⟨lo0, hlo0⟩ : ∃ lo0 : Loop, lo0 = { state := .ready, pending := none, fn := fn, tmps := a.tmps, params := ⟨ps⟩, assign := ca, body := cb, defers := w.heap.size } := ⟨_, rfl⟩
  -- the record is laid
  have e1 : Ext w (w.alloc (.deferred (some []))) := (Ext.refl w).alloc _
  obtain ⟨x1, x2⟩ := ext_rep st.rep.heap e1
  obtain ⟨n1, n2⟩ := new_rep x1 htl (.loop lo0) (.loop lo0) (fun _ => ⟨_, by simp [setR], heap_alloc_new _ _⟩)
  have tr0 := x2.trans n2
  have hsz1 : (w.alloc (.deferred (some []))).heap.size = w.heap.size + 1 := by simp
  rw [hsz1] at n1 tr0
  obtain ⟨V, hV⟩ : ∃ V, (w.alloc (.deferred (some []))).alloc (.loop lo0) = V := ⟨_, rfl⟩
  rw [hV] at n1 tr0
  obtain ⟨ρ0, hρ0⟩ : ∃ ρ0, setR ρ (2000000000 + cf.b) (some (w.heap.size + 1)) = ρ0 := ⟨_, rfl⟩
  rw [hρ0] at n1 tr0
  have hl0 : ρ0 (2000000000 + cf.b) = some (w.heap.size + 1) := by rw [← hρ0]; simp [setR]
  have hVd : V.heap[w.heap.size]? = some (.deferred (some [])) := by
    rw [← hV]; exact (heap_alloc_old _ _ (by simp)).trans (heap_alloc_new w _)
  refine ⟨w.heap.size + 1, [{ target := .collected w.heap.size, args := #[] }], V, { target := .fn (.func g) vc, args := vf ++ #[.func (.yield (w.heap.size + 1)) #[] #[]] }, V, g,
    vf ++ #[.func (.yield (w.heap.size + 1)) #[] #[]] ++ vc, V, ?_, ?_, fun _ _ => trivial, ?_, fun h => WF_depth h, callsIn_WF ?_⟩
  · rw [← hV, hlo0]
    exact run_enterLoop_outer _ _ _ _ _
  · simp only [resolve, hv]
    simp [go_sem]
  · simp only [invoke]
    exact hent' _ _
  -- what must stay known
  obtain ⟨G1, hG1⟩ : ∃ G1 : SV → Value → Prop, G1 = fun y u => cf.G y u ∨ (∃ i, y = lookT T i ∧ u = a.tmps.getD i undef) ∨ (y = .yl (2000000000 + cf.b) ∧ u = .func (.yield (w.heap.size + 1)) #[] #[]) := ⟨_, rfl⟩
  have hGG : ∀ y u, cf.G y u → G1 y u := fun y u h => by rw [hG1]; exact .inl h
  have hs0 : setH (tot F (lookH (keepH hk H))) (some (2000000000 + cf.b, .loop lo0)) (2000000000 + cf.b) = some (.loop lo0) := by simp [setH]
  have hGr : ∀ y u, G1 y u → RepS V cx.NA ρ0 (setH (tot F (lookH (keepH hk H))) (some (2000000000 + cf.b, .loop lo0))) y u := fun y u h => by
    rw [hG1] at h
    rcases h with h | ⟨i, rfl, rfl⟩ | ⟨rfl, rfl⟩
    · exact tr0.mv (st.gh y u h)
    · exact tr0.mv (st.rep.tmp i)
    · exact .yl _ lo0 _ hs0 hl0
  have inK : ∀ i, tot F (lookH (keepH hk H)) i ≠ none → Rg cf.b i → i ∈ hk := fun i hi hrg => by
    rw [Ne, tot] at hi
    cases hB : lookH (keepH hk H) i with
    | some B => exact keepH_mem (by rw [hB]; simp)
    | none => rw [hB] at hi; exact absurd (st.out i hrg) hi
  have okR : ∀ Iv, (cfR cf hk Iv G1).ok := fun Iv => ⟨ok.n, ok.b, ok.A, fun h => by (simp [cfR] at h), fun y u h => by
    rw [show (cfR cf hk Iv G1).G = G1 from rfl, hG1] at h
    rcases h with h | ⟨i, rfl, rfl⟩ | ⟨rfl, rfl⟩
    · refine inP_mono (fun i hi hrg => ?_) y (ok.G y u h)
      have := hi hrg
      rw [hK] at this; cases this
    · exact inP_mono inK _ (st.rep.tmp i).inP
    · exact fun (h : Rg cf.b (2000000000 + cf.b)) => absurd h (lid_rg ok)⟩
  have hysF : ∀ j, (∃ v, cf.G (.yl j) v) → ∃ lo, F j = some (.loop lo) := fun j ⟨v, hv⟩ => by
    have := st.gh _ _ hv
    cases this with
    | yl _ lo b hH _ =>
      cases hB : lookH (keepH hk H) j with
      | none => rw [tot_none hB] at hH; exact ⟨lo, hH⟩
      | some B => rw [tot_some hB] at hH; cases hH; exact absurd hB ((clE_spec hc).1 j lo)
  have rok0 : ROK cf hk ys (keepH hk H) := ⟨fun i hi => keepH_mem hi, hc, st.yd, st.av⟩
  have fok0 : FcOK cf cx.Hs (fun j => ∃ v, cf.G (.yl j) v) (kOf cf.b (keepH hk H)) F := ⟨st.iv, st.cl, st.ol ho, st.dm, hysF⟩
  have hT1 : ∀ i, G1 (lookT T i) (a.tmps.getD i undef) := fun i => by rw [hG1]; exact .inr (.inl ⟨i, rfl, rfl⟩)
  refine (hit (IvO cf cx.Hs hk ys I T Q lo0) (fun i => cf.A i ∨ Rg cf.b i) G1 (2000000000 + cf.b) (fun i hi => ?_) ⟨_, by rw [hG1]; exact .inr (.inr ⟨rfl, rfl⟩)⟩ (fun k row hrow => by
      rw [hlo0]
      exact range_round ho ok hm okR hGG hys hps hpn hca hcb st.rep.size hT1 (fun k row R hI hrw Iv hin => hr k row R hI hrw Iv G1 hGG hin) hrow)
    cx.w0 cx.N0 cx.NA ρ0 (setH (tot F (lookH (keepH hk H))) (some (2000000000 + cf.b, .loop lo0))) (w.heap.size + 1) lo0 vf vc V cx.na cx.nn ⟨keepH hk H, F, lo0, rfl, fok0, rok0, fun _ => ⟨rfl, h0⟩, fun h => by cases h⟩
    (closed_set (closed_it st.cl rok0 st.dis (fun j hj => hysF j (hys j hj))) _ _) (fun i hi => ?_) n1 hs0 hl0 hGr a1 a2 (fun i y u hy hu => (a3 i y u hy hu).move tr0.1) (fun i y u hy hu => (a4 i y u hy hu).move tr0.1)).mono fun e W hpost => ?_
  · have hiU : Up cf.b i := by unfold Up at hi ⊢; omega
    rintro (h | h)
    · exact ok.A2 ho i hiU h
    · unfold Up at hi
      have := ok.b
      rcases h with h | h <;> omega
  · have hiU : Up cf.b i := by unfold Up at hi ⊢; omega
    have e : i ≠ 2000000000 + cf.b := fun e => by
      subst e
      have := ok.b
      unfold Up at hi; omega
    simp only [setH, if_neg e]
    cases hB : lookH (keepH hk H) i with
    | none => rw [tot_none hB]; exact st.ol ho i hiU
    | some B =>
      exfalso
      have h := st.av i (by rw [hB]; simp)
      unfold Up at hi
      have := ok.b
      rcases h with h | h <;> omega
  -- behind the loop
  obtain ⟨⟨v, rfl⟩, k, stop, F', ρ', hk', hIv', hcl', hdom', hrep', htr'⟩ := hpost
  obtain ⟨R, Fc, lo, rfl, fok, rok, hs1, hs2⟩ := hIv'
  have hl' : ρ' (2000000000 + cf.b) = some (w.heap.size + 1) := (loop_kept htr' hs0).2.trans hl0
  have hsl : setH (tot Fc (lookH R)) (some (2000000000 + cf.b, .loop lo)) (2000000000 + cf.b) = some (.loop lo) := by simp [setH]
  have hheap : W.heap[w.heap.size + 1]? = some (.loop lo) := by
    obtain ⟨b, e1, e2⟩ := hrep'.blk _ _ hsl
    rw [hl'] at e1; cases e1; exact e2
  have hRl' : lookH R (2000000000 + cf.b) = none := by
    cases hB : lookH R (2000000000 + cf.b) with
    | none => rfl
    | some B => exact absurd (rok.rg _ (by rw [hB]; simp)) (lid_rg ok)
  have hFt : tot Fc (lookH R) (2000000000 + cf.b) = none := by rw [tot_none hRl']; exact fok.up _ lidU
  have hRF : ∀ i, lookH R i ≠ none → Fc i = none := fun i hi => fok.up i (rg_up' ok (rok.rg i hi))
  have trA := tr0.trans htr'
  have fin : ∀ lo2 : Loop, StAt cf cx T R { a with defers := [{ target := .collected w.heap.size, args := #[] }] ++ a.defers } (W.putObj (w.heap.size + 1) (.loop lo2)) Fc ρ' := fun lo2 => by
    obtain ⟨p1, p2⟩ := loop_put hrep' hsl hl' lo2
    have eq4 : setH (setH (tot Fc (lookH R)) (some (2000000000 + cf.b, .loop lo))) (some (2000000000 + cf.b, .loop lo2)) = tot (tot Fc (lookH R)) (fun i => if i = 2000000000 + cf.b then some (.loop lo2) else none) := by
      funext i
      by_cases e : i = 2000000000 + cf.b <;> simp [setH, tot, e]
    rw [eq4] at p1 p2
    obtain ⟨o1, o2, o3⟩ := only_rep (closed_it fok.cl rok hRF (fun j hj => fok.lp j (hys j hj))) (fun i hi => by
      by_cases e : i = 2000000000 + cf.b
      · subst e; exact hFt
      · simp [e] at hi) p1
    have trB := trA.trans p2
    have kept : ∀ i, tot F (lookH (keepH hk H)) i ≠ none → tot Fc (lookH R) i ≠ none := fun i hi => by
      have h1 := trans_ne trB hi
      have e : i ≠ 2000000000 + cf.b := fun e => by subst e; exact hi htl
      rw [Ne, tot] at h1
      simpa [e] using h1
    have mv : ∀ y u, RepS w cx.NA ρ (tot F (lookH (keepH hk H))) y u → RepS (W.putObj (w.heap.size + 1) (.loop lo2)) cx.NA ρ' (tot Fc (lookH R)) y u := fun y u h =>
      (trB.mv h).less (D := fun i => tot Fc (lookH R) i ≠ none) (fun i B hB => by rw [o3 i (by rw [hB]; simp)]; exact hB) (fun i B hB hi => by rw [← o3 i hi]; exact hB) (inP_mono kept y h.inP)
    have trC : ∀ i, cx.Hs i ≠ none → i ≠ 2000000000 + cf.b := fun i hi e => by subst e; exact hi (hu ho _ lidU)
    have nD : ∀ D, ¬ Mut cx.NA ρ (tot F (lookH (keepH hk H))) D → D < w.heap.size → ¬ Mut cx.NA ρ' (tot Fc (lookH R)) D ∧ (W.putObj (w.heap.size + 1) (.loop lo2)).heap[D]? = w.heap[D]? := fun D h1 h2 => by
      obtain ⟨q1, q2⟩ := (trB.1.trans o2).same D h2 h1
      exact ⟨q2, q1⟩
    refine ⟨fok.iv, fok.cl, fun i hi => fok.up i (rg_up' ok hi), fun _ i hi => fok.up i hi, hRF, rok.yd, rok.rg, fok.dm, ⟨st.rep.size, o1, fun i => mv _ _ (st.rep.tmp i)⟩, fun y u h => mv y u (st.gh y u h), ⟨(st.tr.1.trans trB.1).trans o2, fun i => ?_⟩, ?_⟩
    · have hi := ((st.tr.trans trB).2 i)
      refine ⟨fun B hB hkd => ?_, fun t q rows hB => ?_⟩
      · obtain ⟨B', h1, h2⟩ := hi.1 B hB hkd
        have e := trC i (by rw [hB]; simp)
        refine ⟨B', ?_, h2⟩
        rw [← h1]
        simp [tot, e]
      · obtain ⟨rows', h1, h2⟩ := hi.2 t q rows hB
        have e := trC i (by rw [hB]; simp)
        refine ⟨rows', ?_, h2⟩
        rw [← h1]
        simp [tot, e]
    · obtain ⟨Ds, h1, h2, h3⟩ := st.df
      refine ⟨w.heap.size :: Ds, by rw [h1]; rfl, List.nodup_cons.2 ⟨fun hm => by have := (h3 _ hm).2.1; omega, h2⟩, fun D hD => ?_⟩
      have hszW : w.heap.size < W.heap.size := by
        have := lt_heap hheap; omega
      rcases List.mem_cons.1 hD with rfl | hD
      · have hn0 : ¬ Mut cx.NA ρ0 (setH (tot F (lookH (keepH hk H))) (some (2000000000 + cf.b, .loop lo0))) w.heap.size := by
          rintro (h | ⟨i, q1, q2⟩)
          · have := cx.na _ h
            have := st.rep.heap.fr.size
            omega
          · by_cases e : i = 2000000000 + cf.b
            · subst e; rw [hl0] at q2; simp at q2
            · simp only [setH, if_neg e] at q1
              rw [← hρ0] at q2
              simp only [setR, if_neg e] at q2
              have := st.rep.heap.lt ⟨i, q1, q2⟩
              omega
        obtain ⟨q1, q2⟩ := ((htr'.1.trans p2.1).trans o2).same w.heap.size (lt_heap hVd) hn0
        exact ⟨st.tr.1.size, by simpa using hszW, q2, q1.trans hVd⟩
      · obtain ⟨l1, l2, l3, l4⟩ := h3 D hD
        obtain ⟨q1, q2⟩ := nD D l3 l2
        exact ⟨l1, by simp; omega, q1, q2.trans l4⟩
  cases stop with
  | false =>
    obtain ⟨rfl, hI⟩ := hs1 rfl
    have hlo : lo.state = .ready ∧ lo.pending = none := by rw [hlo0]; simp
    have hrun := run_endLoop (P := cf.P) hheap (by rw [hlo.1]; simp)
    rw [hlo.2] at hrun
    rw [hk' rfl] at hI
    exact ⟨none, _, hrun, T, R, hd R hI, Fc, ρ', fin _⟩
  | true =>
    obtain ⟨e, c, h1, h2, h3⟩ := hs2 rfl
    have hlo : lo.state = .done ∧ lo.pending = some c := by rw [h2]; simp
    have hrun := run_endLoop (P := cf.P) hheap (by rw [hlo.1]; simp)
    rw [hlo.2] at hrun
    refine ⟨some c, _, hrun, ?_⟩
    cases e with
    | ret => cases h1; exact wpIn_ret ⟨T, R, h3, Fc, ρ', fin _⟩
    | exit id => cases h1; exact wpIn_exit ⟨T, R, h3, Fc, ρ', fin _⟩
    | _ => cases h1
end Go.Proofs.YtnfggkopledpcaaGreat
/- Small tools for runs of the shadow. -/
namespace Go.Proofs.YtnfggkopledpcaaGreat
open Go.RowKit
theorem follows : Tryz.prog.follows .mixedOrders = true := by kernel_rfl
theorem wrap_in (n : Int) (h1 : -9223372036854775808 ≤ n) (h2 : n ≤ 9223372036854775807) : IntKind.i64.wrap n = n := IntWalk.i64_in _ ⟨h1, h2⟩
abbrev I (n : Int) : CV := .val (.int .i64 n)
abbrev B (b : Bool) : CV := .val (.bool b)
attribute [simp] runP freeOK outP doesP actF ev lookT lookH putL setL setL1 binS binI unS boolS mkS aggS eqS rowsOf SRop.site Option.getD_some Option.getD_none Option.map_some Option.map_none keepT List.map_cons List.map_nil List.drop_zero
  List.drop_succ_cons List.take_zero List.take_succ_cons List.length_cons List.length_nil List.set_cons_zero List.set_cons_succ setMany SV.cells CV.cells SV.one CV.one SV.isC SV.pure List.all_cons List.all_nil closeAll close close1 closeL toC allC fillC chunk
  openC List.nil_append List.cons_append List.append_nil List.getElem?_cons_zero List.getElem?_cons_succ Bool.and_true Bool.true_and Bool.false_eq_true true_and and_true forall_const not_true_eq_false not_false_eq_true false_implies true_implies
  fp refs refP refsA comp2 wr al List.contains_cons List.contains_nil initT imp_self ne_eq decide_true decide_false Bool.not_true Bool.not_false List.flatten_nil List.replicate_zero List.replicate_succ List.flatten_cons maxF minF Int.toNat_natCast
  Bool.not_eq_true Bool.not_eq_false Bool.true_eq_false false_and and_false Bool.and_false Bool.false_and Bool.or_true Bool.true_or Bool.or_false Bool.false_or false_or or_false or_true true_or List.append_assoc exists_eq_left resC packC Option.some.injEq
  guardP_same guardP_tf guardP_ft optK_some boolP_of boolP_un eq_self reduceCtorEq ite_self SV.outD outDL Less LessT LessH Blk.outD lessOK keepH List.filterMap_cons List.filterMap_nil dropK dropOK newOK List.filter_nil List.filter_cons genP genD SOp.gen closeP closePL SV.inE inEL clE initS parT bound
  keyS intsOf getM putM entsS shiftS refs1 SRop.er SOp.erase itQ Option.isNone_none Option.isNone_some Option.isSome_some Option.isSome_none Nat.zero_add
section
variable (P : Program) (M : List FuncId) (n b : Nat) (Iv : Inv) (A : Nat → Prop) (G : SV → Value → Prop) (cf : Cf) (hk : List Nat)
@[simp] theorem cfF_P : (cfF P M n).P = P := rfl
@[simp] theorem cfF_b : (cfF P M n).b = 0 := rfl
@[simp] theorem cfF_K : (cfF P M n).K = [] := rfl
@[simp] theorem cfI_P : (cfI P M n b Iv A G).P = P := rfl
@[simp] theorem cfI_b : (cfI P M n b Iv A G).b = b := rfl
@[simp] theorem cfI_K : (cfI P M n b Iv A G).K = [] := rfl
@[simp] theorem cfI_G : (cfI P M n b Iv A G).G = G := rfl
@[simp] theorem cfI_A : (cfI P M n b Iv A G).A = A := rfl
@[simp] theorem cfI_Iv : (cfI P M n b Iv A G).Iv = Iv := rfl
@[simp] theorem cfR_P : (cfR cf hk Iv G).P = cf.P := rfl
@[simp] theorem cfR_b : (cfR cf hk Iv G).b = cf.b := rfl
@[simp] theorem cfR_K : (cfR cf hk Iv G).K = hk := rfl
@[simp] theorem cfR_G : (cfR cf hk Iv G).G = G := rfl
@[simp] theorem cfR_A : (cfR cf hk Iv G).A = cf.A := rfl
@[simp] theorem cfR_Iv : (cfR cf hk Iv G).Iv = Iv := rfl
end
theorem retQ_ret {rs : List SRes} {r : CV} {T : TL} {H : HL} (h : ∃ xs, resC (lookT T) (lookH H) rs = some xs ∧ CLe (packC xs) r) : retQ rs r .ret T H := ⟨.inr rfl, h⟩
theorem CLe.of_eq {x y : CV} (h : x = y) : CLe x y := h ▸ .refl x
theorem CLe.bool {a b : Bool} (h : a = b) : CLe (.val (.bool a)) (.val (.bool b)) := h ▸ .refl _
theorem CLe.int {k : IntKind} {a b : Int} (h : a = b) : CLe (.val (.int k a)) (.val (.int k b)) := h ▸ .refl _
theorem bool_tf {x : Bool} (h : x = true) (h' : x = false) : False := by rw [h] at h'; exact Bool.noConfusion h'
theorem bool_ft {x : Bool} (h : x = false) (h' : x = true) : False := bool_tf h' h
attribute [simp ↓] seqQ blockQ
def isValB : CV → Bool
  | .val _ => true
  | _ => false
theorem flat_all {xs : List CV} (h : xs.all isValB = true) : ∀ (i : Nat) x, xs[i]? = some x → Flat x := fun i x hx => by
  have := List.all_eq_true.1 h x (List.mem_of_getElem? hx)
  cases x <;> simp [isValB] at this
  exact .val _
theorem flat_agg {xs : List CV} (h : xs.all isValB = true) : Flat (.agg xs) := .agg xs (flat_all h)
theorem flat_tup {xs : List CV} (h : xs.all isValB = true) : Flat (.tup xs) := .tup xs (flat_all h)
def flatV : CV → Bool
  | .val _ => true
  | .agg xs | .tup xs => xs.all isValB
  | _ => false
theorem flatV_or {p : Bool} {r : CV} (h : (p || flatV r) = true) : p = true ∨ Flat r := by
  cases p with
  | true => exact .inl rfl
  | false =>
    right
    cases r with
    | val v => exact .val v
    | agg xs => exact flat_agg h
    | tup xs => exact flat_tup h
    | _ => cases h
theorem callP_b {P : Program} {f : FuncId} {cs : List CV} {p : Bool} {K : SV → Option (Nat × Blk) → Prop} {r : CV} (h : SC P f cs r) (hp : (p || flatV r) = true) (hK : K (openC r) none) : callP P f (some cs) p K .mk := callP_of h (flatV_or hp) hK
theorem callV_b {cf : Cf} {f : FuncId} {fs cs es : List CV} {p : Bool} {H : HL} {K : SV → HL → Prop} {r : CV} (he : entB cf.P f = true) (h : SC cf.P f (fs ++ cs ++ es) r) (hp : (p || flatV r) = true) (hK : K (openC r) H) : callVP cf (.c (.fn f fs es)) (some cs) p H K .mk := callV_fn he h (flatV_or hp) hK
end Go.Proofs.YtnfggkopledpcaaGreat
/- Functions that turn a slice of their caller's own. -/
namespace Go.Proofs.YtnfggkopledpcaaGreat
open Go.RowKit
def cfM (P : Program) (M : List FuncId) (n : Nat) : Cf := { P := P, M := M, n := n, b := 0, K := [900], Iv := fun _ _ F => F = fun _ => none, A := fun _ => False, G := fun _ _ => False, o := false }
theorem cfM_ok (P : Program) (M : List FuncId) (n : Nat) (hn : n ≤ 1000) : (cfM P M n).ok := ⟨hn, by show 0 + 1000 ≤ 1000000000; decide, fun _ _ h => h, fun _ _ _ h => h, fun _ _ h => h.elim⟩
def initM (len : Nat) (cs : List CV) : TL := (0, .own 900 len) :: initT 1 cs
def off9 : SV → SV
  | .c x => .c x
  | .own id len => if id = 900 then .dead else .own id len
  | _ => .dead
def arr9 (H : HL) : Nat → Option Blk := fun i => if i = 900 then none else match lookH H i with
  | some (.arr t k rows) => some (.arr t k rows)
  | _ => none
def retM (rs : List SRes) (t : TypeId) (k : Nat) (n : Nat) (R : List (List CV) → Prop) (r : CV) (e : Exit) (T : TL) (H : HL) : Prop :=
  (e = .normal ∨ e = .ret) ∧ ∃ rows', lookH H 900 = some (.arr t k rows') ∧ R rows' ∧ rows'.length = n ∧ ∃ xs, resC (fun i => off9 (lookT T i)) (arr9 H) rs = some xs ∧ CLe (packC xs) r
theorem rep_sub {w : World} {N N' : Nat → Prop} (h : ∀ b, N' b → N b) {x : CV} {v : Value} (r : RepC w N x v) : RepC w N' x v := r.move ⟨Nat.le_refl _, fun b _ hb => ⟨rfl, fun hm => hb (h b hm)⟩⟩
theorem mc_of {P : Program} {f : FuncId} {fn : Func} {c : Code} {sc : SCode} {rs : List SRes} {t : TypeId} {k : Nat} {rows : List (List CV)} {cs : List CV} {R : List (List CV) → Prop} {r : CV} (M : List FuncId) (hm : P.follows .mixedOrders = true) (hf : P.funcs[f]? = some fn) (hb : fn.body = some c) {n : Nat} (hn : fn.ntmps = n) (hn2 : n ≤ 1000)
    (hcomp : compCode P M n c = some sc.erase) (hres : compRes P fn.results.toList = some rs) (hle : cs.length + 1 ≤ n) (h : STri (cfM P M n) sc (initM rows.length cs) [(900, .arr t k rows)] (retM rs t k rows.length R r)) : MC P f t k rows cs R (some r) := fun w NA p v0 vs hna hnp hB ho hv0 hs hv => by
  have e0 : tot (fun _ => none) (lookH [(900, .arr t k rows)]) = one1 t k rows := by
    funext i
    by_cases hi : i = 900
    · subst hi; rfl
    · simp [tot, lookH, one1, hi]
  have st0 : StAt (cfM P M n) ⟨w, fun b => p = some b, NA, w, fun _ => p, one1 t k rows, hna, fun b h1 h2 => hnp b h2 h1⟩ (initM rows.length cs) [(900, .arr t k rows)] { tmps := (#[v0] ++ vs) ++ Array.replicate (fn.ntmps - (#[v0] ++ vs).size) undef, defers := [] } w (fun _ => none) (fun _ => p) := by
    refine ⟨rfl, fun id t cells h => by simp at h, fun _ _ => rfl, (fun h => by cases h), fun _ _ => rfl, .inl ?_, fun i hi => ?_, fun i hi => absurd rfl hi, ⟨?_, ⟨?_, ?_, ⟨rfl, rfl, rfl, Nat.le_refl _, fun _ _ _ => rfl⟩, ?_⟩, fun i => ?_⟩, fun _ _ h => h.elim, ?_, [], rfl, List.nodup_nil, fun D hD => by cases hD⟩
    · simp [lookH, cfM]
    · left
      by_cases e : i = 900
      · subst e; simp [cfM]
      · simp [lookH, e] at hi
    · show _ = n
      simp at hs ⊢; omega
    · rw [e0]
      intro i j b h1 h2 _ _
      have : ∀ i, one1 t k rows i ≠ none → i = 900 := fun i hi => by
        by_cases e : i = 900
        · exact e
        · simp [one1, e] at hi
      rw [this i h1, this j h2]
    · rw [e0]
      intro id B hid
      by_cases e : id = 900
      · subst e; simp [one1] at hid; subst hid; exact hB
      · simp [one1, e] at hid
    · rintro b ⟨i, h1, h2⟩ _
      exact h2
    · rw [e0]
      cases i with
      | zero =>
        show RepS _ _ _ _ (.own 900 rows.length) _
        have : ((#[v0] ++ vs) ++ Array.replicate (fn.ntmps - (#[v0] ++ vs).size) undef).getD 0 undef = v0 := by
          rw [Array.getD_eq_getD_getElem?, Array.getElem?_append_left (by simp; omega), Array.getElem?_append_left (by simp)]
          rfl
        rw [this]
        exact .own 900 rows.length t k rows v0 (by simp [one1]) (Nat.le_refl _) ho (fun _ => hv0)
      | succ i =>
        have e1 : lookT (initM rows.length cs) (i + 1) = lookT (initT 1 cs) (i + 1) := by simp [initM, lookT]
        rw [e1, initT_get, if_pos (by omega), Nat.add_sub_cancel]
        cases hc : cs[i]? with
        | none => exact .dead _
        | some x =>
          have hi : i < vs.size := by rw [hs]; exact (List.getElem?_eq_some_iff.1 hc).1
          have : ((#[v0] ++ vs) ++ Array.replicate (fn.ntmps - (#[v0] ++ vs).size) undef).getD (i + 1) undef = vs[i] := by
            rw [Array.getD_eq_getD_getElem?, Array.getElem?_append_left (by simp; omega), Array.getElem?_append_right (by simp)]
            simp [hi]
          rw [this]
          refine .c x _ (rep_sub (fun b hb => mut_one.1 hb) (hv i x _ hc (Array.getElem?_eq_getElem hi)))
    · rw [e0]; exact Trans.refl _ _ _ _
  refine calls_of_st (cf := cfM P M n) (cfM_ok P M n hn2) hm hf hb hcomp h (cx := ⟨w, fun b => p = some b, NA, w, fun _ => p, one1 t k rows, hna, fun b h1 h2 => hnp b h2 h1⟩) (fun i _ _ hi => by
    by_cases e : i = 900
    · subst e; exact absurd (by simp [cfM]) hi
    · simp [one1, e]) (fun h => by cases h) (Nat.le_refl _) ⟨_, _, st0⟩ (fun e T' H' tmps w' F ρ hq st => ?_)
  obtain ⟨he, rows', hH9, hR, hlen, xs, hx1, hx2⟩ := hq
  refine ⟨he, ?_⟩
  have hF : F = fun _ => none := st.iv
  subst hF
  have e1 : tot (fun _ => none) (lookH H') = lookH H' := by
    funext i
    cases h : lookH H' i with
    | none => rw [tot_none h]
    | some B => rw [tot_some h]
  have q1 := st.rep.heap
  have q2 := st.rep.tmp
  have q3 := st.tr
  rw [e1] at q1 q2 q3
  obtain ⟨rows2, g1, g2, g3⟩ := (q3.2 900).2 t k rows (by simp [one1])
  rw [hH9] at g1
  cases g1
  obtain ⟨hρ, hcell⟩ := g3 (by omega)
  have hρ' : ρ 900 = p := hρ
  have hB9 := q1.blk 900 _ hH9
  -- without the caller's slice
  have own : ∀ b, Mut (fun b => NA b ∨ p = some b) ρ (arr9 H') b → Mut NA ρ (lookH H') b := fun b hb => by
    rcases hb with (hb | hb) | ⟨i, h1, h2⟩
    · exact .inl hb
    · exact .inr ⟨900, by rw [hH9]; simp, hρ'.trans hb⟩
    · refine .inr ⟨i, fun hn => h1 ?_, h2⟩
      unfold arr9
      split
      · rfl
      · rw [hn]
  have sub : ∀ i B, arr9 H' i = some B → i ≠ 900 ∧ lookH H' i = some B ∧ ∃ t k rows, B = .arr t k rows := fun i B hi => by
    unfold arr9 at hi
    split at hi
    · cases hi
    · rename_i hne
      split at hi
      · rename_i t k rows hl
        cases hi
        exact ⟨hne, hl, t, k, rows, rfl⟩
      · cases hi
  have ne9 : ∀ i, arr9 H' i ≠ none → i ≠ 900 ∧ lookH H' i ≠ none := fun i hi => by
    cases hB : arr9 H' i with
    | none => exact absurd hB hi
    | some B => obtain ⟨a1, a2, _⟩ := sub i B hB; exact ⟨a1, by rw [a2]; simp⟩
  have r1 : RepH w (fun b => p = some b) (fun b => NA b ∨ p = some b) ρ (arr9 H') w' := by
    refine ⟨fun i j b h1 h2 => q1.inj i j b (ne9 i h1).2 (ne9 j h2).2, fun id B hid => ?_, q1.fr, fun b ⟨i, h1, h2⟩ => q1.low b ⟨i, (ne9 i h1).2, h2⟩⟩
    obtain ⟨a1, a2, t2, k2, rows2, rfl⟩ := sub id B hid
    rcases q1.blk id _ a2 with ⟨b1, b2⟩ | ⟨b, cs, cap, b1, b2, b3, b4, b5, b6, b7⟩
    · exact .inl ⟨b1, b2⟩
    · exact .inr ⟨b, cs, cap, b1, b2, b3, b4, b5, b6, fun j row i x hr hx => by
        obtain ⟨v, c1, c2⟩ := b7 j row i x hr hx
        exact ⟨v, c1, rep_sub own c2⟩⟩
  have r2 : ∀ i, RepS w' (fun b => NA b ∨ p = some b) ρ (arr9 H') (off9 (lookT T' i)) (tmps.getD i undef) := fun i => by
    have hi := q2 i
    generalize lookT T' i = x at hi
    generalize tmps.getD i undef = v at hi
    cases hi with
    | c x v hx => exact .c _ _ (rep_sub own hx)
    | own id len t2 k2 rows2 v a1 a2 a3 a4 =>
      simp only [off9]
      split
      · exact .dead _
      · rename_i hne
        exact .own id len t2 k2 rows2 v (by unfold arr9; rw [if_neg hne, a1]) a2 a3 a4
    | _ => exact .dead _
  obtain ⟨us, u1, u2, u3⟩ := res_run (P := P) r1 r2 hres hx1
  have hrun := results_eq (P := P) u1
  have hcalm : Calm w' (fun b => (NA b ∨ p = some b) ∧ ¬ Own ρ (arr9 H') b) w' (fun b => NA b ∨ p = some b) := ⟨Nat.le_refl _, fun b _ hb => ⟨rfl, fun hm => hb ⟨hm, fun ho => by
    obtain ⟨i, h1, h2⟩ := ho
    obtain ⟨a1, a2⟩ := ne9 i h1
    rcases hm with hm | hm
    · exact hnp b (q1.low b ⟨i, a2, h2⟩ (hna b hm)) hm
    · exact a1 (q1.inj i 900 b a2 (by rw [hH9]; simp) h2 (hρ'.trans hm))⟩⟩⟩
  have hrep : RepC w' (fun b => NA b ∨ p = some b) (packC xs) (if h : us.toArray.size = 1 then us.toArray[0] else .tuple us.toArray) := by
    by_cases h1 : us.length = 1
    · match us, h1, xs, u2, u3 with
      | [u], _, [x], _, u3 => exact (u3 0 x u rfl rfl).move hcalm
      | [u], _, [], u2, _ => simp at u2
      | [u], _, _ :: _ :: _, u2, _ => simp at u2
    · rw [dif_neg (by simpa using h1)]
      have hp : packC xs = .tup xs := by
        match xs, u2 with
        | [], _ => rfl
        | [x], u2 => exact absurd u2 (by simpa using h1)
        | _ :: _ :: _, _ => rfl
      rw [hp]
      exact .tup xs us.toArray (by simpa using u2) (fun i x v hx hv => (u3 i x v hx (by simpa using hv)).move hcalm)
  refine ⟨_, hrun, _, rows', rfl, hR, hlen, ?_, fun b cs t' hb hc => hcell b cs t' hb hc, ⟨q1.fr.os, q1.fr.tape, q1.fr.output, q1.fr.size, fun b hb hne => q1.fr.block b hb (fun e => hne e.symm)⟩, hx2.rep hrep⟩
  have sub1 : ∀ b, Mut NA (fun _ => p) (one1 t k rows') b → Mut NA ρ (lookH H') b := fun b hb => by
    rcases mut_one.1 hb with hb | hb
    · exact .inl hb
    · exact .inr ⟨900, by rw [hH9]; simp, hρ'.trans hb⟩
  rcases hB9 with ⟨b1, b2⟩ | ⟨b, cs, cap, b1, b2, b3, b4, b5, b6, b7⟩
  · exact .inl ⟨by rw [← hρ']; exact b1, b2⟩
  · exact .inr ⟨b, cs, cap, by show p = some b; rw [← hρ']; exact b1, b2, b3, b4, b5, b6, fun j row i x hr hx => by
      obtain ⟨v, c1, c2⟩ := b7 j row i x hr hx
      exact ⟨v, c1, rep_sub sub1 c2⟩⟩
theorem retM_ret {rs : List SRes} {t : TypeId} {k n : Nat} {R : List (List CV) → Prop} {r : CV} {T : TL} {H : HL} (h : ∃ rows', lookH H 900 = some (.arr t k rows') ∧ R rows' ∧ rows'.length = n ∧ ∃ xs, resC (fun i => off9 (lookT T i)) (arr9 H) rs = some xs ∧ CLe (packC xs) r) : retM rs t k n R r .ret T H := ⟨.inr rfl, h⟩
theorem retM_end {rs : List SRes} {t : TypeId} {k n : Nat} {R : List (List CV) → Prop} {r : CV} {T : TL} {H : HL} (h : ∃ rows', lookH H 900 = some (.arr t k rows') ∧ R rows' ∧ rows'.length = n ∧ ∃ xs, resC (fun i => off9 (lookT T i)) (arr9 H) rs = some xs ∧ CLe (packC xs) r) : retM rs t k n R r .normal T H := ⟨.inl rfl, h⟩
attribute [simp] off9 arr9 initM resM
@[simp] theorem cfM_P (P : Program) (M : List FuncId) (n : Nat) : (cfM P M n).P = P := rfl
@[simp] theorem cfM_b (P : Program) (M : List FuncId) (n : Nat) : (cfM P M n).b = 0 := rfl
@[simp] theorem cfM_K (P : Program) (M : List FuncId) (n : Nat) : (cfM P M n).K = [900] := rfl
end Go.Proofs.YtnfggkopledpcaaGreat
/- The shadow code of functions, as the kit's translation has them. -/
namespace Go.Proofs.YtnfggkopledpcaaGreat
open Go.RowKit
@[simp] def rs_dial_Times : List SRes := [.tmp 8, .tmp 9]
@[simp] def rs_dial_Pairs : List SRes := [.tmp 8, .tmp 9]
def c_dial_Slack_0 : SCode := .reg [⟨(some 1), none, .box 54 (.tmp 0), [], false⟩,
  ⟨(some 2), none, .mov (.const (.int .i64 0)), [], false⟩,
  ⟨(some 3), none, .mov (.const (.int .i64 0)), [], false⟩] [1]
def c_dial_Slack_1 : SCode := .reg [⟨(some 7), none, .load true 5 (.tmp 1), [], false⟩,
  ⟨(some 8), none, .call 36 [(.tmp 7)], [], false⟩,
  ⟨(some 6), none, .mov (.tmp 8), [], false⟩,
  ⟨(some 9), none, .ext (.tmp 6) 0, [], false⟩,
  ⟨(some 10), none, .ext (.tmp 6) 1, [], false⟩,
  ⟨(some 4), none, .alloc 94 [(.int .i64 0), (.int .i64 0), (.slice none 0 0), (.int .i64 0), (.int .i64 0), (.int .i64 0)], [], false⟩,
  ⟨none, none, .store 6 (.tmp 4) (.tmp 9), [], false⟩,
  ⟨(some 5), none, .mov (.tmp 10), [], false⟩] [4, 5]
def c_dial_Slack_2 : SCode := .reg [⟨(some 11), none, .mov (.tmp 5), [], false⟩,
  ⟨(some 12), none, .un .not (.tmp 11), [], false⟩] [4, 12]
def c_dial_Slack_3 : SCode := .reg [⟨(some 2), none, .mov (.const (.int .i64 0)), [], false⟩,
  ⟨(some 3), none, .mov (.const (.int .i64 2)), [], false⟩] [2, 3]
def c_dial_Slack_4 : SCode := .seq c_dial_Slack_3 .ret
def c_dial_Slack_5 : SCode := .cond (.tmp 12) c_dial_Slack_4 .skip
def c_dial_Slack_6 : SCode := .seq c_dial_Slack_2 c_dial_Slack_5
def c_dial_Slack_7 : SCode := .reg [⟨(some 13), none, .fld 5 (.tmp 4), [], false⟩,
  ⟨(some 14), none, .load false 1 (.tmp 13), [], false⟩,
  ⟨(some 2), none, .mov (.tmp 14), [], false⟩,
  ⟨(some 3), none, .mov (.const (.int .i64 0)), [], false⟩] [2, 3]
def c_dial_Slack_8 : SCode := .seq c_dial_Slack_7 .ret
def c_dial_Slack_9 : SCode := .seq c_dial_Slack_6 c_dial_Slack_8
def c_dial_Slack_10 : SCode := .seq c_dial_Slack_1 c_dial_Slack_9
def c_dial_Slack_11 : SCode := .seq c_dial_Slack_0 c_dial_Slack_10
@[simp] def rs_dial_Slack : List SRes := [.tmp 2, .tmp 3]
theorem law_dial_Slack (cs : List CV) (r : CV) (hl : cs.length ≤ 15) (h : STri (cfF Tryz.prog [] 15) c_dial_Slack_11 (initT 0 cs) [] (retQ rs_dial_Slack r)) : SC Tryz.prog 17 cs r :=
  sc_of [] follows Tryz.func17 rfl Tryz.ntmps17 (by decide) (by kernel_rfl) (by kernel_rfl) hl h
def c_dial_Off_0 : SCode := .reg [⟨(some 4), none, .box 26 (.tmp 0), [], false⟩,
  ⟨(some 7), none, .box 23 (.tmp 3), [], false⟩,
  ⟨(some 8), none, .alloc 23 [(.int .i64 0), (.int .i64 0)], [], false⟩,
  ⟨(some 9), none, .mov (.const (.int .i64 0)), [], false⟩] [1, 2, 4, 7, 8]
def c_dial_Off_1 : SCode := .reg [⟨(some 12), none, .load true 4 (.tmp 4), [], false⟩,
  ⟨(some 13), none, .mov (.tmp 1), [], false⟩,
  ⟨(some 14), none, .mov (.tmp 2), [], false⟩,
  ⟨(some 15), none, .load true 2 (.tmp 7), [], false⟩,
  ⟨(some 16), none, .call 37 [(.tmp 12), (.tmp 13), (.tmp 14), (.tmp 15)], [], false⟩,
  ⟨(some 11), none, .mov (.tmp 16), [], false⟩,
  ⟨(some 17), none, .ext (.tmp 11) 0, [], false⟩,
  ⟨(some 18), none, .ext (.tmp 11) 1, [], false⟩,
  ⟨(some 10), none, .alloc 98 [(.int .i64 0), (.int .i64 0), (.int .i64 0), (.slice none 0 0), (.slice none 0 0), (.int .i64 0), (.int .i64 0), (.slice none 0 0), (.int .i64 0), (.int .i64 0), (.int .i64 0), (.int .i64 0), (.int .i64 0), (.int .i64 0)], [], false⟩,
  ⟨none, none, .store 14 (.tmp 10) (.tmp 17), [], false⟩,
  ⟨(some 9), none, .mov (.tmp 18), [], false⟩] [8, 9, 10]
def c_dial_Off_2 : SCode := .reg [⟨(some 19), none, .mov (.tmp 9), [], false⟩,
  ⟨(some 20), none, .bin .neq (.tmp 19) (.const (.int .i64 0)), [], false⟩] [8, 9, 10, 20]
def c_dial_Off_3 : SCode := .reg [⟨(some 21), none, .load true 2 (.tmp 8), [], false⟩,
  ⟨(some 22), none, .mov (.tmp 9), [], false⟩,
  ⟨none, none, .store 2 (.tmp 8) (.tmp 21), [], false⟩,
  ⟨(some 9), none, .mov (.tmp 22), [], false⟩] [8, 9]
def c_dial_Off_4 : SCode := .seq c_dial_Off_3 .ret
def c_dial_Off_5 : SCode := .cond (.tmp 20) c_dial_Off_4 .skip
def c_dial_Off_6 : SCode := .seq c_dial_Off_2 c_dial_Off_5
def c_dial_Off_7 : SCode := .reg [⟨(some 23), none, .load true 14 (.tmp 10), [], false⟩,
  ⟨(some 24), none, .call 38 [(.tmp 23)], [], false⟩,
  ⟨none, none, .store 2 (.tmp 8) (.tmp 24), [], false⟩,
  ⟨(some 9), none, .mov (.const (.int .i64 0)), [], false⟩] [8, 9]
def c_dial_Off_8 : SCode := .seq c_dial_Off_7 .ret
def c_dial_Off_9 : SCode := .seq c_dial_Off_6 c_dial_Off_8
def c_dial_Off_10 : SCode := .seq c_dial_Off_1 c_dial_Off_9
def c_dial_Off_11 : SCode := .seq c_dial_Off_0 c_dial_Off_10
@[simp] def rs_dial_Off : List SRes := [.cell 8 true 2, .tmp 9]
theorem law_dial_Off (cs : List CV) (r : CV) (hl : cs.length ≤ 25) (h : STri (cfF Tryz.prog [] 25) c_dial_Off_11 (initT 0 cs) [] (retQ rs_dial_Off r)) : SC Tryz.prog 18 cs r :=
  sc_of [] follows Tryz.func18 rfl Tryz.ntmps18 (by decide) (by kernel_rfl) (by kernel_rfl) hl h
def c_dial_Reach_0 : SCode := .reg [⟨(some 5), none, .box 26 (.tmp 0), [], false⟩,
  ⟨(some 8), none, .box 23 (.tmp 3), [], false⟩,
  ⟨(some 10), none, .alloc 66 [(.int .i64 0), (.int .i64 0), (.int .i64 0), (.int .i64 0)], [], false⟩,
  ⟨(some 11), none, .mov (.const (.int .i64 0)), [], false⟩] [1, 2, 4, 5, 8, 10]
def c_dial_Reach_1 : SCode := .reg [⟨(some 18), none, .load true 4 (.tmp 5), [], false⟩,
  ⟨(some 19), none, .mov (.tmp 1), [], false⟩,
  ⟨(some 20), none, .mov (.tmp 2), [], false⟩,
  ⟨(some 21), none, .load true 2 (.tmp 8), [], false⟩,
  ⟨(some 22), none, .call 37 [(.tmp 18), (.tmp 19), (.tmp 20), (.tmp 21)], [], false⟩,
  ⟨(some 17), none, .mov (.tmp 22), [], false⟩,
  ⟨(some 23), none, .ext (.tmp 17) 0, [], false⟩,
  ⟨(some 24), none, .ext (.tmp 17) 1, [], false⟩,
  ⟨(some 12), none, .alloc 98 [(.int .i64 0), (.int .i64 0), (.int .i64 0), (.slice none 0 0), (.slice none 0 0), (.int .i64 0), (.int .i64 0), (.slice none 0 0), (.int .i64 0), (.int .i64 0), (.int .i64 0), (.int .i64 0), (.int .i64 0), (.int .i64 0)], [], false⟩,
  ⟨none, none, .store 14 (.tmp 12) (.tmp 23), [], false⟩,
  ⟨(some 11), none, .mov (.tmp 24), [], false⟩] [2, 4, 8, 10, 11, 12]
def c_dial_Reach_2 : SCode := .reg [⟨(some 25), none, .mov (.tmp 11), [], false⟩,
  ⟨(some 26), none, .bin .neq (.tmp 25) (.const (.int .i64 0)), [], false⟩] [2, 4, 8, 10, 11, 12, 26]
def c_dial_Reach_3 : SCode := .reg [⟨(some 27), none, .load true 4 (.tmp 10), [], false⟩,
  ⟨(some 28), none, .mov (.tmp 11), [], false⟩,
  ⟨none, none, .store 4 (.tmp 10) (.tmp 27), [], false⟩,
  ⟨(some 11), none, .mov (.tmp 28), [], false⟩] [10, 11]
def c_dial_Reach_4 : SCode := .seq c_dial_Reach_3 .ret
def c_dial_Reach_5 : SCode := .cond (.tmp 26) c_dial_Reach_4 .skip
def c_dial_Reach_6 : SCode := .seq c_dial_Reach_2 c_dial_Reach_5
def c_dial_Reach_7 : SCode := .reg [⟨(some 29), none, .load true 14 (.tmp 12), [], false⟩,
  ⟨(some 30), none, .call 38 [(.tmp 29)], [], false⟩,
  ⟨(some 31), none, .mov (.tmp 4), [], false⟩,
  ⟨(some 32), none, .call 39 [(.tmp 30), (.tmp 31)], [], false⟩,
  ⟨(some 13), none, .mov (.tmp 32), [], false⟩] [2, 4, 8, 10, 12, 13]
def c_dial_Reach_8 : SCode := .reg [⟨(some 33), none, .fld 0 (.tmp 12), [], false⟩,
  ⟨(some 34), none, .fld 0 (.tmp 33), [], false⟩,
  ⟨(some 35), none, .fld 1 (.tmp 34), [], false⟩,
  ⟨(some 36), none, .fld 0 (.tmp 35), [], false⟩,
  ⟨(some 37), none, .load false 1 (.tmp 36), [], false⟩,
  ⟨(some 14), none, .mov (.tmp 37), [], false⟩] [2, 4, 8, 10, 12, 13, 14]
def c_dial_Reach_9 : SCode := .reg [⟨(some 38), none, .mov (.tmp 14), [], false⟩,
  ⟨(some 39), none, .fld 0 (.tmp 12), [], false⟩,
  ⟨(some 40), none, .fld 0 (.tmp 39), [], false⟩,
  ⟨(some 41), none, .fld 1 (.tmp 40), [], false⟩,
  ⟨(some 42), none, .fld 1 (.tmp 41), [], false⟩,
  ⟨(some 43), none, .load false 1 (.tmp 42), [], false⟩,
  ⟨(some 44), none, .bin .leq (.tmp 38) (.tmp 43), [], false⟩] [2, 4, 8, 10, 12, 13, 14, 44]
def c_dial_Reach_10 : SCode := .cond (.tmp 44) .skip (.exit 0)
def c_dial_Reach_11 : SCode := .seq c_dial_Reach_9 c_dial_Reach_10
def c_dial_Reach_12 : SCode := .reg [⟨(some 47), none, .mov (.tmp 2), [], false⟩,
  ⟨(some 48), none, .mov (.tmp 14), [], false⟩,
  ⟨(some 49), none, .bin .add (.tmp 47) (.tmp 48), [], false⟩,
  ⟨(some 50), none, .fld 0 (.tmp 12), [], false⟩,
  ⟨(some 51), none, .fld 0 (.tmp 50), [], false⟩,
  ⟨(some 52), none, .fld 0 (.tmp 51), [], false⟩,
  ⟨(some 53), none, .load false 1 (.tmp 52), [], false⟩,
  ⟨(some 54), none, .call 40 [(.tmp 49), (.tmp 53)], [], false⟩,
  ⟨(some 15), none, .mov (.tmp 54), [], false⟩] [2, 4, 8, 10, 12, 13, 14, 15]
def c_dial_Reach_13 : SCode := .reg [⟨(some 55), none, .fld 5 (.tmp 12), [], false⟩,
  ⟨(some 56), none, .load true 6 (.tmp 55), [], false⟩,
  ⟨(some 57), none, .mov (.tmp 15), [], false⟩,
  ⟨(some 58), none, .load true 2 (.tmp 8), [], false⟩,
  ⟨(some 59), none, .call 41 [(.tmp 56), (.tmp 57), (.tmp 58)], [], false⟩,
  ⟨(some 60), none, .mov (.tmp 4), [], false⟩,
  ⟨(some 61), none, .call 39 [(.tmp 59), (.tmp 60)], [], false⟩,
  ⟨(some 62), none, .mov (.tmp 2), [], false⟩,
  ⟨(some 63), none, .bin .sub (.tmp 61) (.tmp 62), [], false⟩,
  ⟨(some 64), none, .mov (.tmp 13), [], false⟩,
  ⟨(some 65), none, .bin .eql (.tmp 63) (.tmp 64), [], false⟩] [2, 4, 8, 10, 12, 13, 14, 15, 65]
def c_dial_Reach_14 : SCode := .reg [⟨(some 66), none, .fld 5 (.tmp 12), [], false⟩,
  ⟨(some 67), none, .load true 6 (.tmp 66), [], false⟩,
  ⟨(some 68), none, .mov (.tmp 15), [], false⟩,
  ⟨(some 69), none, .load true 2 (.tmp 8), [], false⟩,
  ⟨(some 70), none, .call 42 [(.tmp 67), (.tmp 68), (.tmp 69)], [], false⟩,
  ⟨(some 71), none, .mov (.tmp 4), [], false⟩,
  ⟨(some 72), none, .un .not (.tmp 71), [], false⟩,
  ⟨(some 73), none, .call 39 [(.tmp 70), (.tmp 72)], [], false⟩,
  ⟨(some 16), none, .mov (.tmp 73), [], false⟩] [4, 10, 12, 14, 15, 16]
def c_dial_Reach_15 : SCode := .reg [⟨(some 74), none, .mov (.tmp 14), [], false⟩,
  ⟨(some 75), none, .fld 5 (.tmp 12), [], false⟩,
  ⟨(some 76), none, .fld 0 (.tmp 75), [], false⟩,
  ⟨(some 77), none, .fld 0 (.tmp 76), [], false⟩,
  ⟨(some 78), none, .load true 2 (.tmp 77), [], false⟩,
  ⟨(some 79), none, .mov (.tmp 4), [], false⟩,
  ⟨(some 80), none, .call 39 [(.tmp 78), (.tmp 79)], [], false⟩,
  ⟨(some 81), none, .load true 14 (.tmp 12), [], false⟩,
  ⟨(some 82), none, .mov (.tmp 15), [], false⟩,
  ⟨(some 83), none, .mov (.tmp 16), [], false⟩,
  ⟨(some 84), none, .call 43 [(.tmp 81), (.tmp 82), (.tmp 83)], [], false⟩,
  ⟨(some 85), none, .mov (.tmp 16), [], false⟩,
  ⟨(some 86), none, .build [(.int .i64 0), (.int .i64 0), (.int .i64 0), (.int .i64 0)] [(0, 1, (.tmp 74)), (1, 1, (.tmp 80)), (2, 1, (.tmp 84)), (3, 1, (.tmp 85))], [], false⟩,
  ⟨none, none, .store 4 (.tmp 10) (.tmp 86), [], false⟩,
  ⟨(some 11), none, .mov (.const (.int .i64 0)), [], false⟩] [10, 11]
def c_dial_Reach_16 : SCode := .seq c_dial_Reach_15 .ret
def c_dial_Reach_17 : SCode := .seq c_dial_Reach_14 c_dial_Reach_16
def c_dial_Reach_18 : SCode := .cond (.tmp 65) c_dial_Reach_17 .skip
def c_dial_Reach_19 : SCode := .seq c_dial_Reach_13 c_dial_Reach_18
def c_dial_Reach_20 : SCode := .seq c_dial_Reach_12 c_dial_Reach_19
def c_dial_Reach_21 : SCode := .block 1 c_dial_Reach_20
def c_dial_Reach_22 : SCode := .reg [⟨(some 45), none, .mov (.tmp 14), [], false⟩,
  ⟨(some 46), none, .bin .add (.tmp 45) (.const (.int .i64 1)), [], false⟩,
  ⟨(some 14), none, .mov (.tmp 46), [], false⟩] [2, 4, 8, 10, 12, 13, 14]
def c_dial_Reach_23 : SCode := .seq c_dial_Reach_21 c_dial_Reach_22
def c_dial_Reach_24 : SCode := .seq c_dial_Reach_11 c_dial_Reach_23
def c_dial_Reach_25 : SCode := .loop c_dial_Reach_24
def c_dial_Reach_26 : SCode := .block 0 c_dial_Reach_25
def c_dial_Reach_27 : SCode := .seq c_dial_Reach_8 c_dial_Reach_26
def c_dial_Reach_28 : SCode := .reg [⟨(some 87), none, .load true 4 (.tmp 10), [], false⟩,
  ⟨none, none, .store 4 (.tmp 10) (.tmp 87), [], false⟩,
  ⟨(some 11), none, .mov (.const (.int .i64 0)), [], false⟩] [10, 11]
def c_dial_Reach_29 : SCode := .seq c_dial_Reach_28 .ret
def c_dial_Reach_30 : SCode := .seq c_dial_Reach_27 c_dial_Reach_29
def c_dial_Reach_31 : SCode := .seq c_dial_Reach_7 c_dial_Reach_30
def c_dial_Reach_32 : SCode := .seq c_dial_Reach_6 c_dial_Reach_31
def c_dial_Reach_33 : SCode := .seq c_dial_Reach_1 c_dial_Reach_32
def c_dial_Reach_34 : SCode := .seq c_dial_Reach_0 c_dial_Reach_33
@[simp] def rs_dial_Reach : List SRes := [.cell 10 true 4, .tmp 11]
theorem law_dial_Reach (cs : List CV) (r : CV) (hl : cs.length ≤ 88) (h : STri (cfF Tryz.prog [] 88) c_dial_Reach_34 (initT 0 cs) [] (retQ rs_dial_Reach r)) : SC Tryz.prog 20 cs r :=
  sc_of [] follows Tryz.func20 rfl Tryz.ntmps20 (by decide) (by kernel_rfl) (by kernel_rfl) hl h
@[simp] def rs_dial_Shows : List SRes := [.tmp 8, .tmp 9]
def c_dial_Poise_0 : SCode := .reg [⟨(some 2), none, .box 54 (.tmp 0), [], false⟩,
  ⟨(some 3), none, .box 23 (.tmp 1), [], false⟩,
  ⟨(some 4), none, .mov (.const (.int .i64 0)), [], false⟩,
  ⟨(some 5), none, .mov (.const (.int .i64 0)), [], false⟩,
  ⟨(some 6), none, .mov (.const (.int .i64 0)), [], false⟩] [2, 3]
def c_dial_Poise_1 : SCode := .reg [⟨(some 10), none, .load true 5 (.tmp 2), [], false⟩,
  ⟨(some 11), none, .call 36 [(.tmp 10)], [], false⟩,
  ⟨(some 9), none, .mov (.tmp 11), [], false⟩,
  ⟨(some 12), none, .ext (.tmp 9) 0, [], false⟩,
  ⟨(some 13), none, .ext (.tmp 9) 1, [], false⟩,
  ⟨(some 7), none, .alloc 94 [(.int .i64 0), (.int .i64 0), (.slice none 0 0), (.int .i64 0), (.int .i64 0), (.int .i64 0)], [], false⟩,
  ⟨none, none, .store 6 (.tmp 7) (.tmp 12), [], false⟩,
  ⟨(some 8), none, .mov (.tmp 13), [], false⟩] [3, 7, 8]
def c_dial_Poise_2 : SCode := .reg [⟨(some 14), none, .mov (.tmp 8), [], false⟩,
  ⟨(some 15), none, .un .not (.tmp 14), [], false⟩,
  ⟨(some 16), none, .mov (.tmp 15), [], false⟩,
  ⟨(some 17), (some (16, false)), .load true 2 (.tmp 3), [], false⟩,
  ⟨(some 18), (some (16, false)), .call 46 [(.tmp 17)], [], false⟩,
  ⟨(some 19), (some (16, false)), .un .not (.tmp 18), [], false⟩,
  ⟨(some 20), none, .pick (.tmp 16) (.const (.bool true)) (.tmp 19), [], false⟩] [3, 7, 20]
def c_dial_Poise_3 : SCode := .reg [⟨(some 4), none, .mov (.const (.int .i64 0)), [], false⟩,
  ⟨(some 5), none, .mov (.const (.int .i64 0)), [], false⟩,
  ⟨(some 6), none, .mov (.const (.int .i64 2)), [], false⟩] [4, 5, 6]
def c_dial_Poise_4 : SCode := .seq c_dial_Poise_3 .ret
def c_dial_Poise_5 : SCode := .cond (.tmp 20) c_dial_Poise_4 .skip
def c_dial_Poise_6 : SCode := .seq c_dial_Poise_2 c_dial_Poise_5
def c_dial_Poise_7 : SCode := .reg [⟨(some 21), none, .fld 0 (.tmp 7), [], false⟩,
  ⟨(some 22), none, .fld 4 (.tmp 21), [], false⟩,
  ⟨(some 23), none, .load false 1 (.tmp 22), [], false⟩,
  ⟨(some 24), none, .fld 0 (.tmp 3), [], false⟩,
  ⟨(some 25), none, .load false 1 (.tmp 24), [], false⟩,
  ⟨(some 26), none, .bin .sub (.tmp 23) (.tmp 25), [], false⟩,
  ⟨(some 27), none, .fld 0 (.tmp 7), [], false⟩,
  ⟨(some 28), none, .fld 4 (.tmp 27), [], false⟩,
  ⟨(some 29), none, .load false 1 (.tmp 28), [], false⟩,
  ⟨(some 30), none, .fld 1 (.tmp 3), [], false⟩,
  ⟨(some 31), none, .load false 1 (.tmp 30), [], false⟩,
  ⟨(some 32), none, .bin .add (.tmp 29) (.tmp 31), [], false⟩,
  ⟨(some 33), none, .max [(.tmp 26), (.tmp 32)], [], false⟩,
  ⟨(some 34), none, .bin .add (.tmp 33) (.const (.int .i64 1)), [], false⟩,
  ⟨(some 4), none, .mov (.tmp 34), [], false⟩] [4]
def c_dial_Poise_8 : SCode := .reg [⟨(some 35), none, .mov (.tmp 4), [], false⟩,
  ⟨(some 36), none, .bin .gtr (.tmp 35) (.const (.int .i64 10000)), [], false⟩] [4, 36]
def c_dial_Poise_9 : SCode := .reg [⟨(some 4), none, .mov (.const (.int .i64 0)), [], false⟩,
  ⟨(some 5), none, .mov (.const (.int .i64 0)), [], false⟩,
  ⟨(some 6), none, .mov (.const (.int .i64 7)), [], false⟩] [4, 5, 6]
def c_dial_Poise_10 : SCode := .seq c_dial_Poise_9 .ret
def c_dial_Poise_11 : SCode := .cond (.tmp 36) c_dial_Poise_10 .skip
def c_dial_Poise_12 : SCode := .seq c_dial_Poise_8 c_dial_Poise_11
def c_dial_Poise_13 : SCode := .reg [⟨(some 37), none, .mov (.tmp 4), [], false⟩,
  ⟨(some 38), none, .mov (.tmp 4), [], false⟩,
  ⟨(some 39), none, .un .neg (.tmp 38), [], false⟩,
  ⟨(some 4), none, .mov (.tmp 37), [], false⟩,
  ⟨(some 5), none, .mov (.tmp 39), [], false⟩,
  ⟨(some 6), none, .mov (.const (.int .i64 0)), [], false⟩] [4, 5, 6]
def c_dial_Poise_14 : SCode := .seq c_dial_Poise_13 .ret
def c_dial_Poise_15 : SCode := .seq c_dial_Poise_12 c_dial_Poise_14
def c_dial_Poise_16 : SCode := .seq c_dial_Poise_7 c_dial_Poise_15
def c_dial_Poise_17 : SCode := .seq c_dial_Poise_6 c_dial_Poise_16
def c_dial_Poise_18 : SCode := .seq c_dial_Poise_1 c_dial_Poise_17
def c_dial_Poise_19 : SCode := .seq c_dial_Poise_0 c_dial_Poise_18
@[simp] def rs_dial_Poise : List SRes := [.tmp 4, .tmp 5, .tmp 6]
theorem law_dial_Poise (cs : List CV) (r : CV) (hl : cs.length ≤ 40) (h : STri (cfF Tryz.prog [] 40) c_dial_Poise_19 (initT 0 cs) [] (retQ rs_dial_Poise r)) : SC Tryz.prog 22 cs r :=
  sc_of [] follows Tryz.func22 rfl Tryz.ntmps22 (by decide) (by kernel_rfl) (by kernel_rfl) hl h
def c_dial_newNotes_0 : SCode := .reg [⟨(some 4), none, .box 26 (.tmp 0), [], false⟩,
  ⟨(some 6), none, .box 23 (.tmp 2), [], false⟩,
  ⟨(some 7), none, .box 23 (.tmp 3), [], false⟩,
  ⟨(some 8), none, .alloc 80 [(.int .i64 0), (.int .i64 0), (.int .i64 0), (.slice none 0 0), (.slice none 0 0), (.slice none 0 0), (.int .i64 0), (.int .i64 0), (.int .i64 0), (.int .i64 0)], [], false⟩,
  ⟨(some 9), none, .mov (.const (.int .i64 0)), [], false⟩] [1, 4, 6, 7, 8]
def c_dial_newNotes_1 : SCode := .reg [⟨(some 14), none, .load true 4 (.tmp 4), [], false⟩,
  ⟨(some 15), none, .call 48 [(.tmp 14)], [], false⟩,
  ⟨(some 13), none, .mov (.tmp 15), [], false⟩,
  ⟨(some 16), none, .ext (.tmp 13) 0, [], false⟩,
  ⟨(some 17), none, .ext (.tmp 13) 1, [], false⟩,
  ⟨(some 10), none, .alloc 78 [(.int .i64 0), (.int .i64 0), (.int .i64 0), (.slice none 0 0), (.slice none 0 0)], [], false⟩,
  ⟨none, none, .store 5 (.tmp 10) (.tmp 16), [], false⟩,
  ⟨(some 9), none, .mov (.tmp 17), [], false⟩] [1, 6, 7, 8, 9, 10]
def c_dial_newNotes_2 : SCode := .reg [⟨(some 19), none, .mov (.tmp 9), [], false⟩,
  ⟨(some 20), none, .bin .neq (.tmp 19) (.const (.int .i64 0)), [], false⟩,
  ⟨(some 18), none, .mov (.tmp 20), [], false⟩] [1, 6, 7, 8, 9, 10, 18]
def c_dial_newNotes_3 : SCode := .reg [⟨(some 21), none, .load true 10 (.tmp 8), [], false⟩,
  ⟨(some 22), none, .mov (.tmp 9), [], false⟩,
  ⟨none, none, .store 10 (.tmp 8) (.tmp 21), [], false⟩,
  ⟨(some 9), none, .mov (.tmp 22), [], false⟩] [8, 9]
def c_dial_newNotes_4 : SCode := .seq c_dial_newNotes_3 .ret
def c_dial_newNotes_5 : SCode := .reg [⟨(some 24), none, .mov (.tmp 1), [], false⟩,
  ⟨(some 25), none, .len (.tmp 24), [], false⟩,
  ⟨(some 26), none, .bin .gtr (.tmp 25) (.const (.int .i64 20)), [], false⟩,
  ⟨(some 23), none, .mov (.tmp 26), [], false⟩] [1, 6, 7, 8, 10, 23]
def c_dial_newNotes_6 : SCode := .reg [⟨(some 27), none, .load true 10 (.tmp 8), [], false⟩,
  ⟨none, none, .store 10 (.tmp 8) (.tmp 27), [], false⟩,
  ⟨(some 9), none, .mov (.const (.int .i64 5)), [], false⟩] [8, 9]
def c_dial_newNotes_7 : SCode := .seq c_dial_newNotes_6 .ret
def c_dial_newNotes_8 : SCode := .cond (.tmp 23) c_dial_newNotes_7 .skip
def c_dial_newNotes_9 : SCode := .seq c_dial_newNotes_5 c_dial_newNotes_8
def c_dial_newNotes_10 : SCode := .cond (.tmp 18) c_dial_newNotes_4 c_dial_newNotes_9
def c_dial_newNotes_11 : SCode := .seq c_dial_newNotes_2 c_dial_newNotes_10
def c_dial_newNotes_12 : SCode := .block 0 c_dial_newNotes_11
def c_dial_newNotes_13 : SCode := .reg [⟨(some 28), none, .mov (.tmp 1), [], false⟩,
  ⟨(some 29), none, .len (.tmp 28), [], false⟩,
  ⟨(some 30), none, .mov (.const (.int .i64 0)), [], false⟩] [1, 6, 7, 8, 10, 28, 29, 30]
def c_dial_newNotes_14 : SCode := .reg [⟨(some 31), none, .bin .lss (.tmp 30) (.tmp 29), [], false⟩] [1, 6, 7, 8, 10, 28, 29, 30, 31]
def c_dial_newNotes_15 : SCode := .cond (.tmp 31) .skip (.exit 1)
def c_dial_newNotes_16 : SCode := .reg [⟨(some 32), none, .idxS 2 (.tmp 28) (.tmp 30), [], false⟩,
  ⟨(some 33), none, .load true 2 (.tmp 32), [], false⟩,
  ⟨(some 12), none, .alloc 44 [(.int .i64 0), (.int .i64 0)], [], false⟩,
  ⟨none, none, .store 2 (.tmp 12) (.tmp 33), [], false⟩] [1, 6, 7, 8, 10, 12, 28, 29, 30]
def c_dial_newNotes_17 : SCode := .reg [⟨(some 35), none, .fld 4 (.tmp 10), [], false⟩,
  ⟨(some 36), none, .load false 1 (.tmp 35), [], false⟩,
  ⟨(some 37), none, .len (.tmp 36), [], false⟩,
  ⟨(some 38), none, .bin .sub (.tmp 37) (.const (.int .i64 1)), [], false⟩,
  ⟨(some 39), none, .fld 0 (.tmp 12), [], false⟩,
  ⟨(some 40), none, .load false 1 (.tmp 39), [], false⟩,
  ⟨(some 41), none, .buildSl 3 1 [(.int .i64 0)] 1 [(0, (.tmp 40))], [], false⟩,
  ⟨(some 42), none, .call 49 [(.const (.int .i64 0)), (.tmp 38), (.tmp 41)], [], false⟩,
  ⟨(some 43), none, .un .not (.tmp 42), [], false⟩,
  ⟨(some 34), none, .mov (.tmp 43), [], false⟩] [1, 6, 7, 8, 10, 12, 28, 29, 30, 34]
def c_dial_newNotes_18 : SCode := .reg [⟨(some 44), none, .load true 10 (.tmp 8), [], false⟩,
  ⟨none, none, .store 10 (.tmp 8) (.tmp 44), [], false⟩,
  ⟨(some 9), none, .mov (.const (.int .i64 7)), [], false⟩] [8, 9]
def c_dial_newNotes_19 : SCode := .seq c_dial_newNotes_18 .ret
def c_dial_newNotes_20 : SCode := .reg [⟨(some 46), none, .fld 1 (.tmp 12), [], false⟩,
  ⟨(some 47), none, .load false 1 (.tmp 46), [], false⟩,
  ⟨(some 48), none, .buildSl 3 1 [(.int .i64 0)] 1 [(0, (.tmp 47))], [], false⟩,
  ⟨(some 49), none, .call 49 [(.const (.int .i64 0)), (.const (.int .i64 43199)), (.tmp 48)], [], false⟩,
  ⟨(some 50), none, .un .not (.tmp 49), [], false⟩,
  ⟨(some 45), none, .mov (.tmp 50), [], false⟩] [1, 6, 7, 8, 10, 28, 29, 30, 45]
def c_dial_newNotes_21 : SCode := .reg [⟨(some 51), none, .load true 10 (.tmp 8), [], false⟩,
  ⟨none, none, .store 10 (.tmp 8) (.tmp 51), [], false⟩,
  ⟨(some 9), none, .mov (.const (.int .i64 2)), [], false⟩] [8, 9]
def c_dial_newNotes_22 : SCode := .seq c_dial_newNotes_21 .ret
def c_dial_newNotes_23 : SCode := .cond (.tmp 45) c_dial_newNotes_22 .skip
def c_dial_newNotes_24 : SCode := .seq c_dial_newNotes_20 c_dial_newNotes_23
def c_dial_newNotes_25 : SCode := .cond (.tmp 34) c_dial_newNotes_19 c_dial_newNotes_24
def c_dial_newNotes_26 : SCode := .seq c_dial_newNotes_17 c_dial_newNotes_25
def c_dial_newNotes_27 : SCode := .block 3 c_dial_newNotes_26
def c_dial_newNotes_28 : SCode := .seq c_dial_newNotes_16 c_dial_newNotes_27
def c_dial_newNotes_29 : SCode := .block 2 c_dial_newNotes_28
def c_dial_newNotes_30 : SCode := .reg [⟨(some 52), none, .bin .add (.tmp 30) (.const (.int .i64 1)), [], false⟩,
  ⟨(some 30), none, .mov (.tmp 52), [], false⟩] [1, 6, 7, 8, 10, 28, 29, 30]
def c_dial_newNotes_31 : SCode := .seq c_dial_newNotes_29 c_dial_newNotes_30
def c_dial_newNotes_32 : SCode := .seq c_dial_newNotes_15 c_dial_newNotes_31
def c_dial_newNotes_33 : SCode := .seq c_dial_newNotes_14 c_dial_newNotes_32
def c_dial_newNotes_34 : SCode := .loop c_dial_newNotes_33
def c_dial_newNotes_35 : SCode := .block 1 c_dial_newNotes_34
def c_dial_newNotes_36 : SCode := .seq c_dial_newNotes_13 c_dial_newNotes_35
def c_dial_newNotes_37 : SCode := .reg [⟨(some 54), none, .load true 2 (.tmp 6), [], false⟩,
  ⟨(some 55), none, .call 50 [(.tmp 54), (.const (.int .i64 0)), (.const (.int .i64 3155760000))], [], false⟩,
  ⟨(some 56), none, .un .not (.tmp 55), [], false⟩,
  ⟨(some 53), none, .mov (.tmp 56), [], false⟩] [1, 6, 7, 8, 10, 53]
def c_dial_newNotes_38 : SCode := .reg [⟨(some 57), none, .fld 1 (.tmp 6), [], false⟩,
  ⟨(some 58), none, .load false 1 (.tmp 57), [], false⟩,
  ⟨(some 59), none, .fld 0 (.tmp 6), [], false⟩,
  ⟨(some 60), none, .load false 1 (.tmp 59), [], false⟩,
  ⟨(some 61), none, .bin .sub (.tmp 58) (.tmp 60), [], false⟩,
  ⟨(some 62), none, .bin .gtr (.tmp 61) (.const (.int .i64 7200)), [], false⟩,
  ⟨(some 53), none, .mov (.tmp 62), [], false⟩] [1, 6, 7, 8, 10, 53]
def c_dial_newNotes_39 : SCode := .cond (.tmp 53) .skip c_dial_newNotes_38
def c_dial_newNotes_40 : SCode := .seq c_dial_newNotes_37 c_dial_newNotes_39
def c_dial_newNotes_41 : SCode := .reg [⟨(some 63), none, .load true 10 (.tmp 8), [], false⟩,
  ⟨none, none, .store 10 (.tmp 8) (.tmp 63), [], false⟩,
  ⟨(some 9), none, .mov (.const (.int .i64 3)), [], false⟩] [8, 9]
def c_dial_newNotes_42 : SCode := .seq c_dial_newNotes_41 .ret
def c_dial_newNotes_43 : SCode := .reg [⟨(some 65), none, .load true 2 (.tmp 7), [], false⟩,
  ⟨(some 66), none, .call 46 [(.tmp 65)], [], false⟩,
  ⟨(some 67), none, .un .not (.tmp 66), [], false⟩,
  ⟨(some 64), none, .mov (.tmp 67), [], false⟩] [1, 6, 7, 8, 10, 64]
def c_dial_newNotes_44 : SCode := .reg [⟨(some 68), none, .load true 10 (.tmp 8), [], false⟩,
  ⟨none, none, .store 10 (.tmp 8) (.tmp 68), [], false⟩,
  ⟨(some 9), none, .mov (.const (.int .i64 2)), [], false⟩] [8, 9]
def c_dial_newNotes_45 : SCode := .seq c_dial_newNotes_44 .ret
def c_dial_newNotes_46 : SCode := .cond (.tmp 64) c_dial_newNotes_45 .skip
def c_dial_newNotes_47 : SCode := .seq c_dial_newNotes_43 c_dial_newNotes_46
def c_dial_newNotes_48 : SCode := .cond (.tmp 53) c_dial_newNotes_42 c_dial_newNotes_47
def c_dial_newNotes_49 : SCode := .seq c_dial_newNotes_40 c_dial_newNotes_48
def c_dial_newNotes_50 : SCode := .block 4 c_dial_newNotes_49
def c_dial_newNotes_51 : SCode := .reg [⟨(some 69), none, .load true 5 (.tmp 10), [], false⟩,
  ⟨(some 70), none, .mov (.tmp 1), [], false⟩,
  ⟨(some 71), none, .load true 2 (.tmp 6), [], false⟩,
  ⟨(some 72), none, .load true 2 (.tmp 7), [], false⟩,
  ⟨(some 73), none, .build [(.int .i64 0), (.int .i64 0), (.int .i64 0), (.slice none 0 0), (.slice none 0 0), (.slice none 0 0), (.int .i64 0), (.int .i64 0), (.int .i64 0), (.int .i64 0)] [(0, 5, (.tmp 69)), (5, 1, (.tmp 70)), (6, 2, (.tmp 71)), (8, 2, (.tmp 72))], [], false⟩,
  ⟨none, none, .store 10 (.tmp 8) (.tmp 73), [], false⟩,
  ⟨(some 9), none, .mov (.const (.int .i64 0)), [], false⟩] [8, 9]
def c_dial_newNotes_52 : SCode := .seq c_dial_newNotes_51 .ret
def c_dial_newNotes_53 : SCode := .seq c_dial_newNotes_50 c_dial_newNotes_52
def c_dial_newNotes_54 : SCode := .seq c_dial_newNotes_36 c_dial_newNotes_53
def c_dial_newNotes_55 : SCode := .seq c_dial_newNotes_12 c_dial_newNotes_54
def c_dial_newNotes_56 : SCode := .seq c_dial_newNotes_1 c_dial_newNotes_55
def c_dial_newNotes_57 : SCode := .seq c_dial_newNotes_0 c_dial_newNotes_56
@[simp] def rs_dial_newNotes : List SRes := [.cell 8 true 10, .tmp 9]
theorem law_dial_newNotes (cs : List CV) (r : CV) (hl : cs.length ≤ 74) (h : STri (cfF Tryz.prog [] 74) c_dial_newNotes_57 (initT 0 cs) [] (retQ rs_dial_newNotes r)) : SC Tryz.prog 28 cs r :=
  sc_of [] follows Tryz.func28 rfl Tryz.ntmps28 (by decide) (by kernel_rfl) (by kernel_rfl) hl h
def c_dial_works_driven_0 : SCode := .reg [⟨(some 2), none, .boxZ 78 (.tmp 0), [], false⟩,
  ⟨(some 3), none, .boxZ 23 (.tmp 1), [], false⟩,
  ⟨(some 4), none, .mov (.const .nilFunc), [], false⟩] [2, 3]
def c_dial_works_driven_1 : SCode := .reg [⟨(some 5), none, .mkFn 51 [] [(.tmp 3), (.tmp 2)], [], false⟩,
  ⟨(some 4), none, .mov (.tmp 5), [], false⟩] [4]
def c_dial_works_driven_2 : SCode := .seq c_dial_works_driven_1 .ret
def c_dial_works_driven_3 : SCode := .seq c_dial_works_driven_0 c_dial_works_driven_2
@[simp] def rs_dial_works_driven : List SRes := [.tmp 4]
theorem law_dial_works_driven (cs : List CV) (r : CV) (hl : cs.length ≤ 6) (h : STri (cfF Tryz.prog [] 6) c_dial_works_driven_3 (initT 0 cs) [] (retQ rs_dial_works_driven r)) : SC Tryz.prog 29 cs r :=
  sc_of [] follows Tryz.func29 rfl Tryz.ntmps29 (by decide) (by kernel_rfl) (by kernel_rfl) hl h
def c_dial_notes_can_0 : SCode := .reg [⟨(some 3), none, .box 80 (.tmp 0), [], false⟩,
  ⟨(some 4), none, .box 44 (.tmp 1), [], false⟩,
  ⟨(some 6), none, .mov (.const (.bool false)), [], false⟩] [2, 3, 4]
def c_dial_notes_can_1 : SCode := .reg [⟨(some 8), none, .fld 0 (.tmp 3), [], true⟩,
  ⟨(some 9), none, .fld 4 (.tmp 8), [], true⟩,
  ⟨(some 10), none, .load false 1 (.tmp 9), [], true⟩,
  ⟨(some 11), none, .fld 0 (.tmp 4), [], true⟩,
  ⟨(some 12), none, .load false 1 (.tmp 11), [], true⟩,
  ⟨(some 13), none, .idxS 6 (.tmp 10) (.tmp 12), [], true⟩,
  ⟨(some 14), none, .load true 6 (.tmp 13), [], true⟩,
  ⟨(some 15), none, .mov (.tmp 2), [], false⟩,
  ⟨(some 16), none, .fld 8 (.tmp 3), [], true⟩,
  ⟨(some 17), none, .load true 2 (.tmp 16), [], true⟩,
  ⟨(some 18), none, .call 41 [(.tmp 14), (.tmp 15), (.tmp 17)], [], true⟩,
  ⟨(some 7), none, .alloc 23 [(.int .i64 0), (.int .i64 0)], [0, 1, 2, 3, 4, 5, 6, 8, 9, 10], false⟩,
  ⟨none, none, .store 2 (.tmp 7) (.tmp 18), [], false⟩] [4, 7]
def c_dial_notes_can_2 : SCode := .reg [⟨(some 19), none, .fld 1 (.tmp 4), [], false⟩,
  ⟨(some 20), none, .load false 1 (.tmp 19), [], false⟩,
  ⟨(some 21), none, .fld 0 (.tmp 7), [], false⟩,
  ⟨(some 22), none, .load false 1 (.tmp 21), [], false⟩,
  ⟨(some 23), none, .bin .sub (.tmp 20) (.tmp 22), [], false⟩,
  ⟨(some 24), none, .call 45 [(.tmp 23), (.const (.int .i64 43200))], [], false⟩,
  ⟨(some 25), none, .fld 1 (.tmp 7), [], false⟩,
  ⟨(some 26), none, .load false 1 (.tmp 25), [], false⟩,
  ⟨(some 27), none, .fld 0 (.tmp 7), [], false⟩,
  ⟨(some 28), none, .load false 1 (.tmp 27), [], false⟩,
  ⟨(some 29), none, .bin .sub (.tmp 26) (.tmp 28), [], false⟩,
  ⟨(some 30), none, .bin .leq (.tmp 24) (.tmp 29), [], false⟩,
  ⟨(some 6), none, .mov (.tmp 30), [], false⟩] [6]
def c_dial_notes_can_3 : SCode := .seq c_dial_notes_can_2 .ret
def c_dial_notes_can_4 : SCode := .seq c_dial_notes_can_1 c_dial_notes_can_3
def c_dial_notes_can_5 : SCode := .seq c_dial_notes_can_0 c_dial_notes_can_4
@[simp] def rs_dial_notes_can : List SRes := [.tmp 6]
theorem law_dial_notes_can (cs : List CV) (r : CV) (hl : cs.length ≤ 31) (h : STri (cfF Tryz.prog [] 31) c_dial_notes_can_5 (initT 0 cs) [] (retQ rs_dial_notes_can r)) : SC Tryz.prog 30 cs r :=
  sc_of [] follows Tryz.func30 rfl Tryz.ntmps30 (by decide) (by kernel_rfl) (by kernel_rfl) hl h
@[simp] def rs_dial_joined : List SRes := [.tmp 2]
def c_dial_notes_places_0 : SCode := .reg [⟨(some 2), none, .box 80 (.tmp 0), [], false⟩,
  ⟨(some 3), none, .box 44 (.tmp 1), [], false⟩,
  ⟨(some 4), none, .mov (.const (.map none)), [], false⟩] [2, 3, 4]
def c_dial_notes_places_1 : SCode := .reg [⟨(some 7), none, .mkMap false .i64, [], false⟩,
  ⟨(some 5), none, .alloc 88 [(.map none)], [], false⟩,
  ⟨none, none, .store 1 (.tmp 5) (.tmp 7), [], false⟩] [2, 3, 4, 5]
def c_dial_notes_places_2 : SCode := .reg [⟨(some 8), none, .fld 0 (.tmp 2), [], false⟩,
  ⟨(some 9), none, .load true 5 (.tmp 8), [], false⟩,
  ⟨(some 10), none, .fld 6 (.tmp 2), [], false⟩,
  ⟨(some 11), none, .load true 2 (.tmp 10), [], false⟩,
  ⟨(some 12), none, .call 29 [(.tmp 9), (.tmp 11)], [], false⟩] [2, 3, 4, 5, 12]
def c_dial_notes_places_3 : SCode := .reg [⟨(some 6), none, .mov (.tmp 13), [], false⟩] [2, 3, 5, 6]
def c_dial_notes_places_4 : SCode := .reg [⟨(some 14), none, .load true 10 (.tmp 2), [], false⟩,
  ⟨(some 15), none, .load true 2 (.tmp 3), [], false⟩,
  ⟨(some 16), none, .mov (.tmp 6), [], false⟩,
  ⟨(some 17), none, .call 30 [(.tmp 14), (.tmp 15), (.tmp 16)], [], false⟩] [5, 6, 17]
def c_dial_notes_places_5 : SCode := .reg [⟨(some 18), none, .load false 1 (.tmp 5), [], false⟩,
  ⟨(some 19), none, .mov (.tmp 6), [], false⟩,
  ⟨none, none, .mapUpd false .i64 (.tmp 18) (.tmp 19) (.const (.bool true)), [], false⟩] []
def c_dial_notes_places_6 : SCode := .cond (.tmp 17) c_dial_notes_places_5 .skip
def c_dial_notes_places_7 : SCode := .seq c_dial_notes_places_4 c_dial_notes_places_6
def c_dial_notes_places_8 : SCode := .block 1 c_dial_notes_places_7
def c_dial_notes_places_9 : SCode := .range (.tmp 12) [13] c_dial_notes_places_3 c_dial_notes_places_8
def c_dial_notes_places_10 : SCode := .block 0 c_dial_notes_places_9
def c_dial_notes_places_11 : SCode := .seq c_dial_notes_places_2 c_dial_notes_places_10
def c_dial_notes_places_12 : SCode := .reg [⟨(some 20), none, .load false 1 (.tmp 5), [], false⟩,
  ⟨(some 4), none, .mov (.tmp 20), [], false⟩] [4]
def c_dial_notes_places_13 : SCode := .seq c_dial_notes_places_12 .ret
def c_dial_notes_places_14 : SCode := .seq c_dial_notes_places_11 c_dial_notes_places_13
def c_dial_notes_places_15 : SCode := .seq c_dial_notes_places_1 c_dial_notes_places_14
def c_dial_notes_places_16 : SCode := .seq c_dial_notes_places_0 c_dial_notes_places_15
@[simp] def rs_dial_notes_places : List SRes := [.tmp 4]
theorem law_dial_notes_places (cs : List CV) (r : CV) (hl : cs.length ≤ 21) (h : STri (cfF Tryz.prog [] 21) c_dial_notes_places_16 (initT 0 cs) [] (retQ rs_dial_notes_places r)) : SC Tryz.prog 32 cs r :=
  sc_of [] follows Tryz.func32 rfl Tryz.ntmps32 (by decide) (by kernel_rfl) (by kernel_rfl) hl h
def c_dial_newFace_0 : SCode := .reg [⟨(some 1), none, .box 54 (.tmp 0), [], false⟩,
  ⟨(some 2), none, .alloc 94 [(.int .i64 0), (.int .i64 0), (.slice none 0 0), (.int .i64 0), (.int .i64 0), (.int .i64 0)], [], false⟩,
  ⟨(some 3), none, .mov (.const (.bool false)), [], false⟩] [1, 2]
def c_dial_newFace_1 : SCode := .reg [⟨(some 10), none, .fld 0 (.tmp 1), [], false⟩,
  ⟨(some 11), none, .load true 2 (.tmp 10), [], false⟩,
  ⟨(some 12), none, .call 50 [(.tmp 11), (.const (.int .i64 (-3600))), (.const (.int .i64 3600))], [], false⟩,
  ⟨(some 13), none, .un .not (.tmp 12), [], false⟩,
  ⟨(some 14), none, .mov (.tmp 13), [], false⟩,
  ⟨(some 15), (some (14, false)), .fld 2 (.tmp 1), [], false⟩,
  ⟨(some 16), (some (14, false)), .load false 1 (.tmp 15), [], false⟩,
  ⟨(some 17), (some (14, false)), .len (.tmp 16), [], false⟩,
  ⟨(some 18), (some (14, false)), .bin .gtr (.tmp 17) (.const (.int .i64 4)), [], false⟩,
  ⟨(some 19), none, .pick (.tmp 14) (.const (.bool true)) (.tmp 18), [], false⟩,
  ⟨(some 20), none, .mov (.tmp 19), [], false⟩,
  ⟨(some 21), (some (20, false)), .fld 3 (.tmp 1), [], false⟩,
  ⟨(some 22), (some (20, false)), .load false 1 (.tmp 21), [], false⟩,
  ⟨(some 23), (some (20, false)), .buildSl 3 1 [(.int .i64 0)] 1 [(0, (.tmp 22))], [], false⟩,
  ⟨(some 24), (some (20, false)), .call 49 [(.const (.int .i64 (-10000))), (.const (.int .i64 10000)), (.tmp 23)], [], false⟩,
  ⟨(some 25), (some (20, false)), .un .not (.tmp 24), [], false⟩,
  ⟨(some 26), none, .pick (.tmp 20) (.const (.bool true)) (.tmp 25), [], false⟩,
  ⟨(some 27), none, .mov (.tmp 26), [], false⟩,
  ⟨(some 28), (some (27, false)), .fld 4 (.tmp 1), [], false⟩,
  ⟨(some 29), (some (27, false)), .load false 1 (.tmp 28), [], false⟩,
  ⟨(some 30), (some (27, false)), .buildSl 3 1 [(.int .i64 0)] 1 [(0, (.tmp 29))], [], false⟩,
  ⟨(some 31), (some (27, false)), .call 49 [(.const (.int .i64 0)), (.const (.int .i64 10000)), (.tmp 30)], [], false⟩,
  ⟨(some 32), (some (27, false)), .un .not (.tmp 31), [], false⟩,
  ⟨(some 33), none, .pick (.tmp 27) (.const (.bool true)) (.tmp 32), [], false⟩] [1, 2, 33]
def c_dial_newFace_2 : SCode := .reg [⟨(some 34), none, .load true 6 (.tmp 2), [], false⟩,
  ⟨none, none, .store 6 (.tmp 2) (.tmp 34), [], false⟩,
  ⟨(some 3), none, .mov (.const (.bool false)), [], false⟩] [2, 3]
def c_dial_newFace_3 : SCode := .seq c_dial_newFace_2 .ret
def c_dial_newFace_4 : SCode := .cond (.tmp 33) c_dial_newFace_3 .skip
def c_dial_newFace_5 : SCode := .seq c_dial_newFace_1 c_dial_newFace_4
def c_dial_newFace_6 : SCode := .reg [⟨(some 4), none, .mov (.const (.int .i64 1)), [], false⟩] [1, 2, 4]
def c_dial_newFace_7 : SCode := .reg [⟨(some 35), none, .fld 2 (.tmp 1), [], false⟩,
  ⟨(some 36), none, .load false 1 (.tmp 35), [], false⟩,
  ⟨(some 37), none, .len (.tmp 36), [], false⟩,
  ⟨(some 38), none, .mov (.const (.int .i64 0)), [], false⟩] [1, 2, 4, 36, 37, 38]
def c_dial_newFace_8 : SCode := .reg [⟨(some 39), none, .bin .lss (.tmp 38) (.tmp 37), [], false⟩] [1, 2, 4, 36, 37, 38, 39]
def c_dial_newFace_9 : SCode := .cond (.tmp 39) .skip (.exit 0)
def c_dial_newFace_10 : SCode := .reg [⟨(some 40), none, .idxS 3 (.tmp 36) (.tmp 38), [], false⟩,
  ⟨(some 41), none, .load true 3 (.tmp 40), [], false⟩,
  ⟨(some 6), none, .alloc 59 [(.int .i64 0), (.int .i64 0), (.int .i64 0)], [], false⟩,
  ⟨none, none, .store 3 (.tmp 6) (.tmp 41), [], false⟩] [1, 2, 4, 6, 36, 37, 38]
def c_dial_newFace_11 : SCode := .reg [⟨(some 42), none, .load true 3 (.tmp 6), [], false⟩,
  ⟨(some 43), none, .call 58 [(.tmp 42)], [], false⟩,
  ⟨(some 44), none, .un .not (.tmp 43), [], false⟩] [1, 2, 4, 6, 36, 37, 38, 44]
def c_dial_newFace_12 : SCode := .reg [⟨(some 45), none, .load true 6 (.tmp 2), [], false⟩,
  ⟨none, none, .store 6 (.tmp 2) (.tmp 45), [], false⟩,
  ⟨(some 3), none, .mov (.const (.bool false)), [], false⟩] [2, 3]
def c_dial_newFace_13 : SCode := .seq c_dial_newFace_12 .ret
def c_dial_newFace_14 : SCode := .cond (.tmp 44) c_dial_newFace_13 .skip
def c_dial_newFace_15 : SCode := .seq c_dial_newFace_11 c_dial_newFace_14
def c_dial_newFace_16 : SCode := .reg [⟨(some 46), none, .mov (.tmp 4), [], false⟩,
  ⟨(some 47), none, .mov (.tmp 4), [], false⟩,
  ⟨(some 48), none, .fld 1 (.tmp 6), [], false⟩,
  ⟨(some 49), none, .fld 0 (.tmp 48), [], false⟩,
  ⟨(some 50), none, .load false 1 (.tmp 49), [], false⟩,
  ⟨(some 51), none, .call 59 [(.tmp 47), (.tmp 50)], [], false⟩,
  ⟨(some 52), none, .bin .quo (.tmp 46) (.tmp 51), [], false⟩,
  ⟨(some 53), none, .fld 1 (.tmp 6), [], false⟩,
  ⟨(some 54), none, .fld 0 (.tmp 53), [], false⟩,
  ⟨(some 55), none, .load false 1 (.tmp 54), [], false⟩,
  ⟨(some 56), none, .bin .mul (.tmp 52) (.tmp 55), [], false⟩,
  ⟨(some 4), none, .mov (.tmp 56), [], false⟩] [1, 2, 4, 36, 37, 38]
def c_dial_newFace_17 : SCode := .seq c_dial_newFace_15 c_dial_newFace_16
def c_dial_newFace_18 : SCode := .seq c_dial_newFace_10 c_dial_newFace_17
def c_dial_newFace_19 : SCode := .block 1 c_dial_newFace_18
def c_dial_newFace_20 : SCode := .reg [⟨(some 57), none, .bin .add (.tmp 38) (.const (.int .i64 1)), [], false⟩,
  ⟨(some 38), none, .mov (.tmp 57), [], false⟩] [1, 2, 4, 36, 37, 38]
def c_dial_newFace_21 : SCode := .seq c_dial_newFace_19 c_dial_newFace_20
def c_dial_newFace_22 : SCode := .seq c_dial_newFace_9 c_dial_newFace_21
def c_dial_newFace_23 : SCode := .seq c_dial_newFace_8 c_dial_newFace_22
def c_dial_newFace_24 : SCode := .loop c_dial_newFace_23
def c_dial_newFace_25 : SCode := .block 0 c_dial_newFace_24
def c_dial_newFace_26 : SCode := .seq c_dial_newFace_7 c_dial_newFace_25
def c_dial_newFace_27 : SCode := .reg [⟨(some 7), none, .mov (.const (.int .i64 0)), [], false⟩] [1, 2, 4, 7]
def c_dial_newFace_28 : SCode := .reg [⟨(some 58), none, .fld 2 (.tmp 1), [], false⟩,
  ⟨(some 59), none, .load false 1 (.tmp 58), [], false⟩,
  ⟨(some 60), none, .len (.tmp 59), [], false⟩,
  ⟨(some 61), none, .mov (.const (.int .i64 0)), [], false⟩] [1, 2, 4, 7, 59, 60, 61]
def c_dial_newFace_29 : SCode := .reg [⟨(some 62), none, .bin .lss (.tmp 61) (.tmp 60), [], false⟩] [1, 2, 4, 7, 59, 60, 61, 62]
def c_dial_newFace_30 : SCode := .cond (.tmp 62) .skip (.exit 2)
def c_dial_newFace_31 : SCode := .reg [⟨(some 63), none, .idxS 3 (.tmp 59) (.tmp 61), [], false⟩,
  ⟨(some 64), none, .load true 3 (.tmp 63), [], false⟩,
  ⟨(some 9), none, .alloc 59 [(.int .i64 0), (.int .i64 0), (.int .i64 0)], [], false⟩,
  ⟨none, none, .store 3 (.tmp 9) (.tmp 64), [], false⟩] [1, 2, 4, 7, 9, 59, 60, 61]
def c_dial_newFace_32 : SCode := .reg [⟨(some 65), none, .mov (.tmp 7), [], false⟩,
  ⟨(some 66), none, .fld 0 (.tmp 9), [], false⟩,
  ⟨(some 67), none, .load false 1 (.tmp 66), [], false⟩,
  ⟨(some 68), none, .bin .mul (.tmp 67) (.const (.int .i64 3600)), [], false⟩,
  ⟨(some 69), none, .fld 1 (.tmp 9), [], false⟩,
  ⟨(some 70), none, .fld 1 (.tmp 69), [], false⟩,
  ⟨(some 71), none, .load false 1 (.tmp 70), [], false⟩,
  ⟨(some 72), none, .bin .mul (.tmp 68) (.tmp 71), [], false⟩,
  ⟨(some 73), none, .mov (.tmp 4), [], false⟩,
  ⟨(some 74), none, .fld 1 (.tmp 9), [], false⟩,
  ⟨(some 75), none, .fld 0 (.tmp 74), [], false⟩,
  ⟨(some 76), none, .load false 1 (.tmp 75), [], false⟩,
  ⟨(some 77), none, .bin .quo (.tmp 73) (.tmp 76), [], false⟩,
  ⟨(some 78), none, .bin .mul (.tmp 72) (.tmp 77), [], false⟩,
  ⟨(some 79), none, .bin .add (.tmp 65) (.tmp 78), [], false⟩,
  ⟨(some 7), none, .mov (.tmp 79), [], false⟩] [1, 2, 4, 7, 59, 60, 61]
def c_dial_newFace_33 : SCode := .seq c_dial_newFace_31 c_dial_newFace_32
def c_dial_newFace_34 : SCode := .block 3 c_dial_newFace_33
def c_dial_newFace_35 : SCode := .reg [⟨(some 80), none, .bin .add (.tmp 61) (.const (.int .i64 1)), [], false⟩,
  ⟨(some 61), none, .mov (.tmp 80), [], false⟩] [1, 2, 4, 7, 59, 60, 61]
def c_dial_newFace_36 : SCode := .seq c_dial_newFace_34 c_dial_newFace_35
def c_dial_newFace_37 : SCode := .seq c_dial_newFace_30 c_dial_newFace_36
def c_dial_newFace_38 : SCode := .seq c_dial_newFace_29 c_dial_newFace_37
def c_dial_newFace_39 : SCode := .loop c_dial_newFace_38
def c_dial_newFace_40 : SCode := .block 2 c_dial_newFace_39
def c_dial_newFace_41 : SCode := .seq c_dial_newFace_28 c_dial_newFace_40
def c_dial_newFace_42 : SCode := .reg [⟨(some 81), none, .load true 5 (.tmp 1), [], false⟩,
  ⟨(some 82), none, .mov (.tmp 7), [], false⟩,
  ⟨(some 83), none, .mov (.tmp 4), [], false⟩,
  ⟨(some 84), none, .bin .mul (.const (.int .i64 1000)) (.tmp 83), [], false⟩,
  ⟨(some 85), none, .call 60 [(.tmp 82), (.tmp 84)], [], false⟩,
  ⟨(some 86), none, .build [(.int .i64 0), (.int .i64 0), (.slice none 0 0), (.int .i64 0), (.int .i64 0), (.int .i64 0)] [(0, 5, (.tmp 81)), (5, 1, (.tmp 85))], [], false⟩,
  ⟨none, none, .store 6 (.tmp 2) (.tmp 86), [], false⟩] [2]
def c_dial_newFace_43 : SCode := .reg [⟨(some 87), none, .load true 6 (.tmp 2), [], false⟩,
  ⟨(some 88), none, .fld 5 (.tmp 2), [], false⟩,
  ⟨(some 89), none, .load false 1 (.tmp 88), [], false⟩,
  ⟨(some 90), none, .bin .leq (.tmp 89) (.const (.int .i64 3600)), [], false⟩,
  ⟨none, none, .store 6 (.tmp 2) (.tmp 87), [], false⟩,
  ⟨(some 3), none, .mov (.tmp 90), [], false⟩] [2, 3]
def c_dial_newFace_44 : SCode := .seq c_dial_newFace_43 .ret
def c_dial_newFace_45 : SCode := .seq c_dial_newFace_42 c_dial_newFace_44
def c_dial_newFace_46 : SCode := .seq c_dial_newFace_41 c_dial_newFace_45
def c_dial_newFace_47 : SCode := .seq c_dial_newFace_27 c_dial_newFace_46
def c_dial_newFace_48 : SCode := .seq c_dial_newFace_26 c_dial_newFace_47
def c_dial_newFace_49 : SCode := .seq c_dial_newFace_6 c_dial_newFace_48
def c_dial_newFace_50 : SCode := .seq c_dial_newFace_5 c_dial_newFace_49
def c_dial_newFace_51 : SCode := .seq c_dial_newFace_0 c_dial_newFace_50
@[simp] def rs_dial_newFace : List SRes := [.cell 2 true 6, .tmp 3]
theorem law_dial_newFace (cs : List CV) (r : CV) (hl : cs.length ≤ 91) (h : STri (cfF Tryz.prog [] 91) c_dial_newFace_51 (initT 0 cs) [] (retQ rs_dial_newFace r)) : SC Tryz.prog 36 cs r :=
  sc_of [] follows Tryz.func36 rfl Tryz.ntmps36 (by decide) (by kernel_rfl) (by kernel_rfl) hl h
def c_dial_newLook_0 : SCode := .reg [⟨(some 4), none, .box 26 (.tmp 0), [], false⟩,
  ⟨(some 7), none, .box 23 (.tmp 3), [], false⟩,
  ⟨(some 8), none, .alloc 98 [(.int .i64 0), (.int .i64 0), (.int .i64 0), (.slice none 0 0), (.slice none 0 0), (.int .i64 0), (.int .i64 0), (.slice none 0 0), (.int .i64 0), (.int .i64 0), (.int .i64 0), (.int .i64 0), (.int .i64 0), (.int .i64 0)], [], false⟩,
  ⟨(some 9), none, .mov (.const (.int .i64 0)), [], false⟩] [1, 2, 4, 7, 8]
def c_dial_newLook_1 : SCode := .reg [⟨(some 12), none, .load true 4 (.tmp 4), [], false⟩,
  ⟨(some 13), none, .call 48 [(.tmp 12)], [], false⟩,
  ⟨(some 11), none, .mov (.tmp 13), [], false⟩,
  ⟨(some 14), none, .ext (.tmp 11) 0, [], false⟩,
  ⟨(some 15), none, .ext (.tmp 11) 1, [], false⟩,
  ⟨(some 10), none, .alloc 78 [(.int .i64 0), (.int .i64 0), (.int .i64 0), (.slice none 0 0), (.slice none 0 0)], [], false⟩,
  ⟨none, none, .store 5 (.tmp 10) (.tmp 14), [], false⟩,
  ⟨(some 9), none, .mov (.tmp 15), [], false⟩] [1, 2, 7, 8, 9, 10]
def c_dial_newLook_2 : SCode := .reg [⟨(some 17), none, .mov (.tmp 9), [], false⟩,
  ⟨(some 18), none, .bin .neq (.tmp 17) (.const (.int .i64 0)), [], false⟩,
  ⟨(some 16), none, .mov (.tmp 18), [], false⟩] [1, 2, 7, 8, 9, 10, 16]
def c_dial_newLook_3 : SCode := .reg [⟨(some 19), none, .load true 14 (.tmp 8), [], false⟩,
  ⟨(some 20), none, .mov (.tmp 9), [], false⟩,
  ⟨none, none, .store 14 (.tmp 8) (.tmp 19), [], false⟩,
  ⟨(some 9), none, .mov (.tmp 20), [], false⟩] [8, 9]
def c_dial_newLook_4 : SCode := .seq c_dial_newLook_3 .ret
def c_dial_newLook_5 : SCode := .reg [⟨(some 22), none, .fld 4 (.tmp 10), [], false⟩,
  ⟨(some 23), none, .load false 1 (.tmp 22), [], false⟩,
  ⟨(some 24), none, .len (.tmp 23), [], false⟩,
  ⟨(some 25), none, .bin .sub (.tmp 24) (.const (.int .i64 1)), [], false⟩,
  ⟨(some 26), none, .mov (.tmp 1), [], false⟩,
  ⟨(some 27), none, .buildSl 3 1 [(.int .i64 0)] 1 [(0, (.tmp 26))], [], false⟩,
  ⟨(some 28), none, .call 49 [(.const (.int .i64 0)), (.tmp 25), (.tmp 27)], [], false⟩,
  ⟨(some 29), none, .un .not (.tmp 28), [], false⟩,
  ⟨(some 21), none, .mov (.tmp 29), [], false⟩] [1, 2, 7, 8, 10, 21]
def c_dial_newLook_6 : SCode := .reg [⟨(some 30), none, .load true 14 (.tmp 8), [], false⟩,
  ⟨none, none, .store 14 (.tmp 8) (.tmp 30), [], false⟩,
  ⟨(some 9), none, .mov (.const (.int .i64 7)), [], false⟩] [8, 9]
def c_dial_newLook_7 : SCode := .seq c_dial_newLook_6 .ret
def c_dial_newLook_8 : SCode := .reg [⟨(some 32), none, .mov (.tmp 2), [], false⟩,
  ⟨(some 33), none, .buildSl 3 1 [(.int .i64 0)] 1 [(0, (.tmp 32))], [], false⟩,
  ⟨(some 34), none, .call 49 [(.const (.int .i64 0)), (.const (.int .i64 3155760000)), (.tmp 33)], [], false⟩,
  ⟨(some 35), none, .un .not (.tmp 34), [], false⟩,
  ⟨(some 31), none, .mov (.tmp 35), [], false⟩] [1, 2, 7, 8, 10, 31]
def c_dial_newLook_9 : SCode := .reg [⟨(some 36), none, .load true 14 (.tmp 8), [], false⟩,
  ⟨none, none, .store 14 (.tmp 8) (.tmp 36), [], false⟩,
  ⟨(some 9), none, .mov (.const (.int .i64 3)), [], false⟩] [8, 9]
def c_dial_newLook_10 : SCode := .seq c_dial_newLook_9 .ret
def c_dial_newLook_11 : SCode := .reg [⟨(some 38), none, .load true 2 (.tmp 7), [], false⟩,
  ⟨(some 39), none, .call 46 [(.tmp 38)], [], false⟩,
  ⟨(some 40), none, .un .not (.tmp 39), [], false⟩,
  ⟨(some 37), none, .mov (.tmp 40), [], false⟩] [1, 2, 7, 8, 10, 37]
def c_dial_newLook_12 : SCode := .reg [⟨(some 41), none, .load true 14 (.tmp 8), [], false⟩,
  ⟨none, none, .store 14 (.tmp 8) (.tmp 41), [], false⟩,
  ⟨(some 9), none, .mov (.const (.int .i64 2)), [], false⟩] [8, 9]
def c_dial_newLook_13 : SCode := .seq c_dial_newLook_12 .ret
def c_dial_newLook_14 : SCode := .cond (.tmp 37) c_dial_newLook_13 .skip
def c_dial_newLook_15 : SCode := .seq c_dial_newLook_11 c_dial_newLook_14
def c_dial_newLook_16 : SCode := .cond (.tmp 31) c_dial_newLook_10 c_dial_newLook_15
def c_dial_newLook_17 : SCode := .seq c_dial_newLook_8 c_dial_newLook_16
def c_dial_newLook_18 : SCode := .cond (.tmp 21) c_dial_newLook_7 c_dial_newLook_17
def c_dial_newLook_19 : SCode := .seq c_dial_newLook_5 c_dial_newLook_18
def c_dial_newLook_20 : SCode := .cond (.tmp 16) c_dial_newLook_4 c_dial_newLook_19
def c_dial_newLook_21 : SCode := .seq c_dial_newLook_2 c_dial_newLook_20
def c_dial_newLook_22 : SCode := .block 0 c_dial_newLook_21
def c_dial_newLook_23 : SCode := .reg [⟨(some 42), none, .load true 5 (.tmp 10), [], false⟩,
  ⟨(some 43), none, .fld 4 (.tmp 10), [], false⟩,
  ⟨(some 44), none, .load false 1 (.tmp 43), [], false⟩,
  ⟨(some 45), none, .mov (.tmp 1), [], false⟩,
  ⟨(some 46), none, .idxS 6 (.tmp 44) (.tmp 45), [], false⟩,
  ⟨(some 47), none, .load true 6 (.tmp 46), [], false⟩,
  ⟨(some 48), none, .mov (.tmp 2), [], false⟩,
  ⟨(some 49), none, .load true 2 (.tmp 7), [], false⟩,
  ⟨(some 50), none, .build [(.int .i64 0), (.int .i64 0), (.int .i64 0), (.slice none 0 0), (.slice none 0 0), (.int .i64 0), (.int .i64 0), (.slice none 0 0), (.int .i64 0), (.int .i64 0), (.int .i64 0), (.int .i64 0), (.int .i64 0), (.int .i64 0)] [(0, 5, (.tmp 42)), (5, 6, (.tmp 47)), (11, 1, (.tmp 48)), (12, 2, (.tmp 49))], [], false⟩,
  ⟨none, none, .store 14 (.tmp 8) (.tmp 50), [], false⟩,
  ⟨(some 9), none, .mov (.const (.int .i64 0)), [], false⟩] [8, 9]
def c_dial_newLook_24 : SCode := .seq c_dial_newLook_23 .ret
def c_dial_newLook_25 : SCode := .seq c_dial_newLook_22 c_dial_newLook_24
def c_dial_newLook_26 : SCode := .seq c_dial_newLook_1 c_dial_newLook_25
def c_dial_newLook_27 : SCode := .seq c_dial_newLook_0 c_dial_newLook_26
@[simp] def rs_dial_newLook : List SRes := [.cell 8 true 14, .tmp 9]
theorem law_dial_newLook (cs : List CV) (r : CV) (hl : cs.length ≤ 51) (h : STri (cfF Tryz.prog [] 51) c_dial_newLook_27 (initT 0 cs) [] (retQ rs_dial_newLook r)) : SC Tryz.prog 37 cs r :=
  sc_of [] follows Tryz.func37 rfl Tryz.ntmps37 (by decide) (by kernel_rfl) (by kernel_rfl) hl h
def c_dial_look_off_0 : SCode := .reg [⟨(some 1), none, .box 98 (.tmp 0), [], false⟩,
  ⟨(some 2), none, .alloc 23 [(.int .i64 0), (.int .i64 0)], [], false⟩] [1, 2]
def c_dial_look_off_1 : SCode := .reg [⟨(some 3), none, .alloc 36 [(.slice none 0 0)], [], false⟩] [1, 2, 3]
def c_dial_look_off_2 : SCode := .reg [⟨(some 5), none, .load true 14 (.tmp 1), [], false⟩,
  ⟨(some 6), none, .mkFn 44 [(.tmp 5)] [], [], false⟩] [1, 2, 3, 6]
def c_dial_look_off_3 : SCode := .reg [⟨(some 4), none, .alloc 23 [(.int .i64 0), (.int .i64 0)], [], false⟩,
  ⟨none, none, .store 2 (.tmp 4) (.tmp 7), [], false⟩] [3, 4]
def c_dial_look_off_4 : SCode := .reg [⟨(some 8), none, .load false 1 (.tmp 3), [], false⟩,
  ⟨(some 9), none, .load true 2 (.tmp 4), [], false⟩,
  ⟨(some 10), none, .buildSl 23 2 [(.int .i64 0), (.int .i64 0)] 1 [(0, (.tmp 9))], [], false⟩,
  ⟨(some 11), none, .append 23 2 16 (.tmp 8) (.tmp 10), [], false⟩,
  ⟨none, none, .store 1 (.tmp 3) (.tmp 11), [], false⟩] []
def c_dial_look_off_5 : SCode := .block 1 c_dial_look_off_4
def c_dial_look_off_6 : SCode := .range (.tmp 6) [7] c_dial_look_off_3 c_dial_look_off_5
def c_dial_look_off_7 : SCode := .block 0 c_dial_look_off_6
def c_dial_look_off_8 : SCode := .seq c_dial_look_off_2 c_dial_look_off_7
def c_dial_look_off_9 : SCode := .reg [⟨(some 12), none, .load false 1 (.tmp 3), [], false⟩,
  ⟨(some 13), none, .call 61 [(.tmp 12), (.func 62)], [], false⟩,
  ⟨(some 14), none, .field false 0 1 (.tmp 13), [], false⟩,
  ⟨(some 15), none, .fld 11 (.tmp 1), [], false⟩,
  ⟨(some 16), none, .load false 1 (.tmp 15), [], false⟩,
  ⟨(some 17), none, .bin .sub (.tmp 14) (.tmp 16), [], false⟩,
  ⟨(some 18), none, .load false 1 (.tmp 3), [], false⟩,
  ⟨(some 19), none, .call 63 [(.tmp 18), (.func 64)], [], false⟩,
  ⟨(some 20), none, .field false 1 1 (.tmp 19), [], false⟩,
  ⟨(some 21), none, .fld 11 (.tmp 1), [], false⟩,
  ⟨(some 22), none, .load false 1 (.tmp 21), [], false⟩,
  ⟨(some 23), none, .bin .sub (.tmp 20) (.tmp 22), [], false⟩,
  ⟨(some 24), none, .build [(.int .i64 0), (.int .i64 0)] [(0, 1, (.tmp 17)), (1, 1, (.tmp 23))], [], false⟩,
  ⟨none, none, .store 2 (.tmp 2) (.tmp 24), [], false⟩] [2]
def c_dial_look_off_10 : SCode := .seq c_dial_look_off_9 .ret
def c_dial_look_off_11 : SCode := .seq c_dial_look_off_8 c_dial_look_off_10
def c_dial_look_off_12 : SCode := .seq c_dial_look_off_1 c_dial_look_off_11
def c_dial_look_off_13 : SCode := .seq c_dial_look_off_0 c_dial_look_off_12
@[simp] def rs_dial_look_off : List SRes := [.cell 2 true 2]
theorem law_dial_look_off (cs : List CV) (r : CV) (hl : cs.length ≤ 25) (h : STri (cfF Tryz.prog [] 25) c_dial_look_off_13 (initT 0 cs) [] (retQ rs_dial_look_off r)) : SC Tryz.prog 38 cs r :=
  sc_of [] follows Tryz.func38 rfl Tryz.ntmps38 (by decide) (by kernel_rfl) (by kernel_rfl) hl h
def c_dial_end_0 : SCode := .reg [⟨(some 2), none, .box 23 (.tmp 0), [], false⟩,
  ⟨(some 4), none, .mov (.const (.int .i64 0)), [], false⟩] [1, 2]
def c_dial_end_1 : SCode := .reg [⟨(some 5), none, .mov (.tmp 1), [], false⟩] [2, 5]
def c_dial_end_2 : SCode := .reg [⟨(some 6), none, .fld 1 (.tmp 2), [], false⟩,
  ⟨(some 7), none, .load false 1 (.tmp 6), [], false⟩,
  ⟨(some 4), none, .mov (.tmp 7), [], false⟩] [4]
def c_dial_end_3 : SCode := .seq c_dial_end_2 .ret
def c_dial_end_4 : SCode := .cond (.tmp 5) c_dial_end_3 .skip
def c_dial_end_5 : SCode := .seq c_dial_end_1 c_dial_end_4
def c_dial_end_6 : SCode := .reg [⟨(some 8), none, .fld 0 (.tmp 2), [], false⟩,
  ⟨(some 9), none, .load false 1 (.tmp 8), [], false⟩,
  ⟨(some 4), none, .mov (.tmp 9), [], false⟩] [4]
def c_dial_end_7 : SCode := .seq c_dial_end_6 .ret
def c_dial_end_8 : SCode := .seq c_dial_end_5 c_dial_end_7
def c_dial_end_9 : SCode := .seq c_dial_end_0 c_dial_end_8
@[simp] def rs_dial_end : List SRes := [.tmp 4]
theorem law_dial_end (cs : List CV) (r : CV) (hl : cs.length ≤ 10) (h : STri (cfF Tryz.prog [] 10) c_dial_end_9 (initT 0 cs) [] (retQ rs_dial_end r)) : SC Tryz.prog 39 cs r :=
  sc_of [] follows Tryz.func39 rfl Tryz.ntmps39 (by decide) (by kernel_rfl) (by kernel_rfl) hl h
def c_dial_down_0 : SCode := .reg [⟨(some 4), none, .mov (.const (.int .i64 0)), [], false⟩] [0, 1]
def c_dial_down_1 : SCode := .reg [⟨(some 5), none, .mov (.tmp 0), [], false⟩,
  ⟨(some 6), none, .mov (.tmp 0), [], false⟩,
  ⟨(some 7), none, .mov (.tmp 1), [], false⟩,
  ⟨(some 8), none, .call 45 [(.tmp 6), (.tmp 7)], [], false⟩,
  ⟨(some 9), none, .bin .sub (.tmp 5) (.tmp 8), [], false⟩,
  ⟨(some 4), none, .mov (.tmp 9), [], false⟩] [4]
def c_dial_down_2 : SCode := .seq c_dial_down_1 .ret
def c_dial_down_3 : SCode := .seq c_dial_down_0 c_dial_down_2
@[simp] def rs_dial_down : List SRes := [.tmp 4]
theorem law_dial_down (cs : List CV) (r : CV) (hl : cs.length ≤ 10) (h : STri (cfF Tryz.prog [] 10) c_dial_down_3 (initT 0 cs) [] (retQ rs_dial_down r)) : SC Tryz.prog 40 cs r :=
  sc_of [] follows Tryz.func40 rfl Tryz.ntmps40 (by decide) (by kernel_rfl) (by kernel_rfl) hl h
def c_dial_face_hands_0 : SCode := .reg [⟨(some 3), none, .box 94 (.tmp 0), [], false⟩,
  ⟨(some 5), none, .box 23 (.tmp 2), [], false⟩,
  ⟨(some 6), none, .alloc 23 [(.int .i64 0), (.int .i64 0)], [], false⟩] [1, 3, 5, 6]
def c_dial_face_hands_1 : SCode := .reg [⟨(some 8), none, .load true 6 (.tmp 3), [], false⟩,
  ⟨(some 9), none, .mov (.tmp 1), [], false⟩,
  ⟨(some 10), none, .load true 2 (.tmp 5), [], false⟩,
  ⟨(some 11), none, .call 42 [(.tmp 8), (.tmp 9), (.tmp 10)], [], false⟩,
  ⟨(some 7), none, .alloc 23 [(.int .i64 0), (.int .i64 0)], [], false⟩,
  ⟨none, none, .store 2 (.tmp 7) (.tmp 11), [], false⟩] [1, 3, 6, 7]
def c_dial_face_hands_2 : SCode := .reg [⟨(some 12), none, .mov (.tmp 1), [], false⟩,
  ⟨(some 13), none, .fld 0 (.tmp 3), [], false⟩,
  ⟨(some 14), none, .fld 0 (.tmp 13), [], false⟩,
  ⟨(some 15), none, .fld 0 (.tmp 14), [], false⟩,
  ⟨(some 16), none, .load false 1 (.tmp 15), [], false⟩,
  ⟨(some 17), none, .bin .add (.tmp 12) (.tmp 16), [], false⟩,
  ⟨(some 18), none, .fld 1 (.tmp 7), [], false⟩,
  ⟨(some 19), none, .load false 1 (.tmp 18), [], false⟩,
  ⟨(some 20), none, .bin .sub (.tmp 17) (.tmp 19), [], false⟩,
  ⟨(some 21), none, .mov (.tmp 1), [], false⟩,
  ⟨(some 22), none, .fld 0 (.tmp 3), [], false⟩,
  ⟨(some 23), none, .fld 0 (.tmp 22), [], false⟩,
  ⟨(some 24), none, .fld 1 (.tmp 23), [], false⟩,
  ⟨(some 25), none, .load false 1 (.tmp 24), [], false⟩,
  ⟨(some 26), none, .bin .add (.tmp 21) (.tmp 25), [], false⟩,
  ⟨(some 27), none, .fld 0 (.tmp 7), [], false⟩,
  ⟨(some 28), none, .load false 1 (.tmp 27), [], false⟩,
  ⟨(some 29), none, .bin .sub (.tmp 26) (.tmp 28), [], false⟩,
  ⟨(some 30), none, .build [(.int .i64 0), (.int .i64 0)] [(0, 1, (.tmp 20)), (1, 1, (.tmp 29))], [], false⟩,
  ⟨none, none, .store 2 (.tmp 6) (.tmp 30), [], false⟩] [6]
def c_dial_face_hands_3 : SCode := .seq c_dial_face_hands_2 .ret
def c_dial_face_hands_4 : SCode := .seq c_dial_face_hands_1 c_dial_face_hands_3
def c_dial_face_hands_5 : SCode := .seq c_dial_face_hands_0 c_dial_face_hands_4
@[simp] def rs_dial_face_hands : List SRes := [.cell 6 true 2]
theorem law_dial_face_hands (cs : List CV) (r : CV) (hl : cs.length ≤ 31) (h : STri (cfF Tryz.prog [] 31) c_dial_face_hands_5 (initT 0 cs) [] (retQ rs_dial_face_hands r)) : SC Tryz.prog 41 cs r :=
  sc_of [] follows Tryz.func41 rfl Tryz.ntmps41 (by decide) (by kernel_rfl) (by kernel_rfl) hl h
def c_dial_face_lags_0 : SCode := .reg [⟨(some 3), none, .box 94 (.tmp 0), [], false⟩,
  ⟨(some 5), none, .box 23 (.tmp 2), [], false⟩,
  ⟨(some 6), none, .alloc 23 [(.int .i64 0), (.int .i64 0)], [], false⟩] [1, 3, 5, 6]
def c_dial_face_lags_1 : SCode := .reg [⟨(some 10), none, .fld 0 (.tmp 5), [], false⟩,
  ⟨(some 11), none, .load false 1 (.tmp 10), [], false⟩,
  ⟨(some 12), none, .load true 6 (.tmp 3), [], false⟩,
  ⟨(some 13), none, .mov (.tmp 1), [], false⟩,
  ⟨(some 14), none, .call 65 [(.tmp 12), (.tmp 13)], [], false⟩,
  ⟨(some 15), none, .bin .add (.tmp 11) (.tmp 14), [], false⟩,
  ⟨(some 16), none, .fld 1 (.tmp 5), [], false⟩,
  ⟨(some 17), none, .load false 1 (.tmp 16), [], false⟩,
  ⟨(some 18), none, .load true 6 (.tmp 3), [], false⟩,
  ⟨(some 19), none, .mov (.tmp 1), [], false⟩,
  ⟨(some 20), none, .call 65 [(.tmp 18), (.tmp 19)], [], false⟩,
  ⟨(some 21), none, .bin .add (.tmp 17) (.tmp 20), [], false⟩,
  ⟨(some 7), none, .mov (.tmp 15), [], false⟩,
  ⟨(some 8), none, .mov (.tmp 21), [], false⟩] [3, 6, 7, 8]
def c_dial_face_lags_2 : SCode := .reg [⟨(some 22), none, .fld 5 (.tmp 3), [], false⟩,
  ⟨(some 23), none, .load false 1 (.tmp 22), [], false⟩,
  ⟨(some 24), none, .build [(.int .i64 0), (.int .i64 0)] [(1, 1, (.tmp 23))], [], false⟩,
  ⟨(some 9), none, .alloc 23 [(.int .i64 0), (.int .i64 0)], [], false⟩,
  ⟨none, none, .store 2 (.tmp 9) (.tmp 24), [], false⟩] [3, 6, 7, 8, 9]
def c_dial_face_lags_3 : SCode := .reg [⟨(some 26), none, .mov (.tmp 7), [], false⟩,
  ⟨(some 27), none, .fld 0 (.tmp 3), [], false⟩,
  ⟨(some 28), none, .fld 4 (.tmp 27), [], false⟩,
  ⟨(some 29), none, .load false 1 (.tmp 28), [], false⟩,
  ⟨(some 30), none, .bin .gtr (.tmp 26) (.tmp 29), [], false⟩,
  ⟨(some 25), none, .mov (.tmp 30), [], false⟩] [3, 6, 8, 9, 25]
def c_dial_face_lags_4 : SCode := .reg [⟨(some 31), none, .fld 1 (.tmp 9), [], false⟩,
  ⟨none, none, .store 1 (.tmp 31) (.const (.int .i64 0)), [], false⟩] [6, 9]
def c_dial_face_lags_5 : SCode := .reg [⟨(some 33), none, .mov (.tmp 8), [], false⟩,
  ⟨(some 34), none, .fld 0 (.tmp 3), [], false⟩,
  ⟨(some 35), none, .fld 4 (.tmp 34), [], false⟩,
  ⟨(some 36), none, .load false 1 (.tmp 35), [], false⟩,
  ⟨(some 37), none, .un .neg (.tmp 36), [], false⟩,
  ⟨(some 38), none, .bin .lss (.tmp 33) (.tmp 37), [], false⟩,
  ⟨(some 32), none, .mov (.tmp 38), [], false⟩] [3, 6, 9, 32]
def c_dial_face_lags_6 : SCode := .reg [⟨(some 39), none, .fld 5 (.tmp 3), [], false⟩,
  ⟨(some 40), none, .load false 1 (.tmp 39), [], false⟩,
  ⟨(some 41), none, .fld 0 (.tmp 9), [], false⟩,
  ⟨none, none, .store 1 (.tmp 41) (.tmp 40), [], false⟩] [6, 9]
def c_dial_face_lags_7 : SCode := .cond (.tmp 32) c_dial_face_lags_6 .skip
def c_dial_face_lags_8 : SCode := .seq c_dial_face_lags_5 c_dial_face_lags_7
def c_dial_face_lags_9 : SCode := .cond (.tmp 25) c_dial_face_lags_4 c_dial_face_lags_8
def c_dial_face_lags_10 : SCode := .seq c_dial_face_lags_3 c_dial_face_lags_9
def c_dial_face_lags_11 : SCode := .block 0 c_dial_face_lags_10
def c_dial_face_lags_12 : SCode := .reg [⟨(some 42), none, .load true 2 (.tmp 9), [], false⟩,
  ⟨none, none, .store 2 (.tmp 6) (.tmp 42), [], false⟩] [6]
def c_dial_face_lags_13 : SCode := .seq c_dial_face_lags_12 .ret
def c_dial_face_lags_14 : SCode := .seq c_dial_face_lags_11 c_dial_face_lags_13
def c_dial_face_lags_15 : SCode := .seq c_dial_face_lags_2 c_dial_face_lags_14
def c_dial_face_lags_16 : SCode := .seq c_dial_face_lags_1 c_dial_face_lags_15
def c_dial_face_lags_17 : SCode := .seq c_dial_face_lags_0 c_dial_face_lags_16
@[simp] def rs_dial_face_lags : List SRes := [.cell 6 true 2]
theorem law_dial_face_lags (cs : List CV) (r : CV) (hl : cs.length ≤ 43) (h : STri (cfF Tryz.prog [] 43) c_dial_face_lags_17 (initT 0 cs) [] (retQ rs_dial_face_lags r)) : SC Tryz.prog 42 cs r :=
  sc_of [] follows Tryz.func42 rfl Tryz.ntmps42 (by decide) (by kernel_rfl) (by kernel_rfl) hl h
def c_dial_look_gust_0 : SCode := .reg [⟨(some 3), none, .box 98 (.tmp 0), [], false⟩,
  ⟨(some 6), none, .mov (.const (.int .i64 0)), [], false⟩] [1, 2, 3]
def c_dial_look_gust_1 : SCode := .reg [⟨(some 9), none, .fld 12 (.tmp 3), [], false⟩,
  ⟨(some 10), none, .fld 0 (.tmp 9), [], false⟩,
  ⟨(some 11), none, .load false 1 (.tmp 10), [], false⟩,
  ⟨(some 7), none, .mov (.tmp 11), [], false⟩] [1, 2, 3, 7]
def c_dial_look_gust_2 : SCode := .reg [⟨(some 12), none, .fld 5 (.tmp 3), [], false⟩,
  ⟨(some 13), none, .load true 6 (.tmp 12), [], false⟩,
  ⟨(some 14), none, .mov (.tmp 1), [], false⟩,
  ⟨(some 15), none, .mov (.tmp 7), [], false⟩,
  ⟨(some 16), none, .mov (.tmp 7), [], false⟩,
  ⟨(some 17), none, .build [(.int .i64 0), (.int .i64 0)] [(0, 1, (.tmp 15)), (1, 1, (.tmp 16))], [], false⟩,
  ⟨(some 18), none, .call 42 [(.tmp 13), (.tmp 14), (.tmp 17)], [], false⟩,
  ⟨(some 8), none, .alloc 23 [(.int .i64 0), (.int .i64 0)], [], false⟩,
  ⟨none, none, .store 2 (.tmp 8) (.tmp 18), [], false⟩] [1, 2, 3, 7, 8]
def c_dial_look_gust_3 : SCode := .reg [⟨(some 19), none, .fld 0 (.tmp 8), [], false⟩,
  ⟨(some 20), none, .load false 1 (.tmp 19), [], false⟩,
  ⟨(some 21), none, .fld 1 (.tmp 8), [], false⟩,
  ⟨(some 22), none, .load false 1 (.tmp 21), [], false⟩,
  ⟨(some 23), none, .mov (.tmp 2), [], false⟩,
  ⟨(some 24), none, .buildSl 3 1 [(.int .i64 0)] 1 [(0, (.tmp 23))], [], false⟩,
  ⟨(some 25), none, .call 49 [(.tmp 20), (.tmp 22), (.tmp 24)], [], false⟩,
  ⟨(some 26), none, .un .not (.tmp 25), [], false⟩] [1, 2, 3, 7, 8, 26]
def c_dial_look_gust_4 : SCode := .cond (.tmp 26) .skip (.exit 0)
def c_dial_look_gust_5 : SCode := .seq c_dial_look_gust_3 c_dial_look_gust_4
def c_dial_look_gust_6 : SCode := .reg [⟨(some 34), none, .mov (.tmp 7), [], false⟩,
  ⟨(some 35), none, .bin .add (.tmp 34) (.const (.int .i64 1)), [], false⟩,
  ⟨(some 7), none, .mov (.tmp 35), [], false⟩] [1, 2, 3, 7, 8]
def c_dial_look_gust_7 : SCode := .block 1 c_dial_look_gust_6
def c_dial_look_gust_8 : SCode := .reg [⟨(some 36), none, .load true 2 (.tmp 8), [], false⟩] [1, 2, 3, 7, 36]
def c_dial_look_gust_9 : SCode := .reg [⟨(some 8), none, .alloc 23 [(.int .i64 0), (.int .i64 0)], [], false⟩,
  ⟨none, none, .store 2 (.tmp 8) (.tmp 36), [], false⟩] [1, 2, 3, 7, 8]
def c_dial_look_gust_10 : SCode := .seq c_dial_look_gust_8 c_dial_look_gust_9
def c_dial_look_gust_11 : SCode := .reg [⟨(some 27), none, .fld 5 (.tmp 3), [], false⟩,
  ⟨(some 28), none, .load true 6 (.tmp 27), [], false⟩,
  ⟨(some 29), none, .mov (.tmp 1), [], false⟩,
  ⟨(some 30), none, .mov (.tmp 7), [], false⟩,
  ⟨(some 31), none, .mov (.tmp 7), [], false⟩,
  ⟨(some 32), none, .build [(.int .i64 0), (.int .i64 0)] [(0, 1, (.tmp 30)), (1, 1, (.tmp 31))], [], false⟩,
  ⟨(some 33), none, .call 42 [(.tmp 28), (.tmp 29), (.tmp 32)], [], false⟩,
  ⟨none, none, .store 2 (.tmp 8) (.tmp 33), [], false⟩] [1, 2, 3, 7, 8]
def c_dial_look_gust_12 : SCode := .seq c_dial_look_gust_10 c_dial_look_gust_11
def c_dial_look_gust_13 : SCode := .seq c_dial_look_gust_7 c_dial_look_gust_12
def c_dial_look_gust_14 : SCode := .seq c_dial_look_gust_5 c_dial_look_gust_13
def c_dial_look_gust_15 : SCode := .loop c_dial_look_gust_14
def c_dial_look_gust_16 : SCode := .block 0 c_dial_look_gust_15
def c_dial_look_gust_17 : SCode := .seq c_dial_look_gust_2 c_dial_look_gust_16
def c_dial_look_gust_18 : SCode := .reg [⟨(some 37), none, .mov (.tmp 7), [], false⟩,
  ⟨(some 6), none, .mov (.tmp 37), [], false⟩] [6]
def c_dial_look_gust_19 : SCode := .seq c_dial_look_gust_18 .ret
def c_dial_look_gust_20 : SCode := .seq c_dial_look_gust_17 c_dial_look_gust_19
def c_dial_look_gust_21 : SCode := .seq c_dial_look_gust_1 c_dial_look_gust_20
def c_dial_look_gust_22 : SCode := .seq c_dial_look_gust_0 c_dial_look_gust_21
@[simp] def rs_dial_look_gust : List SRes := [.tmp 6]
theorem law_dial_look_gust (cs : List CV) (r : CV) (hl : cs.length ≤ 38) (h : STri (cfF Tryz.prog [] 38) c_dial_look_gust_22 (initT 0 cs) [] (retQ rs_dial_look_gust r)) : SC Tryz.prog 43 cs r :=
  sc_of [] follows Tryz.func43 rfl Tryz.ntmps43 (by decide) (by kernel_rfl) (by kernel_rfl) hl h
def c_dial_look_all_0 : SCode := .reg [⟨(some 2), none, .box 98 (.tmp 0), [], false⟩,
  ⟨(some 3), none, .box 74 (.tmp 1), [], false⟩] [2, 3]
def c_dial_look_all_1 : SCode := .reg [⟨(some 5), none, .fld 0 (.tmp 2), [], false⟩,
  ⟨(some 6), none, .load true 5 (.tmp 5), [], false⟩,
  ⟨(some 7), none, .fld 11 (.tmp 2), [], false⟩,
  ⟨(some 8), none, .load false 1 (.tmp 7), [], false⟩,
  ⟨(some 9), none, .fld 11 (.tmp 2), [], false⟩,
  ⟨(some 10), none, .load false 1 (.tmp 9), [], false⟩,
  ⟨(some 11), none, .build [(.int .i64 0), (.int .i64 0)] [(0, 1, (.tmp 8)), (1, 1, (.tmp 10))], [], false⟩,
  ⟨(some 12), none, .call 29 [(.tmp 6), (.tmp 11)], [], false⟩] [2, 3, 12]
def c_dial_look_all_2 : SCode := .reg [⟨(some 4), none, .mov (.tmp 13), [], false⟩] [2, 3, 4]
def c_dial_look_all_3 : SCode := .reg [⟨(some 14), none, .load false 1 (.tmp 3), [], false⟩,
  ⟨(some 15), none, .fld 5 (.tmp 2), [], false⟩,
  ⟨(some 16), none, .load true 6 (.tmp 15), [], false⟩,
  ⟨(some 17), none, .mov (.tmp 4), [], false⟩,
  ⟨(some 18), none, .fld 12 (.tmp 2), [], false⟩,
  ⟨(some 19), none, .load true 2 (.tmp 18), [], false⟩,
  ⟨(some 20), none, .call 41 [(.tmp 16), (.tmp 17), (.tmp 19)], [], false⟩,
  ⟨(some 21), none, .callV (.tmp 14) [(.tmp 20)], [], false⟩,
  ⟨(some 22), none, .un .not (.tmp 21), [], false⟩] [22]
def c_dial_look_all_4 : SCode := .cond (.tmp 22) .ret .skip
def c_dial_look_all_5 : SCode := .seq c_dial_look_all_3 c_dial_look_all_4
def c_dial_look_all_6 : SCode := .block 1 c_dial_look_all_5
def c_dial_look_all_7 : SCode := .range (.tmp 12) [13] c_dial_look_all_2 c_dial_look_all_6
def c_dial_look_all_8 : SCode := .block 0 c_dial_look_all_7
def c_dial_look_all_9 : SCode := .seq c_dial_look_all_1 c_dial_look_all_8
def c_dial_look_all_10 : SCode := .seq c_dial_look_all_0 c_dial_look_all_9
theorem ilaw_dial_look_all (b : Nat) (fs cs : List CV) (xs : List (List CV)) (hb2 : b + 1000 ≤ 1000000000) (hl : fs.length + 1 + cs.length ≤ 23) (h : ∀ Iv A G id, (∃ v, G (.yl id) v) → (∀ k row, xs[k]? = some row → YT Tryz.prog Iv A G id k row) → STri (cfI Tryz.prog [] 23 b Iv A G) c_dial_look_all_10 (initS 0 (fs.map .c ++ .yl id :: cs.map .c)) [(1000000000 + b, .gh 0 false)] (itQ b xs.length)) : IterL Tryz.prog 44 b fs cs xs :=
  iter_of [] follows Tryz.func44 rfl Tryz.ntmps44 (by decide) hb2 (by kernel_rfl) rfl hl h
def c_dial_modulo_0 : SCode := .reg [⟨(some 4), none, .mov (.const (.int .i64 0)), [], false⟩] [0, 1]
def c_dial_modulo_1 : SCode := .reg [⟨(some 5), none, .mov (.tmp 0), [], false⟩,
  ⟨(some 6), none, .mov (.tmp 1), [], false⟩,
  ⟨(some 7), none, .bin .rem (.tmp 5) (.tmp 6), [], false⟩,
  ⟨(some 8), none, .mov (.tmp 1), [], false⟩,
  ⟨(some 9), none, .bin .add (.tmp 7) (.tmp 8), [], false⟩,
  ⟨(some 10), none, .mov (.tmp 1), [], false⟩,
  ⟨(some 11), none, .bin .rem (.tmp 9) (.tmp 10), [], false⟩,
  ⟨(some 4), none, .mov (.tmp 11), [], false⟩] [4]
def c_dial_modulo_2 : SCode := .seq c_dial_modulo_1 .ret
def c_dial_modulo_3 : SCode := .seq c_dial_modulo_0 c_dial_modulo_2
@[simp] def rs_dial_modulo : List SRes := [.tmp 4]
theorem law_dial_modulo (cs : List CV) (r : CV) (hl : cs.length ≤ 12) (h : STri (cfF Tryz.prog [] 12) c_dial_modulo_3 (initT 0 cs) [] (retQ rs_dial_modulo r)) : SC Tryz.prog 45 cs r :=
  sc_of [] follows Tryz.func45 rfl Tryz.ntmps45 (by decide) (by kernel_rfl) (by kernel_rfl) hl h
def c_dial_isWind_0 : SCode := .reg [⟨(some 1), none, .box 23 (.tmp 0), [], false⟩,
  ⟨(some 2), none, .mov (.const (.bool false)), [], false⟩] [1]
def c_dial_isWind_1 : SCode := .reg [⟨(some 3), none, .load true 2 (.tmp 1), [], false⟩,
  ⟨(some 4), none, .call 50 [(.tmp 3), (.const (.int .i64 (-10000))), (.const (.int .i64 10000))], [], false⟩,
  ⟨(some 2), none, .mov (.tmp 4), [], false⟩] [2]
def c_dial_isWind_2 : SCode := .seq c_dial_isWind_1 .ret
def c_dial_isWind_3 : SCode := .seq c_dial_isWind_0 c_dial_isWind_2
@[simp] def rs_dial_isWind : List SRes := [.tmp 2]
theorem law_dial_isWind (cs : List CV) (r : CV) (hl : cs.length ≤ 5) (h : STri (cfF Tryz.prog [] 5) c_dial_isWind_3 (initT 0 cs) [] (retQ rs_dial_isWind r)) : SC Tryz.prog 46 cs r :=
  sc_of [] follows Tryz.func46 rfl Tryz.ntmps46 (by decide) (by kernel_rfl) (by kernel_rfl) hl h
def c_dial_newWorks_0 : SCode := .reg [⟨(some 1), none, .box 26 (.tmp 0), [], false⟩,
  ⟨(some 2), none, .alloc 78 [(.int .i64 0), (.int .i64 0), (.int .i64 0), (.slice none 0 0), (.slice none 0 0)], [], false⟩,
  ⟨(some 3), none, .mov (.const (.int .i64 0)), [], false⟩] [1, 2]
def c_dial_newWorks_1 : SCode := .reg [⟨(some 8), none, .fld 0 (.tmp 1), [], false⟩,
  ⟨(some 9), none, .load false 1 (.tmp 8), [], false⟩,
  ⟨(some 10), none, .buildSl 3 1 [(.int .i64 0)] 1 [(0, (.tmp 9))], [], false⟩,
  ⟨(some 11), none, .call 49 [(.const (.int .i64 1)), (.const (.int .i64 3600)), (.tmp 10)], [], false⟩,
  ⟨(some 12), none, .un .not (.tmp 11), [], false⟩,
  ⟨(some 13), none, .mov (.tmp 12), [], false⟩,
  ⟨(some 14), (some (13, false)), .fld 0 (.tmp 1), [], false⟩,
  ⟨(some 15), (some (13, false)), .load false 1 (.tmp 14), [], false⟩,
  ⟨(some 16), (some (13, false)), .bin .rem (.const (.int .i64 3600)) (.tmp 15), [], false⟩,
  ⟨(some 17), (some (13, false)), .bin .neq (.tmp 16) (.const (.int .i64 0)), [], false⟩,
  ⟨(some 18), none, .pick (.tmp 13) (.const (.bool true)) (.tmp 17), [], false⟩,
  ⟨(some 19), none, .mov (.tmp 18), [], false⟩,
  ⟨(some 20), (some (19, false)), .fld 1 (.tmp 1), [], false⟩,
  ⟨(some 21), (some (19, false)), .load true 2 (.tmp 20), [], false⟩,
  ⟨(some 22), (some (19, false)), .call 50 [(.tmp 21), (.const (.int .i64 (-3600))), (.const (.int .i64 3600))], [], false⟩,
  ⟨(some 23), (some (19, false)), .un .not (.tmp 22), [], false⟩,
  ⟨(some 24), none, .pick (.tmp 19) (.const (.bool true)) (.tmp 23), [], false⟩,
  ⟨(some 25), none, .mov (.tmp 24), [], false⟩,
  ⟨(some 26), (some (25, false)), .fld 3 (.tmp 1), [], false⟩,
  ⟨(some 27), (some (25, false)), .load false 1 (.tmp 26), [], false⟩,
  ⟨(some 28), (some (25, false)), .len (.tmp 27), [], false⟩,
  ⟨(some 29), (some (25, false)), .buildSl 3 1 [(.int .i64 0)] 1 [(0, (.tmp 28))], [], false⟩,
  ⟨(some 30), (some (25, false)), .call 49 [(.const (.int .i64 1)), (.const (.int .i64 8)), (.tmp 29)], [], false⟩,
  ⟨(some 31), (some (25, false)), .un .not (.tmp 30), [], false⟩,
  ⟨(some 32), none, .pick (.tmp 25) (.const (.bool true)) (.tmp 31), [], false⟩] [1, 2, 32]
def c_dial_newWorks_2 : SCode := .reg [⟨(some 33), none, .load true 5 (.tmp 2), [], false⟩,
  ⟨none, none, .store 5 (.tmp 2) (.tmp 33), [], false⟩,
  ⟨(some 3), none, .mov (.const (.int .i64 2)), [], false⟩] [2, 3]
def c_dial_newWorks_3 : SCode := .seq c_dial_newWorks_2 .ret
def c_dial_newWorks_4 : SCode := .cond (.tmp 32) c_dial_newWorks_3 .skip
def c_dial_newWorks_5 : SCode := .seq c_dial_newWorks_1 c_dial_newWorks_4
def c_dial_newWorks_6 : SCode := .reg [⟨(some 34), none, .load true 4 (.tmp 1), [], false⟩,
  ⟨(some 35), none, .fld 0 (.tmp 2), [], false⟩,
  ⟨none, none, .store 4 (.tmp 35) (.tmp 34), [], false⟩] [1, 2]
def c_dial_newWorks_7 : SCode := .reg [⟨(some 36), none, .fld 3 (.tmp 1), [], false⟩,
  ⟨(some 37), none, .load false 1 (.tmp 36), [], false⟩,
  ⟨(some 38), none, .len (.tmp 37), [], false⟩,
  ⟨(some 39), none, .mov (.const (.int .i64 0)), [], false⟩] [2, 37, 38, 39]
def c_dial_newWorks_8 : SCode := .reg [⟨(some 40), none, .bin .lss (.tmp 39) (.tmp 38), [], false⟩] [2, 37, 38, 39, 40]
def c_dial_newWorks_9 : SCode := .cond (.tmp 40) .skip (.exit 0)
def c_dial_newWorks_10 : SCode := .reg [⟨(some 41), none, .idxS 5 (.tmp 37) (.tmp 39), [], false⟩,
  ⟨(some 42), none, .load true 5 (.tmp 41), [], false⟩,
  ⟨(some 5), none, .alloc 54 [(.int .i64 0), (.int .i64 0), (.slice none 0 0), (.int .i64 0), (.int .i64 0)], [], false⟩,
  ⟨none, none, .store 5 (.tmp 5) (.tmp 42), [], false⟩] [2, 5, 37, 38, 39]
def c_dial_newWorks_11 : SCode := .reg [⟨(some 44), none, .load true 5 (.tmp 5), [], false⟩,
  ⟨(some 45), none, .call 36 [(.tmp 44)], [], false⟩,
  ⟨(some 43), none, .mov (.tmp 45), [], false⟩,
  ⟨(some 46), none, .ext (.tmp 43) 0, [], false⟩,
  ⟨(some 47), none, .ext (.tmp 43) 1, [], false⟩,
  ⟨(some 6), none, .alloc 94 [(.int .i64 0), (.int .i64 0), (.slice none 0 0), (.int .i64 0), (.int .i64 0), (.int .i64 0)], [], false⟩,
  ⟨none, none, .store 6 (.tmp 6) (.tmp 46), [], false⟩,
  ⟨(some 7), none, .mov (.tmp 47), [], false⟩] [2, 6, 7, 37, 38, 39]
def c_dial_newWorks_12 : SCode := .reg [⟨(some 48), none, .mov (.tmp 7), [], false⟩,
  ⟨(some 49), none, .un .not (.tmp 48), [], false⟩] [2, 6, 37, 38, 39, 49]
def c_dial_newWorks_13 : SCode := .reg [⟨(some 50), none, .build [(.int .i64 0), (.int .i64 0), (.int .i64 0), (.slice none 0 0), (.slice none 0 0)] [], [], false⟩,
  ⟨none, none, .store 5 (.tmp 2) (.tmp 50), [], false⟩,
  ⟨(some 3), none, .mov (.const (.int .i64 2)), [], false⟩] [2, 3]
def c_dial_newWorks_14 : SCode := .seq c_dial_newWorks_13 .ret
def c_dial_newWorks_15 : SCode := .cond (.tmp 49) c_dial_newWorks_14 .skip
def c_dial_newWorks_16 : SCode := .seq c_dial_newWorks_12 c_dial_newWorks_15
def c_dial_newWorks_17 : SCode := .reg [⟨(some 51), none, .fld 4 (.tmp 2), [], false⟩,
  ⟨(some 52), none, .load false 1 (.tmp 51), [], false⟩,
  ⟨(some 53), none, .load true 6 (.tmp 6), [], false⟩,
  ⟨(some 54), none, .buildSl 94 6 [(.int .i64 0), (.int .i64 0), (.slice none 0 0), (.int .i64 0), (.int .i64 0), (.int .i64 0)] 1 [(0, (.tmp 53))], [], false⟩,
  ⟨(some 55), none, .append 94 6 64 (.tmp 52) (.tmp 54), [], false⟩,
  ⟨(some 56), none, .fld 4 (.tmp 2), [], false⟩,
  ⟨none, none, .store 1 (.tmp 56) (.tmp 55), [], false⟩] [2, 37, 38, 39]
def c_dial_newWorks_18 : SCode := .seq c_dial_newWorks_16 c_dial_newWorks_17
def c_dial_newWorks_19 : SCode := .seq c_dial_newWorks_11 c_dial_newWorks_18
def c_dial_newWorks_20 : SCode := .seq c_dial_newWorks_10 c_dial_newWorks_19
def c_dial_newWorks_21 : SCode := .block 1 c_dial_newWorks_20
def c_dial_newWorks_22 : SCode := .reg [⟨(some 57), none, .bin .add (.tmp 39) (.const (.int .i64 1)), [], false⟩,
  ⟨(some 39), none, .mov (.tmp 57), [], false⟩] [2, 37, 38, 39]
def c_dial_newWorks_23 : SCode := .seq c_dial_newWorks_21 c_dial_newWorks_22
def c_dial_newWorks_24 : SCode := .seq c_dial_newWorks_9 c_dial_newWorks_23
def c_dial_newWorks_25 : SCode := .seq c_dial_newWorks_8 c_dial_newWorks_24
def c_dial_newWorks_26 : SCode := .loop c_dial_newWorks_25
def c_dial_newWorks_27 : SCode := .block 0 c_dial_newWorks_26
def c_dial_newWorks_28 : SCode := .seq c_dial_newWorks_7 c_dial_newWorks_27
def c_dial_newWorks_29 : SCode := .reg [⟨(some 58), none, .load true 5 (.tmp 2), [], false⟩,
  ⟨none, none, .store 5 (.tmp 2) (.tmp 58), [], false⟩,
  ⟨(some 3), none, .mov (.const (.int .i64 0)), [], false⟩] [2, 3]
def c_dial_newWorks_30 : SCode := .seq c_dial_newWorks_29 .ret
def c_dial_newWorks_31 : SCode := .seq c_dial_newWorks_28 c_dial_newWorks_30
def c_dial_newWorks_32 : SCode := .seq c_dial_newWorks_6 c_dial_newWorks_31
def c_dial_newWorks_33 : SCode := .seq c_dial_newWorks_5 c_dial_newWorks_32
def c_dial_newWorks_34 : SCode := .seq c_dial_newWorks_0 c_dial_newWorks_33
@[simp] def rs_dial_newWorks : List SRes := [.cell 2 true 5, .tmp 3]
theorem law_dial_newWorks (cs : List CV) (r : CV) (hl : cs.length ≤ 59) (h : STri (cfF Tryz.prog [] 59) c_dial_newWorks_34 (initT 0 cs) [] (retQ rs_dial_newWorks r)) : SC Tryz.prog 48 cs r :=
  sc_of [] follows Tryz.func48 rfl Tryz.ntmps48 (by decide) (by kernel_rfl) (by kernel_rfl) hl h
def c_dial_within_0 : SCode := .reg [⟨(some 3), none, .boxZ 3 (.tmp 0), [], false⟩,
  ⟨(some 4), none, .boxZ 3 (.tmp 1), [], false⟩,
  ⟨(some 6), none, .mov (.const (.bool false)), [], false⟩] [2, 3, 4]
def c_dial_within_1 : SCode := .reg [⟨(some 7), none, .mov (.tmp 2), [], false⟩,
  ⟨(some 8), none, .mkFn 68 [] [(.tmp 3), (.tmp 4)], [], false⟩,
  ⟨(some 9), none, .call 67 [(.tmp 7), (.tmp 8)], [], false⟩,
  ⟨(some 10), none, .un .not (.tmp 9), [], false⟩,
  ⟨(some 6), none, .mov (.tmp 10), [], false⟩] [6]
def c_dial_within_2 : SCode := .seq c_dial_within_1 .ret
def c_dial_within_3 : SCode := .seq c_dial_within_0 c_dial_within_2
@[simp] def rs_dial_within : List SRes := [.tmp 6]
theorem law_dial_within (cs : List CV) (r : CV) (hl : cs.length ≤ 11) (h : STri (cfF Tryz.prog [] 11) c_dial_within_3 (initT 0 cs) [] (retQ rs_dial_within r)) : SC Tryz.prog 49 cs r :=
  sc_of [] follows Tryz.func49 rfl Tryz.ntmps49 (by decide) (by kernel_rfl) (by kernel_rfl) hl h
def c_dial_isSpan_0 : SCode := .reg [⟨(some 3), none, .box 23 (.tmp 0), [], false⟩,
  ⟨(some 6), none, .mov (.const (.bool false)), [], false⟩] [1, 2, 3]
def c_dial_isSpan_1 : SCode := .reg [⟨(some 7), none, .mov (.tmp 1), [], false⟩,
  ⟨(some 8), none, .mov (.tmp 2), [], false⟩,
  ⟨(some 9), none, .fld 0 (.tmp 3), [], false⟩,
  ⟨(some 10), none, .load false 1 (.tmp 9), [], false⟩,
  ⟨(some 11), none, .fld 1 (.tmp 3), [], false⟩,
  ⟨(some 12), none, .load false 1 (.tmp 11), [], false⟩,
  ⟨(some 13), none, .buildSl 3 1 [(.int .i64 0)] 2 [(0, (.tmp 10)), (1, (.tmp 12))], [], false⟩,
  ⟨(some 14), none, .call 49 [(.tmp 7), (.tmp 8), (.tmp 13)], [], false⟩,
  ⟨(some 15), none, .mov (.tmp 14), [], false⟩,
  ⟨(some 16), (some (15, true)), .fld 0 (.tmp 3), [], false⟩,
  ⟨(some 17), (some (15, true)), .load false 1 (.tmp 16), [], false⟩,
  ⟨(some 18), (some (15, true)), .fld 1 (.tmp 3), [], false⟩,
  ⟨(some 19), (some (15, true)), .load false 1 (.tmp 18), [], false⟩,
  ⟨(some 20), (some (15, true)), .bin .leq (.tmp 17) (.tmp 19), [], false⟩,
  ⟨(some 21), none, .pick (.tmp 15) (.tmp 20) (.const (.bool false)), [], false⟩,
  ⟨(some 6), none, .mov (.tmp 21), [], false⟩] [6]
def c_dial_isSpan_2 : SCode := .seq c_dial_isSpan_1 .ret
def c_dial_isSpan_3 : SCode := .seq c_dial_isSpan_0 c_dial_isSpan_2
@[simp] def rs_dial_isSpan : List SRes := [.tmp 6]
theorem law_dial_isSpan (cs : List CV) (r : CV) (hl : cs.length ≤ 22) (h : STri (cfF Tryz.prog [] 22) c_dial_isSpan_3 (initT 0 cs) [] (retQ rs_dial_isSpan r)) : SC Tryz.prog 50 cs r :=
  sc_of [] follows Tryz.func50 rfl Tryz.ntmps50 (by decide) (by kernel_rfl) (by kernel_rfl) hl h
def c_dial_works_driven_1_0 : SCode := .reg [⟨(some 5), none, .fld 0 (.tmp 1), [], false⟩,
  ⟨(some 6), none, .load false 1 (.tmp 5), [], false⟩,
  ⟨(some 7), none, .fld 0 (.tmp 2), [], false⟩,
  ⟨(some 8), none, .fld 1 (.tmp 7), [], false⟩,
  ⟨(some 9), none, .fld 0 (.tmp 8), [], false⟩,
  ⟨(some 10), none, .load false 1 (.tmp 9), [], false⟩,
  ⟨(some 11), none, .bin .add (.tmp 6) (.tmp 10), [], false⟩,
  ⟨(some 12), none, .fld 0 (.tmp 2), [], false⟩,
  ⟨(some 13), none, .fld 0 (.tmp 12), [], false⟩,
  ⟨(some 14), none, .load false 1 (.tmp 13), [], false⟩,
  ⟨(some 15), none, .call 40 [(.tmp 11), (.tmp 14)], [], false⟩,
  ⟨(some 4), none, .mov (.tmp 15), [], false⟩] [0, 1, 2, 4]
def c_dial_works_driven_1_1 : SCode := .reg [⟨(some 16), none, .mov (.tmp 4), [], false⟩,
  ⟨(some 17), none, .fld 1 (.tmp 1), [], false⟩,
  ⟨(some 18), none, .load false 1 (.tmp 17), [], false⟩,
  ⟨(some 19), none, .fld 0 (.tmp 2), [], false⟩,
  ⟨(some 20), none, .fld 1 (.tmp 19), [], false⟩,
  ⟨(some 21), none, .fld 1 (.tmp 20), [], false⟩,
  ⟨(some 22), none, .load false 1 (.tmp 21), [], false⟩,
  ⟨(some 23), none, .bin .add (.tmp 18) (.tmp 22), [], false⟩,
  ⟨(some 24), none, .bin .leq (.tmp 16) (.tmp 23), [], false⟩] [0, 1, 2, 4, 24]
def c_dial_works_driven_1_2 : SCode := .cond (.tmp 24) .skip (.exit 0)
def c_dial_works_driven_1_3 : SCode := .seq c_dial_works_driven_1_1 c_dial_works_driven_1_2
def c_dial_works_driven_1_4 : SCode := .reg [⟨(some 30), none, .mov (.tmp 0), [], false⟩,
  ⟨(some 31), none, .mov (.tmp 4), [], false⟩,
  ⟨(some 32), none, .callV (.tmp 30) [(.tmp 31)], [], false⟩,
  ⟨(some 33), none, .un .not (.tmp 32), [], false⟩] [0, 1, 2, 4, 33]
def c_dial_works_driven_1_5 : SCode := .cond (.tmp 33) .ret .skip
def c_dial_works_driven_1_6 : SCode := .seq c_dial_works_driven_1_4 c_dial_works_driven_1_5
def c_dial_works_driven_1_7 : SCode := .block 1 c_dial_works_driven_1_6
def c_dial_works_driven_1_8 : SCode := .reg [⟨(some 25), none, .mov (.tmp 4), [], false⟩,
  ⟨(some 26), none, .fld 0 (.tmp 2), [], false⟩,
  ⟨(some 27), none, .fld 0 (.tmp 26), [], false⟩,
  ⟨(some 28), none, .load false 1 (.tmp 27), [], false⟩,
  ⟨(some 29), none, .bin .add (.tmp 25) (.tmp 28), [], false⟩,
  ⟨(some 4), none, .mov (.tmp 29), [], false⟩] [0, 1, 2, 4]
def c_dial_works_driven_1_9 : SCode := .seq c_dial_works_driven_1_7 c_dial_works_driven_1_8
def c_dial_works_driven_1_10 : SCode := .seq c_dial_works_driven_1_3 c_dial_works_driven_1_9
def c_dial_works_driven_1_11 : SCode := .loop c_dial_works_driven_1_10
def c_dial_works_driven_1_12 : SCode := .block 0 c_dial_works_driven_1_11
def c_dial_works_driven_1_13 : SCode := .seq c_dial_works_driven_1_0 c_dial_works_driven_1_12
theorem ilaw_dial_works_driven_1 (b : Nat) (fs cs : List CV) (xs : List (List CV)) (hb2 : b + 1000 ≤ 1000000000) (hl : fs.length + 1 + cs.length ≤ 34) (h : ∀ Iv A G id, (∃ v, G (.yl id) v) → (∀ k row, xs[k]? = some row → YT Tryz.prog Iv A G id k row) → STri (cfI Tryz.prog [] 34 b Iv A G) c_dial_works_driven_1_13 (initS 0 (fs.map .c ++ .yl id :: cs.map .c)) [(1000000000 + b, .gh 0 false)] (itQ b xs.length)) : IterL Tryz.prog 51 b fs cs xs :=
  iter_of [] follows Tryz.func51 rfl Tryz.ntmps51 (by decide) hb2 (by kernel_rfl) rfl hl h
@[simp] def rs_slices_SortFunc_dial_pairsInOrder_2_int : List SRes := []
@[simp] def rs_dial_pairsInOrder_compare : List SRes := [.tmp 6]
def c_dial_isLink_0 : SCode := .reg [⟨(some 1), none, .box 59 (.tmp 0), [], false⟩,
  ⟨(some 2), none, .mov (.const (.bool false)), [], false⟩] [1]
def c_dial_isLink_1 : SCode := .reg [⟨(some 3), none, .fld 0 (.tmp 1), [], false⟩,
  ⟨(some 4), none, .load false 1 (.tmp 3), [], false⟩,
  ⟨(some 5), none, .buildSl 3 1 [(.int .i64 0)] 1 [(0, (.tmp 4))], [], false⟩,
  ⟨(some 6), none, .call 49 [(.const (.int .i64 0)), (.const (.int .i64 1000)), (.tmp 5)], [], false⟩,
  ⟨(some 7), none, .mov (.tmp 6), [], false⟩,
  ⟨(some 8), (some (7, true)), .fld 1 (.tmp 1), [], false⟩,
  ⟨(some 9), (some (7, true)), .fld 0 (.tmp 8), [], false⟩,
  ⟨(some 10), (some (7, true)), .load false 1 (.tmp 9), [], false⟩,
  ⟨(some 11), (some (7, true)), .fld 1 (.tmp 1), [], false⟩,
  ⟨(some 12), (some (7, true)), .fld 1 (.tmp 11), [], false⟩,
  ⟨(some 13), (some (7, true)), .load false 1 (.tmp 12), [], false⟩,
  ⟨(some 14), (some (7, true)), .buildSl 3 1 [(.int .i64 0)] 2 [(0, (.tmp 10)), (1, (.tmp 13))], [], false⟩,
  ⟨(some 15), (some (7, true)), .call 49 [(.const (.int .i64 1)), (.const (.int .i64 200)), (.tmp 14)], [], false⟩,
  ⟨(some 16), none, .pick (.tmp 7) (.tmp 15) (.const (.bool false)), [], false⟩,
  ⟨(some 2), none, .mov (.tmp 16), [], false⟩] [2]
def c_dial_isLink_2 : SCode := .seq c_dial_isLink_1 .ret
def c_dial_isLink_3 : SCode := .seq c_dial_isLink_0 c_dial_isLink_2
@[simp] def rs_dial_isLink : List SRes := [.tmp 2]
theorem law_dial_isLink (cs : List CV) (r : CV) (hl : cs.length ≤ 17) (h : STri (cfF Tryz.prog [] 17) c_dial_isLink_3 (initT 0 cs) [] (retQ rs_dial_isLink r)) : SC Tryz.prog 58 cs r :=
  sc_of [] follows Tryz.func58 rfl Tryz.ntmps58 (by decide) (by kernel_rfl) (by kernel_rfl) hl h
def c_dial_gcd_0 : SCode := .reg [⟨(some 4), none, .mov (.const (.int .i64 0)), [], false⟩] [0, 1]
def c_dial_gcd_1 : SCode := .reg [⟨(some 5), none, .mov (.tmp 1), [], false⟩,
  ⟨(some 6), none, .bin .gtr (.tmp 5) (.const (.int .i64 0)), [], false⟩] [0, 1, 6]
def c_dial_gcd_2 : SCode := .cond (.tmp 6) .skip (.exit 0)
def c_dial_gcd_3 : SCode := .seq c_dial_gcd_1 c_dial_gcd_2
def c_dial_gcd_4 : SCode := .reg [⟨(some 7), none, .mov (.tmp 1), [], false⟩,
  ⟨(some 8), none, .mov (.tmp 0), [], false⟩,
  ⟨(some 9), none, .mov (.tmp 1), [], false⟩,
  ⟨(some 10), none, .bin .rem (.tmp 8) (.tmp 9), [], false⟩,
  ⟨(some 0), none, .mov (.tmp 7), [], false⟩,
  ⟨(some 1), none, .mov (.tmp 10), [], false⟩] [0, 1]
def c_dial_gcd_5 : SCode := .block 1 c_dial_gcd_4
def c_dial_gcd_6 : SCode := .seq c_dial_gcd_3 c_dial_gcd_5
def c_dial_gcd_7 : SCode := .loop c_dial_gcd_6
def c_dial_gcd_8 : SCode := .block 0 c_dial_gcd_7
def c_dial_gcd_9 : SCode := .reg [⟨(some 11), none, .mov (.tmp 0), [], false⟩,
  ⟨(some 4), none, .mov (.tmp 11), [], false⟩] [4]
def c_dial_gcd_10 : SCode := .seq c_dial_gcd_9 .ret
def c_dial_gcd_11 : SCode := .seq c_dial_gcd_8 c_dial_gcd_10
def c_dial_gcd_12 : SCode := .seq c_dial_gcd_0 c_dial_gcd_11
@[simp] def rs_dial_gcd : List SRes := [.tmp 4]
theorem law_dial_gcd (cs : List CV) (r : CV) (hl : cs.length ≤ 12) (h : STri (cfF Tryz.prog [] 12) c_dial_gcd_12 (initT 0 cs) [] (retQ rs_dial_gcd r)) : SC Tryz.prog 59 cs r :=
  sc_of [] follows Tryz.func59 rfl Tryz.ntmps59 (by decide) (by kernel_rfl) (by kernel_rfl) hl h
def c_dial_over_0 : SCode := .reg [⟨(some 4), none, .mov (.const (.int .i64 0)), [], false⟩] [0, 1]
def c_dial_over_1 : SCode := .reg [⟨(some 5), none, .mov (.tmp 0), [], false⟩,
  ⟨(some 6), none, .mov (.tmp 1), [], false⟩,
  ⟨(some 7), none, .bin .add (.tmp 5) (.tmp 6), [], false⟩,
  ⟨(some 8), none, .bin .sub (.tmp 7) (.const (.int .i64 1)), [], false⟩,
  ⟨(some 9), none, .mov (.tmp 1), [], false⟩,
  ⟨(some 10), none, .bin .quo (.tmp 8) (.tmp 9), [], false⟩,
  ⟨(some 4), none, .mov (.tmp 10), [], false⟩] [4]
def c_dial_over_2 : SCode := .seq c_dial_over_1 .ret
def c_dial_over_3 : SCode := .seq c_dial_over_0 c_dial_over_2
@[simp] def rs_dial_over : List SRes := [.tmp 4]
theorem law_dial_over (cs : List CV) (r : CV) (hl : cs.length ≤ 11) (h : STri (cfF Tryz.prog [] 11) c_dial_over_3 (initT 0 cs) [] (retQ rs_dial_over r)) : SC Tryz.prog 60 cs r :=
  sc_of [] follows Tryz.func60 rfl Tryz.ntmps60 (by decide) (by kernel_rfl) (by kernel_rfl) hl h
def c_slices_MinFunc_api_Span_api_Span_0 : SCode := .reg [⟨(some 4), none, .alloc 23 [(.int .i64 0), (.int .i64 0)], [], false⟩] [0, 1, 4]
def c_slices_MinFunc_api_Span_api_Span_1 : SCode := .reg [⟨(some 7), none, .mov (.tmp 0), [], false⟩,
  ⟨(some 8), none, .len (.tmp 7), [], false⟩,
  ⟨(some 9), none, .bin .lss (.tmp 8) (.const (.int .i64 1)), [], false⟩] [0, 1, 4, 9]
def c_slices_MinFunc_api_Span_api_Span_2 : SCode := .reg [⟨(some 10), none, .mkIfc 9 (.const (.string ⟨#[115, 108, 105, 99, 101, 115, 46, 77, 105, 110, 70, 117, 110, 99, 58, 32, 101, 109, 112, 116, 121, 32, 108, 105, 115, 116]⟩)), [], false⟩,
  ⟨none, none, .callM 0 [(.tmp 10)], [], false⟩] [0, 1, 4]
def c_slices_MinFunc_api_Span_api_Span_3 : SCode := .cond (.tmp 9) c_slices_MinFunc_api_Span_api_Span_2 .skip
def c_slices_MinFunc_api_Span_api_Span_4 : SCode := .seq c_slices_MinFunc_api_Span_api_Span_1 c_slices_MinFunc_api_Span_api_Span_3
def c_slices_MinFunc_api_Span_api_Span_5 : SCode := .reg [⟨(some 11), none, .mov (.tmp 0), [], false⟩,
  ⟨(some 12), none, .idxS 2 (.tmp 11) (.const (.int .i64 0)), [], false⟩,
  ⟨(some 13), none, .load true 2 (.tmp 12), [], false⟩,
  ⟨(some 5), none, .alloc 23 [(.int .i64 0), (.int .i64 0)], [], false⟩,
  ⟨none, none, .store 2 (.tmp 5) (.tmp 13), [], false⟩] [0, 1, 4, 5]
def c_slices_MinFunc_api_Span_api_Span_6 : SCode := .reg [⟨(some 6), none, .mov (.const (.int .i64 1)), [], false⟩] [0, 1, 4, 5, 6]
def c_slices_MinFunc_api_Span_api_Span_7 : SCode := .reg [⟨(some 14), none, .mov (.tmp 6), [], false⟩,
  ⟨(some 15), none, .mov (.tmp 0), [], false⟩,
  ⟨(some 16), none, .len (.tmp 15), [], false⟩,
  ⟨(some 17), none, .bin .lss (.tmp 14) (.tmp 16), [], false⟩] [0, 1, 4, 5, 6, 17]
def c_slices_MinFunc_api_Span_api_Span_8 : SCode := .cond (.tmp 17) .skip (.exit 0)
def c_slices_MinFunc_api_Span_api_Span_9 : SCode := .seq c_slices_MinFunc_api_Span_api_Span_7 c_slices_MinFunc_api_Span_api_Span_8
def c_slices_MinFunc_api_Span_api_Span_10 : SCode := .reg [⟨(some 20), none, .mov (.tmp 1), [], false⟩,
  ⟨(some 21), none, .mov (.tmp 0), [], false⟩,
  ⟨(some 22), none, .mov (.tmp 6), [], false⟩,
  ⟨(some 23), none, .idxS 2 (.tmp 21) (.tmp 22), [], false⟩,
  ⟨(some 24), none, .load true 2 (.tmp 23), [], false⟩,
  ⟨(some 25), none, .load true 2 (.tmp 5), [], false⟩,
  ⟨(some 26), none, .callV (.tmp 20) [(.tmp 24), (.tmp 25)], [], false⟩,
  ⟨(some 27), none, .bin .lss (.tmp 26) (.const (.int .i64 0)), [], false⟩] [0, 1, 4, 5, 6, 27]
def c_slices_MinFunc_api_Span_api_Span_11 : SCode := .reg [⟨(some 28), none, .mov (.tmp 0), [], false⟩,
  ⟨(some 29), none, .mov (.tmp 6), [], false⟩,
  ⟨(some 30), none, .idxS 2 (.tmp 28) (.tmp 29), [], false⟩,
  ⟨(some 31), none, .load true 2 (.tmp 30), [], false⟩,
  ⟨none, none, .store 2 (.tmp 5) (.tmp 31), [], false⟩] [0, 1, 4, 5, 6]
def c_slices_MinFunc_api_Span_api_Span_12 : SCode := .cond (.tmp 27) c_slices_MinFunc_api_Span_api_Span_11 .skip
def c_slices_MinFunc_api_Span_api_Span_13 : SCode := .seq c_slices_MinFunc_api_Span_api_Span_10 c_slices_MinFunc_api_Span_api_Span_12
def c_slices_MinFunc_api_Span_api_Span_14 : SCode := .block 1 c_slices_MinFunc_api_Span_api_Span_13
def c_slices_MinFunc_api_Span_api_Span_15 : SCode := .reg [⟨(some 18), none, .mov (.tmp 6), [], false⟩,
  ⟨(some 19), none, .bin .add (.tmp 18) (.const (.int .i64 1)), [], false⟩,
  ⟨(some 6), none, .mov (.tmp 19), [], false⟩] [0, 1, 4, 5, 6]
def c_slices_MinFunc_api_Span_api_Span_16 : SCode := .seq c_slices_MinFunc_api_Span_api_Span_14 c_slices_MinFunc_api_Span_api_Span_15
def c_slices_MinFunc_api_Span_api_Span_17 : SCode := .seq c_slices_MinFunc_api_Span_api_Span_9 c_slices_MinFunc_api_Span_api_Span_16
def c_slices_MinFunc_api_Span_api_Span_18 : SCode := .loop c_slices_MinFunc_api_Span_api_Span_17
def c_slices_MinFunc_api_Span_api_Span_19 : SCode := .block 0 c_slices_MinFunc_api_Span_api_Span_18
def c_slices_MinFunc_api_Span_api_Span_20 : SCode := .seq c_slices_MinFunc_api_Span_api_Span_6 c_slices_MinFunc_api_Span_api_Span_19
def c_slices_MinFunc_api_Span_api_Span_21 : SCode := .reg [⟨(some 32), none, .load true 2 (.tmp 5), [], false⟩,
  ⟨none, none, .store 2 (.tmp 4) (.tmp 32), [], false⟩] [4]
def c_slices_MinFunc_api_Span_api_Span_22 : SCode := .seq c_slices_MinFunc_api_Span_api_Span_21 .ret
def c_slices_MinFunc_api_Span_api_Span_23 : SCode := .seq c_slices_MinFunc_api_Span_api_Span_20 c_slices_MinFunc_api_Span_api_Span_22
def c_slices_MinFunc_api_Span_api_Span_24 : SCode := .seq c_slices_MinFunc_api_Span_api_Span_5 c_slices_MinFunc_api_Span_api_Span_23
def c_slices_MinFunc_api_Span_api_Span_25 : SCode := .seq c_slices_MinFunc_api_Span_api_Span_4 c_slices_MinFunc_api_Span_api_Span_24
def c_slices_MinFunc_api_Span_api_Span_26 : SCode := .seq c_slices_MinFunc_api_Span_api_Span_0 c_slices_MinFunc_api_Span_api_Span_25
@[simp] def rs_slices_MinFunc_api_Span_api_Span : List SRes := [.cell 4 true 2]
theorem law_slices_MinFunc_api_Span_api_Span (cs : List CV) (r : CV) (hl : cs.length ≤ 33) (h : STri (cfF Tryz.prog [] 33) c_slices_MinFunc_api_Span_api_Span_26 (initT 0 cs) [] (retQ rs_slices_MinFunc_api_Span_api_Span r)) : SC Tryz.prog 61 cs r :=
  sc_of [] follows Tryz.func61 rfl Tryz.ntmps61 (by decide) (by kernel_rfl) (by kernel_rfl) hl h
def c_dial_look_off_1_0 : SCode := .reg [⟨(some 2), none, .box 23 (.tmp 0), [], false⟩,
  ⟨(some 3), none, .box 23 (.tmp 1), [], false⟩,
  ⟨(some 4), none, .mov (.const (.int .i64 0)), [], false⟩] [2, 3]
def c_dial_look_off_1_1 : SCode := .reg [⟨(some 5), none, .fld 0 (.tmp 2), [], false⟩,
  ⟨(some 6), none, .load false 1 (.tmp 5), [], false⟩,
  ⟨(some 7), none, .fld 0 (.tmp 3), [], false⟩,
  ⟨(some 8), none, .load false 1 (.tmp 7), [], false⟩,
  ⟨(some 9), none, .bin .sub (.tmp 6) (.tmp 8), [], false⟩,
  ⟨(some 4), none, .mov (.tmp 9), [], false⟩] [4]
def c_dial_look_off_1_2 : SCode := .seq c_dial_look_off_1_1 .ret
def c_dial_look_off_1_3 : SCode := .seq c_dial_look_off_1_0 c_dial_look_off_1_2
@[simp] def rs_dial_look_off_1 : List SRes := [.tmp 4]
theorem law_dial_look_off_1 (cs : List CV) (r : CV) (hl : cs.length ≤ 10) (h : STri (cfF Tryz.prog [] 10) c_dial_look_off_1_3 (initT 0 cs) [] (retQ rs_dial_look_off_1 r)) : SC Tryz.prog 62 cs r :=
  sc_of [] follows Tryz.func62 rfl Tryz.ntmps62 (by decide) (by kernel_rfl) (by kernel_rfl) hl h
def c_slices_MaxFunc_api_Span_api_Span_0 : SCode := .reg [⟨(some 4), none, .alloc 23 [(.int .i64 0), (.int .i64 0)], [], false⟩] [0, 1, 4]
def c_slices_MaxFunc_api_Span_api_Span_1 : SCode := .reg [⟨(some 7), none, .mov (.tmp 0), [], false⟩,
  ⟨(some 8), none, .len (.tmp 7), [], false⟩,
  ⟨(some 9), none, .bin .lss (.tmp 8) (.const (.int .i64 1)), [], false⟩] [0, 1, 4, 9]
def c_slices_MaxFunc_api_Span_api_Span_2 : SCode := .reg [⟨(some 10), none, .mkIfc 9 (.const (.string ⟨#[115, 108, 105, 99, 101, 115, 46, 77, 97, 120, 70, 117, 110, 99, 58, 32, 101, 109, 112, 116, 121, 32, 108, 105, 115, 116]⟩)), [], false⟩,
  ⟨none, none, .callM 0 [(.tmp 10)], [], false⟩] [0, 1, 4]
def c_slices_MaxFunc_api_Span_api_Span_3 : SCode := .cond (.tmp 9) c_slices_MaxFunc_api_Span_api_Span_2 .skip
def c_slices_MaxFunc_api_Span_api_Span_4 : SCode := .seq c_slices_MaxFunc_api_Span_api_Span_1 c_slices_MaxFunc_api_Span_api_Span_3
def c_slices_MaxFunc_api_Span_api_Span_5 : SCode := .reg [⟨(some 11), none, .mov (.tmp 0), [], false⟩,
  ⟨(some 12), none, .idxS 2 (.tmp 11) (.const (.int .i64 0)), [], false⟩,
  ⟨(some 13), none, .load true 2 (.tmp 12), [], false⟩,
  ⟨(some 5), none, .alloc 23 [(.int .i64 0), (.int .i64 0)], [], false⟩,
  ⟨none, none, .store 2 (.tmp 5) (.tmp 13), [], false⟩] [0, 1, 4, 5]
def c_slices_MaxFunc_api_Span_api_Span_6 : SCode := .reg [⟨(some 6), none, .mov (.const (.int .i64 1)), [], false⟩] [0, 1, 4, 5, 6]
def c_slices_MaxFunc_api_Span_api_Span_7 : SCode := .reg [⟨(some 14), none, .mov (.tmp 6), [], false⟩,
  ⟨(some 15), none, .mov (.tmp 0), [], false⟩,
  ⟨(some 16), none, .len (.tmp 15), [], false⟩,
  ⟨(some 17), none, .bin .lss (.tmp 14) (.tmp 16), [], false⟩] [0, 1, 4, 5, 6, 17]
def c_slices_MaxFunc_api_Span_api_Span_8 : SCode := .cond (.tmp 17) .skip (.exit 0)
def c_slices_MaxFunc_api_Span_api_Span_9 : SCode := .seq c_slices_MaxFunc_api_Span_api_Span_7 c_slices_MaxFunc_api_Span_api_Span_8
def c_slices_MaxFunc_api_Span_api_Span_10 : SCode := .reg [⟨(some 20), none, .mov (.tmp 1), [], false⟩,
  ⟨(some 21), none, .mov (.tmp 0), [], false⟩,
  ⟨(some 22), none, .mov (.tmp 6), [], false⟩,
  ⟨(some 23), none, .idxS 2 (.tmp 21) (.tmp 22), [], false⟩,
  ⟨(some 24), none, .load true 2 (.tmp 23), [], false⟩,
  ⟨(some 25), none, .load true 2 (.tmp 5), [], false⟩,
  ⟨(some 26), none, .callV (.tmp 20) [(.tmp 24), (.tmp 25)], [], false⟩,
  ⟨(some 27), none, .bin .gtr (.tmp 26) (.const (.int .i64 0)), [], false⟩] [0, 1, 4, 5, 6, 27]
def c_slices_MaxFunc_api_Span_api_Span_11 : SCode := .reg [⟨(some 28), none, .mov (.tmp 0), [], false⟩,
  ⟨(some 29), none, .mov (.tmp 6), [], false⟩,
  ⟨(some 30), none, .idxS 2 (.tmp 28) (.tmp 29), [], false⟩,
  ⟨(some 31), none, .load true 2 (.tmp 30), [], false⟩,
  ⟨none, none, .store 2 (.tmp 5) (.tmp 31), [], false⟩] [0, 1, 4, 5, 6]
def c_slices_MaxFunc_api_Span_api_Span_12 : SCode := .cond (.tmp 27) c_slices_MaxFunc_api_Span_api_Span_11 .skip
def c_slices_MaxFunc_api_Span_api_Span_13 : SCode := .seq c_slices_MaxFunc_api_Span_api_Span_10 c_slices_MaxFunc_api_Span_api_Span_12
def c_slices_MaxFunc_api_Span_api_Span_14 : SCode := .block 1 c_slices_MaxFunc_api_Span_api_Span_13
def c_slices_MaxFunc_api_Span_api_Span_15 : SCode := .reg [⟨(some 18), none, .mov (.tmp 6), [], false⟩,
  ⟨(some 19), none, .bin .add (.tmp 18) (.const (.int .i64 1)), [], false⟩,
  ⟨(some 6), none, .mov (.tmp 19), [], false⟩] [0, 1, 4, 5, 6]
def c_slices_MaxFunc_api_Span_api_Span_16 : SCode := .seq c_slices_MaxFunc_api_Span_api_Span_14 c_slices_MaxFunc_api_Span_api_Span_15
def c_slices_MaxFunc_api_Span_api_Span_17 : SCode := .seq c_slices_MaxFunc_api_Span_api_Span_9 c_slices_MaxFunc_api_Span_api_Span_16
def c_slices_MaxFunc_api_Span_api_Span_18 : SCode := .loop c_slices_MaxFunc_api_Span_api_Span_17
def c_slices_MaxFunc_api_Span_api_Span_19 : SCode := .block 0 c_slices_MaxFunc_api_Span_api_Span_18
def c_slices_MaxFunc_api_Span_api_Span_20 : SCode := .seq c_slices_MaxFunc_api_Span_api_Span_6 c_slices_MaxFunc_api_Span_api_Span_19
def c_slices_MaxFunc_api_Span_api_Span_21 : SCode := .reg [⟨(some 32), none, .load true 2 (.tmp 5), [], false⟩,
  ⟨none, none, .store 2 (.tmp 4) (.tmp 32), [], false⟩] [4]
def c_slices_MaxFunc_api_Span_api_Span_22 : SCode := .seq c_slices_MaxFunc_api_Span_api_Span_21 .ret
def c_slices_MaxFunc_api_Span_api_Span_23 : SCode := .seq c_slices_MaxFunc_api_Span_api_Span_20 c_slices_MaxFunc_api_Span_api_Span_22
def c_slices_MaxFunc_api_Span_api_Span_24 : SCode := .seq c_slices_MaxFunc_api_Span_api_Span_5 c_slices_MaxFunc_api_Span_api_Span_23
def c_slices_MaxFunc_api_Span_api_Span_25 : SCode := .seq c_slices_MaxFunc_api_Span_api_Span_4 c_slices_MaxFunc_api_Span_api_Span_24
def c_slices_MaxFunc_api_Span_api_Span_26 : SCode := .seq c_slices_MaxFunc_api_Span_api_Span_0 c_slices_MaxFunc_api_Span_api_Span_25
@[simp] def rs_slices_MaxFunc_api_Span_api_Span : List SRes := [.cell 4 true 2]
theorem law_slices_MaxFunc_api_Span_api_Span (cs : List CV) (r : CV) (hl : cs.length ≤ 33) (h : STri (cfF Tryz.prog [] 33) c_slices_MaxFunc_api_Span_api_Span_26 (initT 0 cs) [] (retQ rs_slices_MaxFunc_api_Span_api_Span r)) : SC Tryz.prog 63 cs r :=
  sc_of [] follows Tryz.func63 rfl Tryz.ntmps63 (by decide) (by kernel_rfl) (by kernel_rfl) hl h
def c_dial_look_off_2_0 : SCode := .reg [⟨(some 2), none, .box 23 (.tmp 0), [], false⟩,
  ⟨(some 3), none, .box 23 (.tmp 1), [], false⟩,
  ⟨(some 4), none, .mov (.const (.int .i64 0)), [], false⟩] [2, 3]
def c_dial_look_off_2_1 : SCode := .reg [⟨(some 5), none, .fld 1 (.tmp 2), [], false⟩,
  ⟨(some 6), none, .load false 1 (.tmp 5), [], false⟩,
  ⟨(some 7), none, .fld 1 (.tmp 3), [], false⟩,
  ⟨(some 8), none, .load false 1 (.tmp 7), [], false⟩,
  ⟨(some 9), none, .bin .sub (.tmp 6) (.tmp 8), [], false⟩,
  ⟨(some 4), none, .mov (.tmp 9), [], false⟩] [4]
def c_dial_look_off_2_2 : SCode := .seq c_dial_look_off_2_1 .ret
def c_dial_look_off_2_3 : SCode := .seq c_dial_look_off_2_0 c_dial_look_off_2_2
@[simp] def rs_dial_look_off_2 : List SRes := [.tmp 4]
theorem law_dial_look_off_2 (cs : List CV) (r : CV) (hl : cs.length ≤ 10) (h : STri (cfF Tryz.prog [] 10) c_dial_look_off_2_3 (initT 0 cs) [] (retQ rs_dial_look_off_2 r)) : SC Tryz.prog 64 cs r :=
  sc_of [] follows Tryz.func64 rfl Tryz.ntmps64 (by decide) (by kernel_rfl) (by kernel_rfl) hl h
def c_dial_face_force_0 : SCode := .reg [⟨(some 2), none, .box 94 (.tmp 0), [], false⟩,
  ⟨(some 4), none, .mov (.const (.int .i64 0)), [], false⟩] [1, 2]
def c_dial_face_force_1 : SCode := .reg [⟨(some 5), none, .mov (.tmp 1), [], false⟩,
  ⟨(some 6), none, .call 45 [(.tmp 5), (.const (.int .i64 3600))], [], false⟩,
  ⟨(some 7), none, .bin .lss (.tmp 6) (.const (.int .i64 1800)), [], false⟩] [2, 7]
def c_dial_face_force_2 : SCode := .reg [⟨(some 8), none, .fld 0 (.tmp 2), [], false⟩,
  ⟨(some 9), none, .fld 3 (.tmp 8), [], false⟩,
  ⟨(some 10), none, .load false 1 (.tmp 9), [], false⟩,
  ⟨(some 4), none, .mov (.tmp 10), [], false⟩] [4]
def c_dial_face_force_3 : SCode := .seq c_dial_face_force_2 .ret
def c_dial_face_force_4 : SCode := .cond (.tmp 7) c_dial_face_force_3 .skip
def c_dial_face_force_5 : SCode := .seq c_dial_face_force_1 c_dial_face_force_4
def c_dial_face_force_6 : SCode := .reg [⟨(some 11), none, .fld 0 (.tmp 2), [], false⟩,
  ⟨(some 12), none, .fld 3 (.tmp 11), [], false⟩,
  ⟨(some 13), none, .load false 1 (.tmp 12), [], false⟩,
  ⟨(some 14), none, .un .neg (.tmp 13), [], false⟩,
  ⟨(some 4), none, .mov (.tmp 14), [], false⟩] [4]
def c_dial_face_force_7 : SCode := .seq c_dial_face_force_6 .ret
def c_dial_face_force_8 : SCode := .seq c_dial_face_force_5 c_dial_face_force_7
def c_dial_face_force_9 : SCode := .seq c_dial_face_force_0 c_dial_face_force_8
@[simp] def rs_dial_face_force : List SRes := [.tmp 4]
theorem law_dial_face_force (cs : List CV) (r : CV) (hl : cs.length ≤ 15) (h : STri (cfF Tryz.prog [] 15) c_dial_face_force_9 (initT 0 cs) [] (retQ rs_dial_face_force r)) : SC Tryz.prog 65 cs r :=
  sc_of [] follows Tryz.func65 rfl Tryz.ntmps65 (by decide) (by kernel_rfl) (by kernel_rfl) hl h
def c_slices_ContainsFunc_int_int_0 : SCode := .reg [⟨(some 4), none, .mov (.const (.bool false)), [], false⟩] [0, 1]
def c_slices_ContainsFunc_int_int_1 : SCode := .reg [⟨(some 5), none, .mov (.tmp 0), [], false⟩,
  ⟨(some 6), none, .mov (.tmp 1), [], false⟩,
  ⟨(some 7), none, .call 75 [(.tmp 5), (.tmp 6)], [], false⟩,
  ⟨(some 8), none, .bin .geq (.tmp 7) (.const (.int .i64 0)), [], false⟩,
  ⟨(some 4), none, .mov (.tmp 8), [], false⟩] [4]
def c_slices_ContainsFunc_int_int_2 : SCode := .seq c_slices_ContainsFunc_int_int_1 .ret
def c_slices_ContainsFunc_int_int_3 : SCode := .seq c_slices_ContainsFunc_int_int_0 c_slices_ContainsFunc_int_int_2
@[simp] def rs_slices_ContainsFunc_int_int : List SRes := [.tmp 4]
theorem law_slices_ContainsFunc_int_int (cs : List CV) (r : CV) (hl : cs.length ≤ 9) (h : STri (cfF Tryz.prog [] 9) c_slices_ContainsFunc_int_int_3 (initT 0 cs) [] (retQ rs_slices_ContainsFunc_int_int r)) : SC Tryz.prog 67 cs r :=
  sc_of [] follows Tryz.func67 rfl Tryz.ntmps67 (by decide) (by kernel_rfl) (by kernel_rfl) hl h
def c_dial_within_1_0 : SCode := .reg [⟨(some 4), none, .mov (.const (.bool false)), [], false⟩] [0, 1, 2]
def c_dial_within_1_1 : SCode := .reg [⟨(some 5), none, .mov (.tmp 0), [], false⟩,
  ⟨(some 6), none, .load false 1 (.tmp 1), [], false⟩,
  ⟨(some 7), none, .bin .lss (.tmp 5) (.tmp 6), [], false⟩,
  ⟨(some 8), none, .mov (.tmp 7), [], false⟩,
  ⟨(some 9), (some (8, false)), .mov (.tmp 0), [], false⟩,
  ⟨(some 10), (some (8, false)), .load false 1 (.tmp 2), [], false⟩,
  ⟨(some 11), (some (8, false)), .bin .gtr (.tmp 9) (.tmp 10), [], false⟩,
  ⟨(some 12), none, .pick (.tmp 8) (.const (.bool true)) (.tmp 11), [], false⟩,
  ⟨(some 4), none, .mov (.tmp 12), [], false⟩] [4]
def c_dial_within_1_2 : SCode := .seq c_dial_within_1_1 .ret
def c_dial_within_1_3 : SCode := .seq c_dial_within_1_0 c_dial_within_1_2
@[simp] def rs_dial_within_1 : List SRes := [.tmp 4]
theorem law_dial_within_1 (cs : List CV) (r : CV) (hl : cs.length ≤ 13) (h : STri (cfF Tryz.prog [] 13) c_dial_within_1_3 (initT 0 cs) [] (retQ rs_dial_within_1 r)) : SC Tryz.prog 68 cs r :=
  sc_of [] follows Tryz.func68 rfl Tryz.ntmps68 (by decide) (by kernel_rfl) (by kernel_rfl) hl h
@[simp] def rs_slices_pdqsortCmpFunc_2_int : List SRes := []
def c_slices_Compare_int_int_0 : SCode := .reg [⟨(some 4), none, .mov (.const (.int .i64 0)), [], false⟩] [0, 1]
def c_slices_Compare_int_int_1 : SCode := .reg [⟨(some 9), none, .mov (.tmp 0), [], false⟩,
  ⟨(some 10), none, .len (.tmp 9), [], false⟩,
  ⟨(some 11), none, .mov (.const (.int .i64 0)), [], false⟩] [0, 1, 9, 10, 11]
def c_slices_Compare_int_int_2 : SCode := .reg [⟨(some 12), none, .bin .lss (.tmp 11) (.tmp 10), [], false⟩] [0, 1, 9, 10, 11, 12]
def c_slices_Compare_int_int_3 : SCode := .cond (.tmp 12) .skip (.exit 0)
def c_slices_Compare_int_int_4 : SCode := .reg [⟨(some 13), none, .mov (.tmp 11), [], false⟩,
  ⟨(some 14), none, .idxS 1 (.tmp 9) (.tmp 11), [], false⟩,
  ⟨(some 15), none, .load false 1 (.tmp 14), [], false⟩,
  ⟨(some 5), none, .mov (.tmp 13), [], false⟩,
  ⟨(some 6), none, .mov (.tmp 15), [], false⟩] [0, 1, 5, 6, 9, 10, 11]
def c_slices_Compare_int_int_5 : SCode := .reg [⟨(some 16), none, .mov (.tmp 5), [], false⟩,
  ⟨(some 17), none, .mov (.tmp 1), [], false⟩,
  ⟨(some 18), none, .len (.tmp 17), [], false⟩,
  ⟨(some 19), none, .bin .geq (.tmp 16) (.tmp 18), [], false⟩] [0, 1, 5, 6, 9, 10, 11, 19]
def c_slices_Compare_int_int_6 : SCode := .reg [⟨(some 4), none, .mov (.const (.int .i64 1)), [], false⟩] [4]
def c_slices_Compare_int_int_7 : SCode := .seq c_slices_Compare_int_int_6 .ret
def c_slices_Compare_int_int_8 : SCode := .cond (.tmp 19) c_slices_Compare_int_int_7 .skip
def c_slices_Compare_int_int_9 : SCode := .seq c_slices_Compare_int_int_5 c_slices_Compare_int_int_8
def c_slices_Compare_int_int_10 : SCode := .reg [⟨(some 20), none, .mov (.tmp 1), [], false⟩,
  ⟨(some 21), none, .mov (.tmp 5), [], false⟩,
  ⟨(some 22), none, .idxS 1 (.tmp 20) (.tmp 21), [], false⟩,
  ⟨(some 23), none, .load false 1 (.tmp 22), [], false⟩,
  ⟨(some 7), none, .mov (.tmp 23), [], false⟩] [0, 1, 6, 7, 9, 10, 11]
def c_slices_Compare_int_int_11 : SCode := .reg [⟨(some 24), none, .mov (.tmp 6), [], false⟩,
  ⟨(some 25), none, .mov (.tmp 7), [], false⟩,
  ⟨(some 26), none, .call 94 [(.tmp 24), (.tmp 25)], [], false⟩,
  ⟨(some 8), none, .mov (.tmp 26), [], false⟩] [0, 1, 8, 9, 10, 11]
def c_slices_Compare_int_int_12 : SCode := .reg [⟨(some 27), none, .mov (.tmp 8), [], false⟩,
  ⟨(some 28), none, .bin .neq (.tmp 27) (.const (.int .i64 0)), [], false⟩] [0, 1, 8, 9, 10, 11, 28]
def c_slices_Compare_int_int_13 : SCode := .reg [⟨(some 29), none, .mov (.tmp 8), [], false⟩,
  ⟨(some 4), none, .mov (.tmp 29), [], false⟩] [4]
def c_slices_Compare_int_int_14 : SCode := .seq c_slices_Compare_int_int_13 .ret
def c_slices_Compare_int_int_15 : SCode := .cond (.tmp 28) c_slices_Compare_int_int_14 .skip
def c_slices_Compare_int_int_16 : SCode := .seq c_slices_Compare_int_int_12 c_slices_Compare_int_int_15
def c_slices_Compare_int_int_17 : SCode := .seq c_slices_Compare_int_int_11 c_slices_Compare_int_int_16
def c_slices_Compare_int_int_18 : SCode := .seq c_slices_Compare_int_int_10 c_slices_Compare_int_int_17
def c_slices_Compare_int_int_19 : SCode := .seq c_slices_Compare_int_int_9 c_slices_Compare_int_int_18
def c_slices_Compare_int_int_20 : SCode := .seq c_slices_Compare_int_int_4 c_slices_Compare_int_int_19
def c_slices_Compare_int_int_21 : SCode := .block 1 c_slices_Compare_int_int_20
def c_slices_Compare_int_int_22 : SCode := .reg [⟨(some 30), none, .bin .add (.tmp 11) (.const (.int .i64 1)), [], false⟩,
  ⟨(some 11), none, .mov (.tmp 30), [], false⟩] [0, 1, 9, 10, 11]
def c_slices_Compare_int_int_23 : SCode := .seq c_slices_Compare_int_int_21 c_slices_Compare_int_int_22
def c_slices_Compare_int_int_24 : SCode := .seq c_slices_Compare_int_int_3 c_slices_Compare_int_int_23
def c_slices_Compare_int_int_25 : SCode := .seq c_slices_Compare_int_int_2 c_slices_Compare_int_int_24
def c_slices_Compare_int_int_26 : SCode := .loop c_slices_Compare_int_int_25
def c_slices_Compare_int_int_27 : SCode := .block 0 c_slices_Compare_int_int_26
def c_slices_Compare_int_int_28 : SCode := .seq c_slices_Compare_int_int_1 c_slices_Compare_int_int_27
def c_slices_Compare_int_int_29 : SCode := .reg [⟨(some 31), none, .mov (.tmp 0), [], false⟩,
  ⟨(some 32), none, .len (.tmp 31), [], false⟩,
  ⟨(some 33), none, .mov (.tmp 1), [], false⟩,
  ⟨(some 34), none, .len (.tmp 33), [], false⟩,
  ⟨(some 35), none, .bin .lss (.tmp 32) (.tmp 34), [], false⟩] [35]
def c_slices_Compare_int_int_30 : SCode := .reg [⟨(some 4), none, .mov (.const (.int .i64 (-1))), [], false⟩] [4]
def c_slices_Compare_int_int_31 : SCode := .seq c_slices_Compare_int_int_30 .ret
def c_slices_Compare_int_int_32 : SCode := .cond (.tmp 35) c_slices_Compare_int_int_31 .skip
def c_slices_Compare_int_int_33 : SCode := .seq c_slices_Compare_int_int_29 c_slices_Compare_int_int_32
def c_slices_Compare_int_int_34 : SCode := .reg [⟨(some 4), none, .mov (.const (.int .i64 0)), [], false⟩] [4]
def c_slices_Compare_int_int_35 : SCode := .seq c_slices_Compare_int_int_34 .ret
def c_slices_Compare_int_int_36 : SCode := .seq c_slices_Compare_int_int_33 c_slices_Compare_int_int_35
def c_slices_Compare_int_int_37 : SCode := .seq c_slices_Compare_int_int_28 c_slices_Compare_int_int_36
def c_slices_Compare_int_int_38 : SCode := .seq c_slices_Compare_int_int_0 c_slices_Compare_int_int_37
@[simp] def rs_slices_Compare_int_int : List SRes := [.tmp 4]
theorem law_slices_Compare_int_int (cs : List CV) (r : CV) (hl : cs.length ≤ 36) (h : STri (cfF Tryz.prog [] 36) c_slices_Compare_int_int_38 (initT 0 cs) [] (retQ rs_slices_Compare_int_int r)) : SC Tryz.prog 72 cs r :=
  sc_of [] follows Tryz.func72 rfl Tryz.ntmps72 (by decide) (by kernel_rfl) (by kernel_rfl) hl h
def c_slices_IndexFunc_int_int_0 : SCode := .reg [⟨(some 4), none, .mov (.const (.int .i64 0)), [], false⟩] [0, 1]
def c_slices_IndexFunc_int_int_1 : SCode := .reg [⟨(some 6), none, .mov (.tmp 0), [], false⟩,
  ⟨(some 7), none, .len (.tmp 6), [], false⟩,
  ⟨(some 8), none, .mov (.const (.int .i64 0)), [], false⟩] [0, 1, 7, 8]
def c_slices_IndexFunc_int_int_2 : SCode := .reg [⟨(some 9), none, .bin .lss (.tmp 8) (.tmp 7), [], false⟩] [0, 1, 7, 8, 9]
def c_slices_IndexFunc_int_int_3 : SCode := .cond (.tmp 9) .skip (.exit 0)
def c_slices_IndexFunc_int_int_4 : SCode := .reg [⟨(some 10), none, .mov (.tmp 8), [], false⟩,
  ⟨(some 5), none, .mov (.tmp 10), [], false⟩] [0, 1, 5, 7, 8]
def c_slices_IndexFunc_int_int_5 : SCode := .reg [⟨(some 11), none, .mov (.tmp 1), [], false⟩,
  ⟨(some 12), none, .mov (.tmp 0), [], false⟩,
  ⟨(some 13), none, .mov (.tmp 5), [], false⟩,
  ⟨(some 14), none, .idxS 1 (.tmp 12) (.tmp 13), [], false⟩,
  ⟨(some 15), none, .load false 1 (.tmp 14), [], false⟩,
  ⟨(some 16), none, .callV (.tmp 11) [(.tmp 15)], [], false⟩] [0, 1, 5, 7, 8, 16]
def c_slices_IndexFunc_int_int_6 : SCode := .reg [⟨(some 17), none, .mov (.tmp 5), [], false⟩,
  ⟨(some 4), none, .mov (.tmp 17), [], false⟩] [4]
def c_slices_IndexFunc_int_int_7 : SCode := .seq c_slices_IndexFunc_int_int_6 .ret
def c_slices_IndexFunc_int_int_8 : SCode := .cond (.tmp 16) c_slices_IndexFunc_int_int_7 .skip
def c_slices_IndexFunc_int_int_9 : SCode := .seq c_slices_IndexFunc_int_int_5 c_slices_IndexFunc_int_int_8
def c_slices_IndexFunc_int_int_10 : SCode := .seq c_slices_IndexFunc_int_int_4 c_slices_IndexFunc_int_int_9
def c_slices_IndexFunc_int_int_11 : SCode := .block 1 c_slices_IndexFunc_int_int_10
def c_slices_IndexFunc_int_int_12 : SCode := .reg [⟨(some 18), none, .bin .add (.tmp 8) (.const (.int .i64 1)), [], false⟩,
  ⟨(some 8), none, .mov (.tmp 18), [], false⟩] [0, 1, 7, 8]
def c_slices_IndexFunc_int_int_13 : SCode := .seq c_slices_IndexFunc_int_int_11 c_slices_IndexFunc_int_int_12
def c_slices_IndexFunc_int_int_14 : SCode := .seq c_slices_IndexFunc_int_int_3 c_slices_IndexFunc_int_int_13
def c_slices_IndexFunc_int_int_15 : SCode := .seq c_slices_IndexFunc_int_int_2 c_slices_IndexFunc_int_int_14
def c_slices_IndexFunc_int_int_16 : SCode := .loop c_slices_IndexFunc_int_int_15
def c_slices_IndexFunc_int_int_17 : SCode := .block 0 c_slices_IndexFunc_int_int_16
def c_slices_IndexFunc_int_int_18 : SCode := .seq c_slices_IndexFunc_int_int_1 c_slices_IndexFunc_int_int_17
def c_slices_IndexFunc_int_int_19 : SCode := .reg [⟨(some 4), none, .mov (.const (.int .i64 (-1))), [], false⟩] [4]
def c_slices_IndexFunc_int_int_20 : SCode := .seq c_slices_IndexFunc_int_int_19 .ret
def c_slices_IndexFunc_int_int_21 : SCode := .seq c_slices_IndexFunc_int_int_18 c_slices_IndexFunc_int_int_20
def c_slices_IndexFunc_int_int_22 : SCode := .seq c_slices_IndexFunc_int_int_0 c_slices_IndexFunc_int_int_21
@[simp] def rs_slices_IndexFunc_int_int : List SRes := [.tmp 4]
theorem law_slices_IndexFunc_int_int (cs : List CV) (r : CV) (hl : cs.length ≤ 19) (h : STri (cfF Tryz.prog [] 19) c_slices_IndexFunc_int_int_22 (initT 0 cs) [] (retQ rs_slices_IndexFunc_int_int r)) : SC Tryz.prog 75 cs r :=
  sc_of [] follows Tryz.func75 rfl Tryz.ntmps75 (by decide) (by kernel_rfl) (by kernel_rfl) hl h
@[simp] def rs_slices_insertionSortCmpFunc_2_int : List SRes := []
end Go.Proofs.YtnfggkopledpcaaGreat
