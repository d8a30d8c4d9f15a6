/- Part 3 of a proof: Snd, Scomp, Snd2, Snd3, Snd4, Snd5, Snd6, Snd7, Snd8, Reg, Reg2, Reg3, Reg4, Reg5, Tri. -/
import Derived.Test.YtdgplebmlggmcaaJ2
import Derived.Great.BuildSlice
import Derived.Laws.Cells
import Derived.ChangeKeysEq
import Derived.Laws.CopyRow
import Derived.Laws.OwnMore
import Derived.Laws.StructEq
import Derived.Orders
set_option linter.unusedSimpArgs false
set_option linter.unusedVariables false
/- The shadow's operations are sound, I: cells, values, what only computes. -/
namespace Go.Proofs.Ytdgplebmlggmcaa
open Go.RowKit

section
variable {w : World} {NA : Nat → Prop} {ρ : Nat → Option Nat} {H : Nat → Option Blk}

/-- Cells, one by one. -/
def RepL (w : World) (NA : Nat → Prop) (ρ : Nat → Option Nat) (H : Nat → Option Blk) (xs : List SV) (vs : List Value) : Prop :=
  vs.length = xs.length ∧ ∀ (i : Nat) x v, xs[i]? = some x → vs[i]? = some v → RepS w NA ρ H x v

theorem RepL.get {xs : List SV} {vs : List Value} (h : RepL w NA ρ H xs vs) {i : Nat} {x : SV} (hx : xs[i]? = some x) : ∃ v, vs[i]? = some v ∧ RepS w NA ρ H x v := by
  have hi : i < vs.length := by rw [h.1]; exact (List.getElem?_eq_some_iff.1 hx).1
  exact ⟨vs[i], List.getElem?_eq_getElem hi, h.2 i x _ hx (List.getElem?_eq_getElem hi)⟩

theorem RepL.nil : RepL w NA ρ H [] [] := ⟨rfl, fun i x v hx => by simp at hx⟩

theorem RepL.cons {x : SV} {v : Value} {xs : List SV} {vs : List Value} (h : RepS w NA ρ H x v) (hs : RepL w NA ρ H xs vs) : RepL w NA ρ H (x :: xs) (v :: vs) := by
  refine ⟨by simp [hs.1], fun i y u hy hu => ?_⟩
  cases i with
  | zero => simp at hy hu; subst hy; subst hu; exact h
  | succ i => exact hs.2 i y u (by simpa using hy) (by simpa using hu)

theorem RepL.set {xs : List SV} {vs : List Value} (h : RepL w NA ρ H xs vs) (j : Nat) {x : SV} {v : Value} (hx : RepS w NA ρ H x v) : RepL w NA ρ H (xs.set j x) (vs.set j v) := by
  refine ⟨by simp [h.1], fun i y u hy hu => ?_⟩
  rw [List.getElem?_set] at hy hu
  by_cases hij : j = i
  · subst hij
    rw [if_pos rfl] at hy hu
    split at hy
    · rw [if_pos (by rw [h.1]; assumption)] at hu
      cases hy; cases hu; exact hx
    · cases hy
  · rw [if_neg hij] at hy hu
    exact h.2 i y u hy hu

theorem RepL.setMany : ∀ {vs : List SV} {us : List Value} {xs : List SV} {ys : List Value} (_ : RepL w NA ρ H vs us) (_ : RepL w NA ρ H xs ys) (j : Nat), RepL w NA ρ H (setMany xs j vs) (setMany ys j us)
  | [], [], _, _, _, h, _ => h
  | [], _ :: _, _, _, h, _, _ => by have := h.1; simp at this
  | _ :: _, [], _, _, h, _, _ => by have := h.1; simp at this
  | v :: vs, u :: us, xs, ys, h, hs, j => by
    have h0 : RepS w NA ρ H v u := h.2 0 v u rfl rfl
    have h1 : RepL w NA ρ H vs us := ⟨by have := h.1; simpa using this, fun i x y hx hy => h.2 (i + 1) x y (by simpa using hx) (by simpa using hy)⟩
    exact RepL.setMany h1 (hs.set j h0) (j + 1)

theorem RepL.sub {xs : List SV} {vs : List Value} (h : RepL w NA ρ H xs vs) (j n : Nat) : RepL w NA ρ H ((xs.drop j).take n) ((vs.drop j).take n) := by
  refine ⟨by simp [h.1], fun i x v hx hv => ?_⟩
  rw [List.getElem?_take] at hx hv
  split at hx
  · rw [if_pos (by assumption)] at hv
    rw [List.getElem?_drop] at hx hv
    exact h.2 _ x v hx hv
  · cases hx

theorem RepL.of_closed {xs : List CV} {vs : List Value} (hl : vs.length = xs.length) (h : ∀ (i : Nat) x v, xs[i]? = some x → vs[i]? = some v → RepC w (Mut NA ρ H) x v) : RepL w NA ρ H (xs.map .c) vs := by
  refine ⟨by simp [hl], fun i x v hx hv => ?_⟩
  rw [List.getElem?_map] at hx
  cases hy : xs[i]? with
  | none => rw [hy] at hx; simp at hx
  | some y => rw [hy] at hx; simp at hx; subst hx; exact .c y v (h i y v hy hv)

theorem RepL.closed : ∀ {xs : List SV} {vs : List Value} {cs : List CV}, RepL w NA ρ H xs vs → allC xs = some cs → vs.length = cs.length ∧ ∀ (i : Nat) x v, cs[i]? = some x → vs[i]? = some v → RepC w (Mut NA ρ H) x v
  | [], vs, cs, h, hc => by
    simp [allC] at hc; subst hc
    exact ⟨by have := h.1; simpa using this, fun i x v hx => by simp at hx⟩
  | x :: xs, [], cs, h, _ => by have := h.1; simp at this
  | x :: xs, v :: vs, cs, h, hc => by
    unfold allC at hc
    cases x with
    | c y =>
      cases hr : allC xs with
      | none => rw [hr] at hc; simp [toC] at hc
      | some ys =>
        rw [hr] at hc; simp [toC] at hc; subst hc
        obtain ⟨h1, h2⟩ := RepL.closed (xs := xs) (vs := vs) (cs := ys) ⟨by have := h.1; simpa using this, fun i x y hx hy => h.2 (i + 1) x y (by simpa using hx) (by simpa using hy)⟩ hr
        refine ⟨by simp [h1], fun i z u hz hu => ?_⟩
        cases i with
        | zero =>
          simp at hz hu; subst hz; subst hu
          have := h.2 0 _ _ rfl rfl
          cases this; assumption
        | succ i => exact h2 i z u (by simpa using hz) (by simpa using hu)
    | _ => simp [toC] at hc

theorem cellsC {x : CV} {v : Value} {cs : List CV} (h : RepC w (Mut NA ρ H) x v) (hc : x.cells = some cs) : v.cells.toList.length = cs.length ∧ ∀ (i : Nat) y u, cs[i]? = some y → v.cells.toList[i]? = some u → RepC w (Mut NA ρ H) y u := by
  have single : ∀ (y : CV) (u : Value), RepC w (Mut NA ρ H) y u → u.cells = #[u] → u.cells.toList.length = [y].length ∧ ∀ (i : Nat) z t, [y][i]? = some z → u.cells.toList[i]? = some t → RepC w (Mut NA ρ H) z t := fun y u hy hu => by
    rw [hu]
    refine ⟨rfl, fun i z t hz ht => ?_⟩
    cases i with
    | zero => simp at hz ht; subst hz; subst ht; exact hy
    | succ i => simp at hz
  cases h with
  | val v =>
    cases v <;> simp [CV.cells] at hc <;> subst hc <;> first
      | exact single _ _ (.val _) rfl
      | skip
    rename_i cs
    refine ⟨by simp [Value.cells], fun i y u hy hu => ?_⟩
    simp only [Value.cells] at hu
    rw [List.getElem?_map, hu] at hy
    simp at hy; subst hy
    exact .val u
  | agg xs vs hs hv =>
    simp [CV.cells] at hc; subst hc
    exact ⟨by simpa [Value.cells] using hs, fun i y u hy hu => hv i y u hy (by simpa [Value.cells] using hu)⟩
  | tup xs vs hs hv => simp [CV.cells] at hc
  | nil k a c h1 => simp [CV.cells] at hc; subst hc; exact single _ _ (.nil k a c h1) rfl
  | sl k rows b off c u h1 h2 h3 h4 h5 h6 h7 => simp [CV.cells] at hc; subst hc; exact single _ _ (.sl k rows b off c u h1 h2 h3 h4 h5 h6 h7) rfl

theorem oneC {x : CV} {v : Value} {N : Nat → Prop} (h : RepC w N x v) (h1 : x.one = true) : v.oneCell' = true := by
  cases h with
  | val v => cases v <;> simp [CV.one] at h1 <;> rfl
  | agg xs vs hs hv => simp [CV.one] at h1
  | tup xs vs hs hv => simp [CV.one] at h1
  | nil k a c h1 => rfl
  | sl k rows b off c u h1 h2 h3 h4 h5 h6 h7 => rfl

theorem oneS {x : SV} {v : Value} (h : RepS w NA ρ H x v) (h1 : x.one = true) : v.oneCell' = true := by
  cases h with
  | c x v r => exact oneC r h1
  | agg xs vs hs hv => simp [SV.one] at h1
  | tup xs vs hs hv => simp [SV.one] at h1
  | own id len t k rows v hH hl ho hv => exact ho
  | ptrB => rfl
  | ptrA id len i j t k rows v hH hl ho hv => exact ho
  | pel => rfl
  | fn => rfl
  | dead v => simp [SV.one] at h1

theorem cells_one {v : Value} (h : v.oneCell' = true) : v.cells = #[v] := by cases v <;> simp [Value.oneCell'] at h <;> rfl

theorem cellsS {x : SV} {v : Value} {cs : List SV} (h : RepS w NA ρ H x v) (hc : x.cells = some cs) : RepL w NA ρ H cs v.cells.toList := by
  have single : ∀ (y : SV) (u : Value), RepS w NA ρ H y u → u.oneCell' = true → RepL w NA ρ H [y] u.cells.toList := fun y u hy hu => by
    rw [cells_one hu]; exact RepL.cons hy RepL.nil
  cases h with
  | c x v r =>
    simp only [SV.cells, Option.map_eq_some_iff] at hc
    obtain ⟨ys, hy, rfl⟩ := hc
    obtain ⟨h1, h2⟩ := cellsC r hy
    exact RepL.of_closed h1 h2
  | agg xs vs hs hv => simp [SV.cells] at hc; subst hc; exact ⟨by simpa [Value.cells] using hs, fun i x v hx hv' => hv i x v hx (by simpa [Value.cells] using hv')⟩
  | tup xs vs hs hv => simp [SV.cells] at hc
  | own id len t k rows v hH hl ho hv => simp [SV.cells] at hc; subst hc; exact single _ _ (.own id len t k rows v hH hl ho hv) ho
  | ptrB id j t cells b h1 h2 => simp [SV.cells] at hc; subst hc; exact single _ _ (.ptrB id j t cells b h1 h2) rfl
  | ptrA id len i j t k rows v hH hl ho hv => simp [SV.cells] at hc; subst hc; exact single _ _ (.ptrA id len i j t k rows v hH hl ho hv) ho
  | pel k rows i j b off c h1 h2 => simp [SV.cells] at hc; subst hc; exact single _ _ (.pel k rows i j b off c h1 h2) rfl
  | fn f fs cs vf vc h1 h2 h3 h4 => simp [SV.cells] at hc; subst hc; exact single _ _ (.fn f fs cs vf vc h1 h2 h3 h4) rfl
  | dead v => simp [SV.cells] at hc

theorem RepL.one {xs : List SV} {vs : List Value} (h : RepL w NA ρ H xs vs) (h1 : xs.all SV.one = true) : ∀ v ∈ vs, v.oneCell' = true := fun v hv => by
  obtain ⟨i, hi, rfl⟩ := List.getElem_of_mem hv
  have hi' : i < xs.length := by rw [← h.1]; exact hi
  exact oneS (h.2 i _ _ (List.getElem?_eq_getElem hi') (List.getElem?_eq_getElem hi)) (List.all_eq_true.1 h1 _ (List.getElem_mem hi'))

/-- A struct's value, or a single one, of its cells. -/
theorem mkS_rep {ag : Bool} {xs : List SV} {vs : List Value} {x : SV} (h : RepL w NA ρ H xs vs) (hx : mkS ag xs = some x) : if ag then RepS w NA ρ H x (.agg vs.toArray) else ∃ v, vs = [v] ∧ RepS w NA ρ H x v := by
  unfold mkS at hx
  cases ag with
  | true => simp at hx; subst hx; exact .agg xs vs.toArray (by simpa using h.1) (fun i x v hx hv => h.2 i x v hx (by simpa using hv))
  | false =>
    simp at hx
    split at hx
    · rename_i y
      cases hx
      match vs, h with
      | [v], h => exact ⟨v, rfl, h.2 0 _ _ rfl rfl⟩
      | [], h => exact absurd h.1 (by simp)
      | _ :: _ :: _, h => exact absurd h.1 (by simp)
    · cases hx

theorem setMany_fold : ∀ (vs : List Value) (cells : Array Value) (off k : Nat), ((vs.zipIdx k).foldl (fun cs p => cs.setIfInBounds (off + p.2) p.1) cells).toList = setMany cells.toList (off + k) vs
  | [], cells, off, k => by simp [setMany]
  | v :: vs, cells, off, k => by
    rw [List.zipIdx_cons, List.foldl_cons, setMany_fold vs _ off (k + 1)]
    simp [setMany, Nat.add_assoc]

end

section
variable {P : Program} {w : World} {NA : Nat → Prop} {ρ : Nat → Option Nat} {H : Nat → Option Blk} {T : Nat → SV} {a : Act}

theorem rep_ev (ht : ∀ i, RepS w NA ρ H (T i) (a.tmps.getD i undef)) (x : Operand) : RepS w NA ρ H (ev T x) (a.eval x) := by
  cases x with
  | tmp t => exact ht t
  | const v => exact .c _ _ (.val v)
  | global g => exact .dead _
  | func f => exact .fn f [] [] #[] #[] rfl rfl (fun i x v hx => by simp at hx) (fun i x v hx => by simp at hx)

/-- The places of parts. -/
def places (place : Nat → Option (Nat × Nat)) : List (Nat × Operand) → Option (List (Nat × Nat × Operand))
  | [] => some []
  | (i, x) :: r => match place i, places place r with
    | some (off, n), some l => some ((off, n, x) :: l)
    | _, _ => none

theorem setMany_length {α : Type} : ∀ (vs xs : List α) (j : Nat), (setMany xs j vs).length = xs.length
  | [], _, _ => rfl
  | v :: vs, xs, j => by rw [setMany, setMany_length vs]; simp

theorem fill_rep (ht : ∀ i, RepS w NA ρ H (T i) (a.tmps.getD i undef)) {place : Nat → Option (Nat × Nat)} : ∀ {ps : List (Nat × Operand)} {l : List (Nat × Nat × Operand)} {cs cs' : List SV} {cells : Array Value},
    places place ps = some l → fillC cs (l.map fun p => (p.1, p.2.1, ev T p.2.2)) = some cs' → RepL w NA ρ H cs cells.toList →
    ∃ cells', Instr.fill place cells (ps.map fun p => (p.1, a.eval p.2)) = some cells' ∧ RepL w NA ρ H cs' cells'.toList
  | [], l, cs, cs', cells, hp, hf, h => by
    simp [places] at hp; subst hp
    simp [fillC] at hf; subst hf
    exact ⟨cells, rfl, h⟩
  | (i, x) :: r, l, cs, cs', cells, hp, hf, h => by
    unfold places at hp
    cases h1 : place i with
    | none => rw [h1] at hp; simp at hp
    | some p =>
      cases h2 : places place r with
      | none => rw [h1, h2] at hp; simp at hp
      | some l' =>
        obtain ⟨off, n⟩ := p
        rw [h1, h2] at hp; simp at hp; subst hp
        simp only [List.map_cons, fillC] at hf
        cases h3 : (ev T x).cells with
        | none => rw [h3] at hf; simp at hf
        | some vs =>
          rw [h3] at hf
          simp only at hf
          split at hf
          · rename_i hc
            have hr := cellsS (rep_ev ht x) h3
            have e : (((a.eval x).cells.zipIdx.foldl (fun cs (c, j) => cs.setIfInBounds (off + j) c) cells)).toList = setMany cells.toList off (a.eval x).cells.toList := by
              have := setMany_fold (a.eval x).cells.toList cells off 0
              rw [Nat.add_zero] at this
              rw [← this, ← Array.foldl_toList]
              simp
            obtain ⟨cells', h4, h5⟩ := fill_rep ht h2 hf (cells := (a.eval x).cells.zipIdx.foldl (fun cs (c, j) => cs.setIfInBounds (off + j) c) cells) (by rw [e]; exact RepL.setMany hr h off)
            refine ⟨cells', ?_, h5⟩
            simp only [List.map_cons, Instr.fill, h1]
            have e1 : (a.eval x).cells.size = n := by have := hr.1; rw [hc.1] at this; simpa using this
            have e2 : cells.size = cs.length := by have := h.1; simpa using this
            rw [if_neg (by simp [e1, e2]; omega)]
            exact h4
          · cases hf

end
end Go.Proofs.Ytdgplebmlggmcaa
/- Operations with their types resolved. -/
namespace Go.Proofs.Ytdgplebmlggmcaa
open Go.RowKit

def aggD : TypeDesc → Bool
  | .struct _ | .array _ _ => true
  | _ => false

def isAggT (P : Program) (t : TypeId) : Option Bool := (P.underlying t).map aggD
def sizeT (P : Program) (t : TypeId) : Option Nat := (P.info? t).map (·.size)

def flatFs (P : Program) (rec : TypeId → Option (List Bool)) : List Field → Nat → Option (List Bool)
  | [], _ => some []
  | f :: fs, acc => match rec f.type with
    | some ks => if f.name ≠ "_" ∧ f.offset = acc ∧ sizeT P f.type = some ks.length ∧ ks.length ≠ 0 then (flatFs P rec fs (acc + ks.length)).map (ks ++ ·) else none
    | none => none

/-- The cells of a type that holds integers and truths alone, all of which are compared. -/
def flatT (P : Program) : Nat → TypeId → Option (List Bool)
  | 0, _ => none
  | d + 1, t => match P.underlying t with
    | some (.int _) => some [true]
    | some .bool => some [false]
    | some (.struct fs) => if P.stoodInHeld t then none else flatFs P (flatT P d) fs.toList 0
    | some (.array n e) => match flatT P d e, P.info? e with
      | some ks, some i => if i.size = ks.length ∧ ks.length ≠ 0 then some ((List.replicate n ks).flatten) else none
      | _, _ => none
    | _ => none

def compOp (P : Program) (o : Oper) : Option SOp := match o.op with
  | .move x | .assign x => some (.mov x)
  | .pick c a b => some (.pick c a b)
  | .box t x => some (.box t x)
  | .alloc t => match P.info? t with
    | some i => i.zero.map fun z => .alloc t z.cells.toList
    | none => none
  | .build t ps => match P.info? t, P.underlying t with
    | some it, some (.array _ e) => match it.zero, P.info? e with
      | some z, some ie => (places (fun i => some (i * ie.size, ie.size)) ps.toList).map fun l => .build z.cells.toList l
      | _, _ => none
    | some it, some (.struct fields) => match it.zero, fields.toList.mapM (fun f => (P.info? f.type).map fun i => (f.offset, i.size)) with
      | some z, some pl => (places (pl.toArray[·]?) ps.toList).map fun l => .build z.cells.toList l
      | _, _ => none
    | _, _ => none
  | .buildSlice t len ps => match P.underlying t with
    | some (.slice e) => match P.info? e with
      | some ie => match ie.zero with
        | some z => if ¬ ie.size = 0 ∧ z.cells.size = ie.size ∧ ¬ len * ie.size > 2 ^ 24 ∧ len ≤ 9223372036854775807 ∧ (∀ p ∈ ps.toList, p.1 < len) then some (.buildSl e ie.size z.cells.toList len (ps.toList.map fun p => (p.1, p.2))) else none
        | none => none
      | none => none
    | _ => none
  | .load t x => match isAggT P t, sizeT P t with
    | some ag, some n => if ag = true ∨ n = 1 then some (.load ag n x) else none
    | _, _ => none
  | .store t x y => match sizeT P t with
    | some n => some (.store n x y)
    | none => none
  | .fieldAddr s x f => match P.underlying s with
    | some (.struct fs) => match fs[f]? with
      | some fd => match sizeT P fd.type with
        | some n => if n = 0 then none else some (.fld fd.offset x)
        | none => none
      | none => none
    | _ => none
  | .field s x f => match P.underlying s with
    | some (.struct fs) => match fs[f]? with
      | some fd => match isAggT P fd.type, sizeT P fd.type with
        | some ag, some n => if ag = true ∨ n = 1 then some (.field ag fd.offset n x) else none
        | _, _ => none
      | none => none
    | _ => none
  | .indexAddr t x i => match P.underlying t with
    | some (.slice e) => (sizeT P e).map fun k => .idxS k x i
    | some (.array n e) => (sizeT P e).map fun k => .idxA n k x i
    | _ => none
  | .index t x i => match P.underlying t with
    | some (.array n e) => match isAggT P e, sizeT P e with
      | some ag, some k => if ag = true ∨ k = 1 then some (.index n k ag x i) else none
      | _, _ => none
    | _ => none
  | .binOp op t x y _ => match P.underlying t with
    | some (.int _) => match op with
      | .shl | .shr => none
      | _ => some (.bin op x y)
    | some .bool => match op with
      | .eql => some (.binB false x y)
      | .neq => some (.binB true x y)
      | _ => none
    | some (.struct _) | some (.array _ _) => if P.eqGuardType P.depth t then none else match op, flatT P 12 t with
      | .eql, some n => some (.eqC false n x y)
      | .neq, some n => some (.eqC true n x y)
      | _, _ => none
    | _ => none
  | .unOp op _ x => some (.un op x)
  | .convert src dst x => match P.underlying src, P.underlying dst with
    | some (.int _), some (.int k) => some (.conv k x)
    | _, _ => none
  | .makeSlice t l c => match P.underlying t with
    | some (.slice e) => match P.info? e with
      | some ie => match ie.zero with
        | some z => if ¬ ie.size = 0 ∧ z.cells.size = ie.size ∧ z.cells.all (·.oneCell') then some (.makeSl e ie.size ie.bytes z.cells.toList l c) else none
        | none => none
      | none => none
    | _ => none
  | .extract x i => some (.ext x i)
  | .call { callee := .builtin .len, args := ⟨[x]⟩, argTypes := ⟨[t]⟩ } => match P.underlying t with
    | some (.slice _) => some (.len x)
    | _ => none
  | .call { callee := .builtin .append, args := ⟨[s, x]⟩, argTypes := ⟨[t, t']⟩ } => if t = t' then match P.underlying t with
      | some (.slice e) => match P.info? e with
        | some ie => match ie.zero with
          | some z => if ¬ ie.size = 0 ∧ z.cells.size = ie.size then some (.append e ie.size ie.bytes s x) else none
          | none => none
        | none => none
      | _ => none
    else none
  | .call { callee := .builtin .max, args := ⟨xs⟩, .. } => some (.max xs)
  | .call { callee := .builtin .min, args := ⟨xs⟩, .. } => some (.min xs)
  | .call { callee := .value (.func f), args := ⟨xs⟩, .. } => match P.funcs[f]? with
    | some fn => if fn.body.isSome ∧ (fn.name == "runtime.NumGoroutine") = false then some (.call f xs) else none
    | none => none
  | _ => none

end Go.Proofs.Ytdgplebmlggmcaa
/- The shadow's operations are sound, II. -/
namespace Go.Proofs.Ytdgplebmlggmcaa
open Go.RowKit

/-- An operation runs, and what it leaves is what the shadow says. -/
def Good (P : Program) (w0 : World) (N0 NA : Nat → Prop) (o : Oper) (a : Act) (w : World) (T : Nat → SV) (H' : Nat → Option Blk) (x : SV) : Prop :=
  ∃ nx v w', (execOp a.eval o).run P w = .ok nx w' ∧ (nx = .value v ∨ (nx = .skip ∧ v = undef)) ∧
    ∃ ρ', RepH w0 N0 NA ρ' H' w' ∧ (∀ i, RepS w' NA ρ' H' (T i) (a.tmps.getD i undef)) ∧ RepS w' NA ρ' H' x v

section
variable {P : Program} {w0 w : World} {N0 NA : Nat → Prop} {ρ : Nat → Option Nat} {H : Nat → Option Blk} {T : Nat → SV} {a : Act} {o : Oper}

theorem good_pure {x : SV} {v : Value} (h : RepH w0 N0 NA ρ H w) (ht : ∀ i, RepS w NA ρ H (T i) (a.tmps.getD i undef)) (hr : (execOp a.eval o).run P w = .ok (.value v) w) (hx : RepS w NA ρ H x v) :
    Good P w0 N0 NA o a w T H x := ⟨_, v, w, hr, .inl rfl, ρ, h, ht, hx⟩

/-- The effect on the blocks. -/
def setH (H : Nat → Option Blk) : Option (Nat × Blk) → Nat → Option Blk
  | none => H
  | some (id, B) => fun i => if i = id then some B else H i

def setR (ρ : Nat → Option Nat) (id : Nat) (b : Option Nat) : Nat → Option Nat := fun i => if i = id then b else ρ i

theorem Fr.alloc {w0 w : World} {N0 : Nat → Prop} (h : Fr w0 N0 w) (ob : Obj) : Fr w0 N0 (w.alloc ob) := by
  refine ⟨h.os, h.tape, h.output, by have := h.size; simp; omega, fun b hb hn => ?_⟩
  rw [← h.block b hb hn]
  exact heap_alloc_old w ob (by have := h.size; omega)

/-- A new block. -/
theorem new_rep (h : RepH w0 N0 NA ρ H w) {id : Nat} (hid : H id = none) (B : Blk) (ob : Obj) (hB : RepB (w.alloc ob) NA (setR ρ id (some w.heap.size)) (setH H (some (id, B))) id B) :
    RepH w0 N0 NA (setR ρ id (some w.heap.size)) (setH H (some (id, B))) (w.alloc ob) ∧ Calm w (Mut NA ρ H) (w.alloc ob) (Mut NA (setR ρ id (some w.heap.size)) (setH H (some (id, B)))) ∧
      ∀ i, KeepI w ρ H (w.alloc ob) (setR ρ id (some w.heap.size)) (setH H (some (id, B))) i := by
  have hρ : ∀ i, i ≠ id → setR ρ id (some w.heap.size) i = ρ i := fun i hi => by simp [setR, hi]
  have hH : ∀ i, i ≠ id → setH H (some (id, B)) i = H i := fun i hi => by simp [setH, hi]
  have hold : ∀ b, b < w.heap.size → (w.alloc ob).heap[b]? = w.heap[b]? := fun b hb => heap_alloc_old w ob hb
  have ownlt : ∀ b, Own ρ H b → b < w.heap.size := fun b hb => h.lt hb
  have calm : Calm w (Mut NA ρ H) (w.alloc ob) (Mut NA (setR ρ id (some w.heap.size)) (setH H (some (id, B)))) := by
    refine ⟨by simp, fun b hb hn => ⟨hold b hb, fun hm => ?_⟩⟩
    rcases hm with hm | ⟨i, h1, h2⟩
    · exact hn (.inl hm)
    · by_cases hi : i = id
      · subst hi; simp [setR] at h2; omega
      · rw [hρ i hi] at h2; rw [hH i hi] at h1; exact hn (.inr ⟨i, h1, h2⟩)
  have keep : ∀ i, KeepI w ρ H (w.alloc ob) (setR ρ id (some w.heap.size)) (setH H (some (id, B))) i := by
    intro i
    refine ⟨fun t cells hi => ?_, fun t k rows hi => ?_⟩
    · have : i ≠ id := fun e => by rw [e, hid] at hi; cases hi
      exact ⟨cells, by rw [hH i this]; exact hi, hρ i this⟩
    · have : i ≠ id := fun e => by rw [e, hid] at hi; cases hi
      refine ⟨rows, by rw [hH i this]; exact hi, Nat.le_refl _, fun _ => ⟨hρ i this, fun b cs t' hb hc => ⟨cs, ?_, rfl⟩⟩⟩
      rw [hold b (ownlt b ⟨i, by rw [hi]; simp, hb⟩)]; exact hc
  refine ⟨⟨?_, ?_, h.fr.alloc ob, ?_⟩, calm, keep⟩
  · intro i j b h1 h2 h3 h4
    by_cases hi : i = id
    · by_cases hj : j = id
      · rw [hi, hj]
      · subst hi
        rw [hρ j hj] at h4; rw [hH j hj] at h2
        simp [setR] at h3
        have := ownlt b ⟨j, h2, h4⟩
        omega
    · by_cases hj : j = id
      · subst hj
        rw [hρ i hi] at h3; rw [hH i hi] at h1
        simp [setR] at h4
        have := ownlt b ⟨i, h1, h3⟩
        omega
      · rw [hρ i hi] at h3; rw [hρ j hj] at h4; rw [hH i hi] at h1; rw [hH j hj] at h2
        exact h.inj i j b h1 h2 h3 h4
  · intro i B' hi
    by_cases hii : i = id
    · subst hii; simp [setH] at hi; subst hi; exact hB
    · rw [hH i hii] at hi
      have hr := h.blk i B' hi
      cases B' with
      | box t cells =>
        obtain ⟨b, cs, e1, e2, e3, e4⟩ := hr
        exact ⟨b, cs, (hρ i hii).trans e1, (hold b (ownlt b ⟨i, by rw [hi]; simp, e1⟩)).trans e2, e3, fun j x v hx hv => (e4 j x v hx hv).move calm keep⟩
      | arr t k rows =>
        rcases hr with ⟨e1, e2⟩ | ⟨b, cs, cap, e1, e2, e3, e4, e5, e6, e7⟩
        · exact .inl ⟨(hρ i hii).trans e1, e2⟩
        · exact .inr ⟨b, cs, cap, (hρ i hii).trans e1, (hold b (ownlt b ⟨i, by rw [hi]; simp, e1⟩)).trans e2, e3, e4, e5, e6, fun j row m x hr hx => by
            obtain ⟨v, hv1, hv2⟩ := e7 j row m x hr hx
            exact ⟨v, hv1, hv2.move calm⟩⟩
  · rintro b ⟨i, h1, h2⟩ hb
    by_cases hi : i = id
    · subst hi; simp [setR] at h2; have := h.fr.size; omega
    · rw [hρ i hi] at h2; rw [hH i hi] at h1
      exact h.low b ⟨i, h1, h2⟩ hb

/-- A new box. -/
theorem box_rep (h : RepH w0 N0 NA ρ H w) (ht : ∀ i, RepS w NA ρ H (T i) (a.tmps.getD i undef)) {id : Nat} (hid : H id = none) (t : TypeId) {cs : List SV} {vs : Array Value} (hc : RepL w NA ρ H cs vs.toList) :
    RepH w0 N0 NA (setR ρ id (some w.heap.size)) (setH H (some (id, .box t cs))) (w.alloc (.cells vs t)) ∧
      (∀ i, RepS (w.alloc (.cells vs t)) NA (setR ρ id (some w.heap.size)) (setH H (some (id, .box t cs))) (T i) (a.tmps.getD i undef)) ∧
      RepS (w.alloc (.cells vs t)) NA (setR ρ id (some w.heap.size)) (setH H (some (id, .box t cs))) (.ptr id 0) (.pointer (some ⟨w.heap.size, 0, none⟩)) := by
  have calm : Calm w (Mut NA ρ H) (w.alloc (.cells vs t)) (Mut NA (setR ρ id (some w.heap.size)) (setH H (some (id, .box t cs)))) ∧ ∀ i, KeepI w ρ H (w.alloc (.cells vs t)) (setR ρ id (some w.heap.size)) (setH H (some (id, .box t cs))) i := by
    refine ⟨⟨by simp, fun b hb hn => ⟨heap_alloc_old w _ hb, fun hm => ?_⟩⟩, fun i => ⟨fun t' cells hi => ?_, fun t' k rows hi => ?_⟩⟩
    · rcases hm with hm | ⟨i, h1, h2⟩
      · exact hn (.inl hm)
      · by_cases hi : i = id
        · subst hi; simp [setR] at h2; omega
        · simp [setR, hi] at h2; simp [setH, hi] at h1; exact hn (.inr ⟨i, h1, h2⟩)
    · have : i ≠ id := fun e => by rw [e, hid] at hi; cases hi
      exact ⟨cells, by simp [setH, this, hi], by simp [setR, this]⟩
    · have : i ≠ id := fun e => by rw [e, hid] at hi; cases hi
      refine ⟨rows, by simp [setH, this, hi], Nat.le_refl _, fun _ => ⟨by simp [setR, this], fun b cs' t' hb hc => ⟨cs', ?_, rfl⟩⟩⟩
      rw [heap_alloc_old w _ (h.lt ⟨i, by rw [hi]; simp, hb⟩)]; exact hc
  obtain ⟨r1, r2, r3⟩ := new_rep h hid (.box t cs) (.cells vs t) (by
    refine ⟨w.heap.size, vs, by simp [setR], heap_alloc_new w _, by have := hc.1; simpa using this, fun i x v hx hv => ?_⟩
    exact (hc.2 i x v hx (by simpa using hv)).move calm.1 calm.2)
  exact ⟨r1, fun i => (ht i).move r2 r3, .ptrB id 0 t cs w.heap.size (by simp [setH]) (by simp [setR])⟩

/-- A block is written, or laid anew. -/
theorem upd_rep (h : RepH w0 N0 NA ρ H w) {id : Nat} {B0 B1 : Blk} (hid : H id = some B0) {w' : World} {r : Option Nat} (hg : w.grownBy w' (ρ id)) (hr : r = ρ id ∨ ∃ g, r = some g ∧ w.heap.size ≤ g)
    (hk : KeepI w ρ H w' (setR ρ id r) (setH H (some (id, B1))) id)
    (hB : Calm w (Mut NA ρ H) w' (Mut NA (setR ρ id r) (setH H (some (id, B1)))) → (∀ i, KeepI w ρ H w' (setR ρ id r) (setH H (some (id, B1))) i) → RepB w' NA (setR ρ id r) (setH H (some (id, B1))) id B1) :
    RepH w0 N0 NA (setR ρ id r) (setH H (some (id, B1))) w' ∧ Calm w (Mut NA ρ H) w' (Mut NA (setR ρ id r) (setH H (some (id, B1)))) ∧
      ∀ i, KeepI w ρ H w' (setR ρ id r) (setH H (some (id, B1))) i := by
  have hρ : ∀ i, i ≠ id → setR ρ id r i = ρ i := fun i hi => by simp [setR, hi]
  have hH : ∀ i, i ≠ id → setH H (some (id, B1)) i = H i := fun i hi => by simp [setH, hi]
  have hid' : H id ≠ none := by rw [hid]; simp
  have other : ∀ i b, i ≠ id → H i ≠ none → ρ i = some b → w'.heap[b]? = w.heap[b]? := fun i b hi h1 h2 => by
    refine hg.block b (h.lt ⟨i, h1, h2⟩) (fun e => hi ?_)
    exact h.inj i id b h1 hid' h2 e.symm
  have calm : Calm w (Mut NA ρ H) w' (Mut NA (setR ρ id r) (setH H (some (id, B1)))) := by
    refine ⟨hg.size, fun b hb hn => ⟨hg.block b hb (fun e => hn (.inr ⟨id, hid', e.symm⟩)), fun hm => ?_⟩⟩
    rcases hm with hm | ⟨i, h1, h2⟩
    · exact hn (.inl hm)
    · by_cases hi : i = id
      · subst hi
        simp [setR] at h2
        rcases hr with hr | ⟨g, hr, hge⟩
        · exact hn (.inr ⟨i, hid', by rw [← hr]; exact h2⟩)
        · rw [hr] at h2; cases h2; omega
      · rw [hρ i hi] at h2; rw [hH i hi] at h1; exact hn (.inr ⟨i, h1, h2⟩)
  have keep : ∀ i, KeepI w ρ H w' (setR ρ id r) (setH H (some (id, B1))) i := by
    intro i
    by_cases hi : i = id
    · subst hi; exact hk
    · refine ⟨fun t cells he => ⟨cells, by rw [hH i hi]; exact he, hρ i hi⟩, fun t k rows he => ⟨rows, by rw [hH i hi]; exact he, Nat.le_refl _, fun _ => ⟨hρ i hi, fun b cs t' hb hc => ⟨cs, ?_, rfl⟩⟩⟩⟩
      rw [other i b hi (by rw [he]; simp) hb]; exact hc
  refine ⟨⟨?_, ?_, ⟨hg.os.trans h.fr.os, hg.tape.trans h.fr.tape, hg.output.trans h.fr.output, Nat.le_trans h.fr.size hg.size, fun b hb hn => ?_⟩, ?_⟩, calm, keep⟩
  · intro i j b h1 h2 h3 h4
    by_cases hi : i = id
    · by_cases hj : j = id
      · rw [hi, hj]
      · subst hi
        rw [hρ j hj] at h4; rw [hH j hj] at h2
        simp [setR] at h3
        rcases hr with hr | ⟨g, hr, hge⟩
        · exact h.inj i j b hid' h2 (by rw [← hr]; exact h3) h4
        · rw [hr] at h3; cases h3; have := h.lt ⟨j, h2, h4⟩; omega
    · by_cases hj : j = id
      · subst hj
        rw [hρ i hi] at h3; rw [hH i hi] at h1
        simp [setR] at h4
        rcases hr with hr | ⟨g, hr, hge⟩
        · exact h.inj i j b h1 hid' h3 (by rw [← hr]; exact h4)
        · rw [hr] at h4; cases h4; have := h.lt ⟨i, h1, h3⟩; omega
      · rw [hρ i hi] at h3; rw [hρ j hj] at h4; rw [hH i hi] at h1; rw [hH j hj] at h2
        exact h.inj i j b h1 h2 h3 h4
  · intro i B' hi
    by_cases hii : i = id
    · subst hii; simp [setH] at hi; subst hi; exact hB calm keep
    · rw [hH i hii] at hi
      have hr' := h.blk i B' hi
      have hne : H i ≠ none := by rw [hi]; simp
      cases B' with
      | box t cells =>
        obtain ⟨b, cs, e1, e2, e3, e4⟩ := hr'
        exact ⟨b, cs, (hρ i hii).trans e1, (other i b hii hne e1).trans e2, e3, fun j x v hx hv => (e4 j x v hx hv).move calm keep⟩
      | arr t k rows =>
        rcases hr' with ⟨e1, e2⟩ | ⟨b, cs, cap, e1, e2, e3, e4, e5, e6, e7⟩
        · exact .inl ⟨(hρ i hii).trans e1, e2⟩
        · exact .inr ⟨b, cs, cap, (hρ i hii).trans e1, (other i b hii hne e1).trans e2, e3, e4, e5, e6, fun j row m x hr hx => by
            obtain ⟨v, hv1, hv2⟩ := e7 j row m x hr hx
            exact ⟨v, hv1, hv2.move calm⟩⟩
  · rw [← h.fr.block b hb hn]
    refine hg.block b (Nat.lt_of_lt_of_le hb h.fr.size) (fun e => hn ?_)
    exact h.low b ⟨id, hid', e.symm⟩ hb
  · rintro b ⟨i, h1, h2⟩ hb
    by_cases hi : i = id
    · subst hi
      simp [setR] at h2
      rcases hr with hr | ⟨g, hr, hge⟩
      · exact h.low b ⟨i, hid', by rw [← hr]; exact h2⟩ hb
      · rw [hr] at h2; cases h2; have := h.fr.size; omega
    · rw [hρ i hi] at h2; rw [hH i hi] at h1
      exact h.low b ⟨i, h1, h2⟩ hb

theorem grown_setRow {b : Nat} {cs : Array Value} : w.grownBy (w.setRow b cs) (some b) :=
  ⟨rfl, rfl, rfl, by simp, fun k _ hk => setRow_other w b k cs (fun e => hk (by rw [e]))⟩

theorem setR_same {id : Nat} : setR ρ id (ρ id) = ρ := by
  funext i; unfold setR; split
  · rename_i h; rw [h]
  · rfl

end
end Go.Proofs.Ytdgplebmlggmcaa
/- The shadow's operations are sound, III: each operation that neither appends nor calls. -/
namespace Go.Proofs.Ytdgplebmlggmcaa
open Go.RowKit

section
variable {P : Program} {w0 w : World} {N0 NA : Nat → Prop} {ρ : Nat → Option Nat} {H : Nat → Option Blk} {T : Nat → SV} {a : Act} {o : Oper}

theorem add_none (b off j : Nat) : (⟨b, off, none⟩ : Addr).add j = ⟨b, off + j, none⟩ := by unfold Addr.add; split <;> simp_all

theorem isAgg_run {t : TypeId} {ag : Bool} (h : isAggT P t = some ag) (w : World) : (isAgg t).run P w = .ok ag w := by
  unfold isAggT at h
  cases hu : P.underlying t with
  | none => rw [hu] at h; simp at h
  | some d =>
    rw [hu] at h; simp at h; subst h
    cases d <;> simp [isAgg, run_underlying hu, aggD]

theorem size_run {t : TypeId} {n : Nat} (h : sizeT P t = some n) (w : World) : (sizeOf t).run P w = .ok n w := by
  unfold sizeT at h
  cases hi : P.info? t with
  | none => rw [hi] at h; simp at h
  | some i => rw [hi] at h; simp at h; subst h; simp [sizeOf, run_typeInfo w hi]

theorem loadVar_run {t : TypeId} {ag : Bool} {us : List Value} (ha : isAggT P t = some ag) (hn : sizeT P t = some us.length) {b off : Nat} (hc : ∀ (j : Nat) v, us[j]? = some v → w.cell? ⟨b, off + j, none⟩ = some v)
    (hag : ag = true ∨ us.length = 1) : (loadVar t ⟨b, off, none⟩).run P w = .ok (if ag then .agg us.toArray else us.headD undef) w := by
  unfold loadVar
  simp only [Sem.run_bind, isAgg_run ha, Result.andThen_ok]
  cases ag with
  | true =>
    have h1 : (loadCells ⟨b, off, none⟩ us.length).run P w = .ok us.toArray w := run_loadCells_list w _ us (fun j v hj => by rw [add_none]; exact hc j v hj)
    simp [size_run hn, h1]
  | false =>
    have hl : us.length = 1 := by simpa using hag
    match us, hl with
    | [v], _ =>
      have := hc 0 v rfl
      simp at this
      simp [this]

/-- A load of known cells. -/
theorem good_cells (h : RepH w0 N0 NA ρ H w) (ht : ∀ i, RepS w NA ρ H (T i) (a.tmps.getD i undef)) {t : TypeId} {x : Operand} (ho : o.op = .load t x) {ag : Bool} {n : Nat} (ha : isAggT P t = some ag) (hn : sizeT P t = some n)
    (hag : ag = true ∨ n = 1) {b off : Nat} (hx : a.eval x = .pointer (some ⟨b, off, none⟩)) {xs : List SV} {us : List Value} (hr : RepL w NA ρ H xs us) (hl : us.length = n)
    (hc : ∀ (j : Nat) v, us[j]? = some v → w.cell? ⟨b, off + j, none⟩ = some v) {y : SV} (hy : mkS ag xs = some y) : Good P w0 N0 NA o a w T H y := by
  subst hl
  have h1 := loadVar_run ha hn hc hag
  have h2 := mkS_rep hr hy
  refine good_pure (v := if ag then .agg us.toArray else us.headD undef) h ht ?_ ?_
  · simp only [execOp, ho, hx, Instr.loadAt, Instr.sureAddr, Sem.run_bind, Sem.run_pure, Result.andThen_ok, h1]
  · cases ag with
    | true => simpa using h2
    | false =>
      obtain ⟨v, rfl, hv⟩ := (by simpa using h2 : ∃ v, us = [v] ∧ RepS w NA ρ H y v)
      simpa using hv

theorem sub_get {α : Type} (xs : List α) (j n m : Nat) (v : α) (h : ((xs.drop j).take n)[m]? = some v) : xs[j + m]? = some v := by
  rw [List.getElem?_take] at h
  split at h
  · rwa [List.getElem?_drop] at h
  · cases h

theorem good_load (h : RepH w0 N0 NA ρ H w) (ht : ∀ i, RepS w NA ρ H (T i) (a.tmps.getD i undef)) {t : TypeId} {x : Operand} (ho : o.op = .load t x) {ag : Bool} {n : Nat} (ha : isAggT P t = some ag) (hn : sizeT P t = some n)
    (hag : ag = true ∨ n = 1) {site : Nat} {y : SV} {e : Option (Nat × Blk)} (hact : actF site (ev T) H (.load ag n x) = some (y, e)) : Good P w0 N0 NA o a w T (setH H e) y := by
  have hx := rep_ev ht x
  simp only [actF] at hact
  cases hev : ev T x with
  | ptr id j =>
    rw [hev] at hact hx
    simp only at hact
    generalize hv : a.eval x = v at hx
    cases hx with
    | ptrB _ _ t' cells b hH hb =>
      rw [hH] at hact
      simp only at hact
      split at hact
      · rename_i hc
        simp only [Option.map_eq_some_iff, Prod.mk.injEq] at hact
        obtain ⟨x', hm, rfl, rfl⟩ := hact
        obtain ⟨b', cs, e1, e2, e3, e4⟩ := h.blk id _ hH
        rw [hb] at e1; cases e1
        have hr : RepL w NA ρ H cells cs.toList := ⟨by simpa using e3, fun i x v hx hv => e4 i x v hx (by simpa using hv)⟩
        refine good_cells h ht ho ha hn hag hv (hr.sub j n) (by simp; omega) (fun m v hm => ?_) hm
        have := sub_get _ _ _ _ _ hm
        rw [cell_of_row w b (j + m) cs t' (0, 0) e2]
        simpa using this
      · cases hact
  | pow id len i j =>
    rw [hev] at hact hx
    simp only at hact
    generalize hv : a.eval x = v at hx
    cases hx with
    | ptrA _ _ _ _ t' k rows v hH hl ho' hp =>
      rw [hH] at hact
      simp only at hact
      split at hact
      · rename_i hlen
        obtain ⟨b, hb, rfl⟩ := hp hlen
        split at hact
        · rename_i row hrow
          split at hact
          · rename_i hc
            simp only [Option.map_eq_some_iff, Prod.mk.injEq] at hact
            obtain ⟨x', hm, rfl, rfl⟩ := hact
            rcases h.blk id _ hH with ⟨e1, _⟩ | ⟨b', cs, cap, e1, e2, e3, e4, e5, e6, e7⟩
            · rw [hb] at e1; cases e1
            · rw [hb] at e1; cases e1
              have hlk := (e6 i row hrow).1
              have hi : i < rows.length := (List.getElem?_eq_some_iff.1 hrow).1
              have hsz : i * k + k ≤ cs.size := by
                have : (i + 1) * k ≤ cap * k := Nat.mul_le_mul_right _ (by omega)
                rw [Nat.add_mul] at this; omega
              refine good_cells (us := (cs.toList.drop (i * k + j)).take n) h ht ho ha hn hag hv ?_ (by simp; omega) (fun m v hm => ?_) hm
              · refine ⟨by simp; omega, fun m y v hy hv => ?_⟩
                rw [List.getElem?_map] at hy
                cases hz : ((row.drop j).take n)[m]? with
                | none => rw [hz] at hy; simp at hy
                | some z =>
                  rw [hz] at hy; simp at hy; subst hy
                  have h1 := sub_get _ _ _ _ _ hz
                  have h2 := sub_get _ _ _ _ _ hv
                  obtain ⟨u, hu1, hu2⟩ := e7 i row (j + m) z hrow h1
                  rw [Nat.add_assoc] at h2
                  have : cs.toList[i * k + (j + m)]? = some u := by simpa using hu1
                  rw [this] at h2; cases h2
                  exact .c z _ hu2
              · have := sub_get _ _ _ _ _ hm
                rw [cell_of_row w b (i * k + j + m) cs t' (0, 0) e2]
                simpa using this
          · cases hact
        · cases hact
      · cases hact
  | pel k rows i j =>
    rw [hev] at hact hx
    simp only at hact
    generalize hv : a.eval x = v at hx
    cases hx with
    | pel _ _ _ _ b off c hc hi =>
      split at hact
      · rename_i row hrow
        split at hact
        · rename_i hcn
          simp only [Option.map_eq_some_iff, Prod.mk.injEq] at hact
          obtain ⟨x', hm, rfl, rfl⟩ := hact
          obtain ⟨ad, c', e0, h1, h2, h3⟩ := hc.sl_inv
          rcases h3 with h3 | ⟨b', off', u, e1, h3, h4, h5, h6, h7⟩
          · rw [h3] at hi; simp at hi
          · rw [e1] at e0; simp at e0
            obtain ⟨⟨rfl, rfl⟩, rfl⟩ := e0
            refine good_cells (us := (List.range n).map fun m => u i (j + m)) h ht ho ha hn hag hv ?_ (by simp) (fun m v hm => ?_) hm
            · refine ⟨by simp; omega, fun m y v hy hv => ?_⟩
              rw [List.getElem?_map] at hy
              cases hz : ((row.drop j).take n)[m]? with
              | none => rw [hz] at hy; simp at hy
              | some z =>
                rw [hz] at hy; simp at hy; subst hy
                have h1' := sub_get _ _ _ _ _ hz
                have hmn : m < n := by
                  have := (List.getElem?_eq_some_iff.1 hz).1
                  simp at this; omega
                simp [hmn] at hv; subst hv
                exact .c z _ (h7 i row (j + m) z hrow h1')
            · have hmn : m < n := by
                have := (List.getElem?_eq_some_iff.1 hm).1
                simpa using this
              simp [hmn] at hm; subst hm
              have hj : (row[j + m]?) = some (row[j + m]'(by omega)) := List.getElem?_eq_getElem (by omega)
              have := h6 i row (j + m) _ hrow hj
              rw [← Nat.add_assoc] at this
              exact this
        · cases hact
      · cases hact
  | _ => rw [hev] at hact; simp at hact

theorem setMany_eq {α : Type} : ∀ (vs xs : List α) (j : Nat), j + vs.length ≤ xs.length → setMany xs j vs = xs.take j ++ vs ++ xs.drop (j + vs.length)
  | [], xs, j, _ => by simp [setMany]
  | v :: vs, xs, j, h => by
    simp at h
    rw [setMany, setMany_eq vs _ (j + 1) (by simp; omega)]
    have h1 : (xs.set j v).take (j + 1) = xs.take j ++ [v] := by
      rw [List.take_succ_eq_append_getElem (by simp; omega), List.take_set_of_le (by omega)]
      simp
    have h2 : (xs.set j v).drop (j + 1 + vs.length) = xs.drop (j + (v :: vs).length) := by
      rw [List.drop_set, if_pos (by omega)]
      congr 1; simp; omega
    rw [h1, h2]; simp

theorem storeVar_run {t t' : TypeId} {v : Value} {n : Nat} (hn : sizeT P t = some n) (hv : v.cells.toList.length = n) (h1 : ∀ u ∈ v.cells.toList, u.oneCell' = true) {b off : Nat} {cs : Array Value} (hb : w.heap[b]? = some (.cells cs t' (0, 0)))
    (hfit : off + n ≤ cs.size) : (storeVar t ⟨b, off, none⟩ v).run P w = .ok () (w.setRow b (setMany cs.toList off v.cells.toList).toArray) := by
  unfold storeVar
  have h2 := run_storeCells_at (P := P) b off t' v.cells.toList 0 cs w hb (by rw [hv]; omega) h1
  simp only [Nat.add_zero] at h2
  simp only [Sem.run_bind, size_run hn, Result.andThen_ok]
  rw [if_neg (by simpa using hv)]
  rw [setMany_eq _ _ _ (by rw [hv]; simpa using hfit)]
  simpa [Sem.run_bind] using h2

theorem allC_one : ∀ {vs : List SV} {ws : List CV}, allC vs = some ws → vs.all SV.one = true → ws.all CV.one = true
  | [], ws, h, _ => by simp [allC] at h; subst h; rfl
  | x :: xs, ws, h, h1 => by
    unfold allC at h
    cases x with
    | c y =>
      cases hr : allC xs with
      | none => rw [hr] at h; simp [toC] at h
      | some ys =>
        rw [hr] at h; simp [toC] at h; subst h
        simp only [List.all_cons, Bool.and_eq_true] at h1 ⊢
        exact ⟨h1.1, allC_one hr h1.2⟩
    | _ => simp [toC] at h

theorem setMany_all {α : Type} (p : α → Bool) : ∀ (vs xs : List α) (j : Nat), xs.all p = true → vs.all p = true → (setMany xs j vs).all p = true
  | [], xs, _, h, _ => h
  | v :: vs, xs, j, h, h1 => by
    simp only [List.all_cons, Bool.and_eq_true] at h1
    refine setMany_all p vs _ (j + 1) ?_ h1.2
    rw [List.all_eq_true] at h ⊢
    intro x hx
    rcases List.mem_or_eq_of_mem_set hx with h2 | h2
    · exact h x h2
    · rw [h2]; exact h1.1

theorem setMany_get {α : Type} (vs xs : List α) (j i : Nat) (h : j + vs.length ≤ xs.length) : (setMany xs j vs)[i]? = if j ≤ i ∧ i < j + vs.length then vs[i - j]? else xs[i]? := by
  rw [setMany_eq vs xs j h]
  by_cases h1 : i < j
  · rw [if_neg (by omega), List.append_assoc, List.getElem?_append_left (by simp; omega), List.getElem?_take_of_lt h1]
  · by_cases h2 : i < j + vs.length
    · rw [if_pos ⟨by omega, h2⟩, List.append_assoc, List.getElem?_append_right (by simp; omega), List.getElem?_append_left (by simp; omega)]
      congr 1; simp; omega
    · rw [if_neg (by omega), List.getElem?_append_right (by simp; omega), List.getElem?_drop]
      congr 1; simp; omega

end
end Go.Proofs.Ytdgplebmlggmcaa
/- The shadow's operations are sound, IV: stores; what only computes. -/
namespace Go.Proofs.Ytdgplebmlggmcaa
open Go.RowKit

section
variable {P : Program} {w0 w : World} {N0 NA : Nat → Prop} {ρ : Nat → Option Nat} {H : Nat → Option Blk} {T : Nat → SV} {a : Act} {o : Oper}

theorem good_store (h : RepH w0 N0 NA ρ H w) (ht : ∀ i, RepS w NA ρ H (T i) (a.tmps.getD i undef)) {t : TypeId} {x z : Operand} (ho : o.op = .store t x z) {n : Nat} (hn : sizeT P t = some n)
    {site : Nat} {y : SV} {e : Option (Nat × Blk)} (hact : actF site (ev T) H (.store n x z) = some (y, e)) : Good P w0 N0 NA o a w T (setH H e) y := by
  have hx := rep_ev ht x
  have hz := rep_ev ht z
  simp only [actF] at hact
  cases hev : ev T x with
  | ptr id j =>
    cases hcz : (ev T z).cells with
    | none => rw [hev, hcz] at hact; simp at hact
    | some vs =>
      rw [hev, hcz] at hact
      rw [hev] at hx
      simp only at hact
      have hr := cellsS hz hcz
      split at hact
      case isFalse => cases hact
      case isTrue hcond =>
      obtain ⟨hvn, hvo⟩ := hcond
      have h1 := hr.one hvo
      have hl : (a.eval z).cells.toList.length = n := by rw [hr.1, hvn]
      generalize hv : a.eval x = v at hx
      cases hx with
      | ptrB _ _ t' cells b hH hb =>
        rw [hH] at hact
        simp only at hact
        split at hact
        case isFalse => cases hact
        case isTrue hc =>
        simp only [Option.some.injEq, Prod.mk.injEq] at hact
        obtain ⟨rfl, rfl⟩ := hact
        obtain ⟨b', cs, e1, e2, e3, e4⟩ := h.blk id _ hH
        rw [hb] at e1; cases e1
        have hrun := storeVar_run (P := P) (t := t) hn hl h1 e2 (off := j) (by omega)
        have hkeep : KeepI w ρ H (w.setRow b (setMany cs.toList j (a.eval z).cells.toList).toArray) (setR ρ id (ρ id)) (setH H (some (id, .box t' (setMany cells j vs)))) id := by
          refine ⟨fun t2 c2 he => ?_, fun t2 k2 r2 he => ?_⟩
          · rw [hH] at he; cases he; exact ⟨setMany cells j vs, by simp [setH], by simp [setR]⟩
          · rw [hH] at he; cases he
        obtain ⟨r1, r2, r3⟩ := upd_rep (B1 := .box t' (setMany cells j vs)) h hH (by rw [hb]; exact grown_setRow) (.inl rfl) hkeep (fun calm keep => by
          refine ⟨b, (setMany cs.toList j (a.eval z).cells.toList).toArray, by simp [setR, hb], setRow_heap w b cs _ t' _ e2, by simp [setMany_length, e3], fun m x v hx hv => ?_⟩
          have hrl : RepL w NA ρ H cells cs.toList := ⟨by simpa using e3, fun i x v hx hv => e4 i x v hx (by simpa using hv)⟩
          exact ((RepL.setMany hr hrl j).2 m x v hx (by simpa using hv)).move calm keep)
        refine ⟨.skip, undef, _, ?_, .inr ⟨rfl, rfl⟩, _, r1, fun i => (ht i).move r2 r3, .dead _⟩
        simp only [execOp, ho, hv, Instr.storeAt, Instr.sureAddr, Sem.run_bind, Sem.run_pure, Result.andThen_ok, hrun]
  | pow id len i j =>
    cases hcz : (ev T z).cells with
    | none => rw [hev, hcz] at hact; simp at hact
    | some vs =>
      rw [hev, hcz] at hact
      rw [hev] at hx
      simp only at hact
      have hr := cellsS hz hcz
      split at hact
      case isFalse => cases hact
      case isTrue hcond =>
      obtain ⟨hvn, hvo⟩ := hcond
      have h1 := hr.one hvo
      have hl : (a.eval z).cells.toList.length = n := by rw [hr.1, hvn]
      generalize hv : a.eval x = v at hx
      cases hx with
      | ptrA _ _ _ _ t' k rows v hH hlen ho' hp =>
        rw [hH] at hact
        simp only at hact
        split at hact
        case isFalse => cases hact
        case isTrue hle =>
        obtain ⟨b, hb, rfl⟩ := hp hle
        split at hact
        case h_2 => cases hact
        case h_1 row ws hrow hws =>
        split at hact
        case isFalse => cases hact
        case isTrue hc =>
        simp only [Option.some.injEq, Prod.mk.injEq] at hact
        obtain ⟨rfl, rfl⟩ := hact
        rcases h.blk id _ hH with ⟨e1, _⟩ | ⟨b', cs, cap, e1, e2, e3, e4, e5, e6, e7⟩
        · rw [hb] at e1; cases e1
        · rw [hb] at e1; cases e1
          obtain ⟨hlk, hlo⟩ := e6 i row hrow
          have hi : i < rows.length := (List.getElem?_eq_some_iff.1 hrow).1
          have hsz : i * k + k ≤ cs.size := by
            have : (i + 1) * k ≤ cap * k := Nat.mul_le_mul_right _ (by omega)
            rw [Nat.add_mul] at this; omega
          obtain ⟨c1, c2⟩ := hr.closed hws
          have hrun := storeVar_run (P := P) (t := t) hn hl h1 e2 (off := i * k + j) (by omega)
          have hkeep : KeepI w ρ H (w.setRow b (setMany cs.toList (i * k + j) (a.eval z).cells.toList).toArray) (setR ρ id (ρ id)) (setH H (some (id, .arr t' k (rows.set i (setMany row j ws))))) id := by
            refine ⟨fun t2 c2 he => ?_, fun t2 k2 r2 he => ?_⟩
            · rw [hH] at he; cases he
            · rw [hH] at he; cases he
              refine ⟨rows.set i (setMany row j ws), by simp [setH], by simp, fun _ => ⟨by simp [setR], fun b2 cs2 t2 hb2 hc2 => ?_⟩⟩
              rw [hb] at hb2; cases hb2
              rw [e2] at hc2; cases hc2
              exact ⟨_, setRow_heap w b cs _ t' _ e2, by simp [setMany_length]⟩
          obtain ⟨r1, r2, r3⟩ := upd_rep (B1 := .arr t' k (rows.set i (setMany row j ws))) h hH (by rw [hb]; exact grown_setRow) (.inl rfl) hkeep (fun calm keep => by
            refine .inr ⟨b, (setMany cs.toList (i * k + j) (a.eval z).cells.toList).toArray, cap, by simp [setR, hb], setRow_heap w b cs _ t' _ e2, by simp [setMany_length, e3], by simpa using e4, e5, fun m row2 hm => ?_, fun m row2 q x hm hq => ?_⟩
            · rw [List.getElem?_set] at hm
              by_cases him : i = m
              · subst him
                rw [if_pos rfl, if_pos hi] at hm
                cases hm; exact ⟨by rw [setMany_length, hlk], setMany_all _ _ _ _ hlo (allC_one hws hvo)⟩
              · rw [if_neg him] at hm; exact e6 m row2 hm
            · have hwl : ws.length = n := by rw [← c1, hl]
              have hs2 : (a.eval z).cells.size = n := by simpa using hl
              have key : ∀ q, q < k → (setMany cs.toList (i * k + j) (a.eval z).cells.toList)[i * k + q]? = (setMany ((cs.toList.drop (i * k)).take k) j (a.eval z).cells.toList)[q]? := fun q hq => by
                rw [setMany_get _ _ _ _ (by simp; omega), setMany_get _ _ _ _ (by simp; omega)]
                by_cases h1 : j ≤ q ∧ q < j + (a.eval z).cells.toList.length
                · rw [if_pos (by omega), if_pos h1]; congr 1; omega
                · rw [if_neg (by omega), if_neg h1, List.getElem?_take_of_lt hq, List.getElem?_drop]
              rw [List.getElem?_set] at hm
              by_cases him : i = m
              · subst him
                rw [if_pos rfl, if_pos hi] at hm
                cases hm
                have hqk : q < k := by have := (List.getElem?_eq_some_iff.1 hq).1; rw [setMany_length, hlk] at this; exact this
                rw [setMany_get _ _ _ _ (by omega)] at hq
                have k1 := key q hqk
                rw [setMany_get _ ((cs.toList.drop (i * k)).take k) _ _ (by simp; omega)] at k1
                by_cases h1 : j ≤ q ∧ q < j + ws.length
                · rw [if_pos h1] at hq
                  rw [if_pos (by rw [c1]; exact h1)] at k1
                  obtain ⟨v, hv1⟩ : ∃ v, (a.eval z).cells.toList[q - j]? = some v := ⟨_, List.getElem?_eq_getElem (by omega)⟩
                  rw [hv1] at k1
                  exact ⟨v, by simpa using k1, (c2 _ x v hq hv1).move calm⟩
                · rw [if_neg h1] at hq
                  rw [if_neg (by rw [c1]; exact h1), List.getElem?_take_of_lt hqk, List.getElem?_drop] at k1
                  obtain ⟨v, hv1, hv2⟩ := e7 i row q x hrow hq
                  refine ⟨v, ?_, hv2.move calm⟩
                  have : (setMany cs.toList (i * k + j) (a.eval z).cells.toList)[i * k + q]? = some v := by rw [k1]; simpa using hv1
                  simpa using this
              · rw [if_neg him] at hm
                obtain ⟨v, hv1, hv2⟩ := e7 m row2 q x hm hq
                have hq2 := (List.getElem?_eq_some_iff.1 hq).1
                rw [(e6 m row2 hm).1] at hq2
                refine ⟨v, ?_, hv2.move calm⟩
                have h3 : (setMany cs.toList (i * k + j) (a.eval z).cells.toList)[m * k + q]? = some v := by
                  rw [setMany_get _ _ _ _ (by simp; omega), if_neg, Array.getElem?_toList]
                  · exact hv1
                  · rcases Nat.lt_or_gt_of_ne him with h | h
                    · have : (i + 1) * k ≤ m * k := Nat.mul_le_mul_right _ h
                      rw [Nat.add_mul] at this; omega
                    · have : (m + 1) * k ≤ i * k := Nat.mul_le_mul_right _ h
                      rw [Nat.add_mul] at this; omega
                simpa using h3)
          refine ⟨.skip, undef, _, ?_, .inr ⟨rfl, rfl⟩, _, r1, fun i => (ht i).move r2 r3, .dead _⟩
          simp only [execOp, ho, hv, Instr.storeAt, Instr.sureAddr, Sem.run_bind, Sem.run_pure, Result.andThen_ok, hrun]
  | _ => rw [hev] at hact; simp at hact

theorem good_mov (h : RepH w0 N0 NA ρ H w) (ht : ∀ i, RepS w NA ρ H (T i) (a.tmps.getD i undef)) {x : Operand} (ho : o.op = .move x ∨ o.op = .assign x) {site : Nat} {y : SV} {e : Option (Nat × Blk)}
    (hact : actF site (ev T) H (.mov x) = some (y, e)) : Good P w0 N0 NA o a w T (setH H e) y := by
  simp only [actF, Option.some.injEq, Prod.mk.injEq] at hact
  obtain ⟨rfl, rfl⟩ := hact
  refine good_pure h ht (v := a.eval x) ?_ (rep_ev ht x)
  rcases ho with ho | ho <;> simp [execOp, ho]

theorem bool_of {x : Operand} (ht : ∀ i, RepS w NA ρ H (T i) (a.tmps.getD i undef)) {b : Bool} (h : ev T x = .c (.val (.bool b))) : a.eval x = .bool b := by
  have := rep_ev ht x
  rw [h] at this
  generalize a.eval x = u at this ⊢
  cases this with
  | c _ _ r => cases r; rfl
theorem val_of {x : Operand} (ht : ∀ i, RepS w NA ρ H (T i) (a.tmps.getD i undef)) {v : Value} (h : ev T x = .c (.val v)) : a.eval x = v := by
  have := rep_ev ht x
  rw [h] at this
  generalize a.eval x = u at this ⊢
  cases this with
  | c _ _ r => cases r; rfl

theorem good_pick (h : RepH w0 N0 NA ρ H w) (ht : ∀ i, RepS w NA ρ H (T i) (a.tmps.getD i undef)) {c x z : Operand} (ho : o.op = .pick c x z) {site : Nat} {y : SV} {e : Option (Nat × Blk)}
    (hact : actF site (ev T) H (.pick c x z) = some (y, e)) : Good P w0 N0 NA o a w T (setH H e) y := by
  simp only [actF] at hact
  split at hact
  case h_2 => cases hact
  case h_1 b hb =>
  simp only [Option.some.injEq, Prod.mk.injEq] at hact
  obtain ⟨rfl, rfl⟩ := hact
  have hv := bool_of ht hb
  refine good_pure h ht (v := if b then a.eval x else a.eval z) ?_ ?_
  · simp [execOp, ho, hv, asBool]
  · cases b
    · exact rep_ev ht z
    · exact rep_ev ht x

theorem good_fld (h : RepH w0 N0 NA ρ H w) (ht : ∀ i, RepS w NA ρ H (T i) (a.tmps.getD i undef)) {s : TypeId} {x : Operand} {f : Nat} (ho : o.op = .fieldAddr s x f) {fs : Array Field} {fd : Field} {n : Nat} (hu : P.underlying s = some (.struct fs)) (hf : fs[f]? = some fd)
    (hn : sizeT P fd.type = some n) (hn0 : n ≠ 0) {site : Nat} {y : SV} {e : Option (Nat × Blk)} (hact : actF site (ev T) H (.fld fd.offset x) = some (y, e)) : Good P w0 N0 NA o a w T (setH H e) y := by
  have hx := rep_ev ht x
  have run : ∀ b off, a.eval x = .pointer (some ⟨b, off, none⟩) → (execOp a.eval o).run P w = .ok (.value (.pointer (some ⟨b, off + fd.offset, none⟩))) w := fun b off hv => by
    simp [execOp, ho, hv, Instr.fieldAt, Instr.sureAddr, run_underlying hu, hf, fieldPlace, size_run hn, hn0, add_none]
  simp only [actF] at hact
  cases hev : ev T x with
  | ptr id j =>
    rw [hev] at hact hx
    simp only [Option.some.injEq, Prod.mk.injEq] at hact
    obtain ⟨rfl, rfl⟩ := hact
    generalize hv : a.eval x = v at hx
    cases hx with
    | ptrB _ _ t' cells b hH hb => exact good_pure h ht (run b j hv) (.ptrB id (j + fd.offset) t' cells b hH hb)
  | pow id len i j =>
    rw [hev] at hact hx
    simp only at hact
    generalize hv : a.eval x = v at hx
    cases hx with
    | ptrA _ _ _ _ t' k rows v hH hl ho' hp =>
      rw [hH] at hact
      simp only at hact
      split at hact
      case isFalse => cases hact
      case isTrue hle =>
      simp only [Option.some.injEq, Prod.mk.injEq] at hact
      obtain ⟨rfl, rfl⟩ := hact
      obtain ⟨b, hb, rfl⟩ := hp hle
      exact good_pure h ht (run b _ hv) (.ptrA id len i (j + fd.offset) t' k rows _ hH hl rfl (fun _ => ⟨b, hb, by rw [Nat.add_assoc]⟩))
  | pel k rows i j =>
    rw [hev] at hact hx
    simp only [Option.some.injEq, Prod.mk.injEq] at hact
    obtain ⟨rfl, rfl⟩ := hact
    generalize hv : a.eval x = v at hx
    cases hx with
    | pel _ _ _ _ b off c hc hi =>
      refine good_pure h ht (run b _ hv) ?_
      rw [Nat.add_assoc]
      exact .pel k rows i (j + fd.offset) b off c hc hi
  | _ => rw [hev] at hact; simp at hact

theorem good_box (h : RepH w0 N0 NA ρ H w) (ht : ∀ i, RepS w NA ρ H (T i) (a.tmps.getD i undef)) {t : TypeId} {x : Operand} (ho : o.op = .box t x) {site : Nat} {y : SV} {e : Option (Nat × Blk)}
    (hact : actF site (ev T) H (.box t x) = some (y, e)) : Good P w0 N0 NA o a w T (setH H e) y := by
  simp only [actF] at hact
  split at hact
  case h_2 => cases hact
  case h_1 cs hc hs =>
  split at hact
  case isFalse => cases hact
  case isTrue ho1 =>
  simp only [Option.some.injEq, Prod.mk.injEq] at hact
  obtain ⟨rfl, rfl⟩ := hact
  obtain ⟨r1, r2, r3⟩ := box_rep h ht hs t (cellsS (rep_ev ht x) hc)
  refine ⟨_, _, _, ?_, .inl rfl, _, r1, r2, r3⟩
  simp [execOp, ho, Instr.box, newVar, newRow]

theorem rep_vals (vs : List Value) : RepL w NA ρ H (vs.map fun v => .c (.val v)) vs := by
  refine ⟨by simp, fun i x v hx hv => ?_⟩
  rw [List.getElem?_map, hv] at hx
  simp at hx; subst hx
  exact .c _ _ (.val v)

theorem good_alloc (h : RepH w0 N0 NA ρ H w) (ht : ∀ i, RepS w NA ρ H (T i) (a.tmps.getD i undef)) {t : TypeId} (ho : o.op = .alloc t) {it : TypeInfo} {z : Value} (hi : P.info? t = some it) (hz : it.zero = some z) {site : Nat} {y : SV} {e : Option (Nat × Blk)}
    (hact : actF site (ev T) H (.alloc t z.cells.toList) = some (y, e)) : Good P w0 N0 NA o a w T (setH H e) y := by
  simp only [actF] at hact
  split at hact
  case h_2 => cases hact
  case h_1 hs =>
  simp only [Option.some.injEq, Prod.mk.injEq] at hact
  obtain ⟨rfl, rfl⟩ := hact
  obtain ⟨r1, r2, r3⟩ := box_rep (vs := z.cells) h ht hs t (rep_vals z.cells.toList)
  refine ⟨_, _, _, ?_, .inl rfl, _, r1, r2, r3⟩
  simp [execOp, ho, Instr.alloc, newVar, newRow, zeroValue, run_typeInfo w hi, hz]

theorem good_build (h : RepH w0 N0 NA ρ H w) (ht : ∀ i, RepS w NA ρ H (T i) (a.tmps.getD i undef)) {t : TypeId} {ps : Array (Nat × Operand)} (ho : o.op = .build t ps) {place : Nat → Option (Nat × Nat)} {z : Value}
    (hb : ∀ parts cells, Instr.fill place z.cells parts = some cells → P.built t parts = some cells) {l : List (Nat × Nat × Operand)} (hl : places place ps.toList = some l) {site : Nat} {y : SV} {e : Option (Nat × Blk)}
    (hact : actF site (ev T) H (.build z.cells.toList l) = some (y, e)) : Good P w0 N0 NA o a w T (setH H e) y := by
  simp only [actF, Option.map_eq_some_iff, Prod.mk.injEq] at hact
  obtain ⟨cs, hf, rfl, rfl⟩ := hact
  obtain ⟨cells, h1, h2⟩ := fill_rep ht hl hf (rep_vals z.cells.toList)
  refine good_pure (v := .agg cells) h ht ?_ (.agg cs cells (by have := h2.1; simpa using this) (fun i x v hx hv => h2.2 i x v hx (by simpa using hv)))
  have h3 := hb _ _ h1
  have := run_build (P := P) w t (ps.map fun (i, x) => (i, a.eval x)) cells (by simpa using h3)
  simp [execOp, ho, this]

end
end Go.Proofs.Ytdgplebmlggmcaa
/- The shadow's operations are sound, V. -/
namespace Go.Proofs.Ytdgplebmlggmcaa
open Go.RowKit

section
variable {P : Program} {w0 w : World} {N0 NA : Nat → Prop} {ρ : Nat → Option Nat} {H : Nat → Option Blk} {T : Nat → SV} {a : Act} {o : Oper}

/-- A new row of elements. -/
theorem arr_rep (h : RepH w0 N0 NA ρ H w) (ht : ∀ i, RepS w NA ρ H (T i) (a.tmps.getD i undef)) {id : Nat} (hid : H id = none) (t : TypeId) (k : Nat) (rows : List (List CV)) (cs : Array Value) (cap : Nat) (h1 : cs.size = cap * k) (h2 : rows.length ≤ cap) (h3 : cap ≤ maxLen)
    (h4 : ∀ (j : Nat) row, rows[j]? = some row → row.length = k ∧ row.all CV.one = true) (h5 : ∀ (j : Nat) row (i : Nat) x, rows[j]? = some row → row[i]? = some x → ∃ v, cs[j * k + i]? = some v ∧ RepC w (Mut NA ρ H) x v) :
    RepH w0 N0 NA (setR ρ id (some w.heap.size)) (setH H (some (id, .arr t k rows))) (w.alloc (.cells cs t)) ∧
      (∀ i, RepS (w.alloc (.cells cs t)) NA (setR ρ id (some w.heap.size)) (setH H (some (id, .arr t k rows))) (T i) (a.tmps.getD i undef)) ∧
      RepS (w.alloc (.cells cs t)) NA (setR ρ id (some w.heap.size)) (setH H (some (id, .arr t k rows))) (.own id rows.length) (.slice (some ⟨w.heap.size, 0, none⟩) rows.length cap) := by
  have calm : Calm w (Mut NA ρ H) (w.alloc (.cells cs t)) (Mut NA (setR ρ id (some w.heap.size)) (setH H (some (id, .arr t k rows)))) := by
    refine ⟨by simp, fun b hb hn => ⟨heap_alloc_old w _ hb, fun hm => ?_⟩⟩
    rcases hm with hm | ⟨i, h1, h2⟩
    · exact hn (.inl hm)
    · by_cases hi : i = id
      · subst hi; simp [setR] at h2; omega
      · simp [setR, hi] at h2; simp [setH, hi] at h1; exact hn (.inr ⟨i, h1, h2⟩)
  obtain ⟨r1, r2, r3⟩ := new_rep h hid (.arr t k rows) (.cells cs t) (by
    refine .inr ⟨w.heap.size, cs, cap, by simp [setR], heap_alloc_new w _, h1, h2, h3, h4, fun j row i x hr hx => ?_⟩
    obtain ⟨v, hv1, hv2⟩ := h5 j row i x hr hx
    exact ⟨v, hv1, hv2.move calm⟩)
  exact ⟨r1, fun i => (ht i).move r2 r3, .own id rows.length t k rows _ (by simp [setH]) (Nat.le_refl _) rfl (fun _ => .inr ⟨w.heap.size, cap, cs, t, by simp [setR], rfl, heap_alloc_new w _, h1, h2, h3⟩)⟩

theorem chunk_length {α : Type} (k : Nat) : ∀ (n : Nat) (xs : List α), (chunk k n xs).length = n
  | 0, _ => rfl
  | n + 1, xs => by simp [chunk, chunk_length k n]

theorem chunk_get {α : Type} (k : Nat) : ∀ (n : Nat) (xs : List α) (j : Nat) (row : List α), (chunk k n xs)[j]? = some row → row = (xs.drop (j * k)).take k
  | 0, _, j, row, h => by simp [chunk] at h
  | n + 1, xs, 0, row, h => by simp [chunk] at h; simp [h]
  | n + 1, xs, j + 1, row, h => by
    simp [chunk] at h
    rw [chunk_get k n _ j row h, List.drop_drop, Nat.add_mul, Nat.one_mul, Nat.add_comm]

theorem fillS_length : ∀ {ps : List (Nat × Nat × SV)} {cs cs' : List SV}, fillC cs ps = some cs' → cs'.length = cs.length
  | [], cs, cs', h => by simp [fillC] at h; subst h; rfl
  | (off, n, x) :: ps, cs, cs', h => by
    simp only [fillC] at h
    split at h
    · split at h
      · rw [fillS_length h, setMany_length]
      · cases h
    · cases h

theorem flat_replicate (z : List Value) (k n : Nat) (hz : z.length = k) (hk : k ≠ 0) : ((List.replicate n z).flatten).toArray = (Array.range (n * k)).map (z.toArray[· % k]!) := by
  apply Array.ext'
  apply List.ext_getElem?
  intro i
  simp only [Array.toList_map, Array.toList_range, List.getElem?_map]
  have hg : ∀ (n i : Nat), ((List.replicate n z).flatten)[i]? = if i < n * k then z[i % k]? else none := by
    intro n
    induction n with
    | zero => intro i; simp
    | succ n ih =>
      intro i
      rw [List.replicate_succ, List.flatten_cons]
      by_cases h : i < k
      · rw [List.getElem?_append_left (by omega), if_pos (by rw [Nat.add_mul]; omega), Nat.mod_eq_of_lt h]
      · rw [List.getElem?_append_right (by omega), ih, hz]
        have : (i - k) % k = i % k := (Nat.mod_eq_sub_mod (by omega)).symm
        rw [this, Nat.add_mul]
        by_cases h2 : i - k < n * k
        · rw [if_pos h2, if_pos (by omega)]
        · rw [if_neg h2, if_neg (by omega)]
  rw [hg]
  by_cases h : i < n * k
  · have hm : i % k < k := Nat.mod_lt _ (by omega)
    rw [if_pos h, List.getElem?_range h]
    simp only [Option.map_some]
    rw [getElem!_pos z.toArray (i % k) (by simpa [hz] using hm), List.getElem?_eq_getElem (by omega)]
    simp
  · rw [if_neg h, List.getElem?_eq_none (by simp; omega)]; rfl

theorem build_parts (h : RepH w0 N0 NA ρ H w) (ht : ∀ i, RepS w NA ρ H (T i) (a.tmps.getD i undef)) {t e : TypeId} {len : Nat} {ps : Array (Nat × Operand)} (ho : o.op = .buildSlice t len ps) {ie : TypeInfo} {z : Value}
    (hu : P.underlying t = some (.slice e)) (hi : P.info? e = some ie) (hz : ie.zero = some z) (hk : ¬ ie.size = 0) (hzs : z.cells.size = ie.size) (hsm : ¬ len * ie.size > 2 ^ 24) (hlm : len ≤ 9223372036854775807) (hps : ∀ p ∈ ps.toList, p.1 < len)
    {site : Nat} {y : SV} {ef : Option (Nat × Blk)} (hact : actF site (ev T) H (.buildSl e ie.size z.cells.toList len (ps.toList.map fun p => (p.1, p.2))) = some (y, ef)) : H site = none ∧ ∃ (cells' : Array Value) (rows : List (List CV)), y = .own site len ∧ ef = some (site, .arr e ie.size rows) ∧ rows.length = len ∧ cells'.size = len * ie.size ∧
      (execOp a.eval o).run P w = .ok (.value (.slice (some ⟨w.heap.size, 0, none⟩) len len)) (w.alloc (.cells cells' e)) ∧ (∀ (j : Nat) row, rows[j]? = some row → row.length = ie.size ∧ row.all CV.one = true) ∧
      (∀ (j : Nat) row (i : Nat) x, rows[j]? = some row → row[i]? = some x → ∃ v, cells'[j * ie.size + i]? = some v ∧ RepC w (Mut NA ρ H) x v) := by
  simp only [actF] at hact
  split at hact
  case h_2 => cases hact
  case h_1 hs =>
  split at hact
  case h_2 => cases hact
  case h_1 cells hf =>
  split at hact
  case h_2 => cases hact
  case h_1 ws hws =>
  split at hact
  case isFalse => cases hact
  case isTrue hone =>
  simp only [Option.some.injEq, Prod.mk.injEq] at hact
  obtain ⟨rfl, rfl⟩ := hact
  have hpl : ∀ (l : List (Nat × Operand)), places (fun i => some (i * ie.size, ie.size)) l = some (l.map fun p => (p.1 * ie.size, ie.size, p.2)) := fun l => by
    induction l with
    | nil => rfl
    | cons p l ih => obtain ⟨i, x⟩ := p; simp [places, ih]
  have h0 : RepL w NA ρ H ((List.replicate len (z.cells.toList.map fun v => SV.c (.val v))).flatten) (((Array.range (len * ie.size)).map (z.cells[· % z.cells.size]!))).toList := by
    have e1 := flat_replicate z.cells.toList ie.size len (by simpa using hzs) hk
    rw [hzs]
    simp only [Array.toArray_toList] at e1
    rw [← e1]
    have := rep_vals (w := w) (NA := NA) (ρ := ρ) (H := H) ((List.replicate len z.cells.toList).flatten)
    simpa [List.map_flatten] using this
  obtain ⟨cells', h1, h2⟩ := fill_rep ht (hpl (ps.toList.map fun p => (p.1, p.2))) (by simpa [Function.comp_def] using hf) h0
  have hcl : cells.length = len * ie.size := by
    rw [fillS_length hf]; simp [List.length_flatten, List.map_replicate, hzs]
  obtain ⟨c1, c2⟩ := h2.closed hws
  have hcs : cells'.size = len * ie.size := by have := h2.1; rw [hcl] at this; simpa using this
  have hwl : ws.length = len * ie.size := by rw [← c1]; simpa using hcs
  have hrow : ∀ (j : Nat) row, (chunk ie.size len ws)[j]? = some row → j < len ∧ row = (ws.drop (j * ie.size)).take ie.size := fun j row hj =>
    ⟨by have := (List.getElem?_eq_some_iff.1 hj).1; rwa [chunk_length] at this, chunk_get _ _ _ _ _ hj⟩
  have hfit : ∀ j, j < len → j * ie.size + ie.size ≤ len * ie.size := fun j hj => by
    have : (j + 1) * ie.size ≤ len * ie.size := Nat.mul_le_mul_right _ hj
    rwa [Nat.add_mul, Nat.one_mul] at this
  refine ⟨hs, cells', chunk ie.size len ws, rfl, rfl, chunk_length .., hcs, ?_,
    (fun j row hj => by
      obtain ⟨hj1, rfl⟩ := hrow j row hj
      have := hfit j hj1
      refine ⟨by simp; omega, ?_⟩
      rw [List.all_eq_true] at hone ⊢
      exact fun x hx => hone x (List.mem_of_mem_drop (List.mem_of_mem_take hx))),
    (fun j row i x hj hx => by
      obtain ⟨hj1, rfl⟩ := hrow j row hj
      have := hfit j hj1
      have hik : i < ie.size := by have := (List.getElem?_eq_some_iff.1 hx).1; simp at this; omega
      have hg := sub_get _ _ _ _ _ hx
      refine ⟨cells'[j * ie.size + i]'(by omega), Array.getElem?_eq_getElem (by omega), c2 _ x _ hg (by simp)⟩)⟩
  have hpe : (ps.map fun (i, x) => (i, a.eval x)).toList = (ps.toList.map fun p => (p.1, p.2)).map fun p => (p.1, a.eval p.2) := by simp
  by_cases hl0 : len = 0
  · subst hl0
    have hemp : ps = #[] := by
      apply Array.ext'
      rcases hq : ps.toList with _ | ⟨p, l⟩
      · rfl
      · exact absurd (hps p (by rw [hq]; simp)) (by omega)
    subst hemp
    have hc0 : cells' = #[] := by apply Array.eq_empty_of_size_eq_zero; simpa using hcs
    subst hc0
    simp [execOp, ho, Instr.buildSlice, run_underlying hu, sizeOf, run_typeInfo w hi, Instr.fill, newRow, show Array.range 0 = #[] from rfl]
  · have hrun := run_buildSlice (P := P) w t e len (ps.map fun (i, x) => (i, a.eval x)) cells' ie z hu hi hz hsm (fun h0 => (Nat.mul_eq_zero.1 h0).elim hl0 hk) (by rw [hpe]; exact h1)
    simp only [execOp, ho, Sem.run_bind, hrun, Result.andThen_ok, Sem.run_pure]

theorem good_buildSl (h : RepH w0 N0 NA ρ H w) (ht : ∀ i, RepS w NA ρ H (T i) (a.tmps.getD i undef)) {t e : TypeId} {len : Nat} {ps : Array (Nat × Operand)} (ho : o.op = .buildSlice t len ps) {ie : TypeInfo} {z : Value}
    (hu : P.underlying t = some (.slice e)) (hi : P.info? e = some ie) (hz : ie.zero = some z) (hk : ¬ ie.size = 0) (hzs : z.cells.size = ie.size) (hsm : ¬ len * ie.size > 2 ^ 24) (hlm : len ≤ 9223372036854775807) (hps : ∀ p ∈ ps.toList, p.1 < len)
    {site : Nat} {y : SV} {ef : Option (Nat × Blk)} (hact : actF site (ev T) H (.buildSl e ie.size z.cells.toList len (ps.toList.map fun p => (p.1, p.2))) = some (y, ef)) : Good P w0 N0 NA o a w T (setH H ef) y := by
  obtain ⟨hs, cells', rows, rfl, rfl, hl, hcs, hrun, h4, h5⟩ := build_parts h ht ho hu hi hz hk hzs hsm hlm hps hact
  obtain ⟨r1, r2, r3⟩ := arr_rep h ht hs e ie.size rows cells' len hcs (by omega) (by unfold maxLen; omega) h4 h5
  rw [hl] at r3
  exact ⟨_, _, _, hrun, .inl rfl, _, r1, r2, r3⟩

/-- The same slice, closed. -/
theorem good_buildC (h : RepH w0 N0 NA ρ H w) (ht : ∀ i, RepS w NA ρ H (T i) (a.tmps.getD i undef)) {t e : TypeId} {len : Nat} {ps : Array (Nat × Operand)} (ho : o.op = .buildSlice t len ps) {ie : TypeInfo} {z : Value}
    (hu : P.underlying t = some (.slice e)) (hi : P.info? e = some ie) (hz : ie.zero = some z) (hk : ¬ ie.size = 0) (hzs : z.cells.size = ie.size) (hsm : ¬ len * ie.size > 2 ^ 24) (hlm : len ≤ 9223372036854775807) (hps : ∀ p ∈ ps.toList, p.1 < len)
    (hna : ∀ b, NA b → b < w0.heap.size) {site : Nat} {y : SV} {ef : Option (Nat × Blk)} (hact : actF site (ev T) H (.buildSl e ie.size z.cells.toList len (ps.toList.map fun p => (p.1, p.2))) = some (y, ef)) :
    ∃ rows v w', y = .own site len ∧ ef = some (site, .arr e ie.size rows) ∧ (execOp a.eval o).run P w = .ok (.value v) w' ∧ Ext w w' ∧ RepC w' (Mut NA ρ H) (.sl ie.size rows) v := by
  obtain ⟨hs, cells', rows, rfl, rfl, hl, hcs, hrun, h4, h5⟩ := build_parts h ht ho hu hi hz hk hzs hsm hlm hps hact
  refine ⟨rows, _, _, rfl, rfl, hrun, (Ext.refl w).alloc _, ?_⟩
  have hb := heap_alloc_new w (.cells cells' e)
  have calm : Calm w (Mut NA ρ H) (w.alloc (.cells cells' e)) (Mut NA ρ H) := ⟨by simp, fun b hb hn => ⟨heap_alloc_old w _ hb, hn⟩⟩
  have hr := RepC.sl (w := w.alloc (.cells cells' e)) (N := Mut NA ρ H) ie.size rows w.heap.size 0 len (fun j i => cells'.getD (j * ie.size + i) undef) (by omega) (by unfold maxLen; omega) (by simp) (fun hm => ?_) h4 (fun j row i x hj hx => ?_) (fun j row i x hj hx => ?_)
  · rw [hl] at hr; exact hr
  · rcases hm with hm | hm
    · have := hna _ hm; have := h.fr.size; omega
    · exact Nat.lt_irrefl _ (h.lt hm)
  · obtain ⟨v, hv1, _⟩ := h5 j row i x hj hx
    rw [Nat.zero_add, cell_of_row _ w.heap.size (j * ie.size + i) cells' _ (0, 0) hb]
    simp [hv1]
  · obtain ⟨v, hv1, hv2⟩ := h5 j row i x hj hx
    have : cells'.getD (j * ie.size + i) undef = v := by simp [hv1]
    rw [this]; exact hv2.move calm

theorem agg_of {x : Operand} (ht : ∀ i, RepS w NA ρ H (T i) (a.tmps.getD i undef)) : (∀ xs, ev T x = .agg xs → ∃ vs : Array Value, a.eval x = .agg vs ∧ RepL w NA ρ H xs vs.toList) ∧
    (∀ xs, ev T x = .c (.agg xs) → ∃ vs : Array Value, a.eval x = .agg vs ∧ RepL w NA ρ H (xs.map .c) vs.toList) := by
  have hx := rep_ev ht x
  refine ⟨fun xs he => ?_, fun xs he => ?_⟩
  · rw [he] at hx
    generalize a.eval x = v at hx ⊢
    cases hx with
    | agg _ vs hs hv => exact ⟨vs, rfl, by simpa using hs, fun i x v hx hv' => hv i x v hx (by simpa using hv')⟩
  · rw [he] at hx
    generalize a.eval x = v at hx ⊢
    cases hx with
    | c _ _ r => cases r with
      | agg _ vs hs hv => exact ⟨vs, rfl, RepL.of_closed (by simpa using hs) (fun i x v hx hv' => hv i x v hx (by simpa using hv'))⟩

theorem part_run {t : TypeId} {ag : Bool} {n : Nat} (ha : isAggT P t = some ag) (hn : sizeT P t = some n) (hag : ag = true ∨ n = 1) {vs : Array Value} {off : Nat} (hf : off + n ≤ vs.size) :
    (part t vs off).run P w = .ok (if ag then .agg ((vs.toList.drop off).take n).toArray else ((vs.toList.drop off).take n).headD undef) w := by
  unfold part
  simp only [Sem.run_bind, isAgg_run ha, Result.andThen_ok]
  cases ag with
  | true =>
    simp [size_run hn]
    apply Array.ext'
    simp
  | false =>
    have h1 : n = 1 := by simpa using hag
    subst h1
    have hlt : off < vs.size := by omega
    have : vs[off]? = some vs[off] := Array.getElem?_eq_getElem hlt
    simp [hlt, List.drop_eq_getElem_cons]

theorem good_part (h : RepH w0 N0 NA ρ H w) (ht : ∀ i, RepS w NA ρ H (T i) (a.tmps.getD i undef)) {t : TypeId} {ag : Bool} {n : Nat} (ha : isAggT P t = some ag) (hn : sizeT P t = some n) (hag : ag = true ∨ n = 1) {vs : Array Value} {xs : List SV}
    (hr : RepL w NA ρ H xs vs.toList) {off : Nat} (hf : off + n ≤ xs.length) {y : SV} (hy : mkS ag ((xs.drop off).take n) = some y) (hrun : ∀ u, (part t vs off).run P w = .ok u w → (execOp a.eval o).run P w = .ok (.value u) w) : Good P w0 N0 NA o a w T H y := by
  have hsz : vs.size = xs.length := by simpa using hr.1
  have h1 := part_run (P := P) (w := w) ha hn hag (vs := vs) (off := off) (by omega)
  have h2 := mkS_rep (hr.sub off n) hy
  refine good_pure h ht (hrun _ h1) ?_
  cases ag with
  | true => simpa using h2
  | false =>
    obtain ⟨v, hv1, hv2⟩ := (by simpa using h2 : ∃ v, (vs.toList.drop off).take n = [v] ∧ RepS w NA ρ H y v)
    rw [hv1]; simpa using hv2

theorem good_field (h : RepH w0 N0 NA ρ H w) (ht : ∀ i, RepS w NA ρ H (T i) (a.tmps.getD i undef)) {s : TypeId} {x : Operand} {f : Nat} (ho : o.op = .field s x f) {fs : Array Field} {fd : Field} {ag : Bool} {n : Nat} (hu : P.underlying s = some (.struct fs)) (hf : fs[f]? = some fd)
    (ha : isAggT P fd.type = some ag) (hn : sizeT P fd.type = some n) (hag : ag = true ∨ n = 1) {site : Nat} {y : SV} {e : Option (Nat × Blk)} (hact : actF site (ev T) H (.field ag fd.offset n x) = some (y, e)) : Good P w0 N0 NA o a w T (setH H e) y := by
  obtain ⟨h1, h2⟩ := agg_of ht (x := x)
  have run : ∀ vs : Array Value, a.eval x = .agg vs → ∀ u, (part fd.type vs fd.offset).run P w = .ok u w → (execOp a.eval o).run P w = .ok (.value u) w := fun vs hv u hu' => by
    simp [execOp, ho, hv, Instr.field, run_underlying hu, hf, asAgg, hu']
  simp only [actF] at hact
  split at hact
  case h_1 xs he =>
    obtain ⟨vs, hv, hr⟩ := h1 _ he
    split at hact
    case isFalse => cases hact
    case isTrue hc =>
    simp only [Option.map_eq_some_iff, Prod.mk.injEq] at hact
    obtain ⟨x', hm, rfl, rfl⟩ := hact
    exact good_part h ht ha hn hag hr hc hm (run vs hv)
  case h_2 xs he =>
    obtain ⟨vs, hv, hr⟩ := h2 _ he
    split at hact
    case isFalse => cases hact
    case isTrue hc =>
    simp only [Option.map_eq_some_iff, Prod.mk.injEq] at hact
    obtain ⟨x', hm, rfl, rfl⟩ := hact
    exact good_part h ht ha hn hag hr (by simpa using hc) (by simpa using hm) (run vs hv)
  case h_3 => cases hact

theorem good_index (h : RepH w0 N0 NA ρ H w) (ht : ∀ i, RepS w NA ρ H (T i) (a.tmps.getD i undef)) {s e : TypeId} {x z : Operand} {len : Nat} (ho : o.op = .index s x z) {ag : Bool} {k : Nat} (hu : P.underlying s = some (.array len e))
    (ha : isAggT P e = some ag) (hn : sizeT P e = some k) (hag : ag = true ∨ k = 1) {site : Nat} {y : SV} {ef : Option (Nat × Blk)} (hact : actF site (ev T) H (.index len k ag x z) = some (y, ef)) : Good P w0 N0 NA o a w T (setH H ef) y := by
  obtain ⟨h1, h2⟩ := agg_of ht (x := x)
  simp only [actF] at hact
  split at hact
  case h_2 => cases hact
  case h_1 kk n hz =>
  have hzv := val_of ht hz
  split at hact
  case isFalse => cases hact
  case isTrue hb =>
  have run : ∀ vs : Array Value, a.eval x = .agg vs → ∀ u, (part e vs (n.toNat * k)).run P w = .ok u w → (execOp a.eval o).run P w = .ok (.value u) w := fun vs hv u hu' => by
    simp [execOp, ho, hv, hzv, Instr.index, run_underlying hu, asIntOf, size_run hn, hb, hu']
  split at hact
  case h_1 xs he =>
    obtain ⟨vs, hv, hr⟩ := h1 _ he
    split at hact
    case isFalse => cases hact
    case isTrue hc =>
    simp only [Option.map_eq_some_iff, Prod.mk.injEq] at hact
    obtain ⟨x', hm, rfl, rfl⟩ := hact
    exact good_part h ht ha hn hag hr hc hm (run vs hv)
  case h_2 xs he =>
    obtain ⟨vs, hv, hr⟩ := h2 _ he
    split at hact
    case isFalse => cases hact
    case isTrue hc =>
    simp only [Option.map_eq_some_iff, Prod.mk.injEq] at hact
    obtain ⟨x', hm, rfl, rfl⟩ := hact
    exact good_part h ht ha hn hag hr (by simpa using hc) (by simpa using hm) (run vs hv)
  case h_3 => cases hact

theorem good_idxA (h : RepH w0 N0 NA ρ H w) (ht : ∀ i, RepS w NA ρ H (T i) (a.tmps.getD i undef)) {s e : TypeId} {x z : Operand} {len : Nat} (ho : o.op = .indexAddr s x z) {k : Nat} (hu : P.underlying s = some (.array len e)) (hn : sizeT P e = some k)
    {site : Nat} {y : SV} {ef : Option (Nat × Blk)} (hact : actF site (ev T) H (.idxA len k x z) = some (y, ef)) : Good P w0 N0 NA o a w T (setH H ef) y := by
  have hx := rep_ev ht x
  simp only [actF] at hact
  split at hact
  case h_2 => cases hact
  case h_1 kk n hz =>
  have hzv := val_of ht hz
  split at hact
  case isFalse => cases hact
  case isTrue hb =>
  have run : ∀ b off, a.eval x = .pointer (some ⟨b, off, none⟩) → (execOp a.eval o).run P w = .ok (.value (.pointer (some ⟨b, off + n.toNat * k, none⟩))) w := fun b off hv => by
    simp [execOp, ho, hv, hzv, Instr.indexAt, Instr.sureAddr, run_underlying hu, asIntOf, size_run hn, hb, add_none]
  split at hact
  case h_1 id j he =>
    rw [he] at hx
    simp only [Option.some.injEq, Prod.mk.injEq] at hact
    obtain ⟨rfl, rfl⟩ := hact
    generalize hv : a.eval x = v at hx
    cases hx with
    | ptrB _ _ t' cells b hH hb' => exact good_pure h ht (run b j hv) (.ptrB id (j + n.toNat * k) t' cells b hH hb')
  case h_2 id l i0 j he =>
    rw [he] at hx
    generalize hv : a.eval x = v at hx
    cases hx with
    | ptrA _ _ _ _ t' k' rows v hH hl ho' hp =>
      rw [hH] at hact
      simp only at hact
      split at hact
      case isFalse => cases hact
      case isTrue hle =>
      simp only [Option.some.injEq, Prod.mk.injEq] at hact
      obtain ⟨rfl, rfl⟩ := hact
      obtain ⟨b, hb', rfl⟩ := hp hle
      exact good_pure h ht (run b _ hv) (.ptrA id l i0 (j + n.toNat * k) t' k' rows _ hH hl rfl (fun _ => ⟨b, hb', by rw [Nat.add_assoc]⟩))
  case h_3 k' rows i0 j he =>
    rw [he] at hx
    simp only [Option.some.injEq, Prod.mk.injEq] at hact
    obtain ⟨rfl, rfl⟩ := hact
    generalize hv : a.eval x = v at hx
    cases hx with
    | pel _ _ _ _ b off c hc hi =>
      refine good_pure h ht (run b _ hv) ?_
      rw [Nat.add_assoc]
      exact .pel k' rows i0 (j + n.toNat * k) b off c hc hi
  case h_4 => cases hact

theorem good_idxS (h : RepH w0 N0 NA ρ H w) (ht : ∀ i, RepS w NA ρ H (T i) (a.tmps.getD i undef)) {s e : TypeId} {x z : Operand} (ho : o.op = .indexAddr s x z) {k : Nat} (hu : P.underlying s = some (.slice e)) (hn : sizeT P e = some k)
    {site : Nat} {y : SV} {ef : Option (Nat × Blk)} (hact : actF site (ev T) H (.idxS k x z) = some (y, ef)) : Good P w0 N0 NA o a w T (setH H ef) y := by
  have hx := rep_ev ht x
  simp only [actF] at hact
  split at hact
  case h_2 => cases hact
  case h_1 kk n hz =>
  have hzv := val_of ht hz
  have run : ∀ b off len c, a.eval x = .slice (some ⟨b, off, none⟩) len c → 0 ≤ n → n.toNat < len → (execOp a.eval o).run P w = .ok (.value (.pointer (some ⟨b, off + n.toNat * k, none⟩))) w := fun b off len c hv h0 h1 => by
    have h2 : n < (len : Int) := by omega
    simp [execOp, ho, hv, hzv, Instr.indexAt, run_underlying hu, asIntOf, size_run hn, h0, h2, add_none]
  split at hact
  case h_1 k' rows he =>
    rw [he] at hx
    split at hact
    case isFalse => cases hact
    case isTrue hc =>
    obtain ⟨rfl, h0, h1⟩ := hc
    simp only [Option.some.injEq, Prod.mk.injEq] at hact
    obtain ⟨rfl, rfl⟩ := hact
    generalize hv : a.eval x = v at hx
    cases hx with
    | c _ _ r =>
      obtain ⟨ad, c, rfl, q1, q2, q3⟩ := r.sl_inv
      rcases q3 with q3 | ⟨b, off, u, rfl, _⟩
      · rw [q3] at h1; simp at h1
      · exact good_pure h ht (run b off _ c hv h0 h1) (.pel k' rows n.toNat 0 b off c r h1)
  case h_2 id len he =>
    rw [he] at hx
    generalize hv : a.eval x = v at hx
    cases hx with
    | own _ _ t' k' rows v hH hl ho' hp =>
      rw [hH] at hact
      simp only at hact
      split at hact
      case isFalse => cases hact
      case isTrue hc =>
      obtain ⟨rfl, hle, h0, h1⟩ := hc
      simp only [Option.some.injEq, Prod.mk.injEq] at hact
      obtain ⟨rfl, rfl⟩ := hact
      rcases hp hle with ⟨_, q1, _⟩ | ⟨b, cap, cs, t2, q1, rfl, q3⟩
      · omega
      · refine good_pure h ht (run b 0 _ cap hv h0 (by omega)) ?_
        refine .ptrA id len n.toNat 0 t' k' rows _ hH hl rfl (fun _ => ⟨b, q1, by simp⟩)
  case h_3 => cases hact

theorem good_bin (h : RepH w0 N0 NA ρ H w) (ht : ∀ i, RepS w NA ρ H (T i) (a.tmps.getD i undef)) {op : BinOp} {t t' : TypeId} {x z : Operand} (ho : o.op = .binOp op t x z t') (hop : op ≠ .shl ∧ op ≠ .shr) {site : Nat} {y : SV} {ef : Option (Nat × Blk)}
    (hact : actF site (ev T) H (.bin op x z) = some (y, ef)) : Good P w0 N0 NA o a w T (setH H ef) y := by
  simp only [actF, Option.map_eq_some_iff, Prod.mk.injEq] at hact
  obtain ⟨r, hb, rfl, rfl⟩ := hact
  unfold binS at hb
  split at hb
  case h_2 => cases hb
  case h_1 k p k' q hx hz =>
  split at hb
  case isFalse => cases hb
  case isTrue hk =>
  subst hk
  simp only [Option.map_eq_some_iff] at hb
  obtain ⟨v, hb, rfl⟩ := hb
  have hxv := val_of ht hx
  have hzv := val_of ht hz
  refine good_pure h ht (v := v) ?_ (.c _ _ (.val v))
  unfold binI at hb
  obtain ⟨h1, h2⟩ := hop
  cases op <;> simp at hb h1 h2 <;> first
    | (subst hb; simp [execOp, ho, hxv, hzv, eqGuard, binOp, Op.intArith, Op.intCmp]; done)
    | (obtain ⟨hq, rfl⟩ := hb; simp [execOp, ho, hxv, hzv, eqGuard, binOp, Op.intDiv, hq]; done)

theorem equal_bool {t : TypeId} (hu : P.underlying t = some .bool) (p q : Bool) : (Op.equal t (.bool p) (.bool q)).run P w = .ok (p == q) w := by
  show (Op.equalIn (9999 + 1) t (.bool p) (.bool q)).run P w = _
  rw [Op.equalIn]
  simp [run_underlying hu]

theorem good_binB (h : RepH w0 N0 NA ρ H w) (ht : ∀ i, RepS w NA ρ H (T i) (a.tmps.getD i undef)) {neg : Bool} {t t' : TypeId} {x z : Operand} (ho : o.op = .binOp (if neg then .neq else .eql) t x z t') (hu : P.underlying t = some .bool) {site : Nat} {y : SV} {ef : Option (Nat × Blk)}
    (hact : actF site (ev T) H (.binB neg x z) = some (y, ef)) : Good P w0 N0 NA o a w T (setH H ef) y := by
  simp only [actF, Option.map_eq_some_iff, Prod.mk.injEq] at hact
  obtain ⟨r, hb, rfl, rfl⟩ := hact
  unfold boolS at hb
  split at hb
  case h_2 => cases hb
  case h_1 p q hx hz =>
  simp only [Option.some.injEq] at hb
  subst hb
  have hxv := val_of ht hx
  have hzv := val_of ht hz
  refine good_pure h ht (v := _) ?_ (.c _ _ (.val _))
  have he := equal_bool (w := w) hu p q
  cases neg <;> simp [execOp, ho, hxv, hzv, eqGuard, binOp, he]

theorem good_un (h : RepH w0 N0 NA ρ H w) (ht : ∀ i, RepS w NA ρ H (T i) (a.tmps.getD i undef)) {op : UnOp} {t : TypeId} {x : Operand} (ho : o.op = .unOp op t x) {site : Nat} {y : SV} {ef : Option (Nat × Blk)}
    (hact : actF site (ev T) H (.un op x) = some (y, ef)) : Good P w0 N0 NA o a w T (setH H ef) y := by
  simp only [actF, Option.map_eq_some_iff, Prod.mk.injEq] at hact
  obtain ⟨r, hb, rfl, rfl⟩ := hact
  unfold unS at hb
  split at hb
  · rename_i k n hx
    have hxv := val_of ht hx
    cases op <;> simp at hb
    subst hb
    refine good_pure h ht (v := _) ?_ (.c _ _ (.val _))
    simp [execOp, ho, hxv, Op.unary, Op.intArith]
  · rename_i b hx
    have hxv := val_of ht hx
    cases op <;> simp at hb
    subst hb
    refine good_pure h ht (v := _) ?_ (.c _ _ (.val _))
    simp [execOp, ho, hxv, Op.unary]
  · cases hb

theorem good_len (h : RepH w0 N0 NA ρ H w) (ht : ∀ i, RepS w NA ρ H (T i) (a.tmps.getD i undef)) {t e : TypeId} {x : Operand} (ho : o.op = .call { callee := .builtin .len, args := #[x], argTypes := #[t] }) (hu : P.underlying t = some (.slice e)) {site : Nat} {y : SV} {ef : Option (Nat × Blk)}
    (hact : actF site (ev T) H (.len x) = some (y, ef)) : Good P w0 N0 NA o a w T (setH H ef) y := by
  have hx := rep_ev ht x
  have run : ∀ ad n c, a.eval x = .slice ad n c → (execOp a.eval o).run P w = .ok (.value (.int .i64 n)) w := fun ad n c hv => by
    simp [execOp, ho, hv, resolve, invoke, builtin, Builtin.len_, run_underlying hu, goInt]
  simp only [actF] at hact
  split at hact
  · rename_i k rows he
    rw [he] at hx
    simp only [Option.some.injEq, Prod.mk.injEq] at hact
    obtain ⟨rfl, rfl⟩ := hact
    generalize hv : a.eval x = v at hx
    cases hx with
    | c _ _ r =>
      obtain ⟨ad, c, rfl, _⟩ := r.sl_inv
      exact good_pure h ht (run _ _ _ hv) (.c _ _ (.val _))
  · rename_i he
    have hv := val_of ht he
    simp only [Option.some.injEq, Prod.mk.injEq] at hact
    obtain ⟨rfl, rfl⟩ := hact
    exact good_pure h ht (run _ _ _ hv) (.c _ _ (.val _))
  · rename_i id len he
    rw [he] at hx
    generalize hv : a.eval x = v at hx
    cases hx with
    | own _ _ t' k' rows v hH hl ho' hp =>
      rw [hH] at hact
      simp only at hact
      split at hact
      case isFalse => cases hact
      case isTrue hle =>
      simp only [Option.some.injEq, Prod.mk.injEq] at hact
      obtain ⟨rfl, rfl⟩ := hact
      rcases hp hle with ⟨_, q1, rfl⟩ | ⟨b, cap, cs, t2, q1, rfl, q3⟩
      · rw [q1]; exact good_pure h ht (run _ _ _ hv) (.c _ _ (.val _))
      · exact good_pure h ht (run _ _ _ hv) (.c _ _ (.val _))
  · cases hact

theorem good_ext (h : RepH w0 N0 NA ρ H w) (ht : ∀ i, RepS w NA ρ H (T i) (a.tmps.getD i undef)) {x : Operand} {i : Nat} (ho : o.op = .extract x i) {site : Nat} {y : SV} {ef : Option (Nat × Blk)}
    (hact : actF site (ev T) H (.ext x i) = some (y, ef)) : Good P w0 N0 NA o a w T (setH H ef) y := by
  have hx := rep_ev ht x
  simp only [actF] at hact
  split at hact
  case h_2 => cases hact
  case h_1 xs he =>
  rw [he] at hx
  simp only [Option.map_eq_some_iff, Prod.mk.injEq] at hact
  obtain ⟨r, hr, rfl, rfl⟩ := hact
  generalize hv : a.eval x = v at hx
  cases hx with
  | tup _ vs hs hv' =>
    have hi : i < vs.size := by rw [hs]; exact (List.getElem?_eq_some_iff.1 hr).1
    have h1 : vs[i]? = some vs[i] := Array.getElem?_eq_getElem hi
    refine good_pure h ht (v := vs[i]) ?_ (hv' i r _ hr h1)
    simp [execOp, ho, hv, Instr.extract, h1]

theorem good_conv (h : RepH w0 N0 NA ρ H w) (ht : ∀ i, RepS w NA ρ H (T i) (a.tmps.getD i undef)) {src dst : TypeId} {x : Operand} {k k' : IntKind} (ho : o.op = .convert src dst x) (hs : P.underlying src = some (.int k')) (hd : P.underlying dst = some (.int k)) {site : Nat} {y : SV} {ef : Option (Nat × Blk)}
    (hact : actF site (ev T) H (.conv k x) = some (y, ef)) : Good P w0 N0 NA o a w T (setH H ef) y := by
  simp only [actF] at hact
  split at hact
  case h_2 => cases hact
  case h_1 kk n hx =>
  have hxv := val_of ht hx
  simp only [Option.some.injEq, Prod.mk.injEq] at hact
  obtain ⟨rfl, rfl⟩ := hact
  refine good_pure h ht (v := _) ?_ (.c _ _ (.val _))
  simp [execOp, ho, hxv, convert, run_underlying hs, run_underlying hd, Conv.intToInt]

theorem max_run {k : IntKind} : ∀ {xs : List SV} {vs : List Value} {p m : Int}, RepL w NA ρ H xs vs → maxF k p xs = some m → (vs.foldlM Builtin.max2 (.int k p)).run P w = .ok (.int k m) w
  | [], [], p, m, _, hm => by simp [maxF] at hm; subst hm; simp
  | [], _ :: _, _, _, h, _ => by have := h.1; simp at this
  | _ :: _, [], _, _, h, _ => by have := h.1; simp at this
  | x :: xs, v :: vs, p, m, h, hm => by
    have h0 : RepS w NA ρ H x v := h.2 0 x v rfl rfl
    have h1 : RepL w NA ρ H xs vs := ⟨by have := h.1; simpa using this, fun i x y hx hy => h.2 (i + 1) x y (by simpa using hx) (by simpa using hy)⟩
    unfold maxF at hm
    split at hm
    · rename_i e; cases e
    · rename_i k' q xs' he
      simp only [List.cons.injEq] at he
      obtain ⟨rfl, rfl⟩ := he
      split at hm
      case isFalse => cases hm
      case isTrue hk =>
      subst hk
      cases h0 with
      | c _ _ r =>
        cases r with
        | val =>
          have := max_run h1 hm
          simp [List.foldlM_cons, Builtin.max2, this]
    · cases hm

theorem min_run {k : IntKind} : ∀ {xs : List SV} {vs : List Value} {p m : Int}, RepL w NA ρ H xs vs → minF k p xs = some m → (vs.foldlM Builtin.min2 (.int k p)).run P w = .ok (.int k m) w
  | [], [], p, m, _, hm => by simp [minF] at hm; subst hm; simp
  | [], _ :: _, _, _, h, _ => by have := h.1; simp at this
  | _ :: _, [], _, _, h, _ => by have := h.1; simp at this
  | x :: xs, v :: vs, p, m, h, hm => by
    have h0 : RepS w NA ρ H x v := h.2 0 x v rfl rfl
    have h1 : RepL w NA ρ H xs vs := ⟨by have := h.1; simpa using this, fun i x y hx hy => h.2 (i + 1) x y (by simpa using hx) (by simpa using hy)⟩
    unfold minF at hm
    split at hm
    · rename_i e; cases e
    · rename_i k' q xs' he
      simp only [List.cons.injEq] at he
      obtain ⟨rfl, rfl⟩ := he
      split at hm
      case isFalse => cases hm
      case isTrue hk =>
      subst hk
      cases h0 with
      | c _ _ r =>
        cases r with
        | val =>
          have := min_run h1 hm
          simp [List.foldlM_cons, Builtin.min2, this]
    · cases hm

theorem rep_evs (ht : ∀ i, RepS w NA ρ H (T i) (a.tmps.getD i undef)) : ∀ xs : List Operand, RepL w NA ρ H (xs.map (ev T)) (xs.map a.eval)
  | [] => RepL.nil
  | x :: xs => RepL.cons (rep_ev ht x) (rep_evs ht xs)

theorem good_max (h : RepH w0 N0 NA ρ H w) (ht : ∀ i, RepS w NA ρ H (T i) (a.tmps.getD i undef)) {xs : List Operand} {ts : Array TypeId} (ho : o.op = .call { callee := .builtin .max, args := ⟨xs⟩, argTypes := ts }) {site : Nat} {y : SV} {ef : Option (Nat × Blk)}
    (hact : actF site (ev T) H (.max xs) = some (y, ef)) : Good P w0 N0 NA o a w T (setH H ef) y := by
  have hr := rep_evs ht xs
  simp only [actF] at hact
  split at hact
  case h_2 => cases hact
  case h_1 k p r hx =>
  rw [hx] at hr
  simp only [Option.map_eq_some_iff, Prod.mk.injEq] at hact
  obtain ⟨m, hm, rfl, rfl⟩ := hact
  cases hvs : xs.map a.eval with
  | nil => rw [hvs] at hr; have := hr.1; simp at this
  | cons v vs =>
    rw [hvs] at hr
    have h0 : RepS w NA ρ H (.c (.val (.int k p))) v := hr.2 0 _ v rfl rfl
    have h1 : RepL w NA ρ H r vs := ⟨by have := hr.1; simpa using this, fun i x y hx hy => hr.2 (i + 1) x y (by simpa using hx) (by simpa using hy)⟩
    cases h0 with
    | c _ _ q => cases q with
      | val =>
        have := max_run (P := P) h1 hm
        refine good_pure h ht (v := _) ?_ (.c _ _ (.val _))
        simp [execOp, ho, resolve, invoke, builtin, Builtin.max_, hvs, this]

theorem good_min (h : RepH w0 N0 NA ρ H w) (ht : ∀ i, RepS w NA ρ H (T i) (a.tmps.getD i undef)) {xs : List Operand} {ts : Array TypeId} (ho : o.op = .call { callee := .builtin .min, args := ⟨xs⟩, argTypes := ts }) {site : Nat} {y : SV} {ef : Option (Nat × Blk)}
    (hact : actF site (ev T) H (.min xs) = some (y, ef)) : Good P w0 N0 NA o a w T (setH H ef) y := by
  have hr := rep_evs ht xs
  simp only [actF] at hact
  split at hact
  case h_2 => cases hact
  case h_1 k p r hx =>
  rw [hx] at hr
  simp only [Option.map_eq_some_iff, Prod.mk.injEq] at hact
  obtain ⟨m, hm, rfl, rfl⟩ := hact
  cases hvs : xs.map a.eval with
  | nil => rw [hvs] at hr; have := hr.1; simp at this
  | cons v vs =>
    rw [hvs] at hr
    have h0 : RepS w NA ρ H (.c (.val (.int k p))) v := hr.2 0 _ v rfl rfl
    have h1 : RepL w NA ρ H r vs := ⟨by have := hr.1; simpa using this, fun i x y hx hy => hr.2 (i + 1) x y (by simpa using hx) (by simpa using hy)⟩
    cases h0 with
    | c _ _ q => cases q with
      | val =>
        have := min_run (P := P) h1 hm
        refine good_pure h ht (v := _) ?_ (.c _ _ (.val _))
        simp [execOp, ho, resolve, invoke, builtin, Builtin.min_, hvs, this]

theorem good_makeSl (h : RepH w0 N0 NA ρ H w) (ht : ∀ i, RepS w NA ρ H (T i) (a.tmps.getD i undef)) {t e : TypeId} {l c : Operand} (ho : o.op = .makeSlice t l c) {ie : TypeInfo} {z : Value}
    (hu : P.underlying t = some (.slice e)) (hi : P.info? e = some ie) (hz : ie.zero = some z) (hk : ¬ ie.size = 0) (hzs : z.cells.size = ie.size) (hz1 : z.cells.all (·.oneCell') = true)
    {site : Nat} {y : SV} {ef : Option (Nat × Blk)} (hact : actF site (ev T) H (.makeSl e ie.size ie.bytes z.cells.toList l c) = some (y, ef)) : Good P w0 N0 NA o a w T (setH H ef) y := by
  simp only [actF] at hact
  split at hact
  case h_2 => cases hact
  case h_1 k1 n k2 m hl hc hs =>
  split at hact
  case isFalse => cases hact
  case isTrue hcond =>
  obtain ⟨rfl, h0, hb, h63⟩ := hcond
  simp only [Option.some.injEq, Prod.mk.injEq] at hact
  obtain ⟨rfl, rfl⟩ := hact
  have hlv := val_of ht hl
  have hcv := val_of ht hc
  have hrun := run_make (P := P) w t e ie z hu hi hz k1 k2 n n h0 (Int.le_refl _) (by rw [Int.mul_comm]; omega) h63
  have hsz : (madeCells z.cells (n.toNat * ie.size)).size = n.toNat * ie.size := size_madeCells _ _
  have hrow : ∀ (j : Nat) row, (List.replicate n.toNat (z.cells.toList.map CV.val))[j]? = some row → j < n.toNat ∧ row = z.cells.toList.map CV.val := fun j row hj => by
    rw [List.getElem?_replicate] at hj
    split at hj
    · cases hj; exact ⟨by assumption, rfl⟩
    · cases hj
  obtain ⟨r1, r2, r3⟩ := arr_rep h ht hs e ie.size (List.replicate n.toNat (z.cells.toList.map CV.val)) (madeCells z.cells (n.toNat * ie.size)) n.toNat hsz (by simp) (by unfold maxLen; omega)
    (fun j row hj => by
      obtain ⟨_, rfl⟩ := hrow j row hj
      refine ⟨by simpa using hzs, ?_⟩
      rw [List.all_eq_true]
      intro x hx
      rw [List.mem_map] at hx
      obtain ⟨v, hv, rfl⟩ := hx
      rw [Array.all_eq_true_iff_forall_mem] at hz1
      have := hz1 v (by simpa using hv)
      cases v <;> simp [Value.oneCell'] at this <;> rfl)
    (fun j row i x hj hx => by
      obtain ⟨hj1, rfl⟩ := hrow j row hj
      rw [List.getElem?_map] at hx
      cases hq : z.cells.toList[i]? with
      | none => rw [hq] at hx; simp at hx
      | some v =>
        rw [hq] at hx; simp at hx; subst hx
        have hik : i < ie.size := by have := (List.getElem?_eq_some_iff.1 hq).1; rw [← hzs]; simpa using this
        have hlt : j * ie.size + i < n.toNat * ie.size := by
          have : (j + 1) * ie.size ≤ n.toNat * ie.size := Nat.mul_le_mul_right _ hj1
          rw [Nat.add_mul] at this; omega
        refine ⟨v, ?_, .val v⟩
        unfold madeCells
        rw [Array.getElem?_map, Array.getElem?_range, if_pos hlt]
        simp only [Option.map_some]
        rw [hzs, Nat.add_comm, Nat.add_mul_mod_self_right, Nat.mod_eq_of_lt hik]
        rw [getElem!_pos z.cells i (by rw [hzs]; exact hik)]
        have := (List.getElem?_eq_some_iff.1 hq).2
        simpa using this)
  rw [List.length_replicate] at r3
  refine ⟨_, _, _, ?_, .inl rfl, _, r1, r2, r3⟩
  simp only [execOp, ho, hlv, hcv, Sem.run_bind, hrun, Result.andThen_ok, Sem.run_pure]

end
end Go.Proofs.Ytdgplebmlggmcaa
/- The shadow's operations are sound, VI: append. -/
namespace Go.Proofs.Ytdgplebmlggmcaa
open Go.RowKit

section
variable {P : Program} {w0 w : World} {N0 NA : Nat → Prop} {ρ : Nat → Option Nat} {H : Nat → Option Blk} {T : Nat → SV} {a : Act} {o : Oper}

theorem setH_twice (id : Nat) (A B : Blk) : setH (setH H (some (id, A))) (some (id, B)) = setH H (some (id, B)) := by
  funext i; unfold setH; by_cases h : i = id <;> simp [h]

theorem setR_twice (id : Nat) (x y : Option Nat) : setR (setR ρ id x) id y = setR ρ id y := by
  funext i; unfold setR; by_cases h : i = id <;> simp [h]

/-- nil, as a slice of the call's own. -/
theorem virt_rep (h : RepH w0 N0 NA ρ H w) (ht : ∀ i, RepS w NA ρ H (T i) (a.tmps.getD i undef)) {id : Nat} (hid : H id = none) (t : TypeId) (k : Nat) :
    RepH w0 N0 NA (setR ρ id none) (setH H (some (id, .arr t k []))) w ∧ (∀ i, RepS w NA (setR ρ id none) (setH H (some (id, .arr t k []))) (T i) (a.tmps.getD i undef)) ∧
      Calm w (Mut NA ρ H) w (Mut NA (setR ρ id none) (setH H (some (id, .arr t k [])))) ∧ ∀ i, KeepI w ρ H w (setR ρ id none) (setH H (some (id, .arr t k []))) i := by
  have hρ : ∀ i, i ≠ id → setR ρ id none i = ρ i := fun i hi => by simp [setR, hi]
  have hH : ∀ i, i ≠ id → setH H (some (id, .arr t k [])) i = H i := fun i hi => by simp [setH, hi]
  have own : ∀ b, Own (setR ρ id none) (setH H (some (id, .arr t k []))) b → Own ρ H b := by
    rintro b ⟨i, h1, h2⟩
    by_cases hi : i = id
    · subst hi; simp [setR] at h2
    · rw [hρ i hi] at h2; rw [hH i hi] at h1; exact ⟨i, h1, h2⟩
  have calm : Calm w (Mut NA ρ H) w (Mut NA (setR ρ id none) (setH H (some (id, .arr t k [])))) := by
    refine ⟨Nat.le_refl _, fun b hb hn => ⟨rfl, fun hm => ?_⟩⟩
    rcases hm with hm | hm
    · exact hn (.inl hm)
    · exact hn (.inr (own b hm))
  have keep : ∀ i, KeepI w ρ H w (setR ρ id none) (setH H (some (id, .arr t k []))) i := by
    intro i
    refine ⟨fun t' cells hi => ?_, fun t' k' rows hi => ?_⟩
    · have : i ≠ id := fun e => by rw [e, hid] at hi; cases hi
      exact ⟨cells, by rw [hH i this]; exact hi, hρ i this⟩
    · have : i ≠ id := fun e => by rw [e, hid] at hi; cases hi
      exact ⟨rows, by rw [hH i this]; exact hi, Nat.le_refl _, fun _ => ⟨hρ i this, fun b cs t' hb hc => ⟨cs, hc, rfl⟩⟩⟩
  refine ⟨⟨?_, ?_, h.fr, fun b hb => h.low b (own b hb)⟩, fun i => (ht i).move calm keep, calm, keep⟩
  · intro i j b h1 h2 h3 h4
    by_cases hi : i = id
    · subst hi; simp [setR] at h3
    · by_cases hj : j = id
      · subst hj; simp [setR] at h4
      · rw [hρ i hi] at h3; rw [hρ j hj] at h4; rw [hH i hi] at h1; rw [hH j hj] at h2
        exact h.inj i j b h1 h2 h3 h4
  · intro i B hi
    by_cases hii : i = id
    · subst hii; simp [setH] at hi; subst hi; exact .inl ⟨by simp [setR], rfl⟩
    · rw [hH i hii] at hi
      have hr := h.blk i B hi
      cases B with
      | box t' cells =>
        obtain ⟨b, cs, e1, e2, e3, e4⟩ := hr
        exact ⟨b, cs, (hρ i hii).trans e1, e2, e3, fun j x v hx hv => (e4 j x v hx hv).move calm keep⟩
      | arr t' k' rows =>
        rcases hr with ⟨e1, e2⟩ | ⟨b, cs, cap, e1, e2, e3, e4, e5, e6, e7⟩
        · exact .inl ⟨(hρ i hii).trans e1, e2⟩
        · exact .inr ⟨b, cs, cap, (hρ i hii).trans e1, e2, e3, e4, e5, e6, fun j row m x hr hx => by
            obtain ⟨v, hv1, hv2⟩ := e7 j row m x hr hx
            exact ⟨v, hv1, hv2.move calm⟩⟩

/-- What a slice that is appended reads as. -/
structure Src (w : World) (NA : Nat → Prop) (ρ : Nat → Option Nat) (H : Nat → Option Blk) (k : Nat) (src : List (List CV)) (v : Value) (news : List Value) : Prop where
  is : ∃ ad c, v = .slice ad src.length c ∧ (src ≠ [] → ∃ b off, ad = some ⟨b, off, none⟩ ∧ ∀ (j : Nat) u, news[j]? = some u → w.cell? ⟨b, off + j, none⟩ = some u)
  len : news.length = src.length * k
  one : ∀ u ∈ news, u.oneCell' = true
  row : ∀ (j : Nat) row, src[j]? = some row → row.length = k ∧ row.all CV.one = true
  cell : ∀ (j : Nat) row (i : Nat) x, src[j]? = some row → row[i]? = some x → ∃ v, news[j * k + i]? = some v ∧ RepC w (Mut NA ρ H) x v

theorem rows_news {k : Nat} {rows : List (List CV)} (u : Nat → Nat → Value) (hr : ∀ (j : Nat) row, rows[j]? = some row → row.length = k) :
    ∃ news : List Value, news.length = rows.length * k ∧ ∀ (q : Nat) v, news[q]? = some v → ∃ j row i x, rows[j]? = some row ∧ row[i]? = some x ∧ q = j * k + i ∧ v = u j i ∧ i < k := by
  by_cases hk : k = 0
  · subst hk; exact ⟨[], by simp, fun q v h => by simp at h⟩
  refine ⟨(List.range (rows.length * k)).map fun q => u (q / k) (q % k), by simp, fun q v h => ?_⟩
  rw [List.getElem?_map] at h
  have hq : q < rows.length * k := by
    rcases Nat.lt_or_ge q (rows.length * k) with h' | h'
    · exact h'
    · rw [List.getElem?_eq_none (by simpa using h')] at h; simp at h
  rw [List.getElem?_range hq] at h
  simp at h
  have hj : q / k < rows.length := Nat.div_lt_of_lt_mul (by rw [Nat.mul_comm]; exact hq)
  have hi : q % k < k := Nat.mod_lt _ (by omega)
  have hl := hr (q / k) _ (List.getElem?_eq_getElem hj)
  refine ⟨q / k, _, q % k, _, List.getElem?_eq_getElem hj, List.getElem?_eq_getElem (by rw [hl]; exact hi), ?_, h.symm, hi⟩
  rw [Nat.mul_comm]; exact (Nat.div_add_mod q k).symm

theorem ji_inj {k j i j' i' : Nat} (hi : i < k) (hi' : i' < k) (h : j * k + i = j' * k + i') : j = j' ∧ i = i' := by
  have h1 : j = j' := by
    rcases Nat.lt_trichotomy j j' with h2 | h2 | h2
    · have : (j + 1) * k ≤ j' * k := Nat.mul_le_mul_right _ h2
      rw [Nat.add_mul] at this; omega
    · exact h2
    · have : (j' + 1) * k ≤ j * k := Nat.mul_le_mul_right _ h2
      rw [Nat.add_mul] at this; omega
  subst h1
  exact ⟨rfl, by omega⟩

theorem src_of (h : RepH w0 N0 NA ρ H w) {k : Nat} {x : SV} {v : Value} (hx : RepS w NA ρ H x v) {src : List (List CV)} (hs : rowsOf H k x = some src) : ∃ news, Src w NA ρ H k src v news := by
  have empty : ∀ ad c, v = .slice ad 0 c → ∃ news, Src w NA ρ H k [] v news := fun ad c hv =>
    ⟨[], ⟨ad, c, hv, fun h => absurd rfl h⟩, by simp, by simp, fun j row h => by simp at h, fun j row i x h => by simp at h⟩
  unfold rowsOf at hs
  split at hs
  · rename_i k' rows
    cases hx with
    | c _ _ r =>
      obtain ⟨ad, c, rfl, q1, q2, q3⟩ := r.sl_inv
      split at hs
      case isFalse => cases hs
      case isTrue hc =>
      simp only [Option.some.injEq] at hs
      subst hs
      rcases q3 with q3 | ⟨b, off, u, rfl, q4, q5, q6, q7, q8⟩
      · subst q3; exact empty ad c rfl
      · by_cases hr : rows = []
        · subst hr; exact empty _ c rfl
        · have hk : k' = k := hc.resolve_right hr
          subst hk
          obtain ⟨news, n1, n2⟩ := rows_news u (fun j row hj => (q6 j row hj).1)
          refine ⟨news, ⟨_, c, rfl, fun _ => ⟨b, off, rfl, fun q v hq => ?_⟩⟩, n1, fun v hv => ?_, q6, fun j row i x hj hx => ?_⟩
          · obtain ⟨j, row, i, x, hj, hx, rfl, rfl, _⟩ := n2 q v hq
            rw [← Nat.add_assoc]; exact q7 j row i x hj hx
          · obtain ⟨q, hq, rfl⟩ := List.getElem_of_mem hv
            obtain ⟨j, row, i, x, hj, hx, _, e, _⟩ := n2 q _ (List.getElem?_eq_getElem hq)
            rw [e]
            exact oneC (q8 j row i x hj hx) (List.all_eq_true.1 (q6 j row hj).2 x (List.mem_of_getElem? hx))
          · have hi : i < k' := by rw [← (q6 j row hj).1]; exact (List.getElem?_eq_some_iff.1 hx).1
            have hj' : j < rows.length := (List.getElem?_eq_some_iff.1 hj).1
            have hlt : j * k' + i < news.length := by
              rw [n1]
              have : (j + 1) * k' ≤ rows.length * k' := Nat.mul_le_mul_right _ hj'
              rw [Nat.add_mul] at this; omega
            obtain ⟨j2, row2, i2, x2, hj2, hx2, e1, e2, hi2⟩ := n2 _ _ (List.getElem?_eq_getElem hlt)
            obtain ⟨rfl, rfl⟩ := ji_inj hi hi2 e1
            refine ⟨_, List.getElem?_eq_getElem hlt, ?_⟩
            rw [e2]; exact q8 j row i x hj hx
  · cases hs
    cases hx with
    | c _ _ r => cases r; exact empty none 0 rfl
  · rename_i id len
    cases hx with
    | own _ _ t k' rows v hH hl ho hv =>
      rw [hH] at hs
      simp only at hs
      split at hs
      case isFalse => cases hs
      case isTrue hc =>
      obtain ⟨rfl, hle⟩ := hc
      simp only [Option.some.injEq] at hs
      subst hs
      rcases hv hle with ⟨q0, q1, rfl⟩ | ⟨b, cap, cs, t2, q1, rfl, q3, q4, q5, q6⟩
      · have : rows = [] := List.length_eq_zero_iff.1 (by omega)
        subst this; exact empty none 0 rfl
      · rcases h.blk id _ hH with ⟨e1, _⟩ | ⟨b', cs', cap', e1, e2, e3, e4, e5, e6, e7⟩
        · rw [q1] at e1; cases e1
        · rw [q1] at e1; cases e1
          rw [q3] at e2; cases e2
          have hfit : rows.length * k' ≤ cs.size := by rw [e3]; exact Nat.mul_le_mul_right _ e4
          have hget : ∀ (q : Nat), q < rows.length * k' → (cs.toList.take (rows.length * k'))[q]? = cs[q]? := fun q hq => by
            rw [List.getElem?_take_of_lt hq]; simp
          have hcell : ∀ (j : Nat) row (i : Nat) x, rows[j]? = some row → row[i]? = some x → ∃ v, (cs.toList.take (rows.length * k'))[j * k' + i]? = some v ∧ RepC w (Mut NA ρ H) x v := fun j row i x hj hx => by
            obtain ⟨v, hv1, hv2⟩ := e7 j row i x hj hx
            have hi : i < k' := by rw [← (e6 j row hj).1]; exact (List.getElem?_eq_some_iff.1 hx).1
            have hj' : j < rows.length := (List.getElem?_eq_some_iff.1 hj).1
            have : (j + 1) * k' ≤ rows.length * k' := Nat.mul_le_mul_right _ hj'
            rw [Nat.add_mul] at this
            exact ⟨v, by rw [hget _ (by omega)]; exact hv1, hv2⟩
          refine ⟨cs.toList.take (rows.length * k'), ⟨_, cap, by rw [hle], fun _ => ⟨b, 0, rfl, fun q v hq => ?_⟩⟩, by simp; omega, fun v hv => ?_, e6, hcell⟩
          · have hq' : q < rows.length * k' := by have := (List.getElem?_eq_some_iff.1 hq).1; simp at this; omega
            rw [hget q hq'] at hq
            rw [Nat.zero_add, cell_of_row w b q cs _ (0, 0) q3]; exact hq
          · obtain ⟨q, hq, rfl⟩ := List.getElem_of_mem hv
            by_cases hk : k' = 0
            · subst hk; simp at hq
            have hq' : q < rows.length * k' := by simp at hq; omega
            have hj : q / k' < rows.length := Nat.div_lt_of_lt_mul (by rw [Nat.mul_comm]; exact hq')
            have hi : q % k' < k' := Nat.mod_lt _ (by omega)
            have hr := List.getElem?_eq_getElem hj
            have hl := (e6 _ _ hr).1
            have hx := List.getElem?_eq_getElem (l := rows[q / k']) (i := q % k') (by omega)
            obtain ⟨v, hv1, hv2⟩ := hcell _ _ _ _ hr hx
            have e0 : q / k' * k' + q % k' = q := by rw [Nat.mul_comm]; exact Nat.div_add_mod q k'
            rw [e0, List.getElem?_eq_getElem hq] at hv1
            cases hv1
            exact oneC hv2 (List.all_eq_true.1 (e6 _ _ hr).2 _ (List.getElem_mem _))
  · cases hs

theorem run_append_zero (t ty e : TypeId) (ie : TypeInfo) (ht : P.underlying t = some (.slice e)) (hi : P.info? e = some ie) (base : Option Addr) (n cap : Nat) (hn : n ≤ cap) (ad : Option Addr) (c : Nat) :
    (Builtin.append_ #[t, t] ty #[.slice base n cap, .slice ad 0 c]).run P w = .ok (.slice base n cap) w := by
  cases ad with
  | none => cases base <;> simp [Builtin.append_, run_underlying ht, sizeOf, run_typeInfo w hi, Builtin.lenOf, Builtin.firstCells, hn, storeCells]
  | some ad => cases base <;> simp [Builtin.append_, run_underlying ht, sizeOf, run_typeInfo w hi, Builtin.lenOf, Builtin.firstCells, hn, storeCells, loadCells, loadCellsFrom]

theorem app_core (h : RepH w0 N0 NA ρ H w) (ht : ∀ i, RepS w NA ρ H (T i) (a.tmps.getD i undef)) {id : Nat} {e : TypeId} {k : Nat} {rows : List (List CV)} (hH : H id = some (.arr e k rows)) {v : Value} (hv : OwnV w (ρ id) k rows.length v)
    {src : List (List CV)} {x : Value} {news : List Value} (hs : Src w NA ρ H k src x news) {t ty : TypeId} {ie : TypeInfo} {z : Value} (hu : P.underlying t = some (.slice e)) (hi : P.info? e = some ie) (hz : ie.zero = some z) (hk : ie.size = k) (hk0 : k ≠ 0) (hzs : z.cells.size = ie.size)
    (h63 : rows.length + src.length ≤ 9223372036854775807) (hb : (rows.length + src.length) * ie.bytes ≤ 140737488355328) :
    ∃ v' w', (Builtin.append_ #[t, t] ty #[v, x]).run P w = .ok v' w' ∧ ∃ ρ', RepH w0 N0 NA ρ' (setH H (some (id, .arr e k (rows ++ src)))) w' ∧
      (∀ i, RepS w' NA ρ' (setH H (some (id, .arr e k (rows ++ src)))) (T i) (a.tmps.getD i undef)) ∧ RepS w' NA ρ' (setH H (some (id, .arr e k (rows ++ src)))) (.own id (rows.length + src.length)) v' := by
  obtain ⟨ad, c, rfl, hsrc⟩ := hs.is
  by_cases hm : src = []
  · subst hm
    have e0 : setH H (some (id, .arr e k (rows ++ []))) = H := by
      funext i; unfold setH; by_cases hi : i = id
      · subst hi; simp [hH]
      · simp [hi]
    rw [e0]
    simp only [List.length_nil, Nat.add_zero]
    obtain ⟨base, cap, hvb, hle⟩ : ∃ base cap, v = .slice base rows.length cap ∧ rows.length ≤ cap := by
      rcases hv with ⟨_, q1, rfl⟩ | ⟨b, cap, cs, t2, q1, rfl, q3, q4, q5, q6⟩
      · exact ⟨none, 0, by rw [q1], by omega⟩
      · exact ⟨_, cap, rfl, q5⟩
    subst hvb
    refine ⟨_, w, run_append_zero t ty e ie hu hi base _ cap hle ad c, ρ, h, ht, .own id _ e k rows _ hH (Nat.le_refl _) rfl (fun _ => hv)⟩
  · obtain ⟨b, off, rfl, hcell⟩ := hsrc hm
    have hpos : 0 < src.length := by
      rcases src with _ | ⟨r, s⟩
      · exact absurd rfl hm
      · simp
    subst hk
    obtain ⟨xs, hown, hvb, hxs⟩ : ∃ xs, w.ownsRow 0 e ie.size v rows.length xs ∧ v.ownBlock = ρ id ∧ ∀ (j : Nat) row (i : Nat) x, rows[j]? = some row → row[i]? = some x → ∃ v, xs[j * ie.size + i]? = some v ∧ RepC w (Mut NA ρ H) x v := by
      rcases hv with ⟨q0, q1, rfl⟩ | ⟨b, cap, cs, t2, q1, rfl, q3, q4, q5, q6⟩
      · have hr0 : rows = [] := List.length_eq_zero_iff.1 q1
        subst hr0
        exact ⟨[], World.ownsRow_nil _ _ _ _, by rw [q0]; rfl, fun j row i x hj => by simp at hj⟩
      · rcases h.blk id _ hH with ⟨e1, _⟩ | ⟨b', cs', cap', e1, e2, e3, e4, e5, e6, e7⟩
        · rw [q1] at e1; cases e1
        · rw [q1] at e1; cases e1
          rw [q3] at e2; cases e2
          have hfit : rows.length * ie.size ≤ cap * ie.size := Nat.mul_le_mul_right _ q5
          refine ⟨cs.toList.take (rows.length * ie.size), ⟨by simp; omega, .inr ⟨b, cap, cs, rfl, Nat.zero_le _, q3, q5, q6, q4, rfl⟩⟩, by rw [q1]; rfl, fun j row i x hj hx => ?_⟩
          obtain ⟨v, hv1, hv2⟩ := e7 j row i x hj hx
          have hi' : i < ie.size := by rw [← (e6 j row hj).1]; exact (List.getElem?_eq_some_iff.1 hx).1
          have hj' : j < rows.length := (List.getElem?_eq_some_iff.1 hj).1
          have : (j + 1) * ie.size ≤ rows.length * ie.size := Nat.mul_le_mul_right _ hj'
          rw [Nat.add_mul] at this
          exact ⟨v, by rw [List.getElem?_take_of_lt (by omega)]; simpa using hv1, hv2⟩
    obtain ⟨v', w', hrun, hown', hgrow, _, hat⟩ := run_append_own_at (P := P) w 0 t ty e ie z ie.size ie.bytes hu hi hz rfl rfl hzs (by omega) v rows.length xs hown ⟨b, off, none⟩ src.length c news hs.len (fun j u hj => by rw [add_none]; exact hcell j u hj) hs.one (by unfold maxLen; omega) hb (Nat.zero_le _)
    obtain ⟨hl', h2'⟩ := hown'
    rcases h2' with ⟨_, q1⟩ | ⟨g, cap, cur, rfl, _, g1, g2, g3, g4, g5⟩
    · omega
    have hgr : (some g = ρ id) ∨ ∃ g', some g = some g' ∧ w.heap.size ≤ g' := by
      rcases hat with h1 | h1
      · exact .inl (by rw [← hvb]; exact h1)
      · exact .inr ⟨g, rfl, by
          have : some g = some w.heap.size := h1
          cases this; exact Nat.le_refl _⟩
    have hxl : xs.length = rows.length * ie.size := hown.1
    have hfit : (rows.length + src.length) * ie.size ≤ cap * ie.size := Nat.mul_le_mul_right _ g2
    have hget : ∀ q, q < (rows.length + src.length) * ie.size → cur[q]? = (xs ++ news)[q]? := fun q hq => by
      rw [← g5, List.getElem?_take_of_lt hq]; simp
    obtain ⟨r1, r2, r3⟩ := upd_rep (B1 := .arr e ie.size (rows ++ src)) (r := some g) h hH (by rw [← hvb]; exact hgrow) hgr
      ⟨fun t' cells hi' => (by rw [hH] at hi'; cases hi'), fun t' k' rows' hi' => by
        rw [hH] at hi'; cases hi'
        exact ⟨rows ++ src, by simp [setH], by simp, fun e => by (rw [List.length_append] at e; omega)⟩⟩ (fun calm keep => by
      refine .inr ⟨g, cur, cap, by simp [setR], g1, g4, by simpa using g2, g3, fun j row hj => ?_, fun j row i x hj hx => ?_⟩
      · rcases Nat.lt_or_ge j rows.length with hj' | hj'
        · rw [List.getElem?_append_left hj'] at hj
          rcases h.blk id _ hH with ⟨_, e1⟩ | ⟨_, _, _, _, _, _, _, _, e6, _⟩
          · rw [e1] at hj; simp at hj
          · exact e6 j row hj
        · rw [List.getElem?_append_right hj'] at hj
          exact hs.row _ row hj
      · rcases Nat.lt_or_ge j rows.length with hj' | hj'
        · rw [List.getElem?_append_left hj'] at hj
          obtain ⟨v, hv1, hv2⟩ := hxs j row i x hj hx
          have hlt := (List.getElem?_eq_some_iff.1 hv1).1
          refine ⟨v, ?_, hv2.move calm⟩
          rw [hget _ (by rw [Nat.add_mul]; omega), List.getElem?_append_left hlt]; exact hv1
        · rw [List.getElem?_append_right hj'] at hj
          obtain ⟨v, hv1, hv2⟩ := hs.cell _ row i x hj hx
          have hlt := (List.getElem?_eq_some_iff.1 hv1).1
          rw [hs.len] at hlt
          refine ⟨v, ?_, hv2.move calm⟩
          have e0 : j * ie.size + i = rows.length * ie.size + ((j - rows.length) * ie.size + i) := by
            have : j = rows.length + (j - rows.length) := by omega
            rw [this, Nat.add_mul]
            have : rows.length + (j - rows.length) - rows.length = j - rows.length := by omega
            rw [this]; omega
          rw [e0, hget _ (by rw [Nat.add_mul]; omega), List.getElem?_append_right (by omega)]
          have : rows.length * ie.size + ((j - rows.length) * ie.size + i) - xs.length = (j - rows.length) * ie.size + i := by omega
          rw [this]; exact hv1)
    refine ⟨_, w', hrun, _, r1, fun i => (ht i).move r2 r3, .own id _ e ie.size (rows ++ src) _ (by simp [setH]) (by simp) rfl (fun _ => .inr ⟨g, cap, cur, e, by simp [setR], rfl, g1, g4, g2, g3⟩)⟩

theorem good_append (h : RepH w0 N0 NA ρ H w) (ht : ∀ i, RepS w NA ρ H (T i) (a.tmps.getD i undef)) {t e : TypeId} {s x : Operand} (ho : o.op = .call { callee := .builtin .append, args := #[s, x], argTypes := #[t, t] }) {ie : TypeInfo} {z : Value}
    (hu : P.underlying t = some (.slice e)) (hi : P.info? e = some ie) (hz : ie.zero = some z) (hk : ¬ ie.size = 0) (hzs : z.cells.size = ie.size)
    {site : Nat} {y : SV} {ef : Option (Nat × Blk)} (hact : actF site (ev T) H (.append e ie.size ie.bytes s x) = some (y, ef)) : Good P w0 N0 NA o a w T (setH H ef) y := by
  have hsv := rep_ev ht s
  have hxv := rep_ev ht x
  simp only [actF] at hact
  split at hact
  case h_2 => cases hact
  case h_1 src hsrc =>
  have fin : ∀ {ρ' : Nat → Option Nat} {H1 : Nat → Option Blk} {w' : World} {v' : Value} {y : SV}, (Builtin.append_ #[t, t] o.type #[a.eval s, a.eval x]).run P w = .ok v' w' → RepH w0 N0 NA ρ' H1 w' → (∀ i, RepS w' NA ρ' H1 (T i) (a.tmps.getD i undef)) → RepS w' NA ρ' H1 y v' →
      Good P w0 N0 NA o a w T H1 y := fun {ρ' H1 w' v' y} hr h1 h2 h3 => by
    refine ⟨_, v', w', ?_, .inl rfl, ρ', h1, h2, h3⟩
    simp [execOp, ho, resolve, invoke, builtin, hr]
  split at hact
  · rename_i id len he
    rw [he] at hsv
    generalize hv : a.eval s = v at hsv
    cases hsv with
    | own _ _ t' k' rows v hH hl ho' hp =>
      rw [hH] at hact
      simp only at hact
      split at hact
      case isFalse => cases hact
      case isTrue hc =>
      obtain ⟨rfl, rfl, hle, h63, hb⟩ := hc
      simp only [Option.some.injEq, Prod.mk.injEq] at hact
      obtain ⟨rfl, rfl⟩ := hact
      obtain ⟨news, hsr⟩ := src_of h hxv hsrc
      obtain ⟨v', w', hr, ρ', h1, h2, h3⟩ := app_core (P := P) (ty := o.type) h ht hH (by rw [← hle]; exact hp hle) hsr hu hi hz rfl hk hzs h63 hb
      exact fin (by rw [hv]; exact hr) h1 h2 h3
  · rename_i he
    have hv := val_of ht he
    split at hact
    case h_2 => cases hact
    case h_1 hs0 =>
    split at hact
    case isFalse => cases hact
    case isTrue hc =>
    simp only [Option.some.injEq, Prod.mk.injEq] at hact
    obtain ⟨rfl, rfl⟩ := hact
    obtain ⟨news, hsr⟩ := src_of h hxv hsrc
    obtain ⟨v1, v2, v3, v4⟩ := virt_rep h ht hs0 e ie.size
    have hsr' : Src w NA (setR ρ site none) (setH H (some (site, .arr e ie.size []))) ie.size src (a.eval x) news :=
      ⟨hsr.is, hsr.len, hsr.one, hsr.row, fun j row i x hj hx => by
        obtain ⟨v, q1, q2⟩ := hsr.cell j row i x hj hx
        exact ⟨v, q1, q2.move v3⟩⟩
    obtain ⟨v', w', hr, ρ', h1, h2, h3⟩ := app_core (P := P) (ty := o.type) (id := site) (rows := []) (v := .slice none 0 0) v1 v2 (by simp [setH]) (.inl ⟨by simp [setR], rfl, rfl⟩) hsr' hu hi hz rfl hk hzs (by simpa using hc.1) (by simpa using hc.2)
    rw [setH_twice] at h1 h2 h3
    simp only [List.nil_append, List.length_nil, Nat.zero_add] at h1 h2 h3
    exact fin (by rw [hv]; exact hr) h1 h2 h3
  · cases hact

end
end Go.Proofs.Ytdgplebmlggmcaa
/- The shadow's operations are sound, VII: structs compared; all of them. -/
namespace Go.Proofs.Ytdgplebmlggmcaa
open Go.RowKit

/-- Cells compared. -/
def eqL : List Bool → List Value → List Value → Option Bool
  | [], [], [] => some true
  | true :: ks, .int k a :: xs, .int k' b :: ys => if k = k' then (eqL ks xs ys).map fun r => a == b && r else none
  | false :: ks, .bool a :: xs, .bool b :: ys => (eqL ks xs ys).map fun r => a == b && r
  | _, _, _ => none

theorem eqL_cons {q : Bool} {ks : List Bool} {xs ys : List Value} {r : Bool} (h : eqL (q :: ks) xs ys = some r) : ∃ x xs' y ys' r1 r2, xs = x :: xs' ∧ ys = y :: ys' ∧ eqL ks xs' ys' = some r2 ∧ r = (r1 && r2) ∧
    ((q = true ∧ ∃ k a b, x = .int k a ∧ y = .int k b ∧ r1 = (a == b)) ∨ (q = false ∧ ∃ a b, x = .bool a ∧ y = .bool b ∧ r1 = (a == b))) := by
  unfold eqL at h
  split at h
  · contradiction
  · rename_i ks' k a xs' k' b ys' e
    simp only [List.cons.injEq] at e
    obtain ⟨rfl, rfl⟩ := e
    split at h
    case isFalse => cases h
    case isTrue hk =>
    subst hk
    simp only [Option.map_eq_some_iff] at h
    obtain ⟨r2, h, rfl⟩ := h
    exact ⟨_, _, _, _, _, r2, rfl, rfl, h, rfl, .inl ⟨rfl, k, a, b, rfl, rfl, rfl⟩⟩
  · rename_i ks' a xs' b ys' e
    simp only [List.cons.injEq] at e
    obtain ⟨rfl, rfl⟩ := e
    simp only [Option.map_eq_some_iff] at h
    obtain ⟨r2, h, rfl⟩ := h
    exact ⟨_, _, _, _, _, r2, rfl, rfl, h, rfl, .inr ⟨rfl, a, b, rfl, rfl, rfl⟩⟩
  · cases h

theorem eqL_nil {xs ys : List Value} {r : Bool} (h : eqL [] xs ys = some r) : xs = [] ∧ ys = [] ∧ r = true := by
  unfold eqL at h
  split at h
  · simp at h; exact ⟨rfl, rfl, h⟩
  · rename_i e; cases e
  · rename_i e; cases e
  · cases h

theorem eqL_len : ∀ {ks : List Bool} {xs ys : List Value} {r : Bool}, eqL ks xs ys = some r → xs.length = ks.length ∧ ys.length = ks.length
  | [], xs, ys, r, h => by obtain ⟨rfl, rfl, _⟩ := eqL_nil h; simp
  | q :: ks, xs, ys, r, h => by
    obtain ⟨x, xs', y, ys', r1, r2, rfl, rfl, h2, _, _⟩ := eqL_cons h
    have := eqL_len h2
    simp [this.1, this.2]

theorem eqL_split : ∀ {k1 k2 : List Bool} {xs ys : List Value} {r : Bool}, eqL (k1 ++ k2) xs ys = some r → ∃ r1 r2, eqL k1 (xs.take k1.length) (ys.take k1.length) = some r1 ∧ eqL k2 (xs.drop k1.length) (ys.drop k1.length) = some r2 ∧ r = (r1 && r2)
  | [], k2, xs, ys, r, h => ⟨true, r, rfl, h, by simp⟩
  | q :: k1, k2, xs, ys, r, h => by
    obtain ⟨x, xs', y, ys', p1, p2, rfl, rfl, h2, rfl, hq⟩ := eqL_cons h
    obtain ⟨r1, r2, e1, e2, rfl⟩ := eqL_split h2
    refine ⟨p1 && r1, r2, ?_, by simpa using e2, by rw [Bool.and_assoc]⟩
    simp only [List.length_cons, List.take_succ_cons]
    rcases hq with ⟨rfl, k, a, b, rfl, rfl, rfl⟩ | ⟨rfl, a, b, rfl, rfl, rfl⟩ <;> simp [eqL, e1]

theorem eqL_of {w : World} {NA : Nat → Prop} {ρ : Nat → Option Nat} {H : Nat → Option Blk} : ∀ {ks : List Bool} {xs ys : List SV} {us vs : List Value} {r : Bool}, eqS ks xs ys = some r → RepL w NA ρ H xs us → RepL w NA ρ H ys vs → eqL ks us vs = some r := by
  intro ks
  induction ks with
  | nil =>
    intro xs ys us vs r h h1 h2
    unfold eqS at h
    split at h
    · have e1 : us = [] := List.length_eq_zero_iff.1 h1.1
      have e2 : vs = [] := List.length_eq_zero_iff.1 h2.1
      subst e1; subst e2; exact h
    · rename_i e; cases e
    · rename_i e; cases e
    · cases h
  | cons q ks ih =>
    intro xs ys us vs r h h1 h2
    have tail : ∀ {x : SV} {xs : List SV} {v : Value} {vs : List Value}, RepL w NA ρ H (x :: xs) (v :: vs) → RepS w NA ρ H x v ∧ RepL w NA ρ H xs vs := fun {x xs v vs} h =>
      ⟨h.2 0 x v rfl rfl, ⟨by have := h.1; simpa using this, fun i x y hx hy => h.2 (i + 1) x y (by simpa using hx) (by simpa using hy)⟩⟩
    have val : ∀ {u v : Value}, RepS w NA ρ H (.c (.val u)) v → v = u := fun h => by
      cases h with
      | c _ _ r => cases r; rfl
    unfold eqS at h
    split at h
    · contradiction
    · rename_i ks' k a xs' k' b ys' e
      simp only [List.cons.injEq] at e
      obtain ⟨rfl, rfl⟩ := e
      split at h
      case isFalse => cases h
      case isTrue hk =>
      subst hk
      simp only [Option.map_eq_some_iff] at h
      obtain ⟨r2, h, rfl⟩ := h
      match us, vs, h1, h2 with
      | [], _, h1, _ => exact absurd h1.1 (by simp)
      | _ :: _, [], _, h2 => exact absurd h2.1 (by simp)
      | u :: us, v :: vs, h1, h2 =>
        obtain ⟨a1, a2⟩ := tail h1
        obtain ⟨b1, b2⟩ := tail h2
        rw [val a1, val b1]
        simp [eqL, ih h a2 b2]
    · rename_i ks' a xs' b ys' e
      simp only [List.cons.injEq] at e
      obtain ⟨rfl, rfl⟩ := e
      simp only [Option.map_eq_some_iff] at h
      obtain ⟨r2, h, rfl⟩ := h
      match us, vs, h1, h2 with
      | [], _, h1, _ => exact absurd h1.1 (by simp)
      | _ :: _, [], _, h2 => exact absurd h2.1 (by simp)
      | u :: us, v :: vs, h1, h2 =>
        obtain ⟨a1, a2⟩ := tail h1
        obtain ⟨b1, b2⟩ := tail h2
        rw [val a1, val b1]
        simp [eqL, ih h a2 b2]
    · cases h

section
variable {P : Program} {w : World}

/-- A value of such cells. -/
def view (ag : Bool) (us : List Value) : Value := if ag then .agg us.toArray else us.headD undef

/-- Whether two values of a flat type are equal. -/
def FlatEq (P : Program) (dd : Nat) (t : TypeId) (ks : List Bool) (ag : Bool) : Prop :=
  ∀ (w : World) (us vs : List Value) (r : Bool), eqL ks us vs = some r → (Op.equalIn dd t (view ag us) (view ag vs)).run P w = .ok r w

theorem part_view {e : TypeId} {ag : Bool} {n : Nat} (ha : isAggT P e = some ag) (hn : sizeT P e = some n) (hag : ag = true ∨ n = 1) {us : Array Value} {off : Nat} (hf : off + n ≤ us.size) (w : World) :
    (part e us off).run P w = .ok (view ag ((us.toList.drop off).take n)) w := part_run ha hn hag hf

theorem fields_eq {dd : Nat} (us vs : Array Value) {d : Nat} (IH : ∀ t ks, flatT P d t = some ks → ∃ ag, isAggT P t = some ag ∧ (ag = true ∨ ks.length = 1) ∧ FlatEq P dd t ks ag) : ∀ (fs : List Field) (acc : Nat) (ks : List Bool) (w : World) (r : Bool), flatFs P (flatT P d) fs acc = some ks →
    eqL ks (us.toList.drop acc) (vs.toList.drop acc) = some r → (Op.eqFields dd us vs fs).run P w = .ok r w
  | [], acc, ks, w, r, hf, he => by
    simp [flatFs] at hf; subst hf
    obtain ⟨_, _, rfl⟩ := eqL_nil he
    simp [Op.eqFields]
  | f :: fs, acc, ks, w, r, hf, he => by
    unfold flatFs at hf
    cases hk : flatT P d f.type with
    | none => rw [hk] at hf; simp at hf
    | some k1 =>
      rw [hk] at hf
      simp only at hf
      split at hf
      case isFalse => cases hf
      case isTrue hc =>
      obtain ⟨h1, h2, h3, hk0⟩ := hc
      simp only [Option.map_eq_some_iff] at hf
      obtain ⟨k2, hf, rfl⟩ := hf
      obtain ⟨ag, q1, q2, q3⟩ := IH f.type k1 hk
      have hl := eqL_len he
      simp at hl
      obtain ⟨r1, r2, e1, e2, rfl⟩ := eqL_split he
      rw [List.drop_drop, List.drop_drop] at e2
      have hq := q3 w _ _ r1 e1
      have hrest := fields_eq us vs IH fs (acc + k1.length) k2 w r2 hf e2
      have p1 := part_view q1 h3 q2 (us := us) (off := acc) (by omega) w
      have p2 := part_view q1 h3 q2 (us := vs) (off := acc) (by omega) w
      unfold Op.eqFields
      rw [if_pos h1, h2]
      simp only [Sem.run_bind, p1, p2, hq, Result.andThen_ok]
      cases r1 <;> simp [hrest]

theorem items_eq {dd : Nat} {e : TypeId} {ks : List Bool} {ag : Bool} (us vs : Array Value) (ha : isAggT P e = some ag) (hn : sizeT P e = some ks.length) (hag : ag = true ∨ ks.length = 1) (hk0 : ks.length ≠ 0) (IH : FlatEq P dd e ks ag) : ∀ (m i : Nat) (w : World) (r : Bool),
    eqL ((List.replicate m ks).flatten) (us.toList.drop (i * ks.length)) (vs.toList.drop (i * ks.length)) = some r → (Op.eqItems dd e ks.length us vs (List.range' i m)).run P w = .ok r w
  | 0, i, w, r, he => by
    obtain ⟨_, _, rfl⟩ := eqL_nil he
    simp [Op.eqItems]
  | m + 1, i, w, r, he => by
    have e0 : (i + 1) * ks.length = i * ks.length + ks.length := by rw [Nat.add_mul, Nat.one_mul]
    rw [List.replicate_succ, List.flatten_cons] at he
    have hl := eqL_len he
    rw [List.length_append] at hl
    simp at hl
    obtain ⟨r1, r2, e1, e2, rfl⟩ := eqL_split he
    rw [List.drop_drop, List.drop_drop, ← e0] at e2
    have hq := IH w _ _ r1 e1
    have hrest := items_eq us vs ha hn hag hk0 IH m (i + 1) w r2 e2
    have p1 := part_view ha hn hag (us := us) (off := i * ks.length) (by omega) w
    have p2 := part_view ha hn hag (us := vs) (off := i * ks.length) (by omega) w
    rw [List.range'_succ]
    unfold Op.eqItems
    simp only [Sem.run_bind, p1, p2, hq, Result.andThen_ok]
    cases r1 <;> simp [hrest]

theorem flat_eq : ∀ (d D : Nat) (t : TypeId) (ks : List Bool), flatT P d t = some ks → ∃ ag, isAggT P t = some ag ∧ (ag = true ∨ ks.length = 1) ∧ FlatEq P (D + d) t ks ag
  | 0, _, _, _, h => by simp [flatT] at h
  | d + 1, D, t, ks, h => by
    unfold flatT at h
    cases hu : P.underlying t with
    | none => rw [hu] at h; simp at h
    | some td =>
      rw [hu] at h
      cases td with
      | int k0 =>
        simp at h; subst h
        refine ⟨false, by simp [isAggT, hu, aggD], .inr rfl, fun w us vs r he => ?_⟩
        obtain ⟨x, xs', y, ys', r1, r2, rfl, rfl, h2, rfl, hq⟩ := eqL_cons he
        obtain ⟨rfl, rfl, rfl⟩ := eqL_nil h2
        rcases hq with ⟨_, k, a, b, rfl, rfl, rfl⟩ | ⟨h, _⟩
        · rw [Bool.and_true]; exact run_equalIn_int w (D + d) t k k0 a b hu
        · cases h
      | bool =>
        simp at h; subst h
        refine ⟨false, by simp [isAggT, hu, aggD], .inr rfl, fun w us vs r he => ?_⟩
        obtain ⟨x, xs', y, ys', r1, r2, rfl, rfl, h2, rfl, hq⟩ := eqL_cons he
        obtain ⟨rfl, rfl, rfl⟩ := eqL_nil h2
        rcases hq with ⟨h, _⟩ | ⟨_, a, b, rfl, rfl, rfl⟩
        · cases h
        · rw [Bool.and_true]; exact run_equalIn_bool' w (D + d) t a b hu
      | struct fs =>
        simp only at h
        split at h
        case isTrue => cases h
        case isFalse hst =>
        refine ⟨true, by simp [isAggT, hu, aggD], .inl rfl, fun w us vs r he => ?_⟩
        have hfs : P.fieldsOf t = fs := by simp [Program.fieldsOf, hu]
        show (Op.equalIn (D + d + 1) t (.agg us.toArray) (.agg vs.toArray)).run P w = _
        rw [run_equalIn_struct w (D + d) t _ _ (by rw [hfs]; exact hu) (by simpa using hst), hfs]
        exact fields_eq us.toArray vs.toArray (fun t k hk => flat_eq d D t k hk) fs.toList 0 ks w r h (by simpa using he)
      | array m e =>
        simp only at h
        cases hk : flatT P d e with
        | none => rw [hk] at h; simp at h
        | some k =>
          cases hi : P.info? e with
          | none => rw [hk, hi] at h; simp at h
          | some i =>
            rw [hk, hi] at h
            simp only at h
            split at h
            case isFalse => cases h
            case isTrue hik =>
            simp at h; subst h
            obtain ⟨ag, q1, q2, q3⟩ := flat_eq d D e k hk
            refine ⟨true, by simp [isAggT, hu, aggD], .inl rfl, fun w us vs r he => ?_⟩
            show (Op.equalIn (D + d + 1) t (.agg us.toArray) (.agg vs.toArray)).run P w = _
            have hc : P.cellsOf e = k.length := by simp [Program.cellsOf, hi, hik.1]
            rw [run_equalIn_array w (D + d) _ _ hu hi, hc, List.range_eq_range']
            exact items_eq us.toArray vs.toArray q1 (by simp [sizeT, hi, hik.1]) q2 hik.2 q3 m 0 w r (by simpa using he)
      | _ => simp at h

end
end Go.Proofs.Ytdgplebmlggmcaa
/- The shadow's operations are sound, VIII: all of them. -/
namespace Go.Proofs.Ytdgplebmlggmcaa
open Go.RowKit

section
variable {P : Program} {w0 w : World} {N0 NA : Nat → Prop} {ρ : Nat → Option Nat} {H : Nat → Option Blk} {T : Nat → SV} {a : Act} {o : Oper}

theorem aggS_rep {x : SV} {v : Value} (h : RepS w NA ρ H x v) {xs : List SV} (hx : aggS x = some xs) : ∃ vs : Array Value, v = .agg vs ∧ RepL w NA ρ H xs vs.toList := by
  unfold aggS at hx
  split at hx
  · cases hx
    cases h with
    | agg _ vs hs hv => exact ⟨vs, rfl, by simpa using hs, fun i x v hx hv' => hv i x v hx (by simpa using hv')⟩
  · cases hx
    cases h with
    | c _ _ r => cases r with
      | agg _ vs hs hv => exact ⟨vs, rfl, RepL.of_closed (by simpa using hs) (fun i x v hx hv' => hv i x v hx (by simpa using hv'))⟩
  · cases hx
    cases h with
    | c _ _ r => cases r with
      | val => exact ⟨_, rfl, rep_vals _⟩
  · cases hx

theorem good_eqC (h : RepH w0 N0 NA ρ H w) (ht : ∀ i, RepS w NA ρ H (T i) (a.tmps.getD i undef)) {neg : Bool} {t t' : TypeId} {x z : Operand} (ho : o.op = .binOp (if neg then .neq else .eql) t x z t') {ks : List Bool} (hg : P.eqGuardType P.depth t = false) (hf : flatT P 12 t = some ks) (hag : isAggT P t = some true)
    {site : Nat} {y : SV} {ef : Option (Nat × Blk)} (hact : actF site (ev T) H (.eqC neg ks x z) = some (y, ef)) : Good P w0 N0 NA o a w T (setH H ef) y := by
  simp only [actF] at hact
  split at hact
  case h_2 => cases hact
  case h_1 xs ys hx hy =>
  simp only [Option.map_eq_some_iff, Prod.mk.injEq] at hact
  obtain ⟨r, he, rfl, rfl⟩ := hact
  obtain ⟨us, hu, ru⟩ := aggS_rep (rep_ev ht x) hx
  obtain ⟨vs, hv, rv⟩ := aggS_rep (rep_ev ht z) hy
  obtain ⟨ag, q1, _, q3⟩ := flat_eq 12 9988 t ks hf
  rw [hag] at q1; cases q1
  have hq := q3 w us.toList vs.toList r (eqL_of he ru rv)
  simp only [view, if_true, Array.toArray_toList] at hq
  refine good_pure h ht (v := .bool (if neg then !r else r)) ?_ (.c _ _ (.val _))
  cases neg with
  | true =>
    simp only [if_true] at ho ⊢
    simp only [execOp, ho, hu, hv, Sem.run_bind, run_eqGuard_agg w .neq t x z us vs hg, Result.andThen_ok, run_neq_struct, Sem.run_pure]
    rw [show (10000 : Nat) = 9988 + 12 from rfl, hq]
    simp
  | false =>
    simp only [Bool.false_eq_true, if_false] at ho ⊢
    simp only [execOp, ho, hu, hv, Sem.run_bind, run_eqGuard_agg w .eql t x z us vs hg, Result.andThen_ok, run_eql_struct, Sem.run_pure]
    rw [show (10000 : Nat) = 9988 + 12 from rfl, hq]
    simp

theorem act_good (h : RepH w0 N0 NA ρ H w) (ht : ∀ i, RepS w NA ρ H (T i) (a.tmps.getD i undef)) {so : SOp} (hc : compOp P o = some so) {site : Nat} {y : SV} {ef : Option (Nat × Blk)} (hact : actF site (ev T) H so = some (y, ef)) :
    Good P w0 N0 NA o a w T (setH H ef) y := by
  unfold compOp at hc
  split at hc
  · rename_i x ho; cases hc; exact good_mov h ht (.inl ho) hact
  · rename_i x ho; cases hc; exact good_mov h ht (.inr ho) hact
  · rename_i c x z ho; cases hc; exact good_pick h ht ho hact
  · rename_i t x ho; cases hc; exact good_box h ht ho hact
  · rename_i t ho
    split at hc
    case h_2 => cases hc
    case h_1 it hi =>
    simp only [Option.map_eq_some_iff] at hc
    obtain ⟨z, hz, rfl⟩ := hc
    exact good_alloc h ht ho hi hz hact
  · rename_i t ps ho
    split at hc
    · rename_i it n e hi hu
      split at hc
      case h_2 => cases hc
      case h_1 z ie hz hie =>
      simp only [Option.map_eq_some_iff] at hc
      obtain ⟨l, hl, rfl⟩ := hc
      exact good_build h ht ho (fun parts cells hf => by simp only [Program.built, hi, hu, hz, hie]; exact hf) hl hact
    · rename_i it fields hi hu
      split at hc
      case h_2 => cases hc
      case h_1 z pl hz hpl =>
      simp only [Option.map_eq_some_iff] at hc
      obtain ⟨l, hl, rfl⟩ := hc
      exact good_build h ht ho (fun parts cells hf => by simp only [Program.built, hi, hu, hz, hpl]; exact hf) hl hact
    · cases hc
  · rename_i t len ps ho
    split at hc
    case h_2 => cases hc
    case h_1 e hu =>
    split at hc
    case h_2 => cases hc
    case h_1 ie hi =>
    split at hc
    case h_2 => cases hc
    case h_1 z hz =>
    split at hc
    case isFalse => cases hc
    case isTrue hcond =>
    cases hc
    exact good_buildSl h ht ho hu hi hz hcond.1 hcond.2.1 hcond.2.2.1 hcond.2.2.2.1 hcond.2.2.2.2 hact
  · rename_i t x ho
    split at hc
    case h_2 => cases hc
    case h_1 ag n ha hn =>
    split at hc
    case isFalse => cases hc
    case isTrue hcond =>
    cases hc
    exact good_load h ht ho ha hn hcond hact
  · rename_i t x z ho
    split at hc
    case h_2 => cases hc
    case h_1 n hn =>
    cases hc
    exact good_store h ht ho hn hact
  · rename_i s x f ho
    split at hc
    case h_2 => cases hc
    case h_1 fs hu =>
    split at hc
    case h_2 => cases hc
    case h_1 fd hf =>
    split at hc
    case h_2 => cases hc
    case h_1 n hn =>
    split at hc
    case isTrue => cases hc
    case isFalse hn0 =>
    cases hc
    exact good_fld h ht ho hu hf hn hn0 hact
  · rename_i s x f ho
    split at hc
    case h_2 => cases hc
    case h_1 fs hu =>
    split at hc
    case h_2 => cases hc
    case h_1 fd hf =>
    split at hc
    case h_2 => cases hc
    case h_1 ag n ha hn =>
    split at hc
    case isFalse => cases hc
    case isTrue hcond =>
    cases hc
    exact good_field h ht ho hu hf ha hn hcond hact
  · rename_i t x i ho
    split at hc
    · rename_i e hu
      simp only [Option.map_eq_some_iff] at hc
      obtain ⟨k, hk, rfl⟩ := hc
      exact good_idxS h ht ho hu hk hact
    · rename_i n e hu
      simp only [Option.map_eq_some_iff] at hc
      obtain ⟨k, hk, rfl⟩ := hc
      exact good_idxA h ht ho hu hk hact
    · cases hc
  · rename_i t x i ho
    split at hc
    case h_2 => cases hc
    case h_1 n e hu =>
    split at hc
    case h_2 => cases hc
    case h_1 ag k ha hk =>
    split at hc
    case isFalse => cases hc
    case isTrue hcond =>
    cases hc
    exact good_index h ht ho hu ha hk hcond hact
  · rename_i op t x z t' ho
    split at hc
    · split at hc
      · cases hc
      · cases hc
      · cases hc
        exact good_bin h ht ho ⟨by assumption, by assumption⟩ hact
    · rename_i hu
      split at hc
      · cases hc; exact good_binB (neg := false) h ht (by simpa using ho) hu hact
      · cases hc; exact good_binB (neg := true) h ht (by simpa using ho) hu hact
      · cases hc
    · rename_i fs hu
      split at hc
      case isTrue => cases hc
      case isFalse hg =>
      split at hc
      · rename_i ks hf; cases hc; exact good_eqC (neg := false) h ht (by simpa using ho) (by simpa using hg) hf (by simp [isAggT, hu, aggD]) hact
      · rename_i ks hf; cases hc; exact good_eqC (neg := true) h ht (by simpa using ho) (by simpa using hg) hf (by simp [isAggT, hu, aggD]) hact
      · cases hc
    · rename_i n e hu
      split at hc
      case isTrue => cases hc
      case isFalse hg =>
      split at hc
      · rename_i ks hf; cases hc; exact good_eqC (neg := false) h ht (by simpa using ho) (by simpa using hg) hf (by simp [isAggT, hu, aggD]) hact
      · rename_i ks hf; cases hc; exact good_eqC (neg := true) h ht (by simpa using ho) (by simpa using hg) hf (by simp [isAggT, hu, aggD]) hact
      · cases hc
    · cases hc
  · rename_i op t x ho; cases hc; exact good_un h ht ho hact
  · rename_i src dst x ho
    split at hc
    case h_2 => cases hc
    case h_1 k' k hs hd =>
    cases hc
    exact good_conv h ht ho hs hd hact
  · rename_i t l c ho
    split at hc
    case h_2 => cases hc
    case h_1 e hu =>
    split at hc
    case h_2 => cases hc
    case h_1 ie hi =>
    split at hc
    case h_2 => cases hc
    case h_1 z hz =>
    split at hc
    case isFalse => cases hc
    case isTrue hcond =>
    cases hc
    exact good_makeSl h ht ho hu hi hz hcond.1 hcond.2.1 hcond.2.2 hact
  · rename_i x i ho; cases hc; exact good_ext h ht ho hact
  · rename_i x t ho
    split at hc
    case h_2 => cases hc
    case h_1 e hu =>
    cases hc
    exact good_len h ht ho hu hact
  · rename_i s x t t' ho
    split at hc
    case isFalse => cases hc
    case isTrue htt =>
    subst htt
    split at hc
    case h_2 => cases hc
    case h_1 e hu =>
    split at hc
    case h_2 => cases hc
    case h_1 ie hi =>
    split at hc
    case h_2 => cases hc
    case h_1 z hz =>
    split at hc
    case isFalse => cases hc
    case isTrue hcond =>
    cases hc
    exact good_append h ht ho hu hi hz hcond.1 hcond.2 hact
  · rename_i xs ts ho; cases hc; exact good_max h ht ho hact
  · rename_i xs ts ho; cases hc; exact good_min h ht ho hact
  · split at hc
    case h_2 => cases hc
    case h_1 fn hfn =>
    split at hc
    case isFalse => cases hc
    case isTrue =>
    cases hc
    simp [actF] at hact
  · cases hc

theorem act_closed (h : RepH w0 N0 NA ρ H w) (ht : ∀ i, RepS w NA ρ H (T i) (a.tmps.getD i undef)) (hna : ∀ b, NA b → b < w0.heap.size) {e : TypeId} {k : Nat} {zs : List Value} {len : Nat} {ps : List (Nat × Operand)} (hc : compOp P o = some (.buildSl e k zs len ps)) {site : Nat} {y : SV} {ef : Option (Nat × Blk)}
    (hact : actF site (ev T) H (.buildSl e k zs len ps) = some (y, ef)) : ∃ rows v w', y = .own site len ∧ ef = some (site, .arr e k rows) ∧ (execOp a.eval o).run P w = .ok (.value v) w' ∧ Ext w w' ∧ RepC w' (Mut NA ρ H) (.sl k rows) v := by
  unfold compOp at hc
  split at hc
  case h_7 t len' ps' ho =>
    split at hc
    case h_2 => cases hc
    case h_1 e hu =>
    split at hc
    case h_2 => cases hc
    case h_1 ie hi =>
    split at hc
    case h_2 => cases hc
    case h_1 z hz =>
    split at hc
    case isFalse => cases hc
    case isTrue hcond =>
    cases hc
    exact good_buildC h ht ho hu hi hz hcond.1 hcond.2.1 hcond.2.2.1 hcond.2.2.2.1 hcond.2.2.2.2 hna hact
  all_goals (exfalso; (repeat' (split at hc)) <;> simp_all)

end
end Go.Proofs.Ytdgplebmlggmcaa
/- Regions of the shadow: steps; two that have nothing to do with one another change places. -/
namespace Go.Proofs.Ytdgplebmlggmcaa
open Go.RowKit

/-- What a call by value answers. -/
def SC (P : Program) (f : FuncId) (cs : List CV) (r : CV) : Prop :=
  ∀ (w : World) (NA : Nat → Prop) (vs : Array Value), (∀ b, NA b → b < w.heap.size) → vs.size = cs.length → (∀ (i : Nat) x v, cs[i]? = some x → vs[i]? = some v → RepC w NA x v) →
    Calls P f vs w fun e w' => ∃ v, e = .returned v ∧ RepC w' NA r v ∧ Ext w w'

/-- A value without slices. -/
inductive Flat : CV → Prop
  | val (v : Value) : Flat (.val v)
  | agg (xs : List CV) : (∀ (i : Nat) x, xs[i]? = some x → Flat x) → Flat (.agg xs)
  | tup (xs : List CV) : (∀ (i : Nat) x, xs[i]? = some x → Flat x) → Flat (.tup xs)

theorem Flat.rep {w : World} {N N' : Nat → Prop} {x : CV} {v : Value} (hf : Flat x) (h : RepC w N x v) : RepC w N' x v := by
  induction h with
  | val v => exact .val v
  | agg xs vs hs _ ih =>
    cases hf with
    | agg _ hx => exact .agg xs vs hs (fun i x v h1 h2 => ih i x v h1 h2 (hx i x h1))
  | tup xs vs hs _ ih =>
    cases hf with
    | tup _ hx => exact .tup xs vs hs (fun i x v h1 h2 => ih i x v h1 h2 (hx i x h1))
  | nil => cases hf
  | sl => cases hf

/-- A value that holds nothing of the call's own. -/
def SV.isC : SV → Bool
  | .c _ => true
  | _ => false
def SV.pure : SV → Bool
  | .agg xs => xs.all SV.isC
  | x => x.isC

structure SRop where
  dst : Option Nat
  guard : Option (Nat × Bool)
  op : SOp
  free : List Nat
  keep : Bool

def SRop.site (o : SRop) : Nat := o.dst.getD 0

inductive DoesS (P : Program) (o : SRop) (T : Nat → SV) (H : Nat → Option Blk) : SV → Option (Nat × Blk) → Prop
  | act (x : SV) (e : Option (Nat × Blk)) : actF o.site (ev T) H o.op = some (x, e) → DoesS P o T H x e
  | frz (e : TypeId) (k : Nat) (zs : List Value) (len : Nat) (ps : List (Nat × Operand)) (i l j : Nat) (t : TypeId) (k' : Nat) (rows : List (List CV)) : o.op = .buildSl e k zs len ps → actF o.site (ev T) H o.op = some (.own i l, some (j, .arr t k' rows)) → DoesS P o T H (.c (.sl k' rows)) none
  | call (f : FuncId) (xs : List Operand) (cs : List CV) (r : CV) : o.op = .call f xs → closeAll H (xs.map (ev T)) = some cs → SC P f cs r → ((xs.map (ev T)).all SV.pure = true ∨ Flat r) → DoesS P o T H (openC r) none

abbrev SS := (Nat → SV) × (Nat → Option Blk)

/-- What an operation that is passed over leaves; a guard that was passed over holds the next one back too. -/
def SV.un : SV := .c (.val undef)
def goes (x : SV) (b : Bool) : Option Bool := match x with
  | .c (.val (.bool t)) => some (t == b)
  | .c (.val (.tuple _)) => some false
  | _ => none

/-- What an operation leaves, its guard heeded. -/
def OutS (P : Program) (o : SRop) (T : Nat → SV) (H : Nat → Option Blk) (x : SV) (e : Option (Nat × Blk)) : Prop := match o.guard with
  | none => DoesS P o T H x e
  | some (g, b) => ∃ t, goes (T g) b = some t ∧ if t = true then DoesS P o T H x e else x = .un ∧ e = none

def Step (P : Program) (o : SRop) (S S' : SS) : Prop := ∃ x e, OutS P o S.1 S.2 x e ∧ S' = (putT S.1 o.dst x, setH S.2 e)

/-- The blocks that an operation looks at. -/
def refs : SV → List Nat
  | .own id _ | .ptr id _ | .pow id _ _ _ => [id]
  | _ => []
def refP : SV → List Nat
  | .pow id _ _ _ => [id]
  | _ => []
def refsA : SV → List Nat
  | .agg xs => xs.flatMap refs
  | x => refs x

def fp (g : Operand → SV) : SOp → List Nat
  | .load _ _ a => refs (g a)
  | .store _ a _ => refs (g a)
  | .fld _ x => refP (g x)
  | .idxS _ x _ => refs (g x)
  | .idxA _ _ x _ => refP (g x)
  | .len x => refs (g x)
  | .append _ _ _ s x => refs (g s) ++ refs (g x)
  | .call _ xs => xs.flatMap fun x => refsA (g x)
  | _ => []

/-- Whether it may write a block, and whether it may make one. -/
def wr : SOp → Bool
  | .store .. | .append .. => true
  | _ => false
def al : SOp → Bool
  | .box .. | .alloc .. | .buildSl .. | .makeSl .. | .append .. => true
  | _ => false
/-- Whether it may look at a block. -/
def lk : SOp → Bool
  | .load .. | .store .. | .fld .. | .idxS .. | .idxA .. | .len .. | .append .. | .call .. => true
  | _ => false

theorem fp_lk {g : Operand → SV} {so : SOp} (h : lk so = false) : fp g so = [] := by cases so <;> simp [lk] at h <;> rfl

theorem rowsOf_congr {H H' : Nat → Option Blk} {k : Nat} {x : SV} (h : ∀ id ∈ refs x, H id = H' id) : rowsOf H k x = rowsOf H' k x := by
  cases x with
  | own id len => have := h id (by simp [refs]); simp only [rowsOf, this]
  | c y => cases y with
    | val v => cases v with
      | slice a n c => (cases a <;> cases n <;> cases c <;> rfl)
      | _ => rfl
    | _ => rfl
  | _ => rfl

theorem act_congr {g g' : Operand → SV} {H H' : Nat → Option Blk} {site : Nat} {so : SOp} (hg : ∀ x ∈ so.opds, g x = g' x) (hH : ∀ id ∈ fp g so, H id = H' id) (hs : al so = true → H site = H' site) : actF site g H so = actF site g' H' so := by
  cases so with
  | mov x => simp only [actF]; rw [hg x (by simp [SOp.opds])]
  | pick c x z => simp only [actF]; rw [hg c (by simp [SOp.opds]), hg x (by simp [SOp.opds]), hg z (by simp [SOp.opds])]
  | box t x => simp only [actF]; rw [hg x (by simp [SOp.opds]), hs rfl]
  | alloc t z => simp only [actF]; rw [hs rfl]
  | build z ps =>
    simp only [actF]
    have : (ps.map fun p => (p.1, p.2.1, g p.2.2)) = ps.map fun p => (p.1, p.2.1, g' p.2.2) := List.map_congr_left fun p hp => by rw [hg p.2.2 (by simp only [SOp.opds, List.mem_map]; exact ⟨p, hp, rfl⟩)]
    rw [this]
  | buildSl e k z len ps =>
    simp only [actF]
    have : (ps.map fun p => (p.1 * k, k, g p.2)) = ps.map fun p => (p.1 * k, k, g' p.2) := List.map_congr_left fun p hp => by rw [hg p.2 (by simp only [SOp.opds, List.mem_map]; exact ⟨p, hp, rfl⟩)]
    rw [this, hs rfl]
  | load ag n x =>
    have hx := hg x (by simp [SOp.opds])
    simp only [actF, ← hx]
    simp only [fp] at hH
    cases hc : g x with
    | ptr id j => have := hH id (by simp [hc, refs]); simp only [this]
    | pow id len i j => have := hH id (by simp [hc, refs]); simp only [this]
    | _ => rfl
  | store n x z =>
    have hx := hg x (by simp [SOp.opds])
    have hz := hg z (by simp [SOp.opds])
    simp only [actF, ← hx, ← hz]
    simp only [fp] at hH
    cases hq : (g z).cells with
    | none => cases hc : g x <;> rfl
    | some vs =>
      cases hc : g x with
      | ptr id j => have := hH id (by simp [hc, refs]); simp only [this]
      | pow id len i j => have := hH id (by simp [hc, refs]); simp only [this]
      | _ => rfl
  | fld off x =>
    have hx := hg x (by simp [SOp.opds])
    simp only [actF, ← hx]
    simp only [fp] at hH
    cases hc : g x with
    | pow id len i j => have := hH id (by simp [hc, refP]); simp only [this]
    | _ => rfl
  | field ag off n x => simp only [actF]; rw [hg x (by simp [SOp.opds])]
  | idxS k x i =>
    have hx := hg x (by simp [SOp.opds])
    have hi := hg i (by simp [SOp.opds])
    simp only [actF, ← hx, ← hi]
    simp only [fp] at hH
    cases hc : g x with
    | own id len => have := hH id (by simp [hc, refs]); simp only [this]
    | c y => cases y <;> rfl
    | _ => rfl
  | idxA len k x i =>
    have hx := hg x (by simp [SOp.opds])
    have hi := hg i (by simp [SOp.opds])
    simp only [actF, ← hx, ← hi]
    simp only [fp] at hH
    cases hc : g x with
    | pow id l i0 j => have := hH id (by simp [hc, refP]); simp only [this]
    | _ => rfl
  | index len k ag x i => simp only [actF]; rw [hg x (by simp [SOp.opds]), hg i (by simp [SOp.opds])]
  | bin op x y => simp only [actF]; rw [hg x (by simp [SOp.opds]), hg y (by simp [SOp.opds])]
  | binB op x y => simp only [actF]; rw [hg x (by simp [SOp.opds]), hg y (by simp [SOp.opds])]
  | eqC neg ks x y => simp only [actF]; rw [hg x (by simp [SOp.opds]), hg y (by simp [SOp.opds])]
  | un op x => simp only [actF]; rw [hg x (by simp [SOp.opds])]
  | len x =>
    have hx := hg x (by simp [SOp.opds])
    simp only [actF, ← hx]
    simp only [fp] at hH
    cases hc : g x with
    | own id len => have := hH id (by simp [hc, refs]); simp only [this]
    | c y => cases y with
      | val v => cases v with
        | slice a n c => (cases a <;> cases n <;> cases c <;> rfl)
        | _ => rfl
      | _ => rfl
    | _ => rfl
  | append e k bytes s x =>
    have hx := hg x (by simp [SOp.opds])
    have hs' := hg s (by simp [SOp.opds])
    simp only [actF, ← hx, ← hs']
    simp only [fp] at hH
    rw [rowsOf_congr (H := H) (H' := H') (fun id hid => hH id (List.mem_append_right _ hid)), hs rfl]
    cases rowsOf H' k (g x) with
    | none => rfl
    | some src =>
      cases hc : g s with
      | own id len => have := hH id (by simp [hc, refs]); simp only [this]
      | c y => cases y with
        | val v => cases v with
          | slice a n c => (cases a <;> cases n <;> cases c <;> rfl)
          | _ => rfl
        | _ => rfl
      | _ => rfl
  | makeSl e k bytes z l c => simp only [actF]; rw [hg l (by simp [SOp.opds]), hg c (by simp [SOp.opds]), hs rfl]
  | ext x i => simp only [actF]; rw [hg x (by simp [SOp.opds])]
  | conv k x => simp only [actF]; rw [hg x (by simp [SOp.opds])]
  | max xs => simp only [actF]; rw [List.map_congr_left fun x hx => hg x (by simpa [SOp.opds] using hx)]
  | min xs => simp only [actF]; rw [List.map_congr_left fun x hx => hg x (by simpa [SOp.opds] using hx)]
  | call f xs => rfl

theorem act_eff {g : Operand → SV} {H : Nat → Option Blk} {site : Nat} {so : SOp} {x : SV} {id : Nat} {B : Blk} (h : actF site g H so = some (x, some (id, B))) : (al so = true ∧ id = site) ∨ (wr so = true ∧ id ∈ fp g so) := by
  cases so with
  | box t y =>
    simp only [actF] at h
    split at h
    · split at h <;> simp at h
      exact .inl ⟨rfl, h.2.1.symm⟩
    · cases h
  | alloc t z =>
    simp only [actF] at h
    split at h <;> simp at h
    exact .inl ⟨rfl, h.2.1.symm⟩
  | buildSl e k z len ps =>
    simp only [actF] at h
    split at h
    · split at h
      · split at h
        · split at h <;> simp at h
          exact .inl ⟨rfl, h.2.1.symm⟩
        · cases h
      · cases h
    · cases h
  | makeSl e k bytes z l c =>
    simp only [actF] at h
    split at h
    · split at h <;> simp at h
      exact .inl ⟨rfl, h.2.1.symm⟩
    · cases h
  | store n y z =>
    simp only [actF] at h
    split at h
    · rename_i i j vs hy hz
      split at h
      · split at h
        · split at h <;> simp at h
          exact .inr ⟨rfl, by simp [fp, hy, refs, h.2.1]⟩
        · cases h
      · cases h
    · rename_i i len q j vs hy hz
      split at h
      · split at h
        · split at h
          · split at h
            · split at h <;> simp at h
              exact .inr ⟨rfl, by simp [fp, hy, refs, h.2.1]⟩
            · cases h
          · cases h
        · cases h
      · cases h
    · cases h
  | append e k bytes s y =>
    simp only [actF] at h
    split at h
    · split at h
      · rename_i i len hs
        split at h
        · split at h <;> simp at h
          exact .inr ⟨rfl, by simp [fp, hs, refs, h.2.1]⟩
        · cases h
      · split at h
        · split at h <;> simp at h
          exact .inl ⟨rfl, h.2.1.symm⟩
        · cases h
      · cases h
    · cases h
  | _ => exfalso; simp only [actF] at h; (repeat' (split at h)) <;> simp at h

end Go.Proofs.Ytdgplebmlggmcaa
/- Regions of the shadow, II: whatever order is drawn. -/
namespace Go.Proofs.Ytdgplebmlggmcaa
open Go.RowKit

theorem fp_congr {g g' : Operand → SV} {so : SOp} (hg : ∀ x ∈ so.opds, g x = g' x) : fp g so = fp g' so := by
  cases so with
  | load ag n a => simp only [fp]; rw [hg a (by simp [SOp.opds])]
  | store n a x => simp only [fp]; rw [hg a (by simp [SOp.opds])]
  | fld off x => simp only [fp]; rw [hg x (by simp [SOp.opds])]
  | idxS k x i => simp only [fp]; rw [hg x (by simp [SOp.opds])]
  | idxA len k x i => simp only [fp]; rw [hg x (by simp [SOp.opds])]
  | len x => simp only [fp]; rw [hg x (by simp [SOp.opds])]
  | append e k bytes s x => simp only [fp]; rw [hg s (by simp [SOp.opds]), hg x (by simp [SOp.opds])]
  | call f xs =>
    simp only [fp]
    have h : ∀ x ∈ xs, g x = g' x := fun x hx => hg x (by simpa [SOp.opds] using hx)
    clear hg
    induction xs with
    | nil => rfl
    | cons x xs ih => simp only [List.flatMap_cons]; rw [h x (by simp), ih (fun y hy => h y (by simp [hy]))]
  | _ => rfl

theorem close1_congr {H H' : Nat → Option Blk} {x : SV} (h : ∀ id ∈ refs x, H id = H' id) : close1 H x = close1 H' x := by
  cases x with
  | own id len => have := h id (by simp [refs]); simp only [close1, this]
  | _ => rfl
theorem closeL_congr {H H' : Nat → Option Blk} : ∀ {xs : List SV} (_ : ∀ id ∈ xs.flatMap refs, H id = H' id), closeL H xs = closeL H' xs
  | [], _ => rfl
  | x :: xs, h => by
    simp only [closeL]
    rw [close1_congr (fun id hid => h id (by simp [List.flatMap_cons, hid])), closeL_congr (xs := xs) (fun id hid => h id (by rw [List.flatMap_cons]; exact List.mem_append_right _ hid))]
theorem close_congr {H H' : Nat → Option Blk} {x : SV} (h : ∀ id ∈ refsA x, H id = H' id) : close H x = close H' x := by
  cases x with
  | agg xs => simp only [close]; rw [closeL_congr h]
  | own id len => exact close1_congr (x := .own id len) h
  | _ => rfl
theorem closeAll_congr {H H' : Nat → Option Blk} : ∀ {xs : List SV} (_ : ∀ id ∈ xs.flatMap refsA, H id = H' id), closeAll H xs = closeAll H' xs
  | [], _ => rfl
  | x :: xs, h => by
    simp only [closeAll]
    rw [close_congr (fun id hid => h id (by simp [List.flatMap_cons, hid])), closeAll_congr (xs := xs) (fun id hid => h id (by rw [List.flatMap_cons]; exact List.mem_append_right _ hid))]

def opT : Operand → Option Nat
  | .tmp t => some t
  | _ => none

/-- The temporaries that an operation looks at. -/
def SRop.looks (o : SRop) : List Nat := o.op.opds.filterMap opT ++ (match o.guard with
  | some (g, _) => [g]
  | none => [])

def apartS (x y : SRop) : Bool :=
  (match x.dst with
   | some d => !y.looks.contains d && y.dst != some d
   | none => true) &&
  (match y.dst with
   | some d => !x.looks.contains d
   | none => true)

def comp2 (x y : SRop) (F G : List Nat) : Bool :=
  (!(wr x.op || wr y.op) || F.all (!G.contains ·)) && (!al x.op || !G.contains x.site) && (!al y.op || !F.contains y.site) && (!(al x.op && al y.op) || x.site != y.site)

theorem ev_put {T : Nat → SV} {d : Option Nat} {x : SV} {o : Operand} (h : ∀ i, d = some i → opT o ≠ some i) : ev (putT T d x) o = ev T o := by
  cases o with
  | tmp t =>
    cases d with
    | none => rfl
    | some d =>
      have : t ≠ d := fun e => h d rfl (by rw [e]; rfl)
      simp [ev, putT, this]
  | _ => rfl

section
variable {P : Program}

theorem DoesS.congr {o : SRop} {T T' : Nat → SV} {H H' : Nat → Option Blk} {x : SV} {e : Option (Nat × Blk)} (hg : ∀ y ∈ o.op.opds, ev T y = ev T' y) (hH : ∀ id ∈ fp (ev T) o.op, H id = H' id) (hs : al o.op = true → H o.site = H' o.site)
    (h : DoesS P o T H x e) : DoesS P o T' H' x e := by
  cases h with
  | act x e h => exact .act x e ((act_congr hg hH hs).symm.trans h)
  | frz e k zs len ps i l j t k' rows h1 h2 => exact .frz e k zs len ps i l j t k' rows h1 ((act_congr hg hH hs).symm.trans h2)
  | call f xs cs r h1 h2 h3 h4 =>
    have hm : xs.map (ev T) = xs.map (ev T') := List.map_congr_left fun y hy => hg y (by rw [h1]; exact hy)
    rw [h1] at hH
    refine .call f xs cs r h1 ?_ h3 (by rw [← hm]; exact h4)
    rw [← hm, ← closeAll_congr (H := H) (H' := H')]
    · exact h2
    · intro id hid
      refine hH id ?_
      simp only [fp, List.mem_flatMap] at hid ⊢
      obtain ⟨y, hy, hid⟩ := hid
      obtain ⟨z, hz, rfl⟩ := List.mem_map.1 hy
      exact ⟨z, hz, hid⟩

theorem DoesS.eff {o : SRop} {T : Nat → SV} {H : Nat → Option Blk} {x : SV} {id : Nat} {B : Blk} (h : DoesS P o T H x (some (id, B))) : (al o.op = true ∧ id = o.site) ∨ (wr o.op = true ∧ id ∈ fp (ev T) o.op) := by
  cases h with
  | act _ _ h => exact act_eff h

theorem OutS.congr {o : SRop} {T T' : Nat → SV} {H H' : Nat → Option Blk} {x : SV} {e : Option (Nat × Blk)} (hg : ∀ y ∈ o.op.opds, ev T y = ev T' y) (hgd : ∀ g b, o.guard = some (g, b) → T g = T' g) (hH : ∀ id ∈ fp (ev T) o.op, H id = H' id) (hs : al o.op = true → H o.site = H' o.site)
    (h : OutS P o T H x e) : OutS P o T' H' x e := by
  unfold OutS at *
  split
  · rename_i hq; rw [hq] at h; exact h.congr hg hH hs
  · rename_i g b hq
    rw [hq] at h
    obtain ⟨t, h1, h2⟩ := h
    refine ⟨t, by rw [← hgd g b hq]; exact h1, ?_⟩
    split
    · rename_i ht; rw [if_pos ht] at h2; exact h2.congr hg hH hs
    · rename_i ht; rw [if_neg ht] at h2; exact h2

theorem OutS.eff {o : SRop} {T : Nat → SV} {H : Nat → Option Blk} {x : SV} {id : Nat} {B : Blk} (h : OutS P o T H x (some (id, B))) : (al o.op = true ∧ id = o.site) ∨ (wr o.op = true ∧ id ∈ fp (ev T) o.op) := by
  unfold OutS at h
  split at h
  · exact h.eff
  · obtain ⟨t, _, h2⟩ := h
    split at h2
    · exact h2.eff
    · cases h2.2

theorem putT_comm (T : Nat → SV) {d d' : Option Nat} (x y : SV) (h : ∀ i, d = some i → d' ≠ some i) : putT (putT T d x) d' y = putT (putT T d' y) d x := by
  cases d with
  | none => rfl
  | some d =>
    cases d' with
    | none => rfl
    | some d' =>
      funext i
      have hne : d ≠ d' := fun e => h d rfl (by rw [e])
      simp only [putT]
      by_cases h1 : i = d
      · have : i ≠ d' := fun e => hne (h1.symm.trans e)
        simp [h1, hne]
      · by_cases h2 : i = d' <;> simp [h1, h2, Ne.symm hne]

theorem setH_comm (H : Nat → Option Blk) {e e' : Option (Nat × Blk)} (h : ∀ i B j C, e = some (i, B) → e' = some (j, C) → i ≠ j) : setH (setH H e) e' = setH (setH H e') e := by
  cases e with
  | none => rfl
  | some p =>
    cases e' with
    | none => rfl
    | some q =>
      obtain ⟨i, B⟩ := p
      obtain ⟨j, C⟩ := q
      have hne := h i B j C rfl rfl
      funext k
      simp only [setH]
      by_cases h1 : k = i
      · have : k ≠ j := fun e => hne (h1.symm.trans e)
        simp [h1, hne]
      · by_cases h2 : k = j <;> simp [h1, h2, Ne.symm hne]

theorem setH_at {H : Nat → Option Blk} {e : Option (Nat × Blk)} {id : Nat} (h : ∀ i B, e = some (i, B) → i ≠ id) : setH H e id = H id := by
  cases e with
  | none => rfl
  | some p =>
    obtain ⟨i, B⟩ := p
    have := h i B rfl
    simp [setH, Ne.symm this]

/-- Two steps that have nothing to do with one another change places. -/
theorem swap {x y : SRop} {S S1 S2 : SS} (hx : Step P x S S1) (hy : Step P y S1 S2) (ha : apartS x y = true) (hc : comp2 x y (fp (ev S.1) x.op) (fp (ev S.1) y.op) = true) :
    fp (ev S1.1) y.op = fp (ev S.1) y.op ∧ ∃ S1', Step P y S S1' ∧ Step P x S1' S2 ∧ fp (ev S1'.1) x.op = fp (ev S.1) x.op := by
  obtain ⟨T, H⟩ := S
  obtain ⟨vx, ex, ox, rfl⟩ := hx
  obtain ⟨vy, ey, oy, rfl⟩ := hy
  simp only [] at *
  -- the temporaries
  have hdx : ∀ i, x.dst = some i → i ∉ y.looks ∧ y.dst ≠ some i := fun i hi => by
    simp [apartS, hi] at ha; exact ha.1
  have hdy : ∀ i, y.dst = some i → i ∉ x.looks := fun i hi => by
    simp [apartS, hi] at ha; exact ha.2
  have evy : ∀ z ∈ y.op.opds, ev (putT T x.dst vx) z = ev T z := fun z hz => ev_put fun i hi hz' => (hdx i hi).1 (by
    unfold SRop.looks; exact List.mem_append_left _ (List.mem_filterMap.2 ⟨z, hz, hz'⟩))
  have evx : ∀ z ∈ x.op.opds, ev (putT T y.dst vy) z = ev T z := fun z hz => ev_put fun i hi hz' => hdy i hi (by
    unfold SRop.looks; exact List.mem_append_left _ (List.mem_filterMap.2 ⟨z, hz, hz'⟩))
  have gy : ∀ g b, y.guard = some (g, b) → putT T x.dst vx g = T g := fun g b hg => by
    cases hd : x.dst with
    | none => rfl
    | some d =>
      have : g ≠ d := fun e => (hdx d hd).1 (by unfold SRop.looks; rw [hg, ← e]; simp)
      simp [putT, this]
  have gx : ∀ g b, x.guard = some (g, b) → putT T y.dst vy g = T g := fun g b hg => by
    cases hd : y.dst with
    | none => rfl
    | some d =>
      have : g ≠ d := fun e => hdy d hd (by unfold SRop.looks; rw [hg, ← e]; simp)
      simp [putT, this]
  have fy := fp_congr evy
  have fx := fp_congr evx
  -- the blocks
  unfold comp2 at hc
  simp only [Bool.and_eq_true, Bool.or_eq_true, Bool.not_eq_true', List.all_eq_true] at hc
  obtain ⟨⟨⟨c1, c2⟩, c3⟩, c4⟩ := hc
  have exI : ∀ i B, ex = some (i, B) → (al x.op = true ∧ i = x.site) ∨ (wr x.op = true ∧ i ∈ fp (ev T) x.op) := fun i B he => by subst he; exact ox.eff
  have oy' : OutS P y T (setH H ex) vy ey := oy.congr evy gy (fun _ _ => rfl) (fun _ => rfl)
  have eyI : ∀ i B, ey = some (i, B) → (al y.op = true ∧ i = y.site) ∨ (wr y.op = true ∧ i ∈ fp (ev T) y.op) := fun i B he => by subst he; exact oy'.eff
  have disj : (wr x.op = true ∨ wr y.op = true) → ∀ i ∈ fp (ev T) x.op, i ∉ fp (ev T) y.op := fun hw i hi hj => by
    rcases c1 with c1 | c1
    · rcases hw with hw | hw <;> simp [hw] at c1
    · have := c1 i hi
      simp at this; exact this hj
  have sxG : al x.op = true → x.site ∉ fp (ev T) y.op := fun h hm => by
    rcases c2 with c2 | c2
    · rw [h] at c2; cases c2
    · simp at c2; exact c2 hm
  have syF : al y.op = true → y.site ∉ fp (ev T) x.op := fun h hm => by
    rcases c3 with c3 | c3
    · rw [h] at c3; cases c3
    · simp at c3; exact c3 hm
  have sne : al x.op = true → al y.op = true → x.site ≠ y.site := fun h1 h2 => by
    rcases c4 with c4 | c4
    · simp [h1, h2] at c4
    · simpa using c4
  refine ⟨fy, (putT T y.dst vy, setH H ey), ⟨vy, ey, ?_, rfl⟩, ⟨vx, ex, ?_, ?_⟩, fx⟩
  · refine oy'.congr (fun _ _ => rfl) (fun _ _ _ => rfl) (fun id hid => setH_at fun i B he e => ?_) (fun hal => setH_at fun i B he e => ?_)
    · subst e
      rcases exI i B he with ⟨h1, h2⟩ | ⟨h1, h2⟩
      · exact sxG h1 (h2 ▸ hid)
      · exact disj (.inl h1) i h2 hid
    · subst e
      rcases exI _ B he with ⟨h1, h2⟩ | ⟨h1, h2⟩
      · exact sne h1 hal h2.symm
      · exact syF hal h2
  · refine ox.congr (fun z hz => (evx z hz).symm) (fun g b hg => (gx g b hg).symm) (fun id hid => (setH_at fun i B he e => ?_).symm) (fun hal => (setH_at fun i B he e => ?_).symm)
    · subst e
      rcases eyI i B he with ⟨h1, h2⟩ | ⟨h1, h2⟩
      · exact syF h1 (h2 ▸ hid)
      · exact disj (.inr h1) i hid h2
    · subst e
      rcases eyI _ B he with ⟨h1, h2⟩ | ⟨h1, h2⟩
      · exact sne hal h1 h2
      · exact sxG hal h2
  · simp only [Prod.mk.injEq]
    refine ⟨putT_comm T vx vy (fun i hi => (hdx i hi).2), setH_comm H fun i B j C h1 h2 e => ?_⟩
    subst e
    rcases exI i B h1 with ⟨a1, a2⟩ | ⟨a1, a2⟩
    · rcases eyI i C h2 with ⟨b1, b2⟩ | ⟨b1, b2⟩
      · exact sne a1 b1 (a2.symm.trans b2)
      · exact sxG a1 (a2 ▸ b2)
    · rcases eyI i C h2 with ⟨b1, b2⟩ | ⟨b1, b2⟩
      · exact syF b1 (b2 ▸ a2)
      · exact disj (.inl a1) i a2 b2

/-- Steps in a row, with what each looks at. -/
inductive Runs (P : Program) : List (SRop × List Nat) → SS → SS → Prop
  | nil (S : SS) : Runs P [] S S
  | cons (o : SRop) (L : List (SRop × List Nat)) (S S1 S2 : SS) : Step P o S S1 → Runs P L S1 S2 → Runs P ((o, fp (ev S.1) o.op) :: L) S S2

theorem Runs.front : ∀ (L1 : List (SRop × List Nat)) {y : SRop} {G : List Nat} {L2 : List (SRop × List Nat)} {S S2 : SS}, Runs P (L1 ++ (y, G) :: L2) S S2 → (∀ p ∈ L1, apartS p.1 y = true ∧ comp2 p.1 y p.2 G = true) →
    Runs P ((y, G) :: (L1 ++ L2)) S S2
  | [], _, _, _, _, _, h, _ => h
  | (x, F) :: L1, y, G, L2, S, S2, h, hp => by
    cases h with
    | cons _ _ _ S1 _ hx h =>
      have ih := Runs.front L1 h (fun p hp' => hp p (by simp [hp']))
      generalize hg : G = G' at ih
      cases ih with
      | cons _ _ _ Sm _ hy h' =>
        obtain ⟨h1, h2⟩ := hp (x, fp (ev S.1) x.op) (by simp)
        have hG : fp (ev S1.1) y.op = fp (ev S.1) y.op := by
          obtain ⟨vx, ex, ox, rfl⟩ := hx
          refine fp_congr fun z hz => ev_put fun i hi hz' => ?_
          simp [apartS, hi] at h1
          exact h1.1.1 (by unfold SRop.looks; exact List.mem_append_left _ (List.mem_filterMap.2 ⟨z, hz, hz'⟩))
        rw [hg, hG] at h2
        obtain ⟨_, S1', s1, s2, s3⟩ := swap hx hy h1 h2
        rw [hG]
        refine .cons y _ S S1' S2 s1 ?_
        rw [← s3]
        exact .cons x _ S1' Sm S2 s2 h'

end
end Go.Proofs.Ytdgplebmlggmcaa
/- Regions of the shadow, III: a run of the shadow is a walk of the region. -/
namespace Go.Proofs.Ytdgplebmlggmcaa
open Go.RowKit

section
variable {P : Program} {w0 w : World} {N0 NA : Nat → Prop} {n : Nat} {T : Nat → SV} {H : Nat → Option Blk} {a : Act}

/-- What a real operation has to do with one of the shadow. -/
def CompR (P : Program) (n : Nat) (ops : Array Oper) (o : Oper) (so : SRop) : Prop :=
  compOp P o = some so.op ∧ so.dst = o.dst ∧ (∀ d, o.dst = some d → d < n) ∧
    match o.guard with
    | none => so.guard = none
    | some (j, b) => ∃ oj g, ops[j]? = some oj ∧ oj.dst = some g ∧ so.guard = some (g, b)

theorem closeAll_rep {ρ : Nat → Option Nat} (h : RepH w0 N0 NA ρ H w) : ∀ {xs : List SV} {cs : List CV} {vs : List Value}, RepL w NA ρ H xs vs → closeAll H xs = some cs →
    vs.length = cs.length ∧ (∀ (i : Nat) x v, cs[i]? = some x → vs[i]? = some v → RepC w (fun b => NA b ∧ ¬ Own ρ H b) x v) ∧ (xs.all SV.pure = true → ∀ (i : Nat) x v, cs[i]? = some x → vs[i]? = some v → RepC w (Mut NA ρ H) x v) := by
  have sub : ∀ {x : CV} {v : Value}, RepC w (Mut NA ρ H) x v → RepC w (fun b => NA b ∧ ¬ Own ρ H b) x v := fun r =>
    r.move ⟨Nat.le_refl _, fun b _ hn => ⟨rfl, fun hm => hn (.inl hm.1)⟩⟩
  have one : ∀ {x : SV} {y : CV} {v : Value}, RepS w NA ρ H x v → close1 H x = some y → RepC w (fun b => NA b ∧ ¬ Own ρ H b) y v ∧ (x.isC = true → RepC w (Mut NA ρ H) y v) := by
    intro x y v hx hc
    cases hx with
    | c y' _ r => simp [close1] at hc; subst hc; exact ⟨sub r, fun _ => r⟩
    | own id len t k rows _ hH hl ho hv =>
      simp only [close1, hH] at hc
      split at hc
      case isFalse => cases hc
      case isTrue hle =>
      cases hc
      refine ⟨?_, fun h => by cases h⟩
      rcases hv hle with ⟨q0, q1, rfl⟩ | ⟨b, cap, cs, t2, q1, rfl, q3, q4, q5, q6⟩
      · have : rows = [] := List.length_eq_zero_iff.1 (by omega)
        subst this; exact .nil k none 0 (Nat.zero_le _)
      · rcases h.blk id _ hH with ⟨e1, _⟩ | ⟨b', cs', cap', e1, e2, e3, e4, e5, e6, e7⟩
        · rw [q1] at e1; cases e1
        · rw [q1] at e1; cases e1
          rw [q3] at e2; cases e2
          rw [hle]
          have hown : Own ρ H b := ⟨id, by rw [hH]; simp, q1⟩
          refine .sl k rows b 0 cap (fun j i => cs.getD (j * k + i) undef) (by omega) q6 (h.lt hown) (fun hn => hn.2 hown) e6 (fun j row i x hj hx => ?_) (fun j row i x hj hx => ?_)
          · obtain ⟨v, hv1, _⟩ := e7 j row i x hj hx
            rw [Nat.zero_add, cell_of_row w b (j * k + i) cs _ (0, 0) q3]
            simp [hv1]
          · obtain ⟨v, hv1, hv2⟩ := e7 j row i x hj hx
            have : cs.getD (j * k + i) undef = v := by simp [hv1]
            rw [this]; exact sub hv2
    | _ => simp [close1] at hc
  have L : ∀ {xs : List SV} {cs : List CV} {vs : List Value}, RepL w NA ρ H xs vs → closeL H xs = some cs → vs.length = cs.length ∧ (∀ (i : Nat) x v, cs[i]? = some x → vs[i]? = some v → RepC w (fun b => NA b ∧ ¬ Own ρ H b) x v) ∧
      (xs.all SV.isC = true → ∀ (i : Nat) x v, cs[i]? = some x → vs[i]? = some v → RepC w (Mut NA ρ H) x v) := by
    intro xs
    induction xs with
    | nil => intro cs vs hr hc; simp [closeL] at hc; subst hc; exact ⟨by have := hr.1; simpa using this, fun i x v h => by simp at h, fun _ i x v h => by simp at h⟩
    | cons x xs ih =>
      intro cs vs hr hc
      simp only [closeL] at hc
      split at hc
      case h_2 => cases hc
      case h_1 y ys hy hys =>
      cases hc
      match vs, hr with
      | [], hr => exact absurd hr.1 (by simp)
      | v :: vs, hr =>
        obtain ⟨h1, h2, h3⟩ := ih (vs := vs) ⟨by have := hr.1; simpa using this, fun i x v hx hv => hr.2 (i + 1) x v (by simpa using hx) (by simpa using hv)⟩ hys
        obtain ⟨g1, g2⟩ := one (hr.2 0 _ _ rfl rfl) hy
        refine ⟨by simp [h1], fun i z u hz hu => ?_, fun ha i z u hz hu => ?_⟩
        · cases i with
          | zero => simp at hz hu; subst hz; subst hu; exact g1
          | succ i => exact h2 i z u (by simpa using hz) (by simpa using hu)
        · simp only [List.all_cons, Bool.and_eq_true] at ha
          cases i with
          | zero => simp at hz hu; subst hz; subst hu; exact g2 ha.1
          | succ i => exact h3 ha.2 i z u (by simpa using hz) (by simpa using hu)
  have full : ∀ {x : SV} {y : CV} {v : Value}, RepS w NA ρ H x v → close H x = some y → RepC w (fun b => NA b ∧ ¬ Own ρ H b) y v ∧ (x.pure = true → RepC w (Mut NA ρ H) y v) := by
    intro x y v hx hc
    cases hx with
    | agg xs vs hs hv =>
      simp only [close, Option.map_eq_some_iff] at hc
      obtain ⟨ys, hys, rfl⟩ := hc
      obtain ⟨h1, h2, h3⟩ := L (xs := xs) (vs := vs.toList) ⟨by simpa using hs, fun i x v hx hv' => hv i x v hx (by simpa using hv')⟩ hys
      exact ⟨.agg ys vs (by simpa using h1) (fun i x v hx hv => h2 i x v hx (by simpa using hv)), fun hp => .agg ys vs (by simpa using h1) (fun i x v hx hv => h3 hp i x v hx (by simpa using hv))⟩
    | c y' _ r => exact one (.c y' v r) hc
    | own id len t k rows _ hH hl ho hv => exact one (.own id len t k rows v hH hl ho hv) hc
    | tup xs vs hs hv => simp [close, close1] at hc
    | ptrB id j t cells b h1 h2 => simp [close, close1] at hc
    | ptrA => simp [close, close1] at hc
    | pel => simp [close, close1] at hc
    | fn => simp [close, close1] at hc
    | dead => simp [close, close1] at hc
  intro xs
  induction xs with
  | nil => intro cs vs hr hc; simp [closeAll] at hc; subst hc; exact ⟨by have := hr.1; simpa using this, fun i x v h => by simp at h, fun _ i x v h => by simp at h⟩
  | cons x xs ih =>
    intro cs vs hr hc
    simp only [closeAll] at hc
    split at hc
    case h_2 => cases hc
    case h_1 y ys hy hys =>
    cases hc
    match vs, hr with
    | [], hr => exact absurd hr.1 (by simp)
    | v :: vs, hr =>
      obtain ⟨h1, h2, h3⟩ := ih (vs := vs) ⟨by have := hr.1; simpa using this, fun i x v hx hv => hr.2 (i + 1) x v (by simpa using hx) (by simpa using hv)⟩ hys
      obtain ⟨g1, g2⟩ := full (hr.2 0 _ _ rfl rfl) hy
      refine ⟨by simp [h1], fun i z u hz hu => ?_, fun ha i z u hz hu => ?_⟩
      · cases i with
        | zero => simp at hz hu; subst hz; subst hu; exact g1
        | succ i => exact h2 i z u (by simpa using hz) (by simpa using hu)
      · simp only [List.all_cons, Bool.and_eq_true] at ha
        cases i with
        | zero => simp at hz hu; subst hz; subst hu; exact g2 ha.1
        | succ i => exact h3 ha.2 i z u (by simpa using hz) (by simpa using hu)

theorem openC_rep {ρ : Nat → Option Nat} {r : CV} {v : Value} (h : RepC w (Mut NA ρ H) r v) : RepS w NA ρ H (openC r) v := by
  cases h with
  | tup xs vs hs hv =>
    refine .tup (xs.map .c) vs (by simpa using hs) (fun i x v hx hv' => ?_)
    rw [List.getElem?_map] at hx
    cases hy : xs[i]? with
    | none => rw [hy] at hx; simp at hx
    | some y => rw [hy] at hx; simp at hx; subst hx; exact .c y v (hv i y v hy hv')
  | val v => exact .c _ _ (.val v)
  | agg xs vs hs hv => exact .c _ _ (.agg xs vs hs hv)
  | nil k ad c h => exact .c _ _ (.nil k ad c h)
  | sl k rows b off c u h1 h2 h3 h4 h5 h6 h7 => exact .c _ _ (.sl k rows b off c u h1 h2 h3 h4 h5 h6 h7)

theorem comp_call {o : Oper} {f : FuncId} {xs : List Operand} (h : compOp P o = some (.call f xs)) : ∃ ts, o.op = .call { callee := .value (.func f), args := ⟨xs⟩, argTypes := ts } ∧ ∃ fn, P.funcs[f]? = some fn ∧ fn.body.isNone = false ∧ (fn.name == "runtime.NumGoroutine") = false := by
  unfold compOp at h
  split at h
  all_goals first
    | (exfalso; (repeat' (split at h)) <;> simp at h; done)
    | skip
  rename_i f' xs' ts ho
  split at h
  case h_2 => cases h
  case h_1 fn hfn =>
  split at h
  case isFalse => cases h
  case isTrue hc =>
  simp at h
  obtain ⟨rfl, rfl⟩ := h
  refine ⟨ts, ho, fn, hfn, ?_, by simpa using hc.2⟩
  cases hb : fn.body with
  | none => rw [hb] at hc; simp at hc
  | some b => rfl

/-- Blocks are added. -/
theorem ext_rep {ρ : Nat → Option Nat} {w' : World} (h : RepH w0 N0 NA ρ H w) (e : Ext w w') : RepH w0 N0 NA ρ H w' ∧ Calm w (Mut NA ρ H) w' (Mut NA ρ H) ∧ ∀ i, KeepI w ρ H w' ρ H i := by
  have calm : Calm w (Mut NA ρ H) w' (Mut NA ρ H) := ⟨e.size, fun b hb hn => ⟨e.block' hb, hn⟩⟩
  have keep : ∀ i, KeepI w ρ H w' ρ H i := fun i => ⟨fun t cells hi => ⟨cells, hi, rfl⟩, fun t k rows hi => ⟨rows, hi, Nat.le_refl _, fun _ => ⟨rfl, fun b cs t' hb hc => ⟨cs, by rw [e.block' (h.lt ⟨i, by rw [hi]; simp, hb⟩)]; exact hc, rfl⟩⟩⟩⟩
  refine ⟨⟨h.inj, fun i B hi => ?_, ⟨e.os.trans h.fr.os, e.tape.trans h.fr.tape, e.output.trans h.fr.output, Nat.le_trans h.fr.size e.size, fun b hb hn => ?_⟩, h.low⟩, calm, keep⟩
  · have hr := h.blk i B hi
    have hne : H i ≠ none := by rw [hi]; simp
    cases B with
    | box t cells =>
      obtain ⟨b, cs, e1, e2, e3, e4⟩ := hr
      exact ⟨b, cs, e1, (e.block' (h.lt ⟨i, hne, e1⟩)).trans e2, e3, fun j x v hx hv => (e4 j x v hx hv).move calm keep⟩
    | arr t k rows =>
      rcases hr with ⟨e1, e2⟩ | ⟨b, cs, cap, e1, e2, e3, e4, e5, e6, e7⟩
      · exact .inl ⟨e1, e2⟩
      · exact .inr ⟨b, cs, cap, e1, (e.block' (h.lt ⟨i, hne, e1⟩)).trans e2, e3, e4, e5, e6, fun j row m x hr hx => by
          obtain ⟨v, hv1, hv2⟩ := e7 j row m x hr hx
          exact ⟨v, hv1, hv2.move calm⟩⟩
  · rw [← h.fr.block b hb hn]
    exact e.block' (Nat.lt_of_lt_of_le hb h.fr.size)

theorem does_sound {ρ : Nat → Option Nat} {o : Oper} {so : SRop} {ops : Array Oper} (hna : ∀ b, NA b → b < w0.heap.size) (h : RepH w0 N0 NA ρ H w) (ht : ∀ i, RepS w NA ρ H (T i) (a.tmps.getD i undef)) (hc : CompR P n ops o so) {x : SV} {e : Option (Nat × Blk)} (hd : DoesS P so T H x e)
    {K : Act → World → Prop} {Q : Exit → Act → World → Prop} (hK : ∀ v w' ρ', RepH w0 N0 NA ρ' (setH H e) w' → (∀ i, RepS w' NA ρ' (setH H e) (T i) (a.tmps.getD i undef)) → RepS w' NA ρ' (setH H e) x v → K (a.put o.dst v) w') : o.wp P a w K Q := by
  cases hd with
  | act _ _ hact =>
    obtain ⟨nx, v, w', hr, hnx, ρ', h1, h2, h3⟩ := act_good (P := P) h ht hc.1 hact
    unfold Oper.wp
    rw [hr]
    rcases hnx with rfl | ⟨rfl, rfl⟩
    · exact hK v w' ρ' h1 h2 h3
    · exact hK undef w' ρ' h1 h2 h3
  | frz e' k zs len ps i l j t k' rows hop hact =>
    have hcomp := hc.1
    rw [hop] at hcomp hact
    obtain ⟨rows', v, w', e1, e2, hr, he, hrep⟩ := act_closed (P := P) h ht hna hcomp hact
    cases e1; cases e2
    unfold Oper.wp
    rw [hr]
    obtain ⟨r1, r2, r3⟩ := ext_rep h he
    exact hK v w' ρ r1 (fun i => (ht i).move r2 r3) (.c _ _ hrep)
  | call f xs cs r hop hcl hsc hp =>
    have hcomp := hc.1
    rw [hop] at hcomp
    obtain ⟨ts, ho, fn, hfn, hb, hnm⟩ := comp_call hcomp
    have hev := rep_evs ht xs
    obtain ⟨l1, l2, l3⟩ := closeAll_rep h hev hcl
    have hrun : (execOp a.eval o).run P w = .ok (.enter f (xs.map a.eval).toArray) w := by
      have hb' : ¬ fn.body = none := fun e => by rw [e] at hb; cases hb
      have hnm' : ¬ fn.name = "runtime.NumGoroutine" := by simpa using hnm
      simp [execOp, ho, resolve, Act.eval, Deferred.ofValue, invoke, callFunc, hfn, hb', hnm']
    unfold Oper.wp
    rw [hrun]
    have ownlt : ∀ b, Mut NA ρ H b → b < w.heap.size := fun b hb => by
      rcases hb with hb | hb
      · exact Nat.lt_of_lt_of_le (hna b hb) h.fr.size
      · exact h.lt hb
    have fin : ∀ v w', RepC w' (Mut NA ρ H) r v → Ext w w' → K (a.put o.dst v) w' := fun v w' hr he => by
      obtain ⟨r1, r2, r3⟩ := ext_rep h he
      exact hK v w' ρ r1 (fun i => (ht i).move r2 r3) (openC_rep hr)
    rcases hp with hp | hp
    · refine (hsc w (Mut NA ρ H) (xs.map a.eval).toArray ownlt (by simpa using l1) (fun i x v hx hv => l3 hp i x v hx (by simpa using hv))).mono fun e w' hh => ?_
      obtain ⟨v, rfl, hr, he⟩ := hh
      exact fin v w' hr he
    · refine (hsc w (fun b => NA b ∧ ¬ Own ρ H b) (xs.map a.eval).toArray (fun b hb => ownlt b (.inl hb.1)) (by simpa using l1) (fun i x v hx hv => l2 i x v hx (by simpa using hv))).mono fun e w' hh => ?_
      obtain ⟨v, rfl, hr, he⟩ := hh
      exact fin v w' (hp.rep hr) he

theorem yielded_eq {ops : Array Oper} {j g : Nat} {oj : Oper} {t : Bool} (hj : ops[j]? = some oj) (hg : oj.dst = some g) (ht : a.tmps.getD g undef = .bool t) : yielded ops a.tmps j = some t := by
  unfold yielded
  have h1 : a.tmps[g]? = some (.bool t) := by
    rcases Nat.lt_or_ge g a.tmps.size with h | h
    · have : a.tmps.getD g undef = a.tmps[g] := by simp [h]
      rw [this] at ht
      rw [Array.getElem?_eq_getElem h, ht]
    · simp [h] at ht
      cases ht
  simp [hj, hg, h1]

theorem yielded_none {ops : Array Oper} {j g : Nat} {oj : Oper} {u : Array Value} (hj : ops[j]? = some oj) (hg : oj.dst = some g) (ht : a.tmps.getD g undef = .tuple u) : yielded ops a.tmps j = none := by
  unfold yielded
  rcases Nat.lt_or_ge g a.tmps.size with h | h
  · have : a.tmps.getD g undef = a.tmps[g] := by simp [h]
    rw [this] at ht
    have h1 : a.tmps[g]? = some (.tuple u) := by rw [Array.getElem?_eq_getElem h, ht]
    simp [hj, hg, h1]
  · have h1 : a.tmps[g]? = none := by simp [h]
    simp [hj, hg, h1]

theorem step_sound {o : Oper} {so : SRop} {ops : Array Oper} {i : Nat} (hi : ops[i]? = some o) (hc : CompR P n ops o so) (hr : RepSt w0 N0 NA n T H a w) {S' : SS} (hs : Step P so (T, H) S') {K : Act → World → Prop} {Q : Exit → Act → World → Prop}
    (hK : ∀ a' w', RepSt w0 N0 NA n S'.1 S'.2 a' w' → K a' w') : wpOp P ops Q i K a w := by
  obtain ⟨x, e, ho, rfl⟩ := hs
  obtain ⟨ρ, h, ht⟩ := hr.rep
  obtain ⟨c1, c2, c3, c4⟩ := hc
  have fin : ∀ v w' ρ', RepH w0 N0 NA ρ' (setH H e) w' → (∀ i, RepS w' NA ρ' (setH H e) (T i) (a.tmps.getD i undef)) → RepS w' NA ρ' (setH H e) x v → K (a.put o.dst v) w' := fun v w' ρ' h1 h2 h3 => by
    refine hK _ _ ⟨(put_size a _ _).trans hr.size, (put_defers a _ _).trans hr.defs, hr.na, ρ', h1, ?_⟩
    simp only [c2]
    exact rep_put (fun i hi' => by rw [hr.size]; exact c3 i hi') h2 h3
  unfold wpOp
  simp only [hi]
  unfold OutS at ho
  cases hg : o.guard with
  | none =>
    rw [hg] at c4
    rw [c4] at ho
    rw [if_pos (by simp [Region.wanted, hg])]
    exact .inl (does_sound (n := n) (ops := ops) (fun b hb => (hr.na b hb).1) h ht ⟨c1, c2, c3, by rw [hg]; exact c4⟩ ho fin)
  | some p =>
    obtain ⟨j, b⟩ := p
    rw [hg] at c4
    obtain ⟨oj, g, g1, g2, g3⟩ := c4
    rw [g3] at ho
    obtain ⟨t, hT, ho⟩ := ho
    simp only at hT
    have hwant : Region.wanted o (yielded ops a.tmps) = t := by
      have hw := ht g
      unfold goes at hT
      split at hT
      · rename_i t' hT'
        rw [hT'] at hw
        have htv : a.tmps.getD g undef = .bool t' := by
          generalize a.tmps.getD g undef = u at hw ⊢
          cases hw with
          | c _ _ r => cases r; rfl
        have hy := yielded_eq (a := a) g1 g2 htv
        cases hT
        simp [Region.wanted, hg, hy]
      · rename_i u hT'
        rw [hT'] at hw
        have htv : a.tmps.getD g undef = .tuple u := by
          generalize a.tmps.getD g undef = u at hw ⊢
          cases hw with
          | c _ _ r => cases r; rfl
        have hy := yielded_none (a := a) g1 g2 htv
        cases hT
        simp [Region.wanted, hg, hy]
      · cases hT
    by_cases htb : t = true
    · rw [if_pos htb] at ho
      rw [if_pos (hwant.trans htb)]
      exact .inl (does_sound (n := n) (ops := ops) (fun b hb => (hr.na b hb).1) h ht ⟨c1, c2, c3, by rw [hg]; exact ⟨oj, g, g1, g2, g3⟩⟩ ho fin)
    · rw [if_neg htb] at ho
      obtain ⟨rfl, rfl⟩ := ho
      rw [if_neg (by rw [hwant]; exact htb)]
      exact fin undef w ρ h ht (.c _ _ (.val _))

end
end Go.Proofs.Ytdgplebmlggmcaa
/- Regions of the shadow, IV: runs over lists; the law of regions. -/
namespace Go.Proofs.Ytdgplebmlggmcaa
open Go.RowKit

universe u

abbrev TL := List (Nat × SV)
abbrev HL := List (Nat × Blk)

def lookT : TL → Nat → SV
  | [], _ => .dead
  | (j, x) :: r, i => if i = j then x else lookT r i
def lookH : HL → Nat → Option Blk
  | [], _ => none
  | (j, B) :: r, i => if i = j then some B else lookH r i
def putL (T : TL) (d : Option Nat) (x : SV) : TL := match d with
  | some d => (d, x) :: T
  | none => T
def setL1 : HL → Nat → Blk → HL
  | [], id, B => [(id, B)]
  | (j, C) :: r, id, B => if j = id then (id, B) :: r else (j, C) :: setL1 r id B
def setL (H : HL) : Option (Nat × Blk) → HL
  | none => H
  | some (id, B) => setL1 H id B

theorem lookT_put (T : TL) (d : Option Nat) (x : SV) : lookT (putL T d x) = putT (lookT T) d x := by
  cases d <;> rfl
theorem lookH_set1 : ∀ (H : HL) (id : Nat) (B : Blk), lookH (setL1 H id B) = setH (lookH H) (some (id, B))
  | [], id, B => by funext i; simp [setL1, lookH, setH]
  | (j, C) :: r, id, B => by
    funext i
    have ih := congrFun (lookH_set1 r id B) i
    simp only [setL1]
    by_cases h : j = id
    · subst h
      simp only [if_pos, lookH, setH]
      by_cases hi : i = j <;> simp [hi]
    · rw [if_neg h]
      simp only [lookH, ih, setH]
      by_cases hi : i = j
      · subst hi; simp [h]
      · simp [hi]
theorem lookH_set (H : HL) (e : Option (Nat × Blk)) : lookH (setL H e) = setH (lookH H) e := by
  cases e with
  | none => rfl
  | some p => exact lookH_set1 H p.1 p.2

/-- What is held is not rewritten. -/
inductive Hold {α : Sort u} (x : α) : Type
  | mk

/-- A call by value: some contract serves. -/
def callP (P : Program) (f : FuncId) (xs : Option (List CV)) (p : Bool) (K : SV → Option (Nat × Blk) → Prop) (_ : Hold K) : Prop := ∃ cs, xs = some cs ∧ ∃ r, SC P f cs r ∧ (p = true ∨ Flat r) ∧ K (openC r) none

def guardP (t b : Bool) (A C : Unit → Prop) (_ : Hold A) (_ : Hold C) : Prop := (t = b → A ()) ∧ (¬ t = b → C ())

def optK (r : Option (SV × Option (Nat × Blk))) (K : SV → Option (Nat × Blk) → Prop) (_ : Hold K) : Prop := match r with
  | some (x, e) => K x e
  | none => False
theorem optK_some (x : SV) (e : Option (Nat × Blk)) (K : SV → Option (Nat × Blk) → Prop) : optK (some (x, e)) K .mk = K x e := rfl

/-- A slice is made: the call's own, or closed at once. -/
def buildP (r : Option (SV × Option (Nat × Blk))) (K : SV → Option (Nat × Blk) → Prop) (_ : Hold K) : Prop := optK r K .mk ∨ match r with
  | some (.own _ _, some (_, .arr _ k rows)) => K (.c (.sl k rows)) none
  | _ => False
theorem buildP_own {x : SV} {e : Option (Nat × Blk)} {K : SV → Option (Nat × Blk) → Prop} (h : K x e) : buildP (some (x, e)) K .mk := .inl h
theorem buildP_frz {i l j k : Nat} {t : TypeId} {rows : List (List CV)} {K : SV → Option (Nat × Blk) → Prop} (h : K (.c (.sl k rows)) none) : buildP (some (.own i l, some (j, .arr t k rows))) K .mk := .inr h

def doesP (P : Program) (o : SRop) (T : TL) (H : HL) (K : SV → Option (Nat × Blk) → Prop) (_ : Hold K) : Prop := match o.op with
  | .call f xs => callP P f (closeAll (lookH H) (xs.map (ev (lookT T)))) ((xs.map (ev (lookT T))).all SV.pure) K .mk
  | .buildSl e k z len ps => buildP (actF o.site (ev (lookT T)) (lookH H) (.buildSl e k z len ps)) K .mk
  | op => optK (actF o.site (ev (lookT T)) (lookH H) op) K .mk

def boolP (v : SV) (A : Bool → Prop) (C : Unit → Prop) (_ : Hold A) (_ : Hold C) : Prop := match v with
  | .c (.val (.bool t)) => A t
  | .c (.val (.tuple _)) => C ()
  | _ => False
theorem boolP_of (t : Bool) (A : Bool → Prop) (C : Unit → Prop) : boolP (.c (.val (.bool t))) A C .mk .mk = A t := rfl
theorem boolP_un (A : Bool → Prop) (C : Unit → Prop) : boolP .un A C .mk .mk = C () := rfl

def outP (P : Program) (o : SRop) (T : TL) (H : HL) (K : SV → Option (Nat × Blk) → Prop) (_ : Hold K) : Prop := match o.guard with
  | none => doesP P o T H K .mk
  | some (g, b) => boolP (lookT T g) (fun t => guardP t b (fun _ => doesP P o T H K .mk) (fun _ => K .un none) .mk .mk) (fun _ => K .un none) .mk .mk

theorem callP_of {P : Program} {f : FuncId} {cs : List CV} {p : Bool} {K : SV → Option (Nat × Blk) → Prop} {r : CV} (h : SC P f cs r) (hp : p = true ∨ Flat r) (hK : K (openC r) none) : callP P f (some cs) p K .mk := ⟨cs, rfl, r, h, hp, hK⟩
theorem guardP_of {t b : Bool} {A C : Unit → Prop} (h1 : t = b → A ()) (h2 : ¬ t = b → C ()) : guardP t b A C .mk .mk := ⟨h1, h2⟩
theorem guardP_same (t : Bool) (A C : Unit → Prop) : guardP t t A C .mk .mk = A () := by simp [guardP]
theorem guardP_tf (A C : Unit → Prop) : guardP true false A C .mk .mk = C () := by simp [guardP]
theorem guardP_ft (A C : Unit → Prop) : guardP false true A C .mk .mk = C () := by simp [guardP]

def freeOK (o : SRop) (acc : List (SRop × List Nat)) (T : TL) : Prop := match o.free with
  | [] => True
  | fs => (fs.all fun i => match acc[i]? with
    | some (x, F) => comp2 x o F (fp (ev (lookT T)) o.op)
    | none => false) = true

/-- A region, operation by operation in the order of the text. -/
def runP (P : Program) : List SRop → List (SRop × List Nat) → TL → HL → (Q : TL → HL → Prop) → Hold Q → Prop
  | [], _, T, H, Q, _ => Q T H
  | o :: os, acc, T, H, Q, _ => freeOK o acc T ∧ outP P o T H (fun x e => runP P os (acc ++ [(o, if o.keep then fp (ev (lookT T)) o.op else [])]) (putL T o.dst x) (setL H e) Q .mk) .mk

section
variable {P : Program}

theorem doesP_does {o : SRop} {T : TL} {H : HL} {K : SV → Option (Nat × Blk) → Prop} (h : doesP P o T H K .mk) : ∃ x e, DoesS P o (lookT T) (lookH H) x e ∧ K x e := by
  unfold doesP at h
  split at h
  · rename_i f xs hop
    obtain ⟨cs, hcs, r, h1, h2, h3⟩ := h
    exact ⟨_, _, .call f xs cs r hop hcs h1 h2, h3⟩
  · rename_i e k z len ps hop
    rw [← hop] at h
    rcases h with h | h
    · unfold optK at h
      split at h
      case h_2 => exact h.elim
      case h_1 x e hx => exact ⟨x, e, .act x e hx, h⟩
    · split at h
      case h_2 => exact h.elim
      case h_1 i l j t k' rows hx => exact ⟨_, _, .frz e k z len ps i l j t k' rows hop hx, h⟩
  · unfold optK at h
    split at h
    case h_2 => exact h.elim
    case h_1 x e hx => exact ⟨x, e, .act x e hx, h⟩

theorem outP_out {o : SRop} {T : TL} {H : HL} {K : SV → Option (Nat × Blk) → Prop} (h : outP P o T H K .mk) : ∃ x e, OutS P o (lookT T) (lookH H) x e ∧ K x e := by
  unfold outP at h
  unfold OutS
  split at h
  · rename_i hg
    (try rw [hg]); exact doesP_does h
  · rename_i g b hg
    (try rw [hg])
    unfold boolP at h
    split at h
    case h_3 => exact h.elim
    case h_2 u hu => exact ⟨.un, none, ⟨false, by rw [hu]; rfl, ⟨rfl, rfl⟩⟩, h⟩
    case h_1 t ht =>
    by_cases htb : t = b
    · obtain ⟨x, e, h1, h2⟩ := doesP_does (h.1 htb)
      exact ⟨x, e, ⟨true, by rw [ht]; simp [goes, htb], by rw [if_pos rfl]; exact h1⟩, h2⟩
    · exact ⟨.un, none, ⟨false, by rw [ht]; simp [goes, htb], by rw [if_neg (by decide)]; exact ⟨rfl, rfl⟩⟩, h.2 htb⟩

def kept (p : SRop × List Nat) : SRop × List Nat := (p.1, if p.1.keep then p.2 else [])

theorem runP_runs : ∀ (os : List SRop) (acc : List (SRop × List Nat)) (T : TL) (H : HL) (Q : TL → HL → Prop), runP P os acc T H Q .mk → ∃ L T' H', L.map (·.1) = os ∧ Runs P L (lookT T, lookH H) (lookT T', lookH H') ∧ Q T' H' ∧
    ∀ (j : Nat) o F, L[j]? = some (o, F) → ∀ i ∈ o.free, ∃ x G, (acc ++ L.map kept)[i]? = some (x, G) ∧ comp2 x o G F = true
  | [], acc, T, H, Q, h => ⟨[], T, H, rfl, .nil _, h, fun j o F hj => by simp at hj⟩
  | o :: os, acc, T, H, Q, h => by
    obtain ⟨hf, h⟩ := h
    obtain ⟨x, e, h1, h2⟩ := outP_out h
    obtain ⟨L, T', H', e1, e2, e3, e4⟩ := runP_runs os _ _ _ Q h2
    refine ⟨(o, fp (ev (lookT T)) o.op) :: L, T', H', by simp [e1], ?_, e3, fun j o' F hj i hi => ?_⟩
    · refine Runs.cons o L (lookT T, lookH H) (lookT (putL T o.dst x), lookH (setL H e)) _ ⟨x, e, h1, ?_⟩ e2
      rw [lookT_put, lookH_set]
    · cases j with
      | zero =>
        simp at hj
        obtain ⟨rfl, rfl⟩ := hj
        unfold freeOK at hf
        split at hf
        · rename_i hq; rw [hq] at hi; cases hi
        · rw [List.all_eq_true] at hf
          have := hf i hi
          split at this
          · rename_i y G hy
            exact ⟨y, G, by rw [List.getElem?_append_left (List.getElem?_eq_some_iff.1 hy).1]; exact hy, this⟩
          · cases this
      | succ j =>
        obtain ⟨y, G, hy, hc⟩ := e4 j o' F (by simpa using hj) i hi
        refine ⟨y, G, ?_, hc⟩
        rw [List.map_cons, ← hy, List.append_assoc]
        rfl

/-- Which operations come before one, as bits: through whatever edges. -/
def maskOf (ms : List Nat) (o : Oper) : Nat := o.after.toList.foldl (fun s e => if Region.binds .any e then s ||| 2 ^ e.on ||| ms.getD e.on 0 else s) 0
def masks : List Oper → List Nat → List Nat
  | [], ms => ms
  | o :: os, ms => masks os (ms ++ [maskOf ms o])

theorem maskOf_spec (ms : List Nat) (o : Oper) {i : Nat} (h : (maskOf ms o).testBit i = true) : ∃ e ∈ o.after, Region.binds .any e = true ∧ (i = e.on ∨ (ms.getD e.on 0).testBit i = true) := by
  have key : ∀ (l : List Edge) (s : Nat), (l.foldl (fun s e => if Region.binds .any e then s ||| 2 ^ e.on ||| ms.getD e.on 0 else s) s).testBit i = true → s.testBit i = true ∨ ∃ e ∈ l, Region.binds .any e = true ∧ (i = e.on ∨ (ms.getD e.on 0).testBit i = true) := by
    intro l
    induction l with
    | nil => intro s h; exact .inl h
    | cons e l ih =>
      intro s h
      rw [List.foldl_cons] at h
      rcases ih _ h with h1 | ⟨e', he', h1⟩
      · by_cases hb : Region.binds .any e = true
        · rw [if_pos hb, Nat.testBit_or, Nat.testBit_or, Bool.or_eq_true, Bool.or_eq_true] at h1
          rcases h1 with (h1 | h1) | h1
          · exact .inl h1
          · rw [Nat.testBit_two_pow] at h1
            exact .inr ⟨e, by simp, hb, .inl (by simpa using (of_decide_eq_true h1).symm)⟩
          · exact .inr ⟨e, by simp, hb, .inr h1⟩
        · rw [if_neg hb] at h1; exact .inl h1
      · exact .inr ⟨e', by simp [he'], h1⟩
  rcases key o.after.toList 0 h with h1 | ⟨e, he, h1⟩
  · simp at h1
  · exact ⟨e, by simpa using he, h1⟩

theorem masks_get : ∀ (os : List Oper) (ms : List Nat) (j : Nat) (o : Oper), os[j]? = some o → ∃ ms', ms' <+: masks os ms ∧ ms'.length = ms.length + j ∧ (masks os ms).getD (ms.length + j) 0 = maskOf ms' o := by
  have pre : ∀ (os : List Oper) (ms : List Nat), ms <+: masks os ms := by
    intro os
    induction os with
    | nil => intro ms; exact List.prefix_refl _
    | cons o os ih => intro ms; exact (List.prefix_append ms _).trans (ih _)
  intro os
  induction os with
  | nil => intro ms j o h; simp at h
  | cons o' os ih =>
    intro ms j o h
    cases j with
    | zero =>
      simp at h; subst h
      refine ⟨ms, pre (o' :: os) ms, rfl, ?_⟩
      obtain ⟨t, ht⟩ := pre os (ms ++ [maskOf ms o'])
      show (masks os (ms ++ [maskOf ms o'])).getD _ 0 = _
      rw [← ht]
      simp [List.getD_eq_getElem?_getD]
    | succ j =>
      obtain ⟨ms', h1, h2, h3⟩ := ih (ms ++ [maskOf ms o']) j o (by simpa using h)
      refine ⟨ms', h1, by simp at h2; omega, ?_⟩
      show (masks os (ms ++ [maskOf ms o'])).getD _ 0 = _
      rw [← h3]; congr 1; simp; omega

theorem masks_spec (os : List Oper) {j : Nat} {o : Oper} (hj : os[j]? = some o) {i : Nat} (h : ((masks os []).getD j 0).testBit i = true) : ∃ e ∈ o.after, Region.binds .any e = true ∧ (i = e.on ∨ ((masks os []).getD e.on 0).testBit i = true) := by
  obtain ⟨ms', h1, h2, h3⟩ := masks_get os [] j o hj
  simp at h3
  rw [List.getD_eq_getElem?_getD, h3] at h
  obtain ⟨e, he, hb, hor⟩ := maskOf_spec ms' o h
  refine ⟨e, he, hb, hor.imp id fun ht => ?_⟩
  obtain ⟨t, ht'⟩ := h1
  rw [← ht']
  rw [List.getD_eq_getElem?_getD] at ht ⊢
  cases hg : ms'[e.on]? with
  | none => rw [hg] at ht; simp at ht
  | some m =>
    rw [List.getElem?_append_left (List.getElem?_eq_some_iff.1 hg).1, hg]
    rw [hg] at ht; exact ht

end
end Go.Proofs.Ytdgplebmlggmcaa
/- Regions of the shadow, V: regions compiled, and their law. -/
namespace Go.Proofs.Ytdgplebmlggmcaa
open Go.RowKit

theorem Runs.foot {P : Program} {L : List (SRop × List Nat)} {S S' : SS} (h : Runs P L S S') : ∀ p ∈ L, ∃ g, p.2 = fp g p.1.op := by
  induction h with
  | nil => intro p hp; cases hp
  | cons o L S S1 S2 _ _ ih =>
    intro p hp
    rcases List.mem_cons.1 hp with rfl | hp
    · exact ⟨_, rfl⟩
    · exact ih p hp

theorem any_sound {P : Program} {w0 : World} {N0 NA : Nat → Prop} {n : Nat} {ops : Array Oper} {Q : Exit → Act → World → Prop} {S' : SS} (ord : Nat → Nat → Bool)
    (hord : ∀ j o, ops[j]? = some o → ∀ i, ord i j = true → ∃ e ∈ o.after, Region.binds .any e = true ∧ (i = e.on ∨ ord i e.on = true)) (hedge : ∀ j o, ops[j]? = some o → ∀ e ∈ o.after, Region.binds .any e = true → e.on < j)
    (hQ : ∀ a' w', RepSt w0 N0 NA n S'.1 S'.2 a' w' → Q .normal a' w') : ∀ (m : Nat) (L : List (Nat × SRop × List Nat)) (listed : Array Bool) (S : SS) (a : Act) (w : World), L.length = m → listed.size = ops.size →
      (∀ i, listed.getD i true = false ↔ i ∈ L.map (·.1)) → L.Pairwise (fun p q => p.1 < q.1 ∧ (ord p.1 q.1 = true ∨ (apartS p.2.1 q.2.1 = true ∧ comp2 p.2.1 q.2.1 p.2.2 q.2.2 = true))) →
      (∀ j, listed.getD j false = true → ∀ i, ord i j = true → listed.getD i false = true) → (∀ p ∈ L, ∃ o, ops[p.1]? = some o ∧ CompR P n ops o p.2.1) →
      Runs P (L.map (·.2)) S S' → RepSt w0 N0 NA n S.1 S.2 a w → wpAny P .any ops Q m listed a w := by
  intro m
  induction m with
  | zero =>
    intro L listed S a w hL hsz hI hpw hcl hcr hrun hrep
    have : L = [] := List.length_eq_zero_iff.1 hL
    subst this
    refine ⟨?_, ?_⟩
    · rw [List.eq_nil_iff_forall_not_mem]
      intro j hj
      have := (hI j).1 (mem_ready.1 hj).1
      cases this
    · generalize hl : List.map (fun x : Nat × SRop × List Nat => x.2) [] = l at hrun
      cases hrun with
      | nil => exact hQ a w hrep
      | cons => cases hl
  | succ m ih =>
    intro L listed S a w hL hsz hI hpw hcl hcr hrun hrep
    have hlisted : ∀ i, i < ops.size → i ∉ L.map (·.1) → listed.getD i false = true := fun i hi hn => by
      have h1 : ¬ listed.getD i true = false := fun h => hn ((hI i).1 h)
      have h2 : i < listed.size := by omega
      have e1 : listed.getD i true = listed[i] := by simp [h2]
      have e2 : listed.getD i false = listed[i] := by simp [h2]
      rw [e1] at h1
      rw [e2]
      simpa using h1
    refine ⟨fun h0 => ?_, fun j hj => ?_⟩
    · exfalso
      cases L with
      | nil => simp at hL
      | cons p L1 =>
        obtain ⟨o, ho, _⟩ := hcr p (by simp)
        have hpl : p.1 < ops.size := (Array.getElem?_eq_some_iff.1 ho).1
        have hm : p.1 ∈ Region.ready .any ops listed := by
          rw [mem_ready]
          refine ⟨(hI p.1).2 (by simp), o, ho, fun e he hb => ?_⟩
          have hlt := hedge p.1 o ho e he hb
          refine hlisted e.on (by omega) (fun hmem => ?_)
          rw [List.map_cons, List.mem_cons] at hmem
          rcases hmem with h | h
          · omega
          · obtain ⟨q, hq, hqe⟩ := List.mem_map.1 h
            have := (List.pairwise_cons.1 hpw).1 q hq
            omega
        rw [h0] at hm; cases hm
    · obtain ⟨hjun, o, ho, hall⟩ := mem_ready.1 hj
      have hjL := (hI j).1 hjun
      obtain ⟨p, hp, hpj⟩ := List.mem_map.1 hjL
      obtain ⟨L1, L2, rfl⟩ := List.append_of_mem hp
      obtain ⟨j', y, G⟩ := p
      simp only at hpj; subst hpj
      have hnot : ∀ i, i ∈ (L1 ++ (j', y, G) :: L2).map (·.1) → ¬ listed.getD i false = true := fun i hi h => by
        have h3 := (hI i).2 hi
        rcases Nat.lt_or_ge i listed.size with h' | h'
        · have e1 : listed.getD i true = listed[i] := by simp [h']
          have e2 : listed.getD i false = listed[i] := by simp [h']
          rw [e1] at h3
          rw [e2, h3] at h; cases h
        · simp [h'] at h
      have hno : ∀ q ∈ L1, ord q.1 j' = false := fun q hq => by
        cases hoq : ord q.1 j' with
        | false => rfl
        | true =>
          obtain ⟨e, he, hb, hor⟩ := hord j' o ho q.1 hoq
          have h1 := hall e he hb
          have h2 : listed.getD q.1 false = true := by
            rcases hor with h | h
            · rw [h]; exact h1
            · exact hcl e.on h1 q.1 h
          exact absurd h2 (hnot q.1 (List.mem_map.2 ⟨q, by simp [hq], rfl⟩))
      rw [List.map_append, List.map_cons] at hrun
      have hfr := Runs.front (L1.map (·.2)) hrun (fun r hr => by
        obtain ⟨q, hq, rfl⟩ := List.mem_map.1 hr
        have := (List.pairwise_append.1 hpw).2.2 q hq (j', y, G) (by simp)
        rcases this.2 with h | h
        · rw [hno q hq] at h; cases h
        · exact h)
      obtain ⟨o', ho', hcy⟩ := hcr (j', y, G) (by simp)
      generalize hg : G = G' at hfr
      cases hfr with
      | cons _ _ _ S1 _ hstep hrest =>
        refine step_sound (i := j') ho' hcy hrep hstep fun a' w' hr' => ?_
        have hlen : (L1 ++ L2).length = m := by simp at hL ⊢; omega
        have hj'sz : j' < listed.size := by
          rw [hsz]; exact (Array.getElem?_eq_some_iff.1 ho).1
        have nodup : ∀ q ∈ L1 ++ L2, q.1 ≠ j' := fun q hq => by
          rcases List.mem_append.1 hq with h | h
          · have := (List.pairwise_append.1 hpw).2.2 q h (j', y, G) (by simp); omega
          · have := (List.pairwise_cons.1 (List.pairwise_append.1 hpw).2.1).1 q h; simp at this; omega
        refine ih (L1 ++ L2) (listed.setIfInBounds j' true) S1 a' w' hlen (by simpa using hsz) (fun i => ?_) ?_ (fun i hi k hk => ?_) (fun q hq => hcr q (by
            rcases List.mem_append.1 hq with h | h <;> simp [h])) (by rw [List.map_append]; exact hrest) hr'
        · by_cases hij : i = j'
          · subst hij
            constructor
            · intro h; simp [hj'sz] at h
            · intro h
              obtain ⟨q, hq, hqe⟩ := List.mem_map.1 h
              exact absurd hqe (nodup q hq)
          · rw [getD_set_ne true (Ne.symm hij), hI i]
            simp only [List.map_append, List.map_cons, List.mem_append, List.mem_cons]
            constructor
            · rintro (h | h | h)
              · exact .inl h
              · exact absurd h hij
              · exact .inr h
            · rintro (h | h)
              · exact .inl h
              · exact .inr (.inr h)
        · refine hpw.sublist ?_
          exact List.Sublist.append_left (List.sublist_cons_self _ _) _
        · by_cases hij : i = j'
          · subst hij
            obtain ⟨e, he, hb, hor⟩ := hord i o ho k hk
            have h1 := hall e he hb
            refine getD_set_true ?_
            rcases hor with h | h
            · rw [h]; exact h1
            · exact hcl e.on h1 k h
          · have hi' : listed.getD i false = true := by
              simp only [Array.getD_eq_getD_getElem?] at hi ⊢
              rwa [Array.getElem?_setIfInBounds_ne (Ne.symm hij)] at hi
            exact getD_set_true (hcl i hi' k hk)

def harmless (x y : SRop) : Bool :=
  (!wr x.op || !lk y.op) && (!wr y.op || !lk x.op) && (!al x.op || !lk y.op) && (!al y.op || !lk x.op) && (!(al x.op && al y.op) || x.site != y.site)

theorem harmless_comp {x y : SRop} {g g' : Operand → SV} (h : harmless x y = true) : comp2 x y (fp g x.op) (fp g' y.op) = true := by
  unfold harmless at h
  simp only [Bool.and_eq_true, Bool.or_eq_true, Bool.not_eq_true'] at h
  obtain ⟨⟨⟨⟨h1, h2⟩, h3⟩, h4⟩, h5⟩ := h
  unfold comp2
  simp only [Bool.and_eq_true, Bool.or_eq_true, Bool.not_eq_true']
  refine ⟨⟨⟨?_, ?_⟩, ?_⟩, h5⟩
  · cases hx : lk x.op with
    | false => right; rw [fp_lk hx]; rfl
    | true =>
      cases hy : lk y.op with
      | false => right; rw [fp_lk hy]; simp
      | true =>
        left
        rcases h1 with h1 | h1
        · rcases h2 with h2 | h2
          · simp [h1, h2]
          · rw [hx] at h2; cases h2
        · rw [hy] at h1; cases h1
  · rcases h3 with h3 | h3
    · exact .inl h3
    · right; rw [fp_lk h3]; rfl
  · rcases h4 with h4 | h4
    · exact .inl h4
    · right; rw [fp_lk h4]; rfl

def dstOK (n : Nat) : Option Nat → Bool
  | some d => decide (d < n)
  | none => true

/-- A region's operations, one by one. -/
def compRop (P : Program) (n : Nat) (ops : Array Oper) (o : Oper) : Option SRop := match compOp P o with
  | none => none
  | some so => if dstOK n o.dst then match o.guard with
      | none => some { dst := o.dst, guard := none, op := so, free := [], keep := false }
      | some (j, b) => match ops[j]? with
        | some oj => match oj.dst with
          | some g => some { dst := o.dst, guard := some (g, b), op := so, free := [], keep := false }
          | none => none
        | none => none
    else none

def compRops (P : Program) (n : Nat) (ops : Array Oper) : List Oper → Option (List SRop)
  | [] => some []
  | o :: os => match compRop P n ops o, compRops P n ops os with
    | some x, some l => some (x :: l)
    | _, _ => none

/-- The earlier operations that one must not run into. -/
def freesOf (ms : List Nat) (L : List SRop) (j : Nat) (y : SRop) : List Nat := (List.range j).filter fun i => !(ms.getD j 0).testBit i && (match L[i]? with | some x => !harmless x y | none => true)

def withFree (F : Nat → SRop → List Nat) (K : Nat → Bool) : Nat → List SRop → List SRop
  | _, [] => []
  | j, y :: l => { y with free := F j y, keep := K j } :: withFree F K (j + 1) l

def compReg (P : Program) (n : Nat) (ops : Array Oper) (draw : Bool) : Option (List SRop) := match compRops P n ops ops.toList with
  | none => none
  | some L => if draw then
      let ms := masks ops.toList []
      let fr := withFree (freesOf ms L) (fun _ => false) 0 L
      let used := fr.flatMap (·.free)
      if (ops.toList.zipIdx.all fun (o, j) => o.after.toList.all fun e => !Region.binds .any e || decide (e.on < j)) &&
        (L.zipIdx.all fun (y, j) => (List.range j).all fun i => (ms.getD j 0).testBit i || (match L[i]? with | some x => apartS x y | none => false)) then
        some (withFree (freesOf ms L) (fun i => used.contains i) 0 L) else none
    else some L

theorem compRop_R {P : Program} {n : Nat} {ops : Array Oper} {o : Oper} {so : SRop} (h : compRop P n ops o = some so) : CompR P n ops o so := by
  unfold compRop at h
  split at h
  case h_1 => cases h
  case h_2 op hop =>
  split at h
  case isFalse => cases h
  case isTrue hd =>
  have hd' : ∀ d, o.dst = some d → d < n := fun d he => by rw [he] at hd; simpa [dstOK] using hd
  split at h
  · rename_i hg
    cases h
    exact ⟨hop, rfl, hd', by rw [hg]⟩
  · rename_i j b hg
    split at h
    case h_2 => cases h
    case h_1 oj hj =>
    split at h
    case h_2 => cases h
    case h_1 g hgd =>
    cases h
    exact ⟨hop, rfl, hd', by rw [hg]; exact ⟨oj, g, hj, hgd, rfl⟩⟩

theorem compRops_R {P : Program} {n : Nat} {ops : Array Oper} : ∀ {os : List Oper} {L : List SRop}, compRops P n ops os = some L → L.length = os.length ∧ ∀ (j : Nat) o so, os[j]? = some o → L[j]? = some so → CompR P n ops o so
  | [], L, h => by simp [compRops] at h; subst h; exact ⟨rfl, fun j o so hj => by simp at hj⟩
  | o :: os, L, h => by
    simp only [compRops] at h
    split at h
    case h_2 => cases h
    case h_1 x l hx hl =>
    cases h
    obtain ⟨h1, h2⟩ := compRops_R hl
    refine ⟨by simp [h1], fun j o' so ho hs => ?_⟩
    cases j with
    | zero => simp at ho hs; subst ho; subst hs; exact compRop_R hx
    | succ j => exact h2 j o' so (by simpa using ho) (by simpa using hs)

theorem CompR.with {P : Program} {n : Nat} {ops : Array Oper} {o : Oper} {so : SRop} (h : CompR P n ops o so) (F : List Nat) (K : Bool) : CompR P n ops o { so with free := F, keep := K } := h

theorem withFree_get (F : Nat → SRop → List Nat) (K : Nat → Bool) : ∀ (L : List SRop) (k j : Nat), (withFree F K k L)[j]? = (L[j]?).map fun y => { y with free := F (k + j) y, keep := K (k + j) }
  | [], k, j => by simp [withFree]
  | y :: l, k, 0 => by simp [withFree]
  | y :: l, k, j + 1 => by
    simp only [withFree, List.getElem?_cons_succ]
    rw [withFree_get F K l (k + 1) j, show k + 1 + j = k + (j + 1) by omega]

section
variable {P : Program} {w0 : World} {N0 NA : Nat → Prop} {n : Nat} {ops : Array Oper} {Q : Exit → Act → World → Prop}

theorem seq_sound {S' : SS} (hQ : ∀ a' w', RepSt w0 N0 NA n S'.1 S'.2 a' w' → Q .normal a' w') : ∀ (L : List (SRop × List Nat)) (k : Nat) (S : SS) (a : Act) (w : World), (∀ (j : Nat) p, L[j]? = some p → ∃ o, ops[k + j]? = some o ∧ CompR P n ops o p.1) →
    Runs P L S S' → RepSt w0 N0 NA n S.1 S.2 a w → wpOps P ops Q (List.range' k L.length) a w
  | [], k, S, a, w, _, hr, h => by
    cases hr with
    | nil => exact hQ a w h
  | (o, F) :: L, k, S, a, w, hc, hr, h => by
    cases hr with
    | cons _ _ _ S1 _ hs hr =>
      rw [List.length_cons, List.range'_succ, wpOps_cons]
      obtain ⟨o', ho', hc'⟩ := hc 0 _ rfl
      refine step_sound (i := k) (by simpa using ho') hc' h hs fun a' w' h' => ?_
      exact seq_sound hQ L (k + 1) S1 a' w' (fun j p hj => by
        have := hc (j + 1) p (by simpa using hj)
        rwa [show k + (j + 1) = k + 1 + j by omega] at this) hr h'

/-- The law of regions. -/
theorem wp_reg {id : Nat} {draw : Bool} {L : List SRop} (hm : P.follows .mixedOrders = true) (hc : compReg P n ops draw = some L) {T : TL} {H : HL} {R : TL → HL → Prop} (hr : runP P L [] T H R .mk) {a : Act} {w : World} (h : RepSt w0 N0 NA n (lookT T) (lookH H) a w)
    (hQ : ∀ T' H' a' w', R T' H' → RepSt w0 N0 NA n (lookT T') (lookH H') a' w' → Q .normal a' w') : (Code.region id ops draw).wp P Q a w := by
  obtain ⟨LL, T', H', e1, e2, e3, e4⟩ := runP_runs L [] T H R hr
  have hfin : ∀ a' w', RepSt w0 N0 NA n (lookT T', lookH H').1 (lookT T', lookH H').2 a' w' → Q .normal a' w' := fun a' w' h' => hQ T' H' a' w' e3 h'
  unfold compReg at hc
  split at hc
  case h_1 => cases hc
  case h_2 L0 hL0 =>
  obtain ⟨hlen, hR⟩ := compRops_R hL0
  cases draw with
  | false =>
    simp at hc; subst hc
    refine wp_region ?_
    have hsz : LL.length = ops.size := by
      have := congrArg List.length e1
      simp at this hlen; omega
    rw [← hsz, List.range_eq_range']
    refine seq_sound hfin LL 0 _ a w (fun j p hj => ?_) e2 h
    have hj' : j < LL.length := (List.getElem?_eq_some_iff.1 hj).1
    have h1 : L0[j]? = some p.1 := by rw [← e1, List.getElem?_map, hj]; rfl
    have h2 : ops.toList[j]? = some (ops[j]'(by omega)) := by simp
    refine ⟨ops[j]'(by omega), ?_, hR j _ _ h2 h1⟩
    rw [Nat.zero_add]; exact Array.getElem?_eq_getElem (by omega)
  | true =>
    simp only [if_true] at hc
    split at hc
    case isFalse => cases hc
    case isTrue hchk =>
    simp only [Option.some.injEq] at hc
    rw [Bool.and_eq_true, List.all_eq_true, List.all_eq_true] at hchk
    obtain ⟨hk1, hk2⟩ := hchk
    generalize hms : masks ops.toList [] = ms at *
    generalize hused : (List.flatMap (fun x : SRop => x.free) (withFree (freesOf ms L0) (fun _ => false) 0 L0)) = used at *
    have hsz : LL.length = ops.size := by
      have h1 := congrArg List.length e1
      have h2 : L.length = L0.length := by
        rw [← hc]
        have : ∀ (F : Nat → SRop → List Nat) (K : Nat → Bool) (L : List SRop) (k : Nat), (withFree F K k L).length = L.length := fun F K L => by
          induction L with
          | nil => intro k; rfl
          | cons y l ih => intro k; simp [withFree, ih]
        exact this _ _ _ _
      simp at h1 hlen; omega
    have hget : ∀ (j : Nat) p, LL[j]? = some p → ∃ y, L0[j]? = some y ∧ p.1 = { y with free := freesOf ms L0 j y, keep := used.contains j } := fun j p hj => by
      have h1 : L[j]? = some p.1 := by rw [← e1, List.getElem?_map, hj]; rfl
      rw [← hc, withFree_get] at h1
      cases hy : L0[j]? with
      | none => rw [hy] at h1; simp at h1
      | some y => rw [hy] at h1; simp only [Option.map_some, Option.some.injEq, Nat.zero_add] at h1; exact ⟨y, rfl, h1.symm⟩
    refine wp_region_any hm ?_
    have hall : ∀ (j : Nat) o, ops[j]? = some o → ops.toList[j]? = some o := fun j o ho => by simpa using ho
    have hfoot := e2.foot
    rw [← hsz]
    refine any_sound (S' := (lookT T', lookH H')) (fun i j => (ms.getD j 0).testBit i) (fun j o ho i hi => ?_) (fun j o ho e he hb => ?_) hfin LL.length (LL.zipIdx.map fun p => (p.2, p.1)) (Array.replicate LL.length false) (lookT T, lookH H) a _ (by simp) (by simpa using hsz) (fun i => ?_) ?_ (fun j hj => ?_) (fun p hp => ?_) ?_ ⟨h.size, h.defs, h.na, ?_⟩
    · rw [← hms] at hi ⊢
      exact masks_spec ops.toList (hall j o ho) hi
    · have := hk1 (o, j) (List.mem_zipIdx_iff_getElem?.2 (hall j o ho))
      rw [List.all_eq_true] at this
      have := this e (by simpa using he)
      rw [hb] at this
      simpa using this
    · constructor
      · intro hi
        have hlt : i < LL.length := by
          rcases Nat.lt_or_ge i LL.length with h' | h'
          · exact h'
          · simp [Nat.not_lt.2 h'] at hi
        rw [List.map_map]
        exact List.mem_map.2 ⟨(LL[i], i), List.mem_zipIdx_iff_getElem?.2 (List.getElem?_eq_getElem hlt), rfl⟩
      · intro hi
        rw [List.map_map] at hi
        obtain ⟨q, hq, rfl⟩ := List.mem_map.1 hi
        have := List.mem_zipIdx_iff_getElem?.1 hq
        have hlt := (List.getElem?_eq_some_iff.1 this).1
        simp [hlt]
    · rw [List.pairwise_map, List.pairwise_iff_getElem]
      intro i j hi hj hij
      simp only [List.getElem_zipIdx, Nat.zero_add]
      refine ⟨hij, ?_⟩
      simp only [List.length_zipIdx] at hi hj
      obtain ⟨yi, g1, g2⟩ := hget i LL[i] (List.getElem?_eq_getElem hi)
      obtain ⟨yj, k1, k2⟩ := hget j LL[j] (List.getElem?_eq_getElem hj)
      have hch := hk2 (yj, j) (List.mem_zipIdx_iff_getElem?.2 k1)
      rw [List.all_eq_true] at hch
      have hch := hch i (List.mem_range.2 hij)
      simp only [g1, Bool.or_eq_true] at hch
      by_cases hb : (ms.getD j 0).testBit i = true
      · exact .inl hb
      · right
        have hap : apartS yi yj = true := hch.resolve_left hb
        refine ⟨by rw [g2, k2]; exact hap, ?_⟩
        by_cases hh : harmless yi yj = true
        · obtain ⟨gi, fi⟩ := hfoot LL[i] (List.getElem_mem hi)
          obtain ⟨gj, fj⟩ := hfoot LL[j] (List.getElem_mem hj)
          rw [fi, fj]
          refine harmless_comp ?_
          rw [g2, k2]; exact hh
        · have hfr : i ∈ freesOf ms L0 j yj := by
            unfold freesOf
            rw [List.mem_filter]
            refine ⟨List.mem_range.2 hij, ?_⟩
            rw [g1]
            simp only [Bool.and_eq_true, Bool.not_eq_true']
            exact ⟨by simpa using hb, by simpa using hh⟩
          obtain ⟨x, G, hx, hcomp⟩ := e4 j LL[j].1 LL[j].2 (List.getElem?_eq_getElem hj) i (by rw [k2]; exact hfr)
          rw [List.nil_append, List.getElem?_map, List.getElem?_eq_getElem hi] at hx
          simp only [Option.map_some, Option.some.injEq, kept, Prod.mk.injEq] at hx
          have hkeep : LL[i].1.keep = true := by
            rw [g2]
            show used.contains i = true
            rw [← hused]
            simp only [List.contains_eq_mem, decide_eq_true_eq, List.mem_flatMap]
            refine ⟨{ yj with free := freesOf ms L0 (0 + j) yj, keep := false }, ?_, by simpa using hfr⟩
            have := withFree_get (freesOf ms L0) (fun _ => false) L0 0 j
            rw [k1] at this
            exact List.mem_of_getElem? this
          rw [if_pos hkeep] at hx
          obtain ⟨rfl, rfl⟩ := hx
          exact hcomp
    · intro i _
      exfalso
      rcases Nat.lt_or_ge j LL.length with h' | h'
      · simp [h'] at hj
      · simp [Nat.not_lt.2 h'] at hj
    · obtain ⟨q, hq, rfl⟩ := List.mem_map.1 hp
      have h1 := List.mem_zipIdx_iff_getElem?.1 hq
      obtain ⟨y, k1, k2⟩ := hget q.2 q.1 h1
      have hlt : q.2 < ops.size := by rw [← hsz]; exact (List.getElem?_eq_some_iff.1 h1).1
      refine ⟨ops[q.2], Array.getElem?_eq_getElem hlt, ?_⟩
      rw [k2]
      exact (hR q.2 _ y (by simp) k1).with _ _
    · have : (LL.zipIdx.map fun p => (p.2, p.1)).map (fun x => x.2) = LL := by
        rw [List.map_map]
        have : ((fun x : Nat × SRop × List Nat => x.2) ∘ fun p : (SRop × List Nat) × Nat => (p.2, p.1)) = Prod.fst := rfl
        rw [this, List.zipIdx_map_fst]
      rw [this]; exact e2
    · obtain ⟨ρ, q1, q2⟩ := h.rep
      obtain ⟨r1, r2, r3⟩ := ext_rep q1 (Ext.refl w).drew
      exact ⟨ρ, r1, fun i => (q2 i).move r2 r3⟩

end
end Go.Proofs.Ytdgplebmlggmcaa
/- The shadow's code: what holds behind it. -/
namespace Go.Proofs.Ytdgplebmlggmcaa
open Go.RowKit

inductive SCode where
  | skip
  | reg (L : List SRop) (live : List Nat)
  | seq (a b : SCode)
  | cond (c : Operand) (a b : SCode)
  | block (id : Nat) (c : SCode)
  | loop (c : SCode)
  | exit (id : Nat)
  | ret

def compCode (P : Program) (n : Nat) : Code → Option SCode
  | .skip => some .skip
  | .region _ ops draw => (compReg P n ops draw).map fun L => .reg L []
  | .seq a b => match compCode P n a, compCode P n b with
    | some x, some y => some (.seq x y)
    | _, _ => none
  | .cond c a b => match compCode P n a, compCode P n b with
    | some x, some y => some (.cond c x y)
    | _, _ => none
  | .block id c => (compCode P n c).map (.block id)
  | .loop c => (compCode P n c).map .loop
  | .exit id => some (.exit id)
  | .ret => some .ret
  | _ => none

/-- The same without the marks of what is kept. -/
def SCode.erase : SCode → SCode
  | .reg L _ => .reg L []
  | .seq a b => .seq a.erase b.erase
  | .cond c a b => .cond c a.erase b.erase
  | .block id c => .block id c.erase
  | .loop c => .loop c.erase
  | c => c

def keepT (live : List Nat) (T : TL) : TL := live.map fun i => (i, lookT T i)

theorem comp_block {P : Program} {n id : Nat} {A : SCode} {c : Code} (h : compCode P n c = some (.block id A)) : ∃ c', c = .block id c' ∧ compCode P n c' = some A := by
  unfold compCode at h
  split at h
  all_goals first
    | (simp only [Option.map_eq_some_iff, SCode.block.injEq] at h
       obtain ⟨x, hx, h1, h2⟩ := h
       subst h1; subst h2
       exact ⟨_, rfl, hx⟩)
    | (exfalso; (repeat' (split at h)) <;> simp at h; done)

theorem comp_loop {P : Program} {n : Nat} {A : SCode} {c : Code} (h : compCode P n c = some (.loop A)) : ∃ c', c = .loop c' ∧ compCode P n c' = some A := by
  unfold compCode at h
  split at h
  all_goals first
    | (simp only [Option.map_eq_some_iff, SCode.loop.injEq] at h
       obtain ⟨x, hx, h1⟩ := h
       subst h1
       exact ⟨_, rfl, hx⟩)
    | (exfalso; (repeat' (split at h)) <;> simp at h; done)

/-- From this state on, whatever world it stands for, the code arrives at Q. -/
def STri (P : Program) (n : Nat) (sc : SCode) (T : TL) (H : HL) (Q : Exit → TL → HL → Prop) (_ : Hold Q := .mk) : Prop :=
  ∀ c, compCode P n c = some sc.erase → ∀ (w0 : World) (N0 NA : Nat → Prop) (a : Act) (w : World), RepSt w0 N0 NA n (lookT T) (lookH H) a w →
    c.wp P (fun e a' w' => ∃ T' H', Q e T' H' ∧ RepSt w0 N0 NA n (lookT T') (lookH H') a' w') a w

section
variable {P : Program} {n : Nat} {T : TL} {H : HL} {Q : Exit → TL → HL → Prop}

theorem STri.mono {sc : SCode} {Q' : Exit → TL → HL → Prop} (h : STri P n sc T H Q) (hq : ∀ e T H, Q e T H → Q' e T H) : STri P n sc T H Q' := fun c hc w0 N0 NA a w hr =>
  wp_mono (h c hc w0 N0 NA a w hr) fun e a w ⟨T', H', q, r⟩ => ⟨T', H', hq _ _ _ q, r⟩

theorem st_skip (h : Q .normal T H) : STri P n .skip T H Q := fun c hc w0 N0 NA a w hr => by
  unfold compCode at hc
  split at hc <;> first
    | exact wp_skip ⟨T, H, h, hr⟩
    | (exfalso; (repeat' (split at hc)) <;> simp [SCode.erase] at hc; done)

theorem st_ret (h : Q .ret T H) : STri P n .ret T H Q := fun c hc w0 N0 NA a w hr => by
  unfold compCode at hc
  split at hc <;> first
    | exact wp_ret ⟨T, H, h, hr⟩
    | (exfalso; (repeat' (split at hc)) <;> simp [SCode.erase] at hc; done)

theorem st_exit {id : Nat} (h : Q (.exit id) T H) : STri P n (.exit id) T H Q := fun c hc w0 N0 NA a w hr => by
  unfold compCode at hc
  split at hc <;> first
    | (simp [SCode.erase] at hc; subst hc; exact wp_exit ⟨T, H, h, hr⟩)
    | (exfalso; (repeat' (split at hc)) <;> simp [SCode.erase] at hc; done)

theorem lookT_keep (live : List Nat) (T : TL) (i : Nat) : lookT (keepT live T) i = if i ∈ live then lookT T i else .dead := by
  unfold keepT
  induction live with
  | nil => rfl
  | cons j l ih =>
    simp only [List.map_cons, lookT, ih, List.mem_cons]
    by_cases h : i = j
    · simp [h]
    · simp [h]

theorem rep_keep {w0 : World} {N0 NA : Nat → Prop} {a : Act} {w : World} (live : List Nat) (h : RepSt w0 N0 NA n (lookT T) (lookH H) a w) : RepSt w0 N0 NA n (lookT (keepT live T)) (lookH H) a w := by
  obtain ⟨ρ, q1, q2⟩ := h.rep
  refine ⟨h.size, h.defs, h.na, ρ, q1, fun i => ?_⟩
  rw [lookT_keep]
  split
  · exact q2 i
  · exact .dead _

theorem st_reg (hm : P.follows .mixedOrders = true) {L : List SRop} {live : List Nat} (h : runP P L [] T H (fun T H => Q .normal (keepT live T) H) .mk) : STri P n (.reg L live) T H Q := fun c hc w0 N0 NA a w hr => by
  unfold compCode at hc
  split at hc <;> first
    | (simp only [SCode.erase, Option.map_eq_some_iff, SCode.reg.injEq, and_true] at hc
       obtain ⟨L', hL, rfl⟩ := hc
       exact wp_reg hm hL h hr fun T' H' a' w' q r => ⟨keepT live T', H', q, rep_keep live r⟩)
    | (exfalso; (repeat' (split at hc)) <;> simp [SCode.erase] at hc; done)

def seqQ (P : Program) (n : Nat) (y : SCode) (Q : Exit → TL → HL → Prop) : Exit → TL → HL → Prop
  | .normal, T, H => STri P n y T H Q
  | e, T, H => Q e T H

theorem st_seq {x y : SCode} (h : STri P n x T H (seqQ P n y Q)) : STri P n (.seq x y) T H Q := fun c hc w0 N0 NA a w hr => by
  unfold compCode at hc
  split at hc <;> first
    | (split at hc
       case h_2 => cases hc
       case h_1 x' y' hx hy =>
       simp only [SCode.erase, Option.some.injEq, SCode.seq.injEq] at hc
       obtain ⟨rfl, rfl⟩ := hc
       refine wp_seq (wp_mono (h _ hx w0 N0 NA a w hr) fun e a' w' hq => ?_)
       obtain ⟨T', H', q, r⟩ := hq
       cases e with
       | normal => exact q _ hy w0 N0 NA a' w' r
       | _ => exact ⟨T', H', q, r⟩)
    | (exfalso; (repeat' (split at hc)) <;> simp [SCode.erase] at hc; done)

theorem st_cond {x : Operand} {A B : SCode} {t : Bool} (ht : ev (lookT T) x = .c (.val (.bool t))) (h1 : t = true → STri P n A T H Q) (h2 : t = false → STri P n B T H Q) : STri P n (.cond x A B) T H Q := fun c hc w0 N0 NA a w hr => by
  unfold compCode at hc
  split at hc <;> first
    | (split at hc
       case h_2 => cases hc
       case h_1 x' y' hx hy =>
       simp only [SCode.erase, Option.some.injEq, SCode.cond.injEq] at hc
       obtain ⟨rfl, rfl, rfl⟩ := hc
       obtain ⟨ρ, q1, q2⟩ := hr.rep
       exact wp_cond_split (bool_of q2 ht) (fun e => h1 e _ hx w0 N0 NA a w hr) (fun e => h2 e _ hy w0 N0 NA a w hr))
    | (exfalso; (repeat' (split at hc)) <;> simp [SCode.erase] at hc; done)

def blockQ (id : Nat) (Q : Exit → TL → HL → Prop) : Exit → TL → HL → Prop
  | .exit id', T, H => if id' = id then Q .normal T H else Q (.exit id') T H
  | e, T, H => Q e T H

theorem st_block {id : Nat} {A : SCode} (h : STri P n A T H (blockQ id Q)) : STri P n (.block id A) T H Q := fun c hc w0 N0 NA a w hr => by
  obtain ⟨x', rfl, hx⟩ := comp_block hc
  refine wp_block (wp_mono (h _ hx w0 N0 NA a w hr) fun e a' w' hq => ?_)
  obtain ⟨T', H', q, r⟩ := hq
  cases e with
  | exit id' =>
    simp only [Exit.inBlock]
    simp only [blockQ] at q
    by_cases he : id' = id
    · rw [if_pos he] at q ⊢; exact ⟨T', H', q, r⟩
    · rw [if_neg he] at q ⊢; exact ⟨T', H', q, r⟩
  | _ => exact ⟨T', H', q, r⟩

def loopQ (I : Nat → TL → HL → Prop) (m : Nat) (Q : Exit → TL → HL → Prop) : Exit → TL → HL → Prop
  | .normal, T, H => ∃ m', m' < m ∧ I m' T H
  | e, T, H => Q e T H

/-- A loop: what holds at each round's head, and a number that goes down. -/
theorem st_loop {A : SCode} (I : Nat → TL → HL → Prop) {m0 : Nat} (h0 : I m0 T H) (hr : ∀ m T H, I m T H → STri P n A T H (loopQ I m Q)) : STri P n (.loop A) T H Q := fun c hc w0 N0 NA a w hrep => by
  obtain ⟨x', rfl, hx⟩ := comp_loop hc
  classical
  let E : Act → World → Nat → Prop := fun a w m => ∃ T H, I m T H ∧ RepSt w0 N0 NA n (lookT T) (lookH H) a w
  have least : ∀ a w, (∃ m, E a w m) → ∃ m, E a w m ∧ ∀ m', E a w m' → m ≤ m' := fun a w ⟨m, hm⟩ => by
    induction m using Nat.strongRecOn with
    | _ m ih =>
      by_cases h : ∃ m', m' < m ∧ E a w m'
      · obtain ⟨m', h1, h2⟩ := h; exact ih m' h1 h2
      · exact ⟨m, hm, fun m' h' => by
          rcases Nat.lt_or_ge m' m with h2 | h2
          · exact absurd ⟨m', h2, h'⟩ h
          · exact h2⟩
  refine wp_loop (fun a w => ∃ m, E a w m) (fun a w => if h : ∃ m, E a w m then (least a w h).choose else 0) ⟨m0, T, H, h0, hrep⟩ fun a w hI => ?_
  obtain ⟨T1, H1, i1, r1⟩ := (least a w hI).choose_spec.1
  refine wp_mono (hr _ T1 H1 i1 _ hx w0 N0 NA a w r1) fun e a' w' hq => ?_
  obtain ⟨T', H', q, r⟩ := hq
  cases e with
  | normal =>
    obtain ⟨m', hlt, i'⟩ := q
    have hE : ∃ m, E a' w' m := ⟨m', T', H', i', r⟩
    refine ⟨hE, ?_⟩
    rw [dif_pos hE, dif_pos hI]
    exact Nat.lt_of_le_of_lt ((least a' w' hE).choose_spec.2 m' ⟨T', H', i', r⟩) hlt
  | _ => exact ⟨T', H', q, r⟩

/-- Less is known. -/
theorem st_weak {sc : SCode} {T' : TL} {H' : HL} (hw : ∀ w0 N0 NA a w, RepSt w0 N0 NA n (lookT T) (lookH H) a w → RepSt w0 N0 NA n (lookT T') (lookH H') a w) (h : STri P n sc T' H' Q) : STri P n sc T H Q :=
  fun c hc w0 N0 NA a w hr => h c hc w0 N0 NA a w (hw _ _ _ _ _ hr)

end
end Go.Proofs.Ytdgplebmlggmcaa
