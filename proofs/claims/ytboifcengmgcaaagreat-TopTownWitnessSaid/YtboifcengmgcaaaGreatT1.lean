/- Part 1 of a proof: Base, Own, Sv, Sop, Snd, Scomp, Snd2, Snd3, Snd4, Snd5, Snd6, Snd7, SndM. -/
import Derived.WalkKit
import Derived.WalkSpells
import Derived.WalkLawsBesides
import Derived.Lib.Hide
import Derived.Deep.AppendLies
import Derived.Shelf.Abstract
import Derived.Maps.AppendAt
import Derived.Great.BuildSlice
import Derived.Laws.Cells
import Derived.ChangeKeysEq
import Derived.Laws.CopyRow
import Derived.Laws.OwnMore
import Derived.ArgAppend
import Derived.Laws.StructEq
import Derived.Maps.RangeRun
set_option linter.unusedSimpArgs false
set_option linter.unusedVariables false
/- Small words for the walks of this seat: worlds that extend one another, slices that read as lists. -/
namespace Go.Proofs.YtboifcengmgcaaaGreat
open Go.RowKit
def Ext (w w' : World) : Prop := Below w.heap.size w w'
theorem Ext.refl (w : World) : Ext w w := Below.refl _ w
theorem Ext.size {w w' : World} (h : Ext w w') : w.heap.size ≤ w'.heap.size := Below.size h
theorem Ext.trans {a b c : World} (h : Ext a b) (k : Ext b c) : Ext a c := Below.trans h (Below.mono k h.size)
theorem Ext.drew {a w : World} (h : Ext a w) : Ext a w.drew := Below.drew h
theorem Ext.drewN {a w : World} (h : Ext a w) (n : Nat) : Ext a (w.drewN n) := ⟨h.os, h.tape, h.output, h.size, h.block⟩
theorem Ext.alloc {a w : World} (h : Ext a w) (o : Obj) : Ext a (w.alloc o) := Below.alloc h h.size o
theorem Ext.cell {w w' : World} (h : Ext w w') {b : Nat} (o : Nat) (hb : b < w.heap.size) : w'.cell? ⟨b, o, none⟩ = w.cell? ⟨b, o, none⟩ := Below.cell (p := ⟨b, o, none⟩) h hb
theorem Ext.frozen {w w' : World} (h : Ext w w') {b : Nat} (o : Nat) (hb : b < w.heap.size) : w'.frozen? ⟨b, o, none⟩ = w.frozen? ⟨b, o, none⟩ := Below.frozen (p := ⟨b, o, none⟩) h hb
theorem Ext.block' {w w' : World} (h : Ext w w') {b : Nat} (hb : b < w.heap.size) : w'.heap[b]? = w.heap[b]? := Below.block h b hb
theorem Ext.keep {w w' : World} (h : Ext w w') {a : Addr} {v : Value} (hc : w.cell? a = some v) : w'.cell? a = some v := cell_later h hc
structure Row {α : Type} (k : Nat) (enc : α → List Value) (w : World) (a : Option Addr) (c : Nat) (xs : List α) : Prop where
  cap : xs.length ≤ c
  top : c ≤ maxLen
  at' : ∀ j (hj : j < xs.length), ∃ b off, a = some ⟨b, off, none⟩ ∧ b < w.heap.size ∧ ∀ i, i < k → w.cell? ⟨b, off + j * k + i, none⟩ = (enc xs[j])[i]?
theorem Row.ext {α : Type} {k : Nat} {enc : α → List Value} {w w' : World} {a : Option Addr} {c : Nat} {xs : List α} (h : Row k enc w a c xs) (e : Ext w w') : Row k enc w' a c xs :=
  ⟨h.cap, h.top, fun j hj => by
    obtain ⟨b, off, ha, hb, hc⟩ := h.at' j hj
    exact ⟨b, off, ha, Nat.lt_of_lt_of_le hb e.size, fun i hi => (e.cell _ hb).trans (hc i hi)⟩⟩
theorem Row.len {α : Type} {k : Nat} {enc : α → List Value} {w : World} {a : Option Addr} {c : Nat} {xs : List α} (h : Row k enc w a c xs) : xs.length ≤ 9223372036854775807 := by
  have h1 := h.cap; have h2 := h.top; unfold maxLen at h2; omega
theorem Row.nil {α : Type} (k : Nat) (enc : α → List Value) (w : World) : Row k enc w none 0 ([] : List α) :=
  ⟨Nat.le_refl _, Nat.zero_le _, fun _ hj => absurd hj (Nat.not_lt_zero _)⟩
def Sl {α : Type} (k : Nat) (enc : α → List Value) (w : World) (v : Value) (xs : List α) : Prop :=
  ∃ a c, v = .slice a xs.length c ∧ Row k enc w a c xs
theorem Sl.ext {α : Type} {k : Nat} {enc : α → List Value} {w w' : World} {v : Value} {xs : List α} (h : Sl k enc w v xs) (e : Ext w w') : Sl k enc w' v xs := by
  obtain ⟨a, c, hv, hr⟩ := h
  exact ⟨a, c, hv, hr.ext e⟩
theorem Sl.of_owns {α : Type} {k : Nat} {enc : α → List Value} {w : World} {base : Nat} {e : TypeId} {v : Value} {n : Nat} {xs : List α} {cs : List Value}
    (h : w.ownsRow base e k v n cs) (hn : n = xs.length) (hcs : ∀ j (hj : j < xs.length), ∀ i, i < k → cs[j * k + i]? = (enc xs[j])[i]?) : Sl k enc w v xs := by
  subst hn
  obtain ⟨hl, h2⟩ := h
  rcases h2 with ⟨rfl, h0⟩ | ⟨g, cap, cur, rfl, _, hg, hcap, hmax, hsz, htk⟩
  · have : xs = [] := List.length_eq_zero_iff.1 h0
    subst this
    exact ⟨none, 0, rfl, Row.nil _ _ _⟩
  · refine ⟨_, cap, rfl, hcap, hmax, fun j hj => ⟨g, 0, rfl, ?_, fun i hi => ?_⟩⟩
    · rcases Nat.lt_or_ge g w.heap.size with h | h
      · exact h
      · rw [Array.getElem?_eq_none h] at hg; cases hg
    · rw [← hcs j hj i hi, ← htk, Nat.zero_add, cell_of_row w g (j * k + i) cur e (0, 0) hg]
      have hlt : j * k + i < xs.length * k := by
        have : (j + 1) * k ≤ xs.length * k := Nat.mul_le_mul_right _ hj
        rw [Nat.add_mul, Nat.one_mul] at this; omega
      rw [List.getElem?_take_of_lt hlt]; simp
theorem Row.drop {α : Type} {k : Nat} {enc : α → List Value} {w : World} {b off c : Nat} {xs : List α} (h : Row k enc w (some ⟨b, off, none⟩) c xs) (m : Nat) (hm : m ≤ xs.length) :
    Row k enc w (some ⟨b, off + m * k, none⟩) (c - m) (xs.drop m) := by
  refine ⟨?_, ?_, fun j hj => ?_⟩
  · have := h.cap; simp; omega
  · have := h.top; omega
  · rw [List.length_drop] at hj
    obtain ⟨b', off', ha, hb, hc⟩ := h.at' (m + j) (by omega)
    cases ha
    refine ⟨b, _, rfl, hb, fun i hi => ?_⟩
    rw [List.getElem_drop, ← hc i hi, Nat.add_mul, Nat.add_assoc off (m * k) (j * k)]
theorem Row.take {α : Type} {k : Nat} {enc : α → List Value} {w : World} {a : Option Addr} {c : Nat} {xs : List α} (h : Row k enc w a c xs) (m : Nat) :
    Row k enc w a c (xs.take m) := by
  refine ⟨?_, h.top, fun j hj => ?_⟩
  · have := h.cap; simp; omega
  · rw [List.length_take] at hj
    obtain ⟨b', off', ha, hb, hc⟩ := h.at' j (by omega)
    exact ⟨b', off', ha, hb, fun i hi => by rw [List.getElem_take]; exact hc i hi⟩
theorem lqA (p : Prop) [Decidable p] : (decide p = true) = p := decide_eq_true_eq
theorem lqB {p : Prop} [Decidable p] : decide p = false ↔ ¬ p := decide_eq_false_iff_not
theorem lqC : (true = false) = False := Bool.true_eq_false
theorem lqD : (false = true) = False := Bool.false_eq_true
theorem lqE {α : Type} [BEq α] [LawfulBEq α] {a b : α} : (a != b) = true ↔ a ≠ b := bne_iff_ne
theorem lqF {α : Type} (a b : α) : (a ≠ b) = ¬ a = b := ne_eq a b
theorem lqG {α : Type} [BEq α] [LawfulBEq α] {a b : α} : (a != b) = false ↔ a = b := bne_eq_false_iff_eq
theorem lqH {α : Type} [BEq α] [LawfulBEq α] {a b : α} : (a == b) = true ↔ a = b := beq_iff_eq
theorem lqI {α : Type} [BEq α] [LawfulBEq α] {a b : α} : (a == b) = false ↔ a ≠ b := beq_eq_false_iff_ne
theorem lqJ (b : Bool) : (¬ b = true) = (b = false) := Bool.not_eq_true b
theorem lqK (b : Bool) : (¬ b = false) = (b = true) := Bool.not_eq_false b
theorem lqL {a b : Bool} : ((!a) = b) ↔ (a = !b) := Bool.not_eq_eq_eq_not
theorem lqM : (!true) = false := rfl
theorem lqN : (!false) = true := rfl
theorem lqO {p : Prop} [Decidable p] : ¬ ¬ p ↔ p := Decidable.not_not
end Go.Proofs.YtboifcengmgcaaaGreat
/- Slices that a call builds by append: they read as lists, and lie in a block that nothing else uses. -/
namespace Go.Proofs.YtboifcengmgcaaaGreat
open Go.RowKit
structure Grew (w : World) (v : Value) (w' : World) (v' : Value) : Prop where
  os : w'.os = w.os
  tape : w'.tape = w.tape
  output : w'.output = w.output
  size : w.heap.size ≤ w'.heap.size
  block : ∀ b, b < w.heap.size → v.ownBlock ≠ some b → w'.heap[b]? = w.heap[b]?
  own : v'.ownBlock = v.ownBlock ∨ ∀ g, v'.ownBlock = some g → w.heap.size ≤ g
theorem Grew.refl (w : World) (v : Value) : Grew w v w v := ⟨rfl, rfl, rfl, Nat.le_refl _, fun _ _ _ => rfl, .inl rfl⟩
theorem Grew.trans {a b c : World} {u v x : Value} (h : Grew a u b v) (k : Grew b v c x) : Grew a u c x := by
  refine ⟨k.os.trans h.os, k.tape.trans h.tape, k.output.trans h.output, Nat.le_trans h.size k.size, fun i hi hu => ?_, ?_⟩
  · refine (k.block i (Nat.lt_of_lt_of_le hi h.size) ?_).trans (h.block i hi hu)
    rcases h.own with e | e
    · rw [e]; exact hu
    · intro e2; exact absurd (e i e2) (by omega)
  · rcases k.own with e | e
    · rcases h.own with e2 | e2
      · exact .inl (e.trans e2)
      · exact .inr (by rw [e]; exact e2)
    · exact .inr fun g hg => Nat.le_trans h.size (e g hg)
theorem Grew.low {w w' : World} {v v' : Value} (h : Grew w v w' v') {n : Nat} (hl : ∀ b, v.ownBlock = some b → n ≤ b) (hn : n ≤ w.heap.size) : ∀ b, v'.ownBlock = some b → n ≤ b := fun b hb => by
  rcases h.own with e | e
  · exact hl b (by rw [← e]; exact hb)
  · exact Nat.le_trans hn (e b hb)
theorem Grew.of_ext {w w' : World} (h : Ext w w') (v : Value) : Grew w v w' v := ⟨h.os, h.tape, h.output, h.size, fun b hb _ => h.block b hb, .inl rfl⟩
theorem Grew.call {w w1 w2 : World} {v v1 : Value} (h : Grew w v w1 v1) (e : Ext w1 w2) : Grew w v w2 v1 := h.trans (Grew.of_ext e v1)
theorem Grew.alloc {w w1 : World} {v v1 : Value} (h : Grew w v w1 v1) (o : Obj) : Grew w v (w1.alloc o) v1 := h.call ((Ext.refl _).alloc o)
theorem Grew.drew {w w1 : World} {v v1 : Value} (h : Grew w v w1 v1) : Grew w v w1.drew v1 := h.call (Ext.refl _).drew
theorem Grew.drewN {w w1 : World} {v v1 : Value} (h : Grew w v w1 v1) (n : Nat) : Grew w v (w1.drewN n) v1 := h.call ((Ext.refl _).drewN n)
theorem Grew.ext {w w' : World} {v v' : Value} (h : Grew w v w' v') (hv : v.ownBlock = none) : Ext w w' :=
  ⟨h.os, h.tape, h.output, h.size, fun b hb => h.block b hb (by rw [hv]; exact fun e => by cases e)⟩
theorem Grew.cell {w w' : World} {v v' : Value} (h : Grew w v w' v') {b : Nat} (o : Nat) (hb : b < w.heap.size) (hne : v.ownBlock ≠ some b) : w'.cell? ⟨b, o, none⟩ = w.cell? ⟨b, o, none⟩ :=
  World.cell?_of_block (w := w) (h.block b hb hne)
theorem Grew.frozen {w w' : World} {v v' : Value} (h : Grew w v w' v') {b : Nat} (o : Nat) (hb : b < w.heap.size) (hne : v.ownBlock ≠ some b) : w'.frozen? ⟨b, o, none⟩ = w.frozen? ⟨b, o, none⟩ :=
  World.frozen?_of_block (w := w) (h.block b hb hne)
def OwnL {α : Type} (k : Nat) (enc : α → List Value) (e : TypeId) (w : World) (v : Value) (xs : List α) : Prop :=
  w.ownsRow 0 e k v xs.length (xs.flatMap enc)
theorem flat_get {α : Type} {k : Nat} {enc : α → List Value} (hk : ∀ x, (enc x).length = k) : ∀ (xs : List α) (j : Nat) (hj : j < xs.length) (i : Nat), i < k → (xs.flatMap enc)[j * k + i]? = (enc xs[j])[i]?
  | [], j, hj, _, _ => absurd hj (Nat.not_lt_zero _)
  | x :: xs, 0, _, i, hi => by
    rw [List.flatMap_cons, Nat.zero_mul, Nat.zero_add, List.getElem?_append_left (by rw [hk]; exact hi)]
    rfl
  | x :: xs, j + 1, hj, i, hi => by
    rw [List.flatMap_cons, List.getElem?_append_right (by rw [hk, Nat.add_mul]; omega), hk, show (j + 1) * k + i - k = j * k + i by rw [Nat.add_mul]; omega]
    exact flat_get hk xs j (by simpa using hj) i hi
theorem OwnL.sl {α : Type} {k : Nat} {enc : α → List Value} {e : TypeId} {w : World} {v : Value} {xs : List α} (h : OwnL k enc e w v xs) (hk : ∀ x, (enc x).length = k) : Sl k enc w v xs :=
  Sl.of_owns h rfl fun j hj i hi => flat_get hk xs j hj i hi
theorem OwnL.nil {α : Type} (k : Nat) (enc : α → List Value) (e : TypeId) (w : World) : OwnL k enc e w (.slice none 0 0) ([] : List α) := World.ownsRow_nil _ _ _ _
theorem OwnL.empty {α : Type} (k : Nat) (enc : α → List Value) (e : TypeId) (w : World) : OwnL k enc e (w.alloc (.cells #[] e)) (.slice (some ⟨w.heap.size, 0, none⟩) 0 0) ([] : List α) := by
  refine ⟨by simp, .inr ⟨w.heap.size, 0, #[], rfl, Nat.zero_le _, heap_alloc_new w _, Nat.le_refl _, Nat.zero_le _, by simp, by simp⟩⟩
theorem OwnL.kept {α : Type} {k : Nat} {enc : α → List Value} {e : TypeId} {w w' : World} {v : Value} {xs : List α} (h : OwnL k enc e w v xs) (x : Ext w w') : OwnL k enc e w' v xs :=
  World.ownsRow.kept h (w' := w') (row := none) ⟨x.os, x.tape, x.output, x.size, fun k hk _ => x.block k hk⟩ (by cases hv : v.ownBlock <;> simp)
theorem OwnL.lt {α : Type} {k : Nat} {enc : α → List Value} {e : TypeId} {w : World} {v : Value} {xs : List α} (h : OwnL k enc e w v xs) (b : Nat) (hb : v.ownBlock = some b) : b < w.heap.size :=
  (World.ownsRow.lt h b hb).2
theorem OwnL.ne {α : Type} {k : Nat} {enc : α → List Value} {e : TypeId} {w : World} {v : Value} {xs : List α} (h : OwnL k enc e w v xs) (b : Nat) (hb : w.heap.size ≤ b) : v.ownBlock ≠ some b := fun e2 => by
  have := h.lt b e2; omega
section
variable {P : Program} {w : World} {α : Type}
end
end Go.Proofs.YtboifcengmgcaaaGreat
/- A shadow of the machine: values without addresses; boxes and slices of the call's own by number; what they stand for in a world. -/
namespace Go.Proofs.YtboifcengmgcaaaGreat
open Go.RowKit
inductive CV where
  | val (v : Value)
  | agg (xs : List CV)
  | tup (xs : List CV)
  | sl (k : Nat) (rows : List (List CV))
  | slx (k : Nat) (rows : List (List CV))
  | fn (f : FuncId) (fs cs : List CV)
  | ref (xs : List CV)
  | map (ag : Bool) (kd : IntKind) (es : List (List Int × CV))
  | ifc (t : TypeId) (x : CV)
def mkKey (ag : Bool) (kd : IntKind) (ns : List Int) : Value := if ag then .agg (ns.map fun n => .int kd n).toArray else .int kd (ns.headD 0)
def CV.one : CV → Bool
  | .agg _ | .tup _ | .val (.agg _) | .val (.tuple _) => false
  | _ => true
inductive SV where
  | c (x : CV)
  | agg (xs : List SV)
  | tup (xs : List SV)
  | own (id len : Nat)
  | ptr (id j : Nat)
  | pow (id len i j : Nat)
  | pel (k : Nat) (rows : List (List CV)) (i j : Nat)
  | fn (f : FuncId) (first captured : List SV)
  | yl (id : Nat)
  | om (id : Nat)
  | it (id : Nat)
  | dead
inductive Blk where
  | box (t : TypeId) (cells : List SV)
  | arr (t : TypeId) (k : Nat) (rows : List (List CV))
  | map (ag : Bool) (kd : IntKind) (es : List (List Int × CV))
  | loop (lo : Loop)
  | gh (k : Nat) (stop : Bool)
  | it (ag : Bool) (kd : IntKind) (left : List (List Int × CV)) (cur : Option (List Int × CV))
def Blk.kind : Blk → Nat × Nat
  | .box t _ => (0, t)
  | .arr t _ _ => (1, t)
  | .map .. => (2, 0)
  | .loop _ => (3, 0)
  | .gh .. => (4, 0)
  | .it .. => (5, 0)
structure Ents (ag : Bool) (kd : IntKind) (es : List (List Int × CV)) (ents : Array MapEntry) (clock : Nat) : Prop where
  size : ents.size = es.length
  key : ∀ (i : Nat) p e, es[i]? = some p → ents[i]? = some e → e.key = mkKey ag kd p.1 ∧ e.born < clock
  one : ∀ p ∈ es, ag = false → ∃ n, p.1 = [n]
  nodup : (es.map (·.1)).Nodup
  born : (ents.toList.map (·.born)).Nodup
inductive RepC (w : World) (N : Nat → Prop) : CV → Value → Prop
  | val (v : Value) : RepC w N (.val v) v
  | agg (xs : List CV) (vs : Array Value) : vs.size = xs.length → (∀ (i : Nat) x v, xs[i]? = some x → vs[i]? = some v → RepC w N x v) → RepC w N (.agg xs) (.agg vs)
  | tup (xs : List CV) (vs : Array Value) : vs.size = xs.length → (∀ (i : Nat) x v, xs[i]? = some x → vs[i]? = some v → RepC w N x v) → RepC w N (.tup xs) (.tuple vs)
  | nil (k : Nat) (a : Option Addr) (c : Nat) : c ≤ maxLen → RepC w N (.sl k []) (.slice a 0 c)
  | sl (k : Nat) (rows : List (List CV)) (b off c : Nat) (u : Nat → Nat → Value) : rows.length ≤ c → c ≤ maxLen → b < w.heap.size → ¬ N b → (∀ (j : Nat) row, rows[j]? = some row → row.length = k ∧ row.all CV.one = true) →
      (∀ (j : Nat) row (i : Nat) x, rows[j]? = some row → row[i]? = some x → w.cell? ⟨b, off + j * k + i, none⟩ = some (u j i)) →
      (∀ (j : Nat) row (i : Nat) x, rows[j]? = some row → row[i]? = some x → RepC w N x (u j i)) → RepC w N (.sl k rows) (.slice (some ⟨b, off, none⟩) rows.length c)
  | slx (k : Nat) (rows : List (List CV)) (ad : Option Addr) : RepC w N (.sl k rows) (.slice ad rows.length rows.length) → RepC w N (.slx k rows) (.slice ad rows.length rows.length)
  | fn (f : FuncId) (fs cs : List CV) (vf vc : Array Value) : vf.size = fs.length → vc.size = cs.length → (∀ (i : Nat) x v, fs[i]? = some x → vf[i]? = some v → RepC w N x v) →
      (∀ (i : Nat) x v, cs[i]? = some x → vc[i]? = some v → RepC w N x v) → RepC w N (.fn f fs cs) (.func (.func f) vf vc)
  | ref (xs : List CV) (b off : Nat) (u : Nat → Value) : b < w.heap.size → ¬ N b → xs.all CV.one = true → (∀ (i : Nat) x, xs[i]? = some x → w.cell? ⟨b, off + i, none⟩ = some (u i)) → (∀ (i : Nat) x, xs[i]? = some x → RepC w N x (u i)) →
      RepC w N (.ref xs) (.pointer (some ⟨b, off, none⟩))
  | nilm (ag : Bool) (kd : IntKind) : RepC w N (.map ag kd []) (.map none)
  | map (ag : Bool) (kd : IntKind) (es : List (List Int × CV)) (b : Nat) (ents : Array MapEntry) (clock : Nat) : b < w.heap.size → ¬ N b → w.heap[b]? = some (.map ents clock) → Ents ag kd es ents clock →
      (∀ (i : Nat) p e, es[i]? = some p → ents[i]? = some e → RepC w N p.2 e.val) → RepC w N (.map ag kd es) (.map (some b))
  | ifc (t : TypeId) (x : CV) (v : Value) : RepC w N x v → RepC w N (.ifc t x) (.iface t v)
theorem RepC.sl_inv {w : World} {N : Nat → Prop} {k : Nat} {rows : List (List CV)} {v : Value} (h : RepC w N (.sl k rows) v) : ∃ ad c, v = .slice ad rows.length c ∧ rows.length ≤ c ∧ c ≤ maxLen ∧
    (rows = [] ∨ ∃ b off, ∃ u : Nat → Nat → Value, ad = some ⟨b, off, none⟩ ∧ b < w.heap.size ∧ ¬ N b ∧ (∀ (j : Nat) row, rows[j]? = some row → row.length = k ∧ row.all CV.one = true) ∧
      (∀ (j : Nat) row (i : Nat) x, rows[j]? = some row → row[i]? = some x → w.cell? ⟨b, off + j * k + i, none⟩ = some (u j i)) ∧
      (∀ (j : Nat) row (i : Nat) x, rows[j]? = some row → row[i]? = some x → RepC w N x (u j i))) := by
  cases h with
  | nil k ad c hc => exact ⟨ad, c, rfl, Nat.zero_le _, hc, .inl rfl⟩
  | sl k rows b off c u h1 h2 h3 h4 h5 h6 h7 => exact ⟨_, c, rfl, h1, h2, .inr ⟨b, off, u, rfl, h3, h4, h5, h6, h7⟩⟩
structure Calm (w : World) (N : Nat → Prop) (w' : World) (N' : Nat → Prop) : Prop where
  size : w.heap.size ≤ w'.heap.size
  same : ∀ b, b < w.heap.size → ¬ N b → w'.heap[b]? = w.heap[b]? ∧ ¬ N' b
theorem Calm.refl (w : World) (N : Nat → Prop) : Calm w N w N := ⟨Nat.le_refl _, fun _ _ h => ⟨rfl, h⟩⟩
theorem RepC.move {w w' : World} {N N' : Nat → Prop} (h : Calm w N w' N') {x : CV} {v : Value} (r : RepC w N x v) : RepC w' N' x v := by
  induction r with
  | val v => exact .val v
  | agg xs vs hs _ ih => exact .agg xs vs hs ih
  | tup xs vs hs _ ih => exact .tup xs vs hs ih
  | nil k a c hc => exact .nil k a c hc
  | sl k rows b off c u h1 h2 h3 h4 h5 h6 _ ih =>
    obtain ⟨e1, e2⟩ := h.same b h3 h4
    exact .sl k rows b off c u h1 h2 (Nat.lt_of_lt_of_le h3 h.size) e2 h5 (fun j row i x hr hx => (World.cell?_of_block (w := w) (w' := w') (a := ⟨b, off + j * k + i, none⟩) e1).trans (h6 j row i x hr hx)) ih
  | slx k rows ad _ ih => exact .slx k rows ad ih
  | fn f fs cs vf vc h1 h2 _ _ ih1 ih2 => exact .fn f fs cs vf vc h1 h2 ih1 ih2
  | ref xs b off u h1 h2 h3 h4 _ ih =>
    obtain ⟨e1, e2⟩ := h.same b h1 h2
    exact .ref xs b off u (Nat.lt_of_lt_of_le h1 h.size) e2 h3 (fun i x hx => (World.cell?_of_block (w := w) (w' := w') (a := ⟨b, off + i, none⟩) e1).trans (h4 i x hx)) ih
  | nilm ag kd => exact .nilm ag kd
  | map ag kd es b ents clock h1 h2 h3 h4 _ ih =>
    obtain ⟨e1, e2⟩ := h.same b h1 h2
    exact .map ag kd es b ents clock (Nat.lt_of_lt_of_le h1 h.size) e2 (e1.trans h3) h4 ih
  | ifc t x v _ ih => exact .ifc t x v ih
def Own (ρ : Nat → Option Nat) (H : Nat → Option Blk) (b : Nat) : Prop := ∃ id, H id ≠ none ∧ ρ id = some b
def Mut (NA : Nat → Prop) (ρ : Nat → Option Nat) (H : Nat → Option Blk) (b : Nat) : Prop := NA b ∨ Own ρ H b
def OwnV (w : World) (r : Option Nat) (k len : Nat) (v : Value) : Prop :=
  (r = none ∧ len = 0 ∧ v = .slice none 0 0) ∨ ∃ b cap cs t, r = some b ∧ v = .slice (some ⟨b, 0, none⟩) len cap ∧ w.heap[b]? = some (.cells cs t (0, 0)) ∧ cs.size = cap * k ∧ len ≤ cap ∧ cap ≤ maxLen
inductive RepS (w : World) (NA : Nat → Prop) (ρ : Nat → Option Nat) (H : Nat → Option Blk) : SV → Value → Prop
  | c (x : CV) (v : Value) : RepC w (Mut NA ρ H) x v → RepS w NA ρ H (.c x) v
  | agg (xs : List SV) (vs : Array Value) : vs.size = xs.length → (∀ (i : Nat) x v, xs[i]? = some x → vs[i]? = some v → RepS w NA ρ H x v) → RepS w NA ρ H (.agg xs) (.agg vs)
  | tup (xs : List SV) (vs : Array Value) : vs.size = xs.length → (∀ (i : Nat) x v, xs[i]? = some x → vs[i]? = some v → RepS w NA ρ H x v) → RepS w NA ρ H (.tup xs) (.tuple vs)
  | own (id len : Nat) (t : TypeId) (k : Nat) (rows : List (List CV)) (v : Value) : H id = some (.arr t k rows) → len ≤ rows.length → v.oneCell' = true → (len = rows.length → OwnV w (ρ id) k len v) → RepS w NA ρ H (.own id len) v
  | ptrB (id j : Nat) (t : TypeId) (cells : List SV) (b : Nat) : H id = some (.box t cells) → ρ id = some b → RepS w NA ρ H (.ptr id j) (.pointer (some ⟨b, j, none⟩))
  | ptrA (id len i j : Nat) (t : TypeId) (k : Nat) (rows : List (List CV)) (v : Value) : H id = some (.arr t k rows) → len ≤ rows.length → v.oneCell' = true →
      (len = rows.length → ∃ b, ρ id = some b ∧ v = .pointer (some ⟨b, i * k + j, none⟩)) → RepS w NA ρ H (.pow id len i j) v
  | pel (k : Nat) (rows : List (List CV)) (i j b off c : Nat) : RepC w (Mut NA ρ H) (.sl k rows) (.slice (some ⟨b, off, none⟩) rows.length c) → i < rows.length → RepS w NA ρ H (.pel k rows i j) (.pointer (some ⟨b, off + i * k + j, none⟩))
  | fn (f : FuncId) (fs cs : List SV) (vf vc : Array Value) : vf.size = fs.length → vc.size = cs.length → (∀ (i : Nat) x v, fs[i]? = some x → vf[i]? = some v → RepS w NA ρ H x v) →
      (∀ (i : Nat) x v, cs[i]? = some x → vc[i]? = some v → RepS w NA ρ H x v) → RepS w NA ρ H (.fn f fs cs) (.func (.func f) vf vc)
  | yl (id : Nat) (lo : Loop) (b : Nat) : H id = some (.loop lo) → ρ id = some b → RepS w NA ρ H (.yl id) (.func (.yield b) #[] #[])
  | om (id : Nat) (ag : Bool) (kd : IntKind) (es : List (List Int × CV)) (b : Nat) : H id = some (.map ag kd es) → ρ id = some b → RepS w NA ρ H (.om id) (.map (some b))
  | it (id : Nat) (ag : Bool) (kd : IntKind) (left : List (List Int × CV)) (cur : Option (List Int × CV)) (b : Nat) : H id = some (.it ag kd left cur) → ρ id = some b → RepS w NA ρ H (.it id) (.pointer (some ⟨b, 0, none⟩))
  | dead (v : Value) : RepS w NA ρ H .dead v
def KeepI (w : World) (ρ : Nat → Option Nat) (H : Nat → Option Blk) (w' : World) (ρ' : Nat → Option Nat) (H' : Nat → Option Blk) (id : Nat) : Prop :=
  (∀ B, H id = some B → B.kind.1 ≠ 1 → ∃ B', H' id = some B' ∧ B'.kind = B.kind ∧ ρ' id = ρ id) ∧
  ∀ t k rows, H id = some (.arr t k rows) → ∃ rows', H' id = some (.arr t k rows') ∧ rows.length ≤ rows'.length ∧
    (rows.length = rows'.length → ρ' id = ρ id ∧ ∀ b cs t', ρ id = some b → w.heap[b]? = some (.cells cs t' (0, 0)) → ∃ cs', w'.heap[b]? = some (.cells cs' t' (0, 0)) ∧ cs'.size = cs.size)
theorem kind_box {B : Blk} {t : TypeId} (h : B.kind = (0, t)) : ∃ cells, B = .box t cells := by cases B <;> simp [Blk.kind] at h; subst h; exact ⟨_, rfl⟩
theorem kind_map {B : Blk} (h : B.kind = (2, 0)) : ∃ ag kd es, B = .map ag kd es := by cases B <;> simp [Blk.kind] at h; exact ⟨_, _, _, rfl⟩
theorem kind_loop {B : Blk} (h : B.kind = (3, 0)) : ∃ lo, B = .loop lo := by cases B <;> simp [Blk.kind] at h; exact ⟨_, rfl⟩
theorem kind_it {B : Blk} (h : B.kind = (5, 0)) : ∃ ag kd l c, B = .it ag kd l c := by cases B <;> simp [Blk.kind] at h; exact ⟨_, _, _, _, rfl⟩
theorem KeepI.refl (w : World) (ρ : Nat → Option Nat) (H : Nat → Option Blk) (id : Nat) : KeepI w ρ H w ρ H id :=
  ⟨fun B h _ => ⟨B, h, rfl, rfl⟩, fun t k rows h => ⟨rows, h, Nat.le_refl _, fun _ => ⟨rfl, fun b cs t' _ hc => ⟨cs, hc, rfl⟩⟩⟩⟩
theorem KeepI.trans {w w' w'' : World} {ρ ρ' ρ'' : Nat → Option Nat} {H H' H'' : Nat → Option Blk} {id : Nat} (h : KeepI w ρ H w' ρ' H' id) (g : KeepI w' ρ' H' w'' ρ'' H'' id) : KeepI w ρ H w'' ρ'' H'' id := by
  refine ⟨fun B hB hk => ?_, fun t k rows hr => ?_⟩
  · obtain ⟨B', e1, e2, e3⟩ := h.1 B hB hk
    obtain ⟨B'', f1, f2, f3⟩ := g.1 B' e1 (by rw [e2]; exact hk)
    exact ⟨B'', f1, f2.trans e2, f3.trans e3⟩
  · obtain ⟨rows', e1, e2, e3⟩ := h.2 t k rows hr
    obtain ⟨rows'', f1, f2, f3⟩ := g.2 t k rows' e1
    refine ⟨rows'', f1, Nat.le_trans e2 f2, fun he => ?_⟩
    obtain ⟨r1, r2⟩ := e3 (by omega)
    obtain ⟨s1, s2⟩ := f3 (by omega)
    refine ⟨s1.trans r1, fun b cs t' hb hc => ?_⟩
    obtain ⟨cs', c1, c2⟩ := r2 b cs t' hb hc
    obtain ⟨cs'', d1, d2⟩ := s2 b cs' t' (by rw [r1]; exact hb) c1
    exact ⟨cs'', d1, d2.trans c2⟩
theorem Calm.trans {w w' w'' : World} {N N' N'' : Nat → Prop} (h : Calm w N w' N') (g : Calm w' N' w'' N'') : Calm w N w'' N'' :=
  ⟨Nat.le_trans h.size g.size, fun b hb hn => by
    obtain ⟨e1, e2⟩ := h.same b hb hn
    obtain ⟨f1, f2⟩ := g.same b (Nat.lt_of_lt_of_le hb h.size) e2
    exact ⟨f1.trans e1, f2⟩⟩
theorem RepS.move {w w' : World} {NA : Nat → Prop} {ρ ρ' : Nat → Option Nat} {H H' : Nat → Option Blk} (h : Calm w (Mut NA ρ H) w' (Mut NA ρ' H')) (hk : ∀ id, KeepI w ρ H w' ρ' H' id) {x : SV} {v : Value} (r : RepS w NA ρ H x v) : RepS w' NA ρ' H' x v := by
  induction r with
  | c x v r => exact .c x v (r.move h)
  | agg xs vs hs _ ih => exact .agg xs vs hs ih
  | tup xs vs hs _ ih => exact .tup xs vs hs ih
  | own id len t k rows v hH hl ho hv =>
    obtain ⟨rows', hH', hle, hsame⟩ := (hk id).2 t k rows hH
    refine .own id len t k rows' v hH' (Nat.le_trans hl hle) ho (fun e => ?_)
    have e1 : rows.length = rows'.length := by omega
    obtain ⟨hρ, hb⟩ := hsame e1
    rw [hρ]
    rcases hv (by omega) with h1 | ⟨b, cap, cs, t', h1, h2, h3, h4, h5, h6⟩
    · exact .inl h1
    · obtain ⟨cs', h7, h8⟩ := hb b cs t' h1 h3
      exact .inr ⟨b, cap, cs', t', h1, h2, h7, h8.trans h4, h5, h6⟩
  | ptrB id j t cells b hH hb =>
    obtain ⟨B', hH', hq, hρ⟩ := (hk id).1 _ hH (by simp [Blk.kind])
    obtain ⟨cells', rfl⟩ := kind_box hq
    exact .ptrB id j t cells' b hH' (hρ.trans hb)
  | ptrA id len i j t k rows v hH hl ho hv =>
    obtain ⟨rows', hH', hle, hsame⟩ := (hk id).2 t k rows hH
    refine .ptrA id len i j t k rows' v hH' (Nat.le_trans hl hle) ho (fun e => ?_)
    obtain ⟨hρ, _⟩ := hsame (by omega)
    rw [hρ]
    exact hv (by omega)
  | pel k rows i j b off c hc hi => exact .pel k rows i j b off c (hc.move h) hi
  | fn f fs cs vf vc h1 h2 _ _ ih1 ih2 => exact .fn f fs cs vf vc h1 h2 ih1 ih2
  | yl id lo b hH hb =>
    obtain ⟨B', hH', hq, hρ⟩ := (hk id).1 _ hH (by simp [Blk.kind])
    obtain ⟨lo', rfl⟩ := kind_loop hq
    exact .yl id lo' b hH' (hρ.trans hb)
  | om id ag kd es b hH hb =>
    obtain ⟨B', hH', hq, hρ⟩ := (hk id).1 _ hH (by simp [Blk.kind])
    obtain ⟨ag', kd', es', rfl⟩ := kind_map hq
    exact .om id ag' kd' es' b hH' (hρ.trans hb)
  | it id ag kd l c b hH hb =>
    obtain ⟨B', hH', hq, hρ⟩ := (hk id).1 _ hH (by simp [Blk.kind])
    obtain ⟨ag', kd', l', c', rfl⟩ := kind_it hq
    exact .it id ag' kd' l' c' b hH' (hρ.trans hb)
  | dead v => exact .dead v
def unseen (es : List (List Int × CV)) (ents : Array MapEntry) (seen : Array Nat) : List (List Int × CV) := ((es.zip ents.toList).filter fun q => !seen.contains q.2.born).map (·.1)
def ItAt (w : World) (N : Nat → Prop) (b : Nat) (ag : Bool) (kd : IntKind) (left : List (List Int × CV)) (cur : Option (List Int × CV)) : Prop :=
  (left = [] ∧ cur = none ∧ ∃ s q c, w.heap[b]? = some (.mapIter none s q c)) ∨
  ∃ Bm since seen c0 ents clock es, w.heap[b]? = some (.mapIter (some Bm) since seen c0) ∧ Bm < w.heap.size ∧ ¬ N Bm ∧ w.heap[Bm]? = some (.map ents clock) ∧ Ents ag kd es ents clock ∧
    (∀ (i : Nat) p e, es[i]? = some p → ents[i]? = some e → RepC w N p.2 e.val) ∧ (∀ x ∈ ents.toList, x.born < since) ∧ since ≤ c0 ∧ since ≤ clock ∧ left.Perm (unseen es ents seen) ∧
    ∀ p, cur = some p → ∃ (i : Nat) (e : MapEntry) (s0 : Array Nat), es[i]? = some p ∧ ents[i]? = some e ∧ seen = s0.push e.born ∧ c0 = clock
def NoRow (rows : List (List CV)) : Prop := rows = [] ∨ [] ∈ rows
def RepB (w : World) (NA : Nat → Prop) (ρ : Nat → Option Nat) (H : Nat → Option Blk) (id : Nat) : Blk → Prop
  | .box t cells => ∃ b cs, ρ id = some b ∧ w.heap[b]? = some (.cells cs t (0, 0)) ∧ cs.size = cells.length ∧ ∀ (i : Nat) x v, cells[i]? = some x → cs[i]? = some v → RepS w NA ρ H x v
  | .arr t k rows => (ρ id = none ∧ NoRow rows) ∨ ∃ b cs cap, ρ id = some b ∧ w.heap[b]? = some (.cells cs t (0, 0)) ∧ cs.size = cap * k ∧ rows.length ≤ cap ∧ cap ≤ maxLen ∧ (∀ (j : Nat) row, rows[j]? = some row → row.length = k ∧ row.all CV.one = true) ∧
      ∀ (j : Nat) row (i : Nat) x, rows[j]? = some row → row[i]? = some x → ∃ v, cs[j * k + i]? = some v ∧ RepC w (Mut NA ρ H) x v
  | .map ag kd es => ∃ b ents clock, ρ id = some b ∧ w.heap[b]? = some (.map ents clock) ∧ Ents ag kd es ents clock ∧ ∀ (i : Nat) p e, es[i]? = some p → ents[i]? = some e → RepC w (Mut NA ρ H) p.2 e.val
  | .loop lo => ∃ b, ρ id = some b ∧ w.heap[b]? = some (.loop lo)
  | .gh _ _ => ρ id = none
  | .it ag kd left cur => ∃ b, ρ id = some b ∧ ItAt w (Mut NA ρ H) b ag kd left cur
theorem ItAt.move {w w' : World} {N N' : Nat → Prop} (h : Calm w N w' N') {b : Nat} (hb : w'.heap[b]? = w.heap[b]?) {ag : Bool} {kd : IntKind} {left : List (List Int × CV)} {cur : Option (List Int × CV)} (r : ItAt w N b ag kd left cur) : ItAt w' N' b ag kd left cur := by
  rcases r with ⟨h1, h2, s, q, c, h3⟩ | ⟨Bm, since, seen, c0, ents, clock, es, h1, h2, h3, h4, h5, h6, h7⟩
  · exact .inl ⟨h1, h2, s, q, c, hb.trans h3⟩
  · obtain ⟨e1, e2⟩ := h.same Bm h2 h3
    exact .inr ⟨Bm, since, seen, c0, ents, clock, es, hb.trans h1, Nat.lt_of_lt_of_le h2 h.size, e2, e1.trans h4, h5, fun i p e hp he => (h6 i p e hp he).move h, h7⟩
theorem RepB.move {w w' : World} {NA : Nat → Prop} {ρ ρ' : Nat → Option Nat} {H H' : Nat → Option Blk} (calm : Calm w (Mut NA ρ H) w' (Mut NA ρ' H')) (keep : ∀ id, KeepI w ρ H w' ρ' H' id) {id : Nat} {B : Blk} (hr : RepB w NA ρ H id B)
    (hρ : ρ' id = ρ id) (hb : ∀ b, ρ id = some b → w'.heap[b]? = w.heap[b]?) : RepB w' NA ρ' H' id B := by
  cases B with
  | box t cells =>
    obtain ⟨b, cs, e1, e2, e3, e4⟩ := hr
    exact ⟨b, cs, hρ.trans e1, (hb b e1).trans e2, e3, fun j x v hx hv => (e4 j x v hx hv).move calm keep⟩
  | arr t k rows =>
    rcases hr with ⟨e1, e2⟩ | ⟨b, cs, cap, e1, e2, e3, e4, e5, e6, e7⟩
    · exact .inl ⟨hρ.trans e1, e2⟩
    · exact .inr ⟨b, cs, cap, hρ.trans e1, (hb b e1).trans e2, e3, e4, e5, e6, fun j row m x hr hx => by
        obtain ⟨v, hv1, hv2⟩ := e7 j row m x hr hx
        exact ⟨v, hv1, hv2.move calm⟩⟩
  | map ag kd es =>
    obtain ⟨b, ents, clock, e1, e2, e3, e4⟩ := hr
    exact ⟨b, ents, clock, hρ.trans e1, (hb b e1).trans e2, e3, fun i p e hp he => (e4 i p e hp he).move calm⟩
  | loop lo =>
    obtain ⟨b, e1, e2⟩ := hr
    exact ⟨b, hρ.trans e1, (hb b e1).trans e2⟩
  | gh k s => exact hρ.trans hr
  | it ag kd left cur =>
    obtain ⟨b, e1, e2⟩ := hr
    exact ⟨b, hρ.trans e1, e2.move calm (hb b e1)⟩
structure Fr (w0 : World) (N0 : Nat → Prop) (w : World) : Prop where
  os : w.os = w0.os
  tape : w.tape = w0.tape
  output : w.output = w0.output
  size : w0.heap.size ≤ w.heap.size
  block : ∀ b, b < w0.heap.size → ¬ N0 b → w.heap[b]? = w0.heap[b]?
structure RepH (w0 : World) (N0 NA : Nat → Prop) (ρ : Nat → Option Nat) (H : Nat → Option Blk) (w : World) : Prop where
  inj : ∀ i j b, H i ≠ none → H j ≠ none → ρ i = some b → ρ j = some b → i = j
  blk : ∀ id B, H id = some B → RepB w NA ρ H id B
  fr : Fr w0 N0 w
  low : ∀ b, Own ρ H b → b < w0.heap.size → N0 b ∧ ¬ NA b
theorem RepH.lt {w0 w : World} {N0 NA : Nat → Prop} {ρ : Nat → Option Nat} {H : Nat → Option Blk} (h : RepH w0 N0 NA ρ H w) {b : Nat} (hb : Own ρ H b) : b < w.heap.size := by
  obtain ⟨id, h1, h2⟩ := hb
  cases hH : H id with
  | none => exact absurd hH h1
  | some B =>
    have hr := h.blk id B hH
    have at_ : ∀ (b' : Nat) (o : Obj), ρ id = some b' → w.heap[b']? = some o → b < w.heap.size := fun b' o e1 e2 => by
      rw [h2] at e1; cases e1
      rcases Nat.lt_or_ge b w.heap.size with h' | h'
      · exact h'
      · rw [Array.getElem?_eq_none h'] at e2; cases e2
    cases B with
    | box t cells => obtain ⟨b', cs, e1, e2, _⟩ := hr; exact at_ b' _ e1 e2
    | arr t k rows =>
      rcases hr with ⟨e1, _⟩ | ⟨b', cs, cap, e1, e2, _⟩
      · rw [h2] at e1; cases e1
      · exact at_ b' _ e1 e2
    | map ag kd es => obtain ⟨b', ents, clock, e1, e2, _⟩ := hr; exact at_ b' _ e1 e2
    | loop lo => obtain ⟨b', e1, e2⟩ := hr; exact at_ b' _ e1 e2
    | gh k s => have hr : ρ id = none := hr; rw [h2] at hr; cases hr
    | it ag kd left cur => obtain ⟨b', e1, e2⟩ := hr; rcases e2 with ⟨_, _, s, q, c, e3⟩ | ⟨Bm, s, q, c, _, _, _, e3, _⟩ <;> exact at_ b' _ e1 e3
def putT (T : Nat → SV) (d : Option Nat) (x : SV) : Nat → SV := match d with
  | some d => fun i => if i = d then x else T i
  | none => T
theorem rep_put {w : World} {NA : Nat → Prop} {ρ : Nat → Option Nat} {H : Nat → Option Blk} {T : Nat → SV} {a : Act} {d : Option Nat} {x : SV} {v : Value} (hd : ∀ i, d = some i → i < a.tmps.size)
    (ht : ∀ i, RepS w NA ρ H (T i) (a.tmps.getD i undef)) (hv : RepS w NA ρ H x v) : ∀ i, RepS w NA ρ H (putT T d x i) ((a.put d v).tmps.getD i undef) := by
  intro i
  cases d with
  | none => exact ht i
  | some d =>
    show RepS w NA ρ H (if i = d then x else T i) ((a.tmps.setIfInBounds d v).getD i undef)
    by_cases hi : i = d
    · subst hi
      have := hd i rfl
      simp [this]
      exact hv
    · rw [if_neg hi]
      have : (a.tmps.setIfInBounds d v).getD i undef = a.tmps.getD i undef := by
        simp [Array.getElem?_setIfInBounds_ne (Ne.symm hi)]
      rw [this]
      exact ht i
theorem put_size (a : Act) (d : Option Nat) (v : Value) : (a.put d v).tmps.size = a.tmps.size := by cases d <;> simp [Act.put]
theorem put_defers (a : Act) (d : Option Nat) (v : Value) : (a.put d v).defers = a.defers := by cases d <;> rfl
end Go.Proofs.YtboifcengmgcaaaGreat
/- What the operations do to a shadow. -/
namespace Go.Proofs.YtboifcengmgcaaaGreat
open Go.RowKit
inductive SOp where
  | mov (x : Operand)
  | pick (c a b : Operand)
  | box (t : TypeId) (x : Operand)
  | alloc (t : TypeId) (zero : List Value)
  | build (zero : List Value) (parts : List (Nat × Nat × Operand))
  | buildSl (e : TypeId) (k : Nat) (zero : List Value) (len : Nat) (parts : List (Nat × Operand))
  | load (ag : Bool) (n : Nat) (a : Operand)
  | store (n : Nat) (a x : Operand)
  | fld (off : Nat) (x : Operand)
  | field (ag : Bool) (off n : Nat) (x : Operand)
  | idxS (k : Nat) (x i : Operand)
  | idxA (len k : Nat) (x i : Operand)
  | index (len k : Nat) (ag : Bool) (x i : Operand)
  | bin (op : BinOp) (x y : Operand)
  | binB (neg : Bool) (x y : Operand)
  | eqC (neg : Bool) (ks : List Bool) (x y : Operand)
  | un (op : UnOp) (x : Operand)
  | len (x : Operand)
  | append (e : TypeId) (k bytes : Nat) (s x : Operand)
  | makeSl (e : TypeId) (k bytes : Nat) (zero : List Value) (l c : Operand)
  | ext (x : Operand) (i : Nat)
  | conv (k : IntKind) (x : Operand)
  | max (xs : List Operand)
  | min (xs : List Operand)
  | call (f : FuncId) (xs : List Operand)
  | boxZ (t : TypeId) (x : Operand)
  | mkFn (f : FuncId) (fs cs : List Operand)
  | slcS (k : Nat) (x : Operand) (lo hi : Option Operand)
  | slcA (len k : Nat) (x : Operand) (lo hi : Option Operand)
  | shift (l : Bool) (x y : Operand)
  | mkMap (ag : Bool) (kd : IntKind)
  | mapUpd (ag : Bool) (kd : IntKind) (m k v : Operand)
  | lookup (ag : Bool) (kd : IntKind) (zero : Value) (ok : Bool) (m k : Operand)
  | mkIfc (t : TypeId) (x : Operand)
  | mlen (x : Operand)
  | callV (x : Operand) (xs : List Operand)
  | callM (f : FuncId) (xs : List Operand)
  | callG (f : FuncId) (xs : List Operand)
  | callI (nm : String) (r : Operand) (xs : List Operand)
  | rng (ag : Bool) (kd : IntKind) (m : Operand)
  | nxt (x : Operand)
  | ent (x : Operand)
  | nilC (x : Operand)
  | strAt (x i : Operand)
  | isNil (neg : Bool) (kd : Nat) (x : Operand)
def SOp.erase : SOp → SOp
  | .boxZ t x => .box t x
  | o => o
def SOp.gen : SOp → Bool
  | .callV .. | .callM .. | .nxt .. | .isNil .. => true
  | _ => false
def SOp.opds : SOp → List Operand
  | .mov x | .box _ x | .load _ _ x | .fld _ x | .field _ _ _ x | .un _ x | .len x | .ext x _ | .conv _ x => [x]
  | .pick a b c | .mapUpd _ _ a b c => [a, b, c]
  | .alloc _ _ | .mkMap _ _ => []
  | .boxZ _ x | .mkIfc _ x | .mlen x | .rng _ _ x | .nxt x | .ent x | .nilC x | .isNil _ _ x => [x]
  | .mkFn _ fs cs => fs ++ cs
  | .slcS _ x lo hi | .slcA _ _ x lo hi => x :: (lo.toList ++ hi.toList)
  | .shift _ a x | .lookup _ _ _ _ a x => [a, x]
  | .callV x xs => x :: xs
  | .callI _ x xs => x :: xs
  | .build _ ps => ps.map (·.2.2)
  | .buildSl _ _ _ _ ps => ps.map (·.2)
  | .store _ a x | .idxS _ a x | .idxA _ _ a x | .index _ _ _ a x | .bin _ a x | .binB _ a x | .eqC _ _ a x | .append _ _ _ a x | .makeSl _ _ _ _ a x | .strAt a x => [a, x]
  | .max xs | .min xs | .call _ xs | .callM _ xs | .callG _ xs => xs
def ev (T : Nat → SV) : Operand → SV
  | .tmp t => T t
  | .const v => .c (.val v)
  | .global _ => .dead
  | .func f => .c (.fn f [] [])
def CV.cells : CV → Option (List CV)
  | .agg xs => some xs
  | .tup _ => none
  | .val (.agg cs) => some (cs.toList.map .val)
  | .val (.tuple _) => none
  | x => some [x]
def SV.cells : SV → Option (List SV)
  | .c x => x.cells.map (·.map .c)
  | .agg xs => some xs
  | .tup _ | .dead => none
  | x => some [x]
def SV.one : SV → Bool
  | .c x => x.one
  | .agg _ | .tup _ | .dead => false
  | _ => true
def aggS : SV → Option (List SV)
  | .agg xs => some xs
  | .c (.agg xs) => some (xs.map .c)
  | .c (.val (.agg cs)) => some (cs.toList.map fun v => .c (.val v))
  | _ => none
def mkS (ag : Bool) (xs : List SV) : Option SV :=
  if ag then some (.agg xs) else match xs with
    | [x] => some x
    | _ => none
def setMany {α : Type} : List α → Nat → List α → List α
  | xs, _, [] => xs
  | xs, j, v :: vs => setMany (xs.set j v) (j + 1) vs
def toC : SV → Option CV
  | .c x => some x
  | _ => none
def allC : List SV → Option (List CV)
  | [] => some []
  | x :: xs => match toC x, allC xs with
    | some y, some ys => some (y :: ys)
    | _, _ => none
def binI (op : BinOp) (k : IntKind) (x y : Int) : Option Value := match op with
  | .add => some (.int k (k.wrap (x + y)))
  | .sub => some (.int k (k.wrap (x - y)))
  | .mul => some (.int k (k.wrap (x * y)))
  | .quo => if y = 0 then none else some (.int k (k.wrap (x.tdiv y)))
  | .rem => if y = 0 then none else some (.int k (x.tmod y))
  | .eql => some (.bool (x == y))
  | .neq => some (.bool (x != y))
  | .lss => some (.bool (decide (x < y)))
  | .leq => some (.bool (decide (x ≤ y)))
  | .gtr => some (.bool (decide (x > y)))
  | .geq => some (.bool (decide (x ≥ y)))
  | .and => some (.int k (k.wrap ((BitVec.ofInt k.bits x &&& BitVec.ofInt k.bits y).toNat : Int)))
  | .or => some (.int k (k.wrap ((BitVec.ofInt k.bits x ||| BitVec.ofInt k.bits y).toNat : Int)))
  | .xor => some (.int k (k.wrap ((BitVec.ofInt k.bits x ^^^ BitVec.ofInt k.bits y).toNat : Int)))
  | _ => none
def binS (op : BinOp) : SV → SV → Option SV
  | .c (.val (.int k a)), .c (.val (.int k' b)) => if k = k' then (binI op k a b).map fun v => .c (.val v) else none
  | _, _ => none
def boolS (neg : Bool) : SV → SV → Option SV
  | .c (.val (.bool a)), .c (.val (.bool b)) => some (.c (.val (.bool (if neg then !(a == b) else a == b))))
  | _, _ => none
def unS (op : UnOp) : SV → Option SV
  | .c (.val (.int k a)) => match op with
    | .neg => some (.c (.val (.int k (k.wrap (0 - a)))))
    | _ => none
  | .c (.val (.bool b)) => match op with
    | .not => some (.c (.val (.bool !b)))
    | _ => none
  | _ => none
def eqS : List Bool → List SV → List SV → Option Bool
  | [], [], [] => some true
  | true :: ks, .c (.val (.int k a)) :: xs, .c (.val (.int k' b)) :: ys => if k = k' then (eqS ks xs ys).map fun r => a == b && r else none
  | false :: ks, .c (.val (.bool a)) :: xs, .c (.val (.bool b)) :: ys => (eqS ks xs ys).map fun r => a == b && r
  | _, _, _ => none
def rowsOf (H : Nat → Option Blk) (k : Nat) : SV → Option (List (List CV))
  | .c (.sl k' rows) => if k' = k ∨ rows = [] then some rows else none
  | .c (.val (.slice none 0 0)) => some []
  | .own id len => match H id with
    | some (.arr _ k' rows) => if k' = k ∧ len = rows.length then some rows else none
    | _ => none
  | _ => none
def closeP (H : Nat → Option Blk) : SV → Option CV
  | .c x => some x
  | .own id len => match H id with
    | some (.arr _ k rows) => if len = rows.length then some (.sl k rows) else none
    | _ => none
  | .ptr id j => match H id with
    | some (.box _ cs) => match allC (cs.drop j) with
      | some xs => if xs.all CV.one then some (.ref xs) else none
      | none => none
    | _ => none
  | .om id => match H id with
    | some (.map ag kd es) => some (.map ag kd es)
    | _ => none
  | _ => none
def closePL (H : Nat → Option Blk) : List SV → Option (List CV)
  | [] => some []
  | x :: xs => match closeP H x, closePL H xs with
    | some y, some ys => some (y :: ys)
    | _, _ => none
def close1 (H : Nat → Option Blk) : SV → Option CV
  | .fn f fs cs => match closePL H fs, closePL H cs with
    | some xs, some ys => some (.fn f xs ys)
    | _, _ => none
  | x => closeP H x
def closeL (H : Nat → Option Blk) : List SV → Option (List CV)
  | [] => some []
  | x :: xs => match close1 H x, closeL H xs with
    | some y, some ys => some (y :: ys)
    | _, _ => none
def close (H : Nat → Option Blk) : SV → Option CV
  | .agg xs => (closeL H xs).map .agg
  | x => close1 H x
def closeAll (H : Nat → Option Blk) : List SV → Option (List CV)
  | [] => some []
  | x :: xs => match close H x, closeAll H xs with
    | some y, some ys => some (y :: ys)
    | _, _ => none
def clsS : SV → Option CV
  | .c x => some x
  | .agg xs => match allC xs with
    | some ys => some (.agg ys)
    | none => none
  | _ => none
def openC : CV → SV
  | .tup xs => .tup (xs.map .c)
  | x => .c x
def fillC : List SV → List (Nat × Nat × SV) → Option (List SV)
  | cs, [] => some cs
  | cs, (off, n, x) :: ps => match x.cells with
    | some vs => if vs.length = n ∧ off + n ≤ cs.length then fillC (setMany cs off vs) ps else none
    | none => none
def chunk {α : Type} (k : Nat) : Nat → List α → List (List α)
  | 0, _ => []
  | n + 1, xs => xs.take k :: chunk k n (xs.drop k)
def maxF (k : IntKind) : Int → List SV → Option Int
  | a, [] => some a
  | a, .c (.val (.int k' b)) :: xs => if k' = k then maxF k (if b > a then b else a) xs else none
  | _, _ => none
def minF (k : IntKind) : Int → List SV → Option Int
  | a, [] => some a
  | a, .c (.val (.int k' b)) :: xs => if k' = k then minF k (if b < a then b else a) xs else none
  | _, _ => none
def bound (g : Operand → SV) (d : Nat) : Option Operand → Option Nat
  | none => some d
  | some x => match g x with
    | .c (.val (.int _ n)) => if 0 ≤ n then some n.toNat else none
    | _ => none
def intsOf (kd : IntKind) : List SV → Option (List Int)
  | [] => some []
  | .c (.val (.int k n)) :: xs => if k = kd then (intsOf kd xs).map (n :: ·) else none
  | _ => none
def keyS (ag : Bool) (kd : IntKind) (x : SV) : Option (List Int) := match ag with
  | true => match aggS x with
    | some xs => intsOf kd xs
    | none => none
  | false => intsOf kd [x]
def getM (es : List (List Int × CV)) (k : List Int) : Option CV := (es.find? fun p => p.1 == k).map (·.2)
def putM (es : List (List Int × CV)) (k : List Int) (v : CV) : List (List Int × CV) := if es.any (fun p => p.1 == k) then es.map fun p => if p.1 == k then (p.1, v) else p else es ++ [(k, v)]
def entsS (H : Nat → Option Blk) (ag : Bool) (kd : IntKind) : SV → Option (List (List Int × CV))
  | .c (.map ag' kd' es) => if ag' = ag ∧ kd' = kd then some es else none
  | .c (.val (.map none)) => some []
  | .om id => match H id with
    | some (.map ag' kd' es) => if ag' = ag ∧ kd' = kd then some es else none
    | _ => none
  | _ => none
def shiftI (l : Bool) (k : IntKind) (x y : Int) : Option Value := if y < 0 then none else some (.int k (if l then k.wrap (x * 2 ^ (min y.toNat k.bits)) else x.fdiv (2 ^ (min y.toNat k.bits))))
def shiftS (l : Bool) : SV → SV → Option SV
  | .c (.val (.int k a)), .c (.val (.int _ b)) => (shiftI l k a b).map fun v => .c (.val v)
  | _, _ => none
def nilS (H : Nat → Option Blk) : Nat → SV → Option (Option Bool)
  | 0, .c (.sl _ rows) | 0, .c (.slx _ rows) => some (if rows.isEmpty then none else some false)
  | 0, .c (.val (.slice a _ _)) => some (some a.isNone)
  | 0, .own id len => match H id with
    | some (.arr _ _ rows) => if len = rows.length then some (if rows.isEmpty then none else some false) else none
    | _ => none
  | 1, .c (.map _ _ es) => some (if es.isEmpty then none else some false)
  | 1, .c (.val (.map a)) => some (some a.isNone)
  | 1, .om _ => some (some false)
  | 2, .c (.ref _) | 2, .ptr _ _ | 2, .pel _ _ _ _ => some (some false)
  | 2, .c (.val (.pointer a)) => some (some a.isNone)
  | 3, .c (.ifc _ _) => some (some false)
  | 3, .c (.val .nilIface) => some (some true)
  | 4, .c (.fn _ _ _) | 4, .fn _ _ _ => some (some false)
  | 4, .c (.val .nilFunc) => some (some true)
  | _, _ => none
def rngS (ag : Bool) (kd : IntKind) : SV → Option (List (List Int × CV))
  | .c (.map ag' kd' es) => if ag' = ag ∧ kd' = kd then some es else none
  | .c (.val (.map none)) => some []
  | _ => none
def keyC (ag : Bool) (kd : IntKind) (ns : List Int) : CV := if ag then .agg (ns.map fun n => .val (.int kd n)) else .val (.int kd (ns.headD 0))
def actF (site : Nat) (g : Operand → SV) (H : Nat → Option Blk) : SOp → Option (SV × Option (Nat × Blk))
  | .mov x => some (g x, none)
  | .pick c a b => match g c with
    | .c (.val (.bool t)) => some (if t then g a else g b, none)
    | _ => none
  | .box t x => match (g x).cells, H site with
    | some cs, none => if cs.all SV.one then some (.ptr site 0, some (site, .box t cs)) else none
    | _, _ => none
  | .alloc t zero => match H site with
    | none => some (.ptr site 0, some (site, .box t (zero.map fun v => .c (.val v))))
    | some _ => none
  | .build zero ps => (fillC (zero.map fun v => .c (.val v)) (ps.map fun p => (p.1, p.2.1, g p.2.2))).map fun cs => (.agg cs, none)
  | .buildSl e k zero len ps => match H site with
    | none => match fillC ((List.replicate len (zero.map fun v => .c (.val v))).flatten) (ps.map fun p => (p.1 * k, k, g p.2)) with
      | some cells => match allC cells with
        | some ws => if ws.all CV.one then some (.own site len, some (site, .arr e k (chunk k len ws))) else none
        | none => none
      | none => none
    | some _ => none
  | .load ag n a => match g a with
    | .ptr id j => match H id with
      | some (.box _ cs) => if j + n ≤ cs.length then (mkS ag ((cs.drop j).take n)).map fun x => (x, none) else none
      | _ => none
    | .pow id len i j => match H id with
      | some (.arr _ _ rows) => if len = rows.length then match rows[i]? with
          | some row => if j + n ≤ row.length then (mkS ag (((row.drop j).take n).map .c)).map fun x => (x, none) else none
          | none => none
        else none
      | _ => none
    | .pel _ rows i j => match rows[i]? with
      | some row => if j + n ≤ row.length then (mkS ag (((row.drop j).take n).map .c)).map fun x => (x, none) else none
      | none => none
    | .c (.ref xs) => if n ≤ xs.length then (mkS ag ((xs.take n).map .c)).map fun x => (x, none) else none
    | _ => none
  | .store n a x => match g a, (g x).cells with
    | .ptr id j, some vs => if vs.length = n ∧ vs.all SV.one then match H id with
        | some (.box t cs) => if j + n ≤ cs.length then some (.dead, some (id, .box t (setMany cs j vs))) else none
        | _ => none
      else none
    | .pow id len i j, some vs => if vs.length = n ∧ vs.all SV.one then match H id with
        | some (.arr t k rows) => if len = rows.length then match rows[i]?, allC vs with
            | some row, some ws => if j + n ≤ row.length then some (.dead, some (id, .arr t k (rows.set i (setMany row j ws)))) else none
            | _, _ => none
          else none
        | _ => none
      else none
    | _, _ => none
  | .fld off x => match g x with
    | .ptr id j => some (.ptr id (j + off), none)
    | .pow id len i j => match H id with
      | some (.arr _ _ rows) => if len = rows.length then some (.pow id len i (j + off), none) else none
      | _ => none
    | .pel k rows i j => some (.pel k rows i (j + off), none)
    | .c (.ref xs) => if off < xs.length then some (.c (.ref (xs.drop off)), none) else none
    | _ => none
  | .field ag off n x => match (g x) with
    | .agg xs => if off + n ≤ xs.length then (mkS ag ((xs.drop off).take n)).map fun x => (x, none) else none
    | .c (.agg xs) => if off + n ≤ xs.length then (mkS ag (((xs.drop off).take n).map .c)).map fun x => (x, none) else none
    | _ => none
  | .idxS k x i => match g i with
    | .c (.val (.int _ n)) => match g x with
      | .c (.sl k' rows) => if k' = k ∧ 0 ≤ n ∧ n.toNat < rows.length then some (.pel k rows n.toNat 0, none) else none
      | .own id len => match H id with
        | some (.arr _ k' rows) => if k' = k ∧ len = rows.length ∧ 0 ≤ n ∧ n.toNat < rows.length then some (.pow id len n.toNat 0, none) else none
        | _ => none
      | _ => none
    | _ => none
  | .idxA len k x i => match g i with
    | .c (.val (.int _ n)) => if 0 ≤ n ∧ n < len then match g x with
      | .ptr id j => some (.ptr id (j + n.toNat * k), none)
      | .pow id l i0 j => match H id with
        | some (.arr _ _ rows) => if l = rows.length then some (.pow id l i0 (j + n.toNat * k), none) else none
        | _ => none
      | .pel k' rows i0 j => some (.pel k' rows i0 (j + n.toNat * k), none)
      | .c (.ref xs) => if n.toNat * k < xs.length then some (.c (.ref (xs.drop (n.toNat * k))), none) else none
      | _ => none else none
    | _ => none
  | .index len k ag x i => match g i with
    | .c (.val (.int _ n)) => if 0 ≤ n ∧ n < len then match g x with
      | .agg xs => if n.toNat * k + k ≤ xs.length then (mkS ag ((xs.drop (n.toNat * k)).take k)).map fun x => (x, none) else none
      | .c (.agg xs) => if n.toNat * k + k ≤ xs.length then (mkS ag (((xs.drop (n.toNat * k)).take k).map .c)).map fun x => (x, none) else none
      | _ => none else none
    | _ => none
  | .bin op x y => (binS op (g x) (g y)).map fun r => (r, none)
  | .binB neg x y => (boolS neg (g x) (g y)).map fun r => (r, none)
  | .eqC neg ks x y => match aggS (g x), aggS (g y) with
    | some xs, some ys => (eqS ks xs ys).map fun r => (.c (.val (.bool (if neg then !r else r))), none)
    | _, _ => none
  | .un op x => (unS op (g x)).map fun r => (r, none)
  | .len x => match g x with
    | .c (.sl _ rows) => some (.c (.val (.int .i64 rows.length)), none)
    | .c (.val (.slice none 0 0)) => some (.c (.val (.int .i64 0)), none)
    | .own id len => match H id with
      | some (.arr _ _ rows) => if len = rows.length then some (.c (.val (.int .i64 len)), none) else none
      | _ => none
    | _ => none
  | .append e k bytes s x => match rowsOf H k (g x) with
    | some src => match g s with
      | .own id len => match H id with
        | some (.arr t k' rows) => if t = e ∧ k' = k ∧ len = rows.length ∧ rows.length + src.length ≤ 9223372036854775807 ∧ (rows.length + src.length) * bytes ≤ 140737488355328 then
            some (.own id (rows.length + src.length), some (id, .arr t k (rows ++ src))) else none
        | _ => none
      | .c (.val (.slice none 0 0)) => match H site with
        | none => if src.length ≤ 9223372036854775807 ∧ src.length * bytes ≤ 140737488355328 then some (.own site src.length, some (site, .arr e k src)) else none
        | some _ => none
      | .c (.slx k' rows) => match H site with
        | none => if k' = k ∧ rows ≠ [] ∧ src ≠ [] ∧ rows.length + src.length ≤ 9223372036854775807 ∧ (rows.length + src.length) * bytes ≤ 140737488355328 then some (.own site (rows.length + src.length), some (site, .arr e k (rows ++ src))) else none
        | some _ => none
      | _ => none
    | none => none
  | .makeSl e k bytes zero l c => match g l, g c, H site with
    | .c (.val (.int _ n)), .c (.val (.int _ m)), none => if n = m ∧ 0 ≤ n ∧ n * bytes ≤ 140737488355328 ∧ n ≤ 9223372036854775807 then some (.own site n.toNat, some (site, .arr e k (List.replicate n.toNat (zero.map CV.val)))) else none
    | _, _, _ => none
  | .ext x i => match g x with
    | .tup xs => (xs[i]?).map fun x => (x, none)
    | _ => none
  | .conv k x => match g x with
    | .c (.val (.int _ n)) => some (.c (.val (.int k (k.wrap n))), none)
    | _ => none
  | .max xs => match xs.map g with
    | .c (.val (.int k a)) :: r => (maxF k a r).map fun m => (.c (.val (.int k m)), none)
    | _ => none
  | .min xs => match xs.map g with
    | .c (.val (.int k a)) :: r => (minF k a r).map fun m => (.c (.val (.int k m)), none)
    | _ => none
  | .call _ _ | .callV _ _ | .callM _ _ | .callG _ _ | .callI .. | .nxt .. | .isNil .. => none
  | .boxZ _ x => match (g x).cells with
    | some cs => match allC cs with
      | some ws => if ws.all CV.one then some (.c (.ref ws), none) else none
      | none => none
    | none => none
  | .mkFn f fs cs => match allC (fs.map g), allC (cs.map g) with
    | some xs, some ys => some (.c (.fn f xs ys), none)
    | _, _ => some (.fn f (fs.map g) (cs.map g), none)
  | .slcS k x lo hi => match g x with
    | .c (.sl k' rows) => match bound g 0 lo, bound g rows.length hi with
      | some l, some h => if k' = k ∧ l ≤ h ∧ h ≤ rows.length then some (.c (.sl k ((rows.drop l).take (h - l))), none) else none
      | _, _ => none
    | _ => none
  | .slcA len k x lo hi => match g x with
    | .c (.ref xs) => match bound g 0 lo, bound g len hi with
      | some l, some h => if l ≤ h ∧ h ≤ len ∧ len * k ≤ xs.length then some (.c (.sl k (((chunk k len xs).drop l).take (h - l))), none) else none
      | _, _ => none
    | _ => none
  | .shift l x y => (shiftS l (g x) (g y)).map fun r => (r, none)
  | .mkMap ag kd => match H site with
    | none => some (.om site, some (site, .map ag kd []))
    | some _ => none
  | .mapUpd ag kd m k v => match g m, keyS ag kd (g k), toC (g v) with
    | .om id, some key, some x => match H id with
      | some (.map ag' kd' es) => if ag' = ag ∧ kd' = kd ∧ es.length < 9223372036854775807 then some (.dead, some (id, .map ag kd (putM es key x))) else none
      | _ => none
    | _, _, _ => none
  | .lookup ag kd zero ok m k => match entsS H ag kd (g m), keyS ag kd (g k) with
    | some es, some key => let r : SV := .c ((getM es key).getD (.val zero)); some (if ok then .tup [r, .c (.val (.bool (getM es key).isSome))] else r, none)
    | _, _ => none
  | .mlen x => match g x with
    | .c (.map _ _ es) => some (.c (.val (.int .i64 es.length)), none)
    | .c (.val (.map none)) => some (.c (.val (.int .i64 0)), none)
    | .om id => match H id with
      | some (.map _ _ es) => some (.c (.val (.int .i64 es.length)), none)
      | _ => none
    | _ => none
  | .mkIfc t x => match clsS (g x) with
    | some y => some (.c (.ifc t y), none)
    | none => none
  | .rng ag kd m => match H site, rngS ag kd (g m) with
    | none, some es => some (.it site, some (site, .it ag kd es none))
    | _, _ => none
  | .strAt x i => match g x, g i with
    | .c (.val (.string s)), .c (.val (.int _ n)) => if 0 ≤ n then (s[n.toNat]?).map fun b => (.c (.val (.int .u8 b.toNat)), none) else none
    | _, _ => none
  | .nilC x => match g x with
    | .c (.ifc t y) => some (.c (.ifc t y), none)
    | .c (.fn f fs cs) => some (.c (.fn f fs cs), none)
    | .c (.ref xs) => some (.c (.ref xs), none)
    | .ptr id j => some (.ptr id j, none)
    | .pel k rows i j => some (.pel k rows i j, none)
    | .fn f fs cs => some (.fn f fs cs, none)
    | _ => none
  | .ent x => match g x with
    | .it id => match H id with
      | some (.it ag kd _ (some p)) => some (.tup [.c (keyC ag kd p.1), .c p.2], none)
      | _ => none
    | _ => none
end Go.Proofs.YtboifcengmgcaaaGreat
/- The shadow's operations are sound, I: cells, values, what only computes. -/
namespace Go.Proofs.YtboifcengmgcaaaGreat
open Go.RowKit
section
variable {w : World} {NA : Nat → Prop} {ρ : Nat → Option Nat} {H : Nat → Option Blk}
def RepL (w : World) (NA : Nat → Prop) (ρ : Nat → Option Nat) (H : Nat → Option Blk) (xs : List SV) (vs : List Value) : Prop :=
  vs.length = xs.length ∧ ∀ (i : Nat) x v, xs[i]? = some x → vs[i]? = some v → RepS w NA ρ H x v
theorem RepL.get {xs : List SV} {vs : List Value} (h : RepL w NA ρ H xs vs) {i : Nat} {x : SV} (hx : xs[i]? = some x) : ∃ v, vs[i]? = some v ∧ RepS w NA ρ H x v := by
  have hi : i < vs.length := by rw [h.1]; exact (List.getElem?_eq_some_iff.1 hx).1
  exact ⟨vs[i], List.getElem?_eq_getElem hi, h.2 i x _ hx (List.getElem?_eq_getElem hi)⟩
theorem RepL.nil : RepL w NA ρ H [] [] := ⟨rfl, fun i x v hx => by simp at hx⟩
theorem RepL.cons {x : SV} {v : Value} {xs : List SV} {vs : List Value} (h : RepS w NA ρ H x v) (hs : RepL w NA ρ H xs vs) : RepL w NA ρ H (x :: xs) (v :: vs) := by
  refine ⟨by simp [hs.1], fun i y u hy hu => ?_⟩
  cases i with
  | zero => simp at hy hu; subst hy; subst hu; exact h
  | succ i => exact hs.2 i y u (by simpa using hy) (by simpa using hu)
theorem RepL.set {xs : List SV} {vs : List Value} (h : RepL w NA ρ H xs vs) (j : Nat) {x : SV} {v : Value} (hx : RepS w NA ρ H x v) : RepL w NA ρ H (xs.set j x) (vs.set j v) := by
  refine ⟨by simp [h.1], fun i y u hy hu => ?_⟩
  rw [List.getElem?_set] at hy hu
  by_cases hij : j = i
  · subst hij
    rw [if_pos rfl] at hy hu
    split at hy
    · rw [if_pos (by rw [h.1]; assumption)] at hu
      cases hy; cases hu; exact hx
    · cases hy
  · rw [if_neg hij] at hy hu
    exact h.2 i y u hy hu
theorem RepL.setMany : ∀ {vs : List SV} {us : List Value} {xs : List SV} {ys : List Value} (_ : RepL w NA ρ H vs us) (_ : RepL w NA ρ H xs ys) (j : Nat), RepL w NA ρ H (setMany xs j vs) (setMany ys j us)
  | [], [], _, _, _, h, _ => h
  | [], _ :: _, _, _, h, _, _ => by have := h.1; simp at this
  | _ :: _, [], _, _, h, _, _ => by have := h.1; simp at this
  | v :: vs, u :: us, xs, ys, h, hs, j => by
    have h0 : RepS w NA ρ H v u := h.2 0 v u rfl rfl
    have h1 : RepL w NA ρ H vs us := ⟨by have := h.1; simpa using this, fun i x y hx hy => h.2 (i + 1) x y (by simpa using hx) (by simpa using hy)⟩
    exact RepL.setMany h1 (hs.set j h0) (j + 1)
theorem RepL.sub {xs : List SV} {vs : List Value} (h : RepL w NA ρ H xs vs) (j n : Nat) : RepL w NA ρ H ((xs.drop j).take n) ((vs.drop j).take n) := by
  refine ⟨by simp [h.1], fun i x v hx hv => ?_⟩
  rw [List.getElem?_take] at hx hv
  split at hx
  · rw [if_pos (by assumption)] at hv
    rw [List.getElem?_drop] at hx hv
    exact h.2 _ x v hx hv
  · cases hx
theorem RepL.of_closed {xs : List CV} {vs : List Value} (hl : vs.length = xs.length) (h : ∀ (i : Nat) x v, xs[i]? = some x → vs[i]? = some v → RepC w (Mut NA ρ H) x v) : RepL w NA ρ H (xs.map .c) vs := by
  refine ⟨by simp [hl], fun i x v hx hv => ?_⟩
  rw [List.getElem?_map] at hx
  cases hy : xs[i]? with
  | none => rw [hy] at hx; simp at hx
  | some y => rw [hy] at hx; simp at hx; subst hx; exact .c y v (h i y v hy hv)
theorem RepL.closed : ∀ {xs : List SV} {vs : List Value} {cs : List CV}, RepL w NA ρ H xs vs → allC xs = some cs → vs.length = cs.length ∧ ∀ (i : Nat) x v, cs[i]? = some x → vs[i]? = some v → RepC w (Mut NA ρ H) x v
  | [], vs, cs, h, hc => by
    simp [allC] at hc; subst hc
    exact ⟨by have := h.1; simpa using this, fun i x v hx => by simp at hx⟩
  | x :: xs, [], cs, h, _ => by have := h.1; simp at this
  | x :: xs, v :: vs, cs, h, hc => by
    unfold allC at hc
    cases x with
    | c y =>
      cases hr : allC xs with
      | none => rw [hr] at hc; simp [toC] at hc
      | some ys =>
        rw [hr] at hc; simp [toC] at hc; subst hc
        obtain ⟨h1, h2⟩ := RepL.closed (xs := xs) (vs := vs) (cs := ys) ⟨by have := h.1; simpa using this, fun i x y hx hy => h.2 (i + 1) x y (by simpa using hx) (by simpa using hy)⟩ hr
        refine ⟨by simp [h1], fun i z u hz hu => ?_⟩
        cases i with
        | zero =>
          simp at hz hu; subst hz; subst hu
          have := h.2 0 _ _ rfl rfl
          cases this; assumption
        | succ i => exact h2 i z u (by simpa using hz) (by simpa using hu)
    | _ => simp [toC] at hc
theorem cellsC {x : CV} {v : Value} {cs : List CV} (h : RepC w (Mut NA ρ H) x v) (hc : x.cells = some cs) : v.cells.toList.length = cs.length ∧ ∀ (i : Nat) y u, cs[i]? = some y → v.cells.toList[i]? = some u → RepC w (Mut NA ρ H) y u := by
  have single : ∀ (y : CV) (u : Value), RepC w (Mut NA ρ H) y u → u.cells = #[u] → u.cells.toList.length = [y].length ∧ ∀ (i : Nat) z t, [y][i]? = some z → u.cells.toList[i]? = some t → RepC w (Mut NA ρ H) z t := fun y u hy hu => by
    rw [hu]
    refine ⟨rfl, fun i z t hz ht => ?_⟩
    cases i with
    | zero => simp at hz ht; subst hz; subst ht; exact hy
    | succ i => simp at hz
  cases h with
  | val v =>
    cases v <;> simp [CV.cells] at hc <;> subst hc <;> first
      | exact single _ _ (.val _) rfl
      | skip
    rename_i cs
    refine ⟨by simp [Value.cells], fun i y u hy hu => ?_⟩
    simp only [Value.cells] at hu
    rw [List.getElem?_map, hu] at hy
    simp at hy; subst hy
    exact .val u
  | agg xs vs hs hv =>
    simp [CV.cells] at hc; subst hc
    exact ⟨by simpa [Value.cells] using hs, fun i y u hy hu => hv i y u hy (by simpa [Value.cells] using hu)⟩
  | tup xs vs hs hv => simp [CV.cells] at hc
  | nil k a c h1 => simp [CV.cells] at hc; subst hc; exact single _ _ (.nil k a c h1) rfl
  | sl k rows b off c u h1 h2 h3 h4 h5 h6 h7 => simp [CV.cells] at hc; subst hc; exact single _ _ (.sl k rows b off c u h1 h2 h3 h4 h5 h6 h7) rfl
  | slx k rows ad h => simp [CV.cells] at hc; subst hc; exact single _ _ (.slx k rows ad h) rfl
  | fn f fs cs vf vc h1 h2 h3 h4 => simp [CV.cells] at hc; subst hc; exact single _ _ (.fn f fs cs vf vc h1 h2 h3 h4) rfl
  | ref xs b off u h1 h2 h3 h4 h5 => simp [CV.cells] at hc; subst hc; exact single _ _ (.ref xs b off u h1 h2 h3 h4 h5) rfl
  | nilm ag kd => simp [CV.cells] at hc; subst hc; exact single _ _ (.nilm ag kd) rfl
  | map ag kd es b ents clock h1 h2 h3 h4 h5 => simp [CV.cells] at hc; subst hc; exact single _ _ (.map ag kd es b ents clock h1 h2 h3 h4 h5) rfl
  | ifc t x v h => simp [CV.cells] at hc; subst hc; exact single _ _ (.ifc t x v h) rfl
theorem oneC {x : CV} {v : Value} {N : Nat → Prop} (h : RepC w N x v) (h1 : x.one = true) : v.oneCell' = true := by
  cases h with
  | val v => cases v <;> simp [CV.one] at h1 <;> rfl
  | agg xs vs hs hv => simp [CV.one] at h1
  | tup xs vs hs hv => simp [CV.one] at h1
  | nil k a c h1 => rfl
  | sl k rows b off c u h1 h2 h3 h4 h5 h6 h7 => rfl
  | slx => rfl
  | fn => rfl
  | ref => rfl
  | nilm => rfl
  | map => rfl
  | ifc => rfl
theorem oneS {x : SV} {v : Value} (h : RepS w NA ρ H x v) (h1 : x.one = true) : v.oneCell' = true := by
  cases h with
  | c x v r => exact oneC r h1
  | agg xs vs hs hv => simp [SV.one] at h1
  | tup xs vs hs hv => simp [SV.one] at h1
  | own id len t k rows v hH hl ho hv => exact ho
  | ptrB => rfl
  | ptrA id len i j t k rows v hH hl ho hv => exact ho
  | pel => rfl
  | fn => rfl
  | yl => rfl
  | om => rfl
  | it => rfl
  | dead v => simp [SV.one] at h1
theorem cells_one {v : Value} (h : v.oneCell' = true) : v.cells = #[v] := by cases v <;> simp [Value.oneCell'] at h <;> rfl
theorem cellsS {x : SV} {v : Value} {cs : List SV} (h : RepS w NA ρ H x v) (hc : x.cells = some cs) : RepL w NA ρ H cs v.cells.toList := by
  have single : ∀ (y : SV) (u : Value), RepS w NA ρ H y u → u.oneCell' = true → RepL w NA ρ H [y] u.cells.toList := fun y u hy hu => by
    rw [cells_one hu]; exact RepL.cons hy RepL.nil
  cases h with
  | c x v r =>
    simp only [SV.cells, Option.map_eq_some_iff] at hc
    obtain ⟨ys, hy, rfl⟩ := hc
    obtain ⟨h1, h2⟩ := cellsC r hy
    exact RepL.of_closed h1 h2
  | agg xs vs hs hv => simp [SV.cells] at hc; subst hc; exact ⟨by simpa [Value.cells] using hs, fun i x v hx hv' => hv i x v hx (by simpa [Value.cells] using hv')⟩
  | tup xs vs hs hv => simp [SV.cells] at hc
  | own id len t k rows v hH hl ho hv => simp [SV.cells] at hc; subst hc; exact single _ _ (.own id len t k rows v hH hl ho hv) ho
  | ptrB id j t cells b h1 h2 => simp [SV.cells] at hc; subst hc; exact single _ _ (.ptrB id j t cells b h1 h2) rfl
  | ptrA id len i j t k rows v hH hl ho hv => simp [SV.cells] at hc; subst hc; exact single _ _ (.ptrA id len i j t k rows v hH hl ho hv) ho
  | pel k rows i j b off c h1 h2 => simp [SV.cells] at hc; subst hc; exact single _ _ (.pel k rows i j b off c h1 h2) rfl
  | fn f fs cs vf vc h1 h2 h3 h4 => simp [SV.cells] at hc; subst hc; exact single _ _ (.fn f fs cs vf vc h1 h2 h3 h4) rfl
  | yl id lo b h1 h2 => simp [SV.cells] at hc; subst hc; exact single _ _ (.yl id lo b h1 h2) rfl
  | om id ag kd es b h1 h2 => simp [SV.cells] at hc; subst hc; exact single _ _ (.om id ag kd es b h1 h2) rfl
  | it id ag kd l c b h1 h2 => simp [SV.cells] at hc; subst hc; exact single _ _ (.it id ag kd l c b h1 h2) rfl
  | dead v => simp [SV.cells] at hc
theorem RepL.one {xs : List SV} {vs : List Value} (h : RepL w NA ρ H xs vs) (h1 : xs.all SV.one = true) : ∀ v ∈ vs, v.oneCell' = true := fun v hv => by
  obtain ⟨i, hi, rfl⟩ := List.getElem_of_mem hv
  have hi' : i < xs.length := by rw [← h.1]; exact hi
  exact oneS (h.2 i _ _ (List.getElem?_eq_getElem hi') (List.getElem?_eq_getElem hi)) (List.all_eq_true.1 h1 _ (List.getElem_mem hi'))
theorem mkS_rep {ag : Bool} {xs : List SV} {vs : List Value} {x : SV} (h : RepL w NA ρ H xs vs) (hx : mkS ag xs = some x) : if ag then RepS w NA ρ H x (.agg vs.toArray) else ∃ v, vs = [v] ∧ RepS w NA ρ H x v := by
  unfold mkS at hx
  cases ag with
  | true => simp at hx; subst hx; exact .agg xs vs.toArray (by simpa using h.1) (fun i x v hx hv => h.2 i x v hx (by simpa using hv))
  | false =>
    simp at hx
    split at hx
    · rename_i y
      cases hx
      match vs, h with
      | [v], h => exact ⟨v, rfl, h.2 0 _ _ rfl rfl⟩
      | [], h => exact absurd h.1 (by simp)
      | _ :: _ :: _, h => exact absurd h.1 (by simp)
    · cases hx
theorem setMany_fold : ∀ (vs : List Value) (cells : Array Value) (off k : Nat), ((vs.zipIdx k).foldl (fun cs p => cs.setIfInBounds (off + p.2) p.1) cells).toList = setMany cells.toList (off + k) vs
  | [], cells, off, k => by simp [setMany]
  | v :: vs, cells, off, k => by
    rw [List.zipIdx_cons, List.foldl_cons, setMany_fold vs _ off (k + 1)]
    simp [setMany, Nat.add_assoc]
end
section
variable {P : Program} {w : World} {NA : Nat → Prop} {ρ : Nat → Option Nat} {H : Nat → Option Blk} {T : Nat → SV} {a : Act}
theorem rep_ev (ht : ∀ i, RepS w NA ρ H (T i) (a.tmps.getD i undef)) (x : Operand) : RepS w NA ρ H (ev T x) (a.eval x) := by
  cases x with
  | tmp t => exact ht t
  | const v => exact .c _ _ (.val v)
  | global g => exact .dead _
  | func f => exact .c _ _ (.fn f [] [] #[] #[] rfl rfl (fun i x v hx => by simp at hx) (fun i x v hx => by simp at hx))
def places (place : Nat → Option (Nat × Nat)) : List (Nat × Operand) → Option (List (Nat × Nat × Operand))
  | [] => some []
  | (i, x) :: r => match place i, places place r with
    | some (off, n), some l => some ((off, n, x) :: l)
    | _, _ => none
theorem setMany_length {α : Type} : ∀ (vs xs : List α) (j : Nat), (setMany xs j vs).length = xs.length
  | [], _, _ => rfl
  | v :: vs, xs, j => by rw [setMany, setMany_length vs]; simp
theorem fill_rep (ht : ∀ i, RepS w NA ρ H (T i) (a.tmps.getD i undef)) {place : Nat → Option (Nat × Nat)} : ∀ {ps : List (Nat × Operand)} {l : List (Nat × Nat × Operand)} {cs cs' : List SV} {cells : Array Value},
    places place ps = some l → fillC cs (l.map fun p => (p.1, p.2.1, ev T p.2.2)) = some cs' → RepL w NA ρ H cs cells.toList →
    ∃ cells', Instr.fill place cells (ps.map fun p => (p.1, a.eval p.2)) = some cells' ∧ RepL w NA ρ H cs' cells'.toList
  | [], l, cs, cs', cells, hp, hf, h => by
    simp [places] at hp; subst hp
    simp [fillC] at hf; subst hf
    exact ⟨cells, rfl, h⟩
  | (i, x) :: r, l, cs, cs', cells, hp, hf, h => by
    unfold places at hp
    cases h1 : place i with
    | none => rw [h1] at hp; simp at hp
    | some p =>
      cases h2 : places place r with
      | none => rw [h1, h2] at hp; simp at hp
      | some l' =>
        obtain ⟨off, n⟩ := p
        rw [h1, h2] at hp; simp at hp; subst hp
        simp only [List.map_cons, fillC] at hf
        cases h3 : (ev T x).cells with
        | none => rw [h3] at hf; simp at hf
        | some vs =>
          rw [h3] at hf
          simp only at hf
          split at hf
          · rename_i hc
            have hr := cellsS (rep_ev ht x) h3
            have e : (((a.eval x).cells.zipIdx.foldl (fun cs (c, j) => cs.setIfInBounds (off + j) c) cells)).toList = setMany cells.toList off (a.eval x).cells.toList := by
              have := setMany_fold (a.eval x).cells.toList cells off 0
              rw [Nat.add_zero] at this
              rw [← this, ← Array.foldl_toList]
              simp
            obtain ⟨cells', h4, h5⟩ := fill_rep ht h2 hf (cells := (a.eval x).cells.zipIdx.foldl (fun cs (c, j) => cs.setIfInBounds (off + j) c) cells) (by rw [e]; exact RepL.setMany hr h off)
            refine ⟨cells', ?_, h5⟩
            simp only [List.map_cons, Instr.fill, h1]
            have e1 : (a.eval x).cells.size = n := by have := hr.1; rw [hc.1] at this; simpa using this
            have e2 : cells.size = cs.length := by have := h.1; simpa using this
            rw [if_neg (by simp [e1, e2]; omega)]
            exact h4
          · cases hf
end
end Go.Proofs.YtboifcengmgcaaaGreat
/- Operations with their types resolved. -/
namespace Go.Proofs.YtboifcengmgcaaaGreat
open Go.RowKit
def aggD : TypeDesc → Bool
  | .struct _ | .array _ _ => true
  | _ => false
def isAggT (P : Program) (t : TypeId) : Option Bool := (P.underlying t).map aggD
def sizeT (P : Program) (t : TypeId) : Option Nat := (P.info? t).map (·.size)
def flatFs (P : Program) (rec : TypeId → Option (List Bool)) : List Field → Nat → Option (List Bool)
  | [], _ => some []
  | f :: fs, acc => match rec f.type with
    | some ks => if f.name ≠ "_" ∧ f.offset = acc ∧ sizeT P f.type = some ks.length ∧ ks.length ≠ 0 then (flatFs P rec fs (acc + ks.length)).map (ks ++ ·) else none
    | none => none
def flatT (P : Program) : Nat → TypeId → Option (List Bool)
  | 0, _ => none
  | d + 1, t => match P.underlying t with
    | some (.int _) => some [true]
    | some .bool => some [false]
    | some (.struct fs) => if P.stoodInHeld t then none else flatFs P (flatT P d) fs.toList 0
    | some (.array n e) => match flatT P d e, P.info? e with
      | some ks, some i => if i.size = ks.length ∧ ks.length ≠ 0 then some ((List.replicate n ks).flatten) else none
      | _, _ => none
    | _ => none
def isIntT (P : Program) (t : TypeId) : Bool := match P.underlying t with
  | some (.int _) => true
  | _ => false
def mapT (P : Program) (t : TypeId) : Option (IntKind × TypeId) := match P.underlying t with
  | some (.map k e) => match P.underlying k with
    | some (.int kd) => some (kd, e)
    | _ => none
  | _ => none
def nilT : TypeDesc → Value → Option Nat
  | .slice _, .slice none _ _ => some 0
  | .map _ _, .map none => some 1
  | .pointer _, .pointer none => some 2
  | .interface _, .nilIface => some 3
  | .func _ _ _, .nilFunc => some 4
  | _, _ => none
def compOp (P : Program) (o : Oper) : Option SOp := match o.op with
  | .move x | .assign x => some (.mov x)
  | .pick c a b => some (.pick c a b)
  | .box t x => some (.box t x)
  | .alloc t => match P.info? t with
    | some i => i.zero.map fun z => .alloc t z.cells.toList
    | none => none
  | .build t ps => match P.info? t, P.underlying t with
    | some it, some (.array _ e) => match it.zero, P.info? e with
      | some z, some ie => (places (fun i => some (i * ie.size, ie.size)) ps.toList).map fun l => .build z.cells.toList l
      | _, _ => none
    | some it, some (.struct fields) => match it.zero, fields.toList.mapM (fun f => (P.info? f.type).map fun i => (f.offset, i.size)) with
      | some z, some pl => (places (pl.toArray[·]?) ps.toList).map fun l => .build z.cells.toList l
      | _, _ => none
    | _, _ => none
  | .buildSlice t len ps => match P.underlying t with
    | some (.slice e) => match P.info? e with
      | some ie => match ie.zero with
        | some z => if ¬ ie.size = 0 ∧ z.cells.size = ie.size ∧ ¬ len * ie.size > 2 ^ 24 ∧ len ≤ 9223372036854775807 ∧ (∀ p ∈ ps.toList, p.1 < len) then some (.buildSl e ie.size z.cells.toList len (ps.toList.map fun p => (p.1, p.2))) else none
        | none => none
      | none => none
    | _ => none
  | .load t x => match isAggT P t, sizeT P t with
    | some ag, some n => if ag = true ∨ n = 1 then some (.load ag n x) else none
    | _, _ => none
  | .store t x y => match sizeT P t with
    | some n => some (.store n x y)
    | none => none
  | .fieldAddr s x f => match P.underlying s with
    | some (.struct fs) => match fs[f]? with
      | some fd => match sizeT P fd.type with
        | some n => if n = 0 then none else some (.fld fd.offset x)
        | none => none
      | none => none
    | _ => none
  | .field s x f => match P.underlying s with
    | some (.struct fs) => match fs[f]? with
      | some fd => match isAggT P fd.type, sizeT P fd.type with
        | some ag, some n => if ag = true ∨ n = 1 then some (.field ag fd.offset n x) else none
        | _, _ => none
      | none => none
    | _ => none
  | .indexAddr t x i => match P.underlying t with
    | some (.slice e) => (sizeT P e).map fun k => .idxS k x i
    | some (.array n e) => (sizeT P e).map fun k => .idxA n k x i
    | _ => none
  | .index t x i => match P.underlying t with
    | some (.array n e) => match isAggT P e, sizeT P e with
      | some ag, some k => if ag = true ∨ k = 1 then some (.index n k ag x i) else none
      | _, _ => none
    | some .string => some (.strAt x i)
    | _ => none
  | .binOp op t x y t' => match P.underlying t with
    | some (.int _) => match op with
      | .shl => if isIntT P t' then some (.shift true x y) else none
      | .shr => if isIntT P t' then some (.shift false x y) else none
      | _ => some (.bin op x y)
    | some .bool => match op with
      | .eql => some (.binB false x y)
      | .neq => some (.binB true x y)
      | _ => none
    | some (.struct _) | some (.array _ _) => if P.eqGuardType P.depth t then none else match op, flatT P 12 t with
      | .eql, some n => some (.eqC false n x y)
      | .neq, some n => some (.eqC true n x y)
      | _, _ => none
    | some td => match y with
      | .const v => match nilT td v, op with
        | some kd, .eql => some (.isNil false kd x)
        | some kd, .neq => some (.isNil true kd x)
        | _, _ => none
      | _ => none
    | none => none
  | .unOp op _ x => some (.un op x)
  | .convert src dst x => match P.underlying src, P.underlying dst with
    | some (.int _), some (.int k) => some (.conv k x)
    | _, _ => none
  | .makeSlice t l c => match P.underlying t with
    | some (.slice e) => match P.info? e with
      | some ie => match ie.zero with
        | some z => if ¬ ie.size = 0 ∧ z.cells.size = ie.size ∧ z.cells.all (·.oneCell') then some (.makeSl e ie.size ie.bytes z.cells.toList l c) else none
        | none => none
      | none => none
    | _ => none
  | .extract x i => some (.ext x i)
  | .call { callee := .builtin .len, args := ⟨[x]⟩, argTypes := ⟨[t]⟩ } => match P.underlying t with
    | some (.slice _) => some (.len x)
    | some (.map _ _) => some (.mlen x)
    | _ => none
  | .call { callee := .builtin .append, args := ⟨[s, x]⟩, argTypes := ⟨[t, t']⟩ } => if t = t' then match P.underlying t with
      | some (.slice e) => match P.info? e with
        | some ie => match ie.zero with
          | some z => if ¬ ie.size = 0 ∧ z.cells.size = ie.size then some (.append e ie.size ie.bytes s x) else none
          | none => none
        | none => none
      | _ => none
    else none
  | .call { callee := .builtin .max, args := ⟨xs⟩, .. } => some (.max xs)
  | .call { callee := .builtin .min, args := ⟨xs⟩, .. } => some (.min xs)
  | .call { callee := .value (.func f), args := ⟨xs⟩, .. } => match P.funcs[f]? with
    | some fn => if fn.body.isSome ∧ (fn.name == "runtime.NumGoroutine") = false then some (.call f xs) else none
    | none => none
  | .call { callee := .value (.tmp x), args := ⟨xs⟩, .. } => some (.callV (.tmp x) xs)
  | .call { callee := .invoke r nm, args := ⟨xs⟩, .. } => some (.callI nm r xs)
  | .makeFunc (.func f) ⟨fs⟩ ⟨cs⟩ => some (.mkFn f fs cs)
  | .slice t x lo hi none => match P.underlying t with
    | some (.slice e) => (sizeT P e).map fun k => .slcS k x lo hi
    | some (.array n e) => if n ≤ maxLen then (sizeT P e).map fun k => .slcA n k x lo hi else none
    | _ => none
  | .makeMap t none => match mapT P t with
    | some (kd, _) => some (.mkMap false kd)
    | none => none
  | .mapUpdate t m k v | .insert t m k v => match mapT P t with
    | some (kd, _) => some (.mapUpd false kd m k v)
    | none => none
  | .lookup t m k ok => match mapT P t with
    | some (kd, e) => match P.info? e with
      | some i => i.zero.map fun z => .lookup false kd z ok m k
      | none => none
    | none => none
  | .makeInterface t x => match P.underlying t with
    | some (.interface _) | none => none
    | _ => some (.mkIfc t x)
  | .range t m => match mapT P t with
    | some (kd, _) => some (.rng false kd m)
    | none => none
  | .next x false => some (.nxt x)
  | .entry x => some (.ent x)
  | .nilCheck x => some (.nilC x)
  | .panic x => some (.callM 0 [x])
  | .call { callee := .builtin .clear, args := ⟨[x]⟩, .. } => some (.callM 0 [x])
  | _ => none
end Go.Proofs.YtboifcengmgcaaaGreat
/- The shadow's operations are sound, II. -/
namespace Go.Proofs.YtboifcengmgcaaaGreat
open Go.RowKit
def Trans (NA : Nat → Prop) (w : World) (ρ : Nat → Option Nat) (H : Nat → Option Blk) (w' : World) (ρ' : Nat → Option Nat) (H' : Nat → Option Blk) : Prop :=
  Calm w (Mut NA ρ H) w' (Mut NA ρ' H') ∧ ∀ i, KeepI w ρ H w' ρ' H' i
theorem Trans.refl (NA : Nat → Prop) (w : World) (ρ : Nat → Option Nat) (H : Nat → Option Blk) : Trans NA w ρ H w ρ H := ⟨Calm.refl _ _, fun i => KeepI.refl _ _ _ i⟩
theorem Trans.trans {NA : Nat → Prop} {w w' w'' : World} {ρ ρ' ρ'' : Nat → Option Nat} {H H' H'' : Nat → Option Blk} (h : Trans NA w ρ H w' ρ' H') (g : Trans NA w' ρ' H' w'' ρ'' H'') : Trans NA w ρ H w'' ρ'' H'' :=
  ⟨h.1.trans g.1, fun i => (h.2 i).trans (g.2 i)⟩
theorem Trans.mv {NA : Nat → Prop} {w w' : World} {ρ ρ' : Nat → Option Nat} {H H' : Nat → Option Blk} (h : Trans NA w ρ H w' ρ' H') {x : SV} {v : Value} (r : RepS w NA ρ H x v) : RepS w' NA ρ' H' x v := r.move h.1 h.2
def Good (P : Program) (w0 : World) (N0 NA : Nat → Prop) (ρ : Nat → Option Nat) (H : Nat → Option Blk) (o : Oper) (a : Act) (w : World) (H' : Nat → Option Blk) (x : SV) : Prop :=
  ∃ nx v w', (execOp a.eval o).run P w = .ok nx w' ∧ (nx = .value v ∨ (nx = .skip ∧ v = undef)) ∧
    ∃ ρ', RepH w0 N0 NA ρ' H' w' ∧ Trans NA w ρ H w' ρ' H' ∧ RepS w' NA ρ' H' x v
section
variable {P : Program} {w0 w : World} {N0 NA : Nat → Prop} {ρ : Nat → Option Nat} {H : Nat → Option Blk} {T : Nat → SV} {a : Act} {o : Oper}
theorem good_pure {x : SV} {v : Value} (h : RepH w0 N0 NA ρ H w) (hr : (execOp a.eval o).run P w = .ok (.value v) w) (hx : RepS w NA ρ H x v) :
    Good P w0 N0 NA ρ H o a w H x := ⟨_, v, w, hr, .inl rfl, ρ, h, Trans.refl _ _ _ _, hx⟩
def setH (H : Nat → Option Blk) : Option (Nat × Blk) → Nat → Option Blk
  | none => H
  | some (id, B) => fun i => if i = id then some B else H i
def setR (ρ : Nat → Option Nat) (id : Nat) (b : Option Nat) : Nat → Option Nat := fun i => if i = id then b else ρ i
theorem Fr.alloc {w0 w : World} {N0 : Nat → Prop} (h : Fr w0 N0 w) (ob : Obj) : Fr w0 N0 (w.alloc ob) := by
  refine ⟨h.os, h.tape, h.output, by have := h.size; simp; omega, fun b hb hn => ?_⟩
  rw [← h.block b hb hn]
  exact heap_alloc_old w ob (by have := h.size; omega)
theorem new_rep (h : RepH w0 N0 NA ρ H w) {id : Nat} (hid : H id = none) (B : Blk) (ob : Obj) (hB : Trans NA w ρ H (w.alloc ob) (setR ρ id (some w.heap.size)) (setH H (some (id, B))) → RepB (w.alloc ob) NA (setR ρ id (some w.heap.size)) (setH H (some (id, B))) id B) :
    RepH w0 N0 NA (setR ρ id (some w.heap.size)) (setH H (some (id, B))) (w.alloc ob) ∧ Trans NA w ρ H (w.alloc ob) (setR ρ id (some w.heap.size)) (setH H (some (id, B))) := by
  have hρ : ∀ i, i ≠ id → setR ρ id (some w.heap.size) i = ρ i := fun i hi => by simp [setR, hi]
  have hH : ∀ i, i ≠ id → setH H (some (id, B)) i = H i := fun i hi => by simp [setH, hi]
  have hold : ∀ b, b < w.heap.size → (w.alloc ob).heap[b]? = w.heap[b]? := fun b hb => heap_alloc_old w ob hb
  have ownlt : ∀ b, Own ρ H b → b < w.heap.size := fun b hb => h.lt hb
  have calm : Calm w (Mut NA ρ H) (w.alloc ob) (Mut NA (setR ρ id (some w.heap.size)) (setH H (some (id, B)))) := by
    refine ⟨by simp, fun b hb hn => ⟨hold b hb, fun hm => ?_⟩⟩
    rcases hm with hm | ⟨i, h1, h2⟩
    · exact hn (.inl hm)
    · by_cases hi : i = id
      · subst hi; simp [setR] at h2; omega
      · rw [hρ i hi] at h2; rw [hH i hi] at h1; exact hn (.inr ⟨i, h1, h2⟩)
  have keep : ∀ i, KeepI w ρ H (w.alloc ob) (setR ρ id (some w.heap.size)) (setH H (some (id, B))) i := by
    intro i
    refine ⟨fun B' hi _ => ?_, fun t k rows hi => ?_⟩
    · have : i ≠ id := fun e => by rw [e, hid] at hi; cases hi
      exact ⟨B', by rw [hH i this]; exact hi, rfl, hρ i this⟩
    · have : i ≠ id := fun e => by rw [e, hid] at hi; cases hi
      refine ⟨rows, by rw [hH i this]; exact hi, Nat.le_refl _, fun _ => ⟨hρ i this, fun b cs t' hb hc => ⟨cs, ?_, rfl⟩⟩⟩
      rw [hold b (ownlt b ⟨i, by rw [hi]; simp, hb⟩)]; exact hc
  refine ⟨⟨?_, ?_, h.fr.alloc ob, ?_⟩, calm, keep⟩
  · intro i j b h1 h2 h3 h4
    by_cases hi : i = id
    · by_cases hj : j = id
      · rw [hi, hj]
      · subst hi
        rw [hρ j hj] at h4; rw [hH j hj] at h2
        simp [setR] at h3
        have := ownlt b ⟨j, h2, h4⟩
        omega
    · by_cases hj : j = id
      · subst hj
        rw [hρ i hi] at h3; rw [hH i hi] at h1
        simp [setR] at h4
        have := ownlt b ⟨i, h1, h3⟩
        omega
      · rw [hρ i hi] at h3; rw [hρ j hj] at h4; rw [hH i hi] at h1; rw [hH j hj] at h2
        exact h.inj i j b h1 h2 h3 h4
  · intro i B' hi
    by_cases hii : i = id
    · subst hii; simp [setH] at hi; subst hi; exact hB ⟨calm, keep⟩
    · rw [hH i hii] at hi
      exact (h.blk i B' hi).move calm keep (hρ i hii) (fun b hb => hold b (ownlt b ⟨i, by rw [hi]; simp, hb⟩))
  · rintro b ⟨i, h1, h2⟩ hb
    by_cases hi : i = id
    · subst hi; simp [setR] at h2; have := h.fr.size; omega
    · rw [hρ i hi] at h2; rw [hH i hi] at h1; exact h.low b ⟨i, h1, h2⟩ hb
theorem box_rep (h : RepH w0 N0 NA ρ H w) {id : Nat} (hid : H id = none) (t : TypeId) {cs : List SV} {vs : Array Value} (hc : RepL w NA ρ H cs vs.toList) :
    RepH w0 N0 NA (setR ρ id (some w.heap.size)) (setH H (some (id, .box t cs))) (w.alloc (.cells vs t)) ∧ Trans NA w ρ H (w.alloc (.cells vs t)) (setR ρ id (some w.heap.size)) (setH H (some (id, .box t cs))) ∧
      RepS (w.alloc (.cells vs t)) NA (setR ρ id (some w.heap.size)) (setH H (some (id, .box t cs))) (.ptr id 0) (.pointer (some ⟨w.heap.size, 0, none⟩)) := by
  obtain ⟨r1, r2⟩ := new_rep h hid (.box t cs) (.cells vs t) (fun tr => by
    refine ⟨w.heap.size, vs, by simp [setR], heap_alloc_new w _, by have := hc.1; simpa using this, fun i x v hx hv => ?_⟩
    exact tr.mv (hc.2 i x v hx (by simpa using hv)))
  exact ⟨r1, r2, .ptrB id 0 t cs w.heap.size (by simp [setH]) (by simp [setR])⟩
theorem upd_rep (h : RepH w0 N0 NA ρ H w) {id : Nat} {B0 B1 : Blk} (hid : H id = some B0) {w' : World} {r : Option Nat} (hg : w.grownBy w' (ρ id)) (hr : r = ρ id ∨ ∃ g, r = some g ∧ w.heap.size ≤ g)
    (hk : KeepI w ρ H w' (setR ρ id r) (setH H (some (id, B1))) id)
    (hB : Trans NA w ρ H w' (setR ρ id r) (setH H (some (id, B1))) → RepB w' NA (setR ρ id r) (setH H (some (id, B1))) id B1) :
    RepH w0 N0 NA (setR ρ id r) (setH H (some (id, B1))) w' ∧ Trans NA w ρ H w' (setR ρ id r) (setH H (some (id, B1))) := by
  have hρ : ∀ i, i ≠ id → setR ρ id r i = ρ i := fun i hi => by simp [setR, hi]
  have hH : ∀ i, i ≠ id → setH H (some (id, B1)) i = H i := fun i hi => by simp [setH, hi]
  have hid' : H id ≠ none := by rw [hid]; simp
  have other : ∀ i b, i ≠ id → H i ≠ none → ρ i = some b → w'.heap[b]? = w.heap[b]? := fun i b hi h1 h2 => by
    refine hg.block b (h.lt ⟨i, h1, h2⟩) (fun e => hi ?_)
    exact h.inj i id b h1 hid' h2 e.symm
  have calm : Calm w (Mut NA ρ H) w' (Mut NA (setR ρ id r) (setH H (some (id, B1)))) := by
    refine ⟨hg.size, fun b hb hn => ⟨hg.block b hb (fun e => hn (.inr ⟨id, hid', e.symm⟩)), fun hm => ?_⟩⟩
    rcases hm with hm | ⟨i, h1, h2⟩
    · exact hn (.inl hm)
    · by_cases hi : i = id
      · subst hi
        simp [setR] at h2
        rcases hr with hr | ⟨g, hr, hge⟩
        · exact hn (.inr ⟨i, hid', by rw [← hr]; exact h2⟩)
        · rw [hr] at h2; cases h2; omega
      · rw [hρ i hi] at h2; rw [hH i hi] at h1; exact hn (.inr ⟨i, h1, h2⟩)
  have keep : ∀ i, KeepI w ρ H w' (setR ρ id r) (setH H (some (id, B1))) i := by
    intro i
    by_cases hi : i = id
    · subst hi; exact hk
    · refine ⟨fun B' he _ => ⟨B', by rw [hH i hi]; exact he, rfl, hρ i hi⟩, fun t k rows he => ⟨rows, by rw [hH i hi]; exact he, Nat.le_refl _, fun _ => ⟨hρ i hi, fun b cs t' hb hc => ⟨cs, ?_, rfl⟩⟩⟩⟩
      rw [other i b hi (by rw [he]; simp) hb]; exact hc
  refine ⟨⟨?_, ?_, ⟨hg.os.trans h.fr.os, hg.tape.trans h.fr.tape, hg.output.trans h.fr.output, Nat.le_trans h.fr.size hg.size, fun b hb hn => ?_⟩, ?_⟩, calm, keep⟩
  · intro i j b h1 h2 h3 h4
    by_cases hi : i = id
    · by_cases hj : j = id
      · rw [hi, hj]
      · subst hi
        rw [hρ j hj] at h4; rw [hH j hj] at h2
        simp [setR] at h3
        rcases hr with hr | ⟨g, hr, hge⟩
        · exact h.inj i j b hid' h2 (by rw [← hr]; exact h3) h4
        · rw [hr] at h3; cases h3; have := h.lt ⟨j, h2, h4⟩; omega
    · by_cases hj : j = id
      · subst hj
        rw [hρ i hi] at h3; rw [hH i hi] at h1
        simp [setR] at h4
        rcases hr with hr | ⟨g, hr, hge⟩
        · exact h.inj i j b h1 hid' h3 (by rw [← hr]; exact h4)
        · rw [hr] at h4; cases h4; have := h.lt ⟨i, h1, h3⟩; omega
      · rw [hρ i hi] at h3; rw [hρ j hj] at h4; rw [hH i hi] at h1; rw [hH j hj] at h2
        exact h.inj i j b h1 h2 h3 h4
  · intro i B' hi
    by_cases hii : i = id
    · subst hii; simp [setH] at hi; subst hi; exact hB ⟨calm, keep⟩
    · rw [hH i hii] at hi
      exact (h.blk i B' hi).move calm keep (hρ i hii) (fun b hb => other i b hii (by rw [hi]; simp) hb)
  · rw [← h.fr.block b hb hn]
    refine hg.block b (Nat.lt_of_lt_of_le hb h.fr.size) (fun e => hn ?_)
    exact (h.low b ⟨id, hid', e.symm⟩ hb).1
  · rintro b ⟨i, h1, h2⟩ hb
    by_cases hi : i = id
    · subst hi
      simp [setR] at h2
      rcases hr with hr | ⟨g, hr, hge⟩
      · exact h.low b ⟨i, hid', by rw [← hr]; exact h2⟩ hb
      · rw [hr] at h2; cases h2; have := h.fr.size; omega
    · rw [hρ i hi] at h2; rw [hH i hi] at h1
      exact h.low b ⟨i, h1, h2⟩ hb
theorem grown_setRow {b : Nat} {cs : Array Value} : w.grownBy (w.setRow b cs) (some b) :=
  ⟨rfl, rfl, rfl, by simp, fun k _ hk => setRow_other w b k cs (fun e => hk (by rw [e]))⟩
theorem setR_same {id : Nat} : setR ρ id (ρ id) = ρ := by
  funext i; unfold setR; split
  · rename_i h; rw [h]
  · rfl
end
end Go.Proofs.YtboifcengmgcaaaGreat
/- The shadow's operations are sound, III: each operation that neither appends nor calls. -/
namespace Go.Proofs.YtboifcengmgcaaaGreat
open Go.RowKit
section
variable {P : Program} {w0 w : World} {N0 NA : Nat → Prop} {ρ : Nat → Option Nat} {H : Nat → Option Blk} {T : Nat → SV} {a : Act} {o : Oper}
theorem add_none (b off j : Nat) : (⟨b, off, none⟩ : Addr).add j = ⟨b, off + j, none⟩ := by unfold Addr.add; split <;> simp_all
theorem isAgg_run {t : TypeId} {ag : Bool} (h : isAggT P t = some ag) (w : World) : (isAgg t).run P w = .ok ag w := by
  unfold isAggT at h
  cases hu : P.underlying t with
  | none => rw [hu] at h; simp at h
  | some d =>
    rw [hu] at h; simp at h; subst h
    cases d <;> simp [isAgg, run_underlying hu, aggD]
theorem size_run {t : TypeId} {n : Nat} (h : sizeT P t = some n) (w : World) : (sizeOf t).run P w = .ok n w := by
  unfold sizeT at h
  cases hi : P.info? t with
  | none => rw [hi] at h; simp at h
  | some i => rw [hi] at h; simp at h; subst h; simp [sizeOf, run_typeInfo w hi]
theorem loadVar_run {t : TypeId} {ag : Bool} {us : List Value} (ha : isAggT P t = some ag) (hn : sizeT P t = some us.length) {b off : Nat} (hc : ∀ (j : Nat) v, us[j]? = some v → w.cell? ⟨b, off + j, none⟩ = some v)
    (hag : ag = true ∨ us.length = 1) : (loadVar t ⟨b, off, none⟩).run P w = .ok (if ag then .agg us.toArray else us.headD undef) w := by
  unfold loadVar
  simp only [Sem.run_bind, isAgg_run ha, Result.andThen_ok]
  cases ag with
  | true =>
    have h1 : (loadCells ⟨b, off, none⟩ us.length).run P w = .ok us.toArray w := run_loadCells_list w _ us (fun j v hj => by rw [add_none]; exact hc j v hj)
    simp [size_run hn, h1]
  | false =>
    have hl : us.length = 1 := by simpa using hag
    match us, hl with
    | [v], _ =>
      have := hc 0 v rfl
      simp at this
      simp [this]
theorem good_cells (h : RepH w0 N0 NA ρ H w) (ht : ∀ i, RepS w NA ρ H (T i) (a.tmps.getD i undef)) {t : TypeId} {x : Operand} (ho : o.op = .load t x) {ag : Bool} {n : Nat} (ha : isAggT P t = some ag) (hn : sizeT P t = some n)
    (hag : ag = true ∨ n = 1) {b off : Nat} (hx : a.eval x = .pointer (some ⟨b, off, none⟩)) {xs : List SV} {us : List Value} (hr : RepL w NA ρ H xs us) (hl : us.length = n)
    (hc : ∀ (j : Nat) v, us[j]? = some v → w.cell? ⟨b, off + j, none⟩ = some v) {y : SV} (hy : mkS ag xs = some y) : Good P w0 N0 NA ρ H o a w H y := by
  subst hl
  have h1 := loadVar_run ha hn hc hag
  have h2 := mkS_rep hr hy
  refine good_pure (v := if ag then .agg us.toArray else us.headD undef) h ?_ ?_
  · simp only [execOp, ho, hx, Instr.loadAt, Instr.sureAddr, Sem.run_bind, Sem.run_pure, Result.andThen_ok, h1]
  · cases ag with
    | true => simpa using h2
    | false =>
      obtain ⟨v, rfl, hv⟩ := (by simpa using h2 : ∃ v, us = [v] ∧ RepS w NA ρ H y v)
      simpa using hv
theorem sub_get {α : Type} (xs : List α) (j n m : Nat) (v : α) (h : ((xs.drop j).take n)[m]? = some v) : xs[j + m]? = some v := by
  rw [List.getElem?_take] at h
  split at h
  · rwa [List.getElem?_drop] at h
  · cases h
theorem good_load (h : RepH w0 N0 NA ρ H w) (ht : ∀ i, RepS w NA ρ H (T i) (a.tmps.getD i undef)) {t : TypeId} {x : Operand} (ho : o.op = .load t x) {ag : Bool} {n : Nat} (ha : isAggT P t = some ag) (hn : sizeT P t = some n)
    (hag : ag = true ∨ n = 1) {site : Nat} {y : SV} {e : Option (Nat × Blk)} (hact : actF site (ev T) H (.load ag n x) = some (y, e)) : Good P w0 N0 NA ρ H o a w (setH H e) y := by
  have hx := rep_ev ht x
  simp only [actF] at hact
  cases hev : ev T x with
  | ptr id j =>
    rw [hev] at hact hx
    simp only at hact
    generalize hv : a.eval x = v at hx
    cases hx with
    | ptrB _ _ t' cells b hH hb =>
      rw [hH] at hact
      simp only at hact
      split at hact
      · rename_i hc
        simp only [Option.map_eq_some_iff, Prod.mk.injEq] at hact
        obtain ⟨x', hm, rfl, rfl⟩ := hact
        obtain ⟨b', cs, e1, e2, e3, e4⟩ := h.blk id _ hH
        rw [hb] at e1; cases e1
        have hr : RepL w NA ρ H cells cs.toList := ⟨by simpa using e3, fun i x v hx hv => e4 i x v hx (by simpa using hv)⟩
        refine good_cells h ht ho ha hn hag hv (hr.sub j n) (by simp; omega) (fun m v hm => ?_) hm
        have := sub_get _ _ _ _ _ hm
        rw [cell_of_row w b (j + m) cs t' (0, 0) e2]
        simpa using this
      · cases hact
  | pow id len i j =>
    rw [hev] at hact hx
    simp only at hact
    generalize hv : a.eval x = v at hx
    cases hx with
    | ptrA _ _ _ _ t' k rows v hH hl ho' hp =>
      rw [hH] at hact
      simp only at hact
      split at hact
      · rename_i hlen
        obtain ⟨b, hb, rfl⟩ := hp hlen
        split at hact
        · rename_i row hrow
          split at hact
          · rename_i hc
            simp only [Option.map_eq_some_iff, Prod.mk.injEq] at hact
            obtain ⟨x', hm, rfl, rfl⟩ := hact
            rcases h.blk id _ hH with ⟨e1, _⟩ | ⟨b', cs, cap, e1, e2, e3, e4, e5, e6, e7⟩
            · rw [hb] at e1; cases e1
            · rw [hb] at e1; cases e1
              have hlk := (e6 i row hrow).1
              have hi : i < rows.length := (List.getElem?_eq_some_iff.1 hrow).1
              have hsz : i * k + k ≤ cs.size := by
                have : (i + 1) * k ≤ cap * k := Nat.mul_le_mul_right _ (by omega)
                rw [Nat.add_mul] at this; omega
              refine good_cells (us := (cs.toList.drop (i * k + j)).take n) h ht ho ha hn hag hv ?_ (by simp; omega) (fun m v hm => ?_) hm
              · refine ⟨by simp; omega, fun m y v hy hv => ?_⟩
                rw [List.getElem?_map] at hy
                cases hz : ((row.drop j).take n)[m]? with
                | none => rw [hz] at hy; simp at hy
                | some z =>
                  rw [hz] at hy; simp at hy; subst hy
                  have h1 := sub_get _ _ _ _ _ hz
                  have h2 := sub_get _ _ _ _ _ hv
                  obtain ⟨u, hu1, hu2⟩ := e7 i row (j + m) z hrow h1
                  rw [Nat.add_assoc] at h2
                  have : cs.toList[i * k + (j + m)]? = some u := by simpa using hu1
                  rw [this] at h2; cases h2
                  exact .c z _ hu2
              · have := sub_get _ _ _ _ _ hm
                rw [cell_of_row w b (i * k + j + m) cs t' (0, 0) e2]
                simpa using this
          · cases hact
        · cases hact
      · cases hact
  | pel k rows i j =>
    rw [hev] at hact hx
    simp only at hact
    generalize hv : a.eval x = v at hx
    cases hx with
    | pel _ _ _ _ b off c hc hi =>
      split at hact
      · rename_i row hrow
        split at hact
        · rename_i hcn
          simp only [Option.map_eq_some_iff, Prod.mk.injEq] at hact
          obtain ⟨x', hm, rfl, rfl⟩ := hact
          obtain ⟨ad, c', e0, h1, h2, h3⟩ := hc.sl_inv
          rcases h3 with h3 | ⟨b', off', u, e1, h3, h4, h5, h6, h7⟩
          · rw [h3] at hi; simp at hi
          · rw [e1] at e0; simp at e0
            obtain ⟨⟨rfl, rfl⟩, rfl⟩ := e0
            refine good_cells (us := (List.range n).map fun m => u i (j + m)) h ht ho ha hn hag hv ?_ (by simp) (fun m v hm => ?_) hm
            · refine ⟨by simp; omega, fun m y v hy hv => ?_⟩
              rw [List.getElem?_map] at hy
              cases hz : ((row.drop j).take n)[m]? with
              | none => rw [hz] at hy; simp at hy
              | some z =>
                rw [hz] at hy; simp at hy; subst hy
                have h1' := sub_get _ _ _ _ _ hz
                have hmn : m < n := by
                  have := (List.getElem?_eq_some_iff.1 hz).1
                  simp at this; omega
                simp [hmn] at hv; subst hv
                exact .c z _ (h7 i row (j + m) z hrow h1')
            · have hmn : m < n := by
                have := (List.getElem?_eq_some_iff.1 hm).1
                simpa using this
              simp [hmn] at hm; subst hm
              have hj : (row[j + m]?) = some (row[j + m]'(by omega)) := List.getElem?_eq_getElem (by omega)
              have := h6 i row (j + m) _ hrow hj
              rw [← Nat.add_assoc] at this
              exact this
        · cases hact
      · cases hact
  | c y0 =>
    rw [hev] at hact hx
    generalize hv : a.eval x = v at hx
    cases hx with
    | c _ _ hx =>
    cases hx with
    | ref xs b off u h1 h2 h3 h4 h5 =>
      simp only at hact
      split at hact
      case isFalse => cases hact
      case isTrue hcn =>
      simp only [Option.map_eq_some_iff, Prod.mk.injEq] at hact
      obtain ⟨x', hm, rfl, rfl⟩ := hact
      have hlen : (xs.take n).length = n := by simp; omega
      refine good_cells (us := (List.range n).map u) h ht ho ha hn hag hv ?_ (by simp) (fun m v hm => ?_) hm
      · refine ⟨by simp; omega, fun m y v hy hv => ?_⟩
        rw [List.getElem?_map] at hy
        cases hz : (xs.take n)[m]? with
        | none => rw [hz] at hy; simp at hy
        | some z =>
          rw [hz] at hy; simp at hy; subst hy
          have hmn : m < n := by
            have := (List.getElem?_eq_some_iff.1 hz).1
            simp at this; omega
          rw [List.getElem?_take_of_lt hmn] at hz
          simp [hmn] at hv; subst hv
          exact .c z _ (h5 m z hz)
      · have hmn : m < n := by
          have := (List.getElem?_eq_some_iff.1 hm).1
          simpa using this
        simp [hmn] at hm; subst hm
        have hj : (xs[m]?) = some (xs[m]'(by omega)) := List.getElem?_eq_getElem (by omega)
        exact h4 m _ hj
    | _ => simp at hact
  | _ => rw [hev] at hact; simp at hact
theorem setMany_eq {α : Type} : ∀ (vs xs : List α) (j : Nat), j + vs.length ≤ xs.length → setMany xs j vs = xs.take j ++ vs ++ xs.drop (j + vs.length)
  | [], xs, j, _ => by simp [setMany]
  | v :: vs, xs, j, h => by
    simp at h
    rw [setMany, setMany_eq vs _ (j + 1) (by simp; omega)]
    have h1 : (xs.set j v).take (j + 1) = xs.take j ++ [v] := by
      rw [List.take_succ_eq_append_getElem (by simp; omega), List.take_set_of_le (by omega)]
      simp
    have h2 : (xs.set j v).drop (j + 1 + vs.length) = xs.drop (j + (v :: vs).length) := by
      rw [List.drop_set, if_pos (by omega)]
      congr 1; simp; omega
    rw [h1, h2]; simp
theorem storeVar_run {t t' : TypeId} {v : Value} {n : Nat} (hn : sizeT P t = some n) (hv : v.cells.toList.length = n) (h1 : ∀ u ∈ v.cells.toList, u.oneCell' = true) {b off : Nat} {cs : Array Value} (hb : w.heap[b]? = some (.cells cs t' (0, 0)))
    (hfit : off + n ≤ cs.size) : (storeVar t ⟨b, off, none⟩ v).run P w = .ok () (w.setRow b (setMany cs.toList off v.cells.toList).toArray) := by
  unfold storeVar
  have h2 := run_storeCells_at (P := P) b off t' v.cells.toList 0 cs w hb (by rw [hv]; omega) h1
  simp only [Nat.add_zero] at h2
  simp only [Sem.run_bind, size_run hn, Result.andThen_ok]
  rw [if_neg (by simpa using hv)]
  rw [setMany_eq _ _ _ (by rw [hv]; simpa using hfit)]
  simpa [Sem.run_bind] using h2
theorem allC_one : ∀ {vs : List SV} {ws : List CV}, allC vs = some ws → vs.all SV.one = true → ws.all CV.one = true
  | [], ws, h, _ => by simp [allC] at h; subst h; rfl
  | x :: xs, ws, h, h1 => by
    unfold allC at h
    cases x with
    | c y =>
      cases hr : allC xs with
      | none => rw [hr] at h; simp [toC] at h
      | some ys =>
        rw [hr] at h; simp [toC] at h; subst h
        simp only [List.all_cons, Bool.and_eq_true] at h1 ⊢
        exact ⟨h1.1, allC_one hr h1.2⟩
    | _ => simp [toC] at h
theorem setMany_all {α : Type} (p : α → Bool) : ∀ (vs xs : List α) (j : Nat), xs.all p = true → vs.all p = true → (setMany xs j vs).all p = true
  | [], xs, _, h, _ => h
  | v :: vs, xs, j, h, h1 => by
    simp only [List.all_cons, Bool.and_eq_true] at h1
    refine setMany_all p vs _ (j + 1) ?_ h1.2
    rw [List.all_eq_true] at h ⊢
    intro x hx
    rcases List.mem_or_eq_of_mem_set hx with h2 | h2
    · exact h x h2
    · rw [h2]; exact h1.1
theorem setMany_get {α : Type} (vs xs : List α) (j i : Nat) (h : j + vs.length ≤ xs.length) : (setMany xs j vs)[i]? = if j ≤ i ∧ i < j + vs.length then vs[i - j]? else xs[i]? := by
  rw [setMany_eq vs xs j h]
  by_cases h1 : i < j
  · rw [if_neg (by omega), List.append_assoc, List.getElem?_append_left (by simp; omega), List.getElem?_take_of_lt h1]
  · by_cases h2 : i < j + vs.length
    · rw [if_pos ⟨by omega, h2⟩, List.append_assoc, List.getElem?_append_right (by simp; omega), List.getElem?_append_left (by simp; omega)]
      congr 1; simp; omega
    · rw [if_neg (by omega), List.getElem?_append_right (by simp; omega), List.getElem?_drop]
      congr 1; simp; omega
end
end Go.Proofs.YtboifcengmgcaaaGreat
/- The shadow's operations are sound, IV: stores; what only computes. -/
namespace Go.Proofs.YtboifcengmgcaaaGreat
open Go.RowKit
section
variable {P : Program} {w0 w : World} {N0 NA : Nat → Prop} {ρ : Nat → Option Nat} {H : Nat → Option Blk} {T : Nat → SV} {a : Act} {o : Oper}
theorem good_store (h : RepH w0 N0 NA ρ H w) (ht : ∀ i, RepS w NA ρ H (T i) (a.tmps.getD i undef)) {t : TypeId} {x z : Operand} (ho : o.op = .store t x z) {n : Nat} (hn : sizeT P t = some n)
    {site : Nat} {y : SV} {e : Option (Nat × Blk)} (hact : actF site (ev T) H (.store n x z) = some (y, e)) : Good P w0 N0 NA ρ H o a w (setH H e) y := by
  have hx := rep_ev ht x
  have hz := rep_ev ht z
  simp only [actF] at hact
  cases hev : ev T x with
  | ptr id j =>
    cases hcz : (ev T z).cells with
    | none => rw [hev, hcz] at hact; simp at hact
    | some vs =>
      rw [hev, hcz] at hact
      rw [hev] at hx
      simp only at hact
      have hr := cellsS hz hcz
      split at hact
      case isFalse => cases hact
      case isTrue hcond =>
      obtain ⟨hvn, hvo⟩ := hcond
      have h1 := hr.one hvo
      have hl : (a.eval z).cells.toList.length = n := by rw [hr.1, hvn]
      generalize hv : a.eval x = v at hx
      cases hx with
      | ptrB _ _ t' cells b hH hb =>
        rw [hH] at hact
        simp only at hact
        split at hact
        case isFalse => cases hact
        case isTrue hc =>
        simp only [Option.some.injEq, Prod.mk.injEq] at hact
        obtain ⟨rfl, rfl⟩ := hact
        obtain ⟨b', cs, e1, e2, e3, e4⟩ := h.blk id _ hH
        rw [hb] at e1; cases e1
        have hrun := storeVar_run (P := P) (t := t) hn hl h1 e2 (off := j) (by omega)
        have hkeep : KeepI w ρ H (w.setRow b (setMany cs.toList j (a.eval z).cells.toList).toArray) (setR ρ id (ρ id)) (setH H (some (id, .box t' (setMany cells j vs)))) id := by
          refine ⟨fun B2 he _ => ?_, fun t2 k2 r2 he => ?_⟩
          · rw [hH] at he; cases he; exact ⟨.box t' (setMany cells j vs), by simp [setH], rfl, by simp [setR]⟩
          · rw [hH] at he; cases he
        obtain ⟨r1, r2⟩ := upd_rep (B1 := .box t' (setMany cells j vs)) h hH (by rw [hb]; exact grown_setRow) (.inl rfl) hkeep (fun tr => by
          refine ⟨b, (setMany cs.toList j (a.eval z).cells.toList).toArray, by simp [setR, hb], setRow_heap w b cs _ t' _ e2, by simp [setMany_length, e3], fun m x v hx hv => ?_⟩
          have hrl : RepL w NA ρ H cells cs.toList := ⟨by simpa using e3, fun i x v hx hv => e4 i x v hx (by simpa using hv)⟩
          exact tr.mv ((RepL.setMany hr hrl j).2 m x v hx (by simpa using hv)))
        refine ⟨.skip, undef, _, ?_, .inr ⟨rfl, rfl⟩, _, r1, r2, .dead _⟩
        simp only [execOp, ho, hv, Instr.storeAt, Instr.sureAddr, Sem.run_bind, Sem.run_pure, Result.andThen_ok, hrun]
  | pow id len i j =>
    cases hcz : (ev T z).cells with
    | none => rw [hev, hcz] at hact; simp at hact
    | some vs =>
      rw [hev, hcz] at hact
      rw [hev] at hx
      simp only at hact
      have hr := cellsS hz hcz
      split at hact
      case isFalse => cases hact
      case isTrue hcond =>
      obtain ⟨hvn, hvo⟩ := hcond
      have h1 := hr.one hvo
      have hl : (a.eval z).cells.toList.length = n := by rw [hr.1, hvn]
      generalize hv : a.eval x = v at hx
      cases hx with
      | ptrA _ _ _ _ t' k rows v hH hlen ho' hp =>
        rw [hH] at hact
        simp only at hact
        split at hact
        case isFalse => cases hact
        case isTrue hle =>
        obtain ⟨b, hb, rfl⟩ := hp hle
        split at hact
        case h_2 => cases hact
        case h_1 row ws hrow hws =>
        split at hact
        case isFalse => cases hact
        case isTrue hc =>
        simp only [Option.some.injEq, Prod.mk.injEq] at hact
        obtain ⟨rfl, rfl⟩ := hact
        rcases h.blk id _ hH with ⟨e1, _⟩ | ⟨b', cs, cap, e1, e2, e3, e4, e5, e6, e7⟩
        · rw [hb] at e1; cases e1
        · rw [hb] at e1; cases e1
          obtain ⟨hlk, hlo⟩ := e6 i row hrow
          have hi : i < rows.length := (List.getElem?_eq_some_iff.1 hrow).1
          have hsz : i * k + k ≤ cs.size := by
            have : (i + 1) * k ≤ cap * k := Nat.mul_le_mul_right _ (by omega)
            rw [Nat.add_mul] at this; omega
          obtain ⟨c1, c2⟩ := hr.closed hws
          have hrun := storeVar_run (P := P) (t := t) hn hl h1 e2 (off := i * k + j) (by omega)
          have hkeep : KeepI w ρ H (w.setRow b (setMany cs.toList (i * k + j) (a.eval z).cells.toList).toArray) (setR ρ id (ρ id)) (setH H (some (id, .arr t' k (rows.set i (setMany row j ws))))) id := by
            refine ⟨fun B2 he hk2 => ?_, fun t2 k2 r2 he => ?_⟩
            · rw [hH] at he; cases he; exact absurd rfl hk2
            · rw [hH] at he; cases he
              refine ⟨rows.set i (setMany row j ws), by simp [setH], by simp, fun _ => ⟨by simp [setR], fun b2 cs2 t2 hb2 hc2 => ?_⟩⟩
              rw [hb] at hb2; cases hb2
              rw [e2] at hc2; cases hc2
              exact ⟨_, setRow_heap w b cs _ t' _ e2, by simp [setMany_length]⟩
          obtain ⟨r1, r2⟩ := upd_rep (B1 := .arr t' k (rows.set i (setMany row j ws))) h hH (by rw [hb]; exact grown_setRow) (.inl rfl) hkeep (fun tr => by
            refine .inr ⟨b, (setMany cs.toList (i * k + j) (a.eval z).cells.toList).toArray, cap, by simp [setR, hb], setRow_heap w b cs _ t' _ e2, by simp [setMany_length, e3], by simpa using e4, e5, fun m row2 hm => ?_, fun m row2 q x hm hq => ?_⟩
            · rw [List.getElem?_set] at hm
              by_cases him : i = m
              · subst him
                rw [if_pos rfl, if_pos hi] at hm
                cases hm; exact ⟨by rw [setMany_length, hlk], setMany_all _ _ _ _ hlo (allC_one hws hvo)⟩
              · rw [if_neg him] at hm; exact e6 m row2 hm
            · have hwl : ws.length = n := by rw [← c1, hl]
              have hs2 : (a.eval z).cells.size = n := by simpa using hl
              have key : ∀ q, q < k → (setMany cs.toList (i * k + j) (a.eval z).cells.toList)[i * k + q]? = (setMany ((cs.toList.drop (i * k)).take k) j (a.eval z).cells.toList)[q]? := fun q hq => by
                rw [setMany_get _ _ _ _ (by simp; omega), setMany_get _ _ _ _ (by simp; omega)]
                by_cases h1 : j ≤ q ∧ q < j + (a.eval z).cells.toList.length
                · rw [if_pos (by omega), if_pos h1]; congr 1; omega
                · rw [if_neg (by omega), if_neg h1, List.getElem?_take_of_lt hq, List.getElem?_drop]
              rw [List.getElem?_set] at hm
              by_cases him : i = m
              · subst him
                rw [if_pos rfl, if_pos hi] at hm
                cases hm
                have hqk : q < k := by have := (List.getElem?_eq_some_iff.1 hq).1; rw [setMany_length, hlk] at this; exact this
                rw [setMany_get _ _ _ _ (by omega)] at hq
                have k1 := key q hqk
                rw [setMany_get _ ((cs.toList.drop (i * k)).take k) _ _ (by simp; omega)] at k1
                by_cases h1 : j ≤ q ∧ q < j + ws.length
                · rw [if_pos h1] at hq
                  rw [if_pos (by rw [c1]; exact h1)] at k1
                  obtain ⟨v, hv1⟩ : ∃ v, (a.eval z).cells.toList[q - j]? = some v := ⟨_, List.getElem?_eq_getElem (by omega)⟩
                  rw [hv1] at k1
                  exact ⟨v, by simpa using k1, (c2 _ x v hq hv1).move tr.1⟩
                · rw [if_neg h1] at hq
                  rw [if_neg (by rw [c1]; exact h1), List.getElem?_take_of_lt hqk, List.getElem?_drop] at k1
                  obtain ⟨v, hv1, hv2⟩ := e7 i row q x hrow hq
                  refine ⟨v, ?_, hv2.move tr.1⟩
                  have : (setMany cs.toList (i * k + j) (a.eval z).cells.toList)[i * k + q]? = some v := by rw [k1]; simpa using hv1
                  simpa using this
              · rw [if_neg him] at hm
                obtain ⟨v, hv1, hv2⟩ := e7 m row2 q x hm hq
                have hq2 := (List.getElem?_eq_some_iff.1 hq).1
                rw [(e6 m row2 hm).1] at hq2
                refine ⟨v, ?_, hv2.move tr.1⟩
                have h3 : (setMany cs.toList (i * k + j) (a.eval z).cells.toList)[m * k + q]? = some v := by
                  rw [setMany_get _ _ _ _ (by simp; omega), if_neg, Array.getElem?_toList]
                  · exact hv1
                  · rcases Nat.lt_or_gt_of_ne him with h | h
                    · have : (i + 1) * k ≤ m * k := Nat.mul_le_mul_right _ h
                      rw [Nat.add_mul] at this; omega
                    · have : (m + 1) * k ≤ i * k := Nat.mul_le_mul_right _ h
                      rw [Nat.add_mul] at this; omega
                simpa using h3)
          refine ⟨.skip, undef, _, ?_, .inr ⟨rfl, rfl⟩, _, r1, r2, .dead _⟩
          simp only [execOp, ho, hv, Instr.storeAt, Instr.sureAddr, Sem.run_bind, Sem.run_pure, Result.andThen_ok, hrun]
  | _ => rw [hev] at hact; simp at hact
theorem good_mov (h : RepH w0 N0 NA ρ H w) (ht : ∀ i, RepS w NA ρ H (T i) (a.tmps.getD i undef)) {x : Operand} (ho : o.op = .move x ∨ o.op = .assign x) {site : Nat} {y : SV} {e : Option (Nat × Blk)}
    (hact : actF site (ev T) H (.mov x) = some (y, e)) : Good P w0 N0 NA ρ H o a w (setH H e) y := by
  simp only [actF, Option.some.injEq, Prod.mk.injEq] at hact
  obtain ⟨rfl, rfl⟩ := hact
  refine good_pure h (v := a.eval x) ?_ (rep_ev ht x)
  rcases ho with ho | ho <;> simp [execOp, ho]
theorem bool_of {x : Operand} (ht : ∀ i, RepS w NA ρ H (T i) (a.tmps.getD i undef)) {b : Bool} (h : ev T x = .c (.val (.bool b))) : a.eval x = .bool b := by
  have := rep_ev ht x
  rw [h] at this
  generalize a.eval x = u at this ⊢
  cases this with
  | c _ _ r => cases r; rfl
theorem val_of {x : Operand} (ht : ∀ i, RepS w NA ρ H (T i) (a.tmps.getD i undef)) {v : Value} (h : ev T x = .c (.val v)) : a.eval x = v := by
  have := rep_ev ht x
  rw [h] at this
  generalize a.eval x = u at this ⊢
  cases this with
  | c _ _ r => cases r; rfl
theorem good_pick (h : RepH w0 N0 NA ρ H w) (ht : ∀ i, RepS w NA ρ H (T i) (a.tmps.getD i undef)) {c x z : Operand} (ho : o.op = .pick c x z) {site : Nat} {y : SV} {e : Option (Nat × Blk)}
    (hact : actF site (ev T) H (.pick c x z) = some (y, e)) : Good P w0 N0 NA ρ H o a w (setH H e) y := by
  simp only [actF] at hact
  split at hact
  case h_2 => cases hact
  case h_1 b hb =>
  simp only [Option.some.injEq, Prod.mk.injEq] at hact
  obtain ⟨rfl, rfl⟩ := hact
  have hv := bool_of ht hb
  refine good_pure h (v := if b then a.eval x else a.eval z) ?_ ?_
  · simp [execOp, ho, hv, asBool]
  · cases b
    · exact rep_ev ht z
    · exact rep_ev ht x
theorem ref_drop {N : Nat → Prop} {xs : List CV} {v : Value} (h : RepC w N (.ref xs) v) : ∃ b off, v = .pointer (some ⟨b, off, none⟩) ∧ ∀ j, RepC w N (.ref (xs.drop j)) (.pointer (some ⟨b, off + j, none⟩)) := by
  cases h with
  | ref xs b off u h1 h2 h3 h4 h5 =>
    refine ⟨b, off, rfl, fun j => .ref _ b (off + j) (fun i => u (j + i)) h1 h2 ?_ (fun i x hx => ?_) (fun i x hx => ?_)⟩
    · rw [List.all_eq_true] at h3 ⊢
      exact fun x hx => h3 x (List.mem_of_mem_drop hx)
    · rw [List.getElem?_drop] at hx
      rw [Nat.add_assoc]; exact h4 _ x hx
    · rw [List.getElem?_drop] at hx
      exact h5 _ x hx
theorem good_fld (h : RepH w0 N0 NA ρ H w) (ht : ∀ i, RepS w NA ρ H (T i) (a.tmps.getD i undef)) {s : TypeId} {x : Operand} {f : Nat} (ho : o.op = .fieldAddr s x f) {fs : Array Field} {fd : Field} {n : Nat} (hu : P.underlying s = some (.struct fs)) (hf : fs[f]? = some fd)
    (hn : sizeT P fd.type = some n) (hn0 : n ≠ 0) {site : Nat} {y : SV} {e : Option (Nat × Blk)} (hact : actF site (ev T) H (.fld fd.offset x) = some (y, e)) : Good P w0 N0 NA ρ H o a w (setH H e) y := by
  have hx := rep_ev ht x
  have run : ∀ b off, a.eval x = .pointer (some ⟨b, off, none⟩) → (execOp a.eval o).run P w = .ok (.value (.pointer (some ⟨b, off + fd.offset, none⟩))) w := fun b off hv => by
    simp [execOp, ho, hv, Instr.fieldAt, Instr.sureAddr, run_underlying hu, hf, fieldPlace, size_run hn, hn0, add_none]
  simp only [actF] at hact
  cases hev : ev T x with
  | ptr id j =>
    rw [hev] at hact hx
    simp only [Option.some.injEq, Prod.mk.injEq] at hact
    obtain ⟨rfl, rfl⟩ := hact
    generalize hv : a.eval x = v at hx
    cases hx with
    | ptrB _ _ t' cells b hH hb => exact good_pure h (run b j hv) (.ptrB id (j + fd.offset) t' cells b hH hb)
  | pow id len i j =>
    rw [hev] at hact hx
    simp only at hact
    generalize hv : a.eval x = v at hx
    cases hx with
    | ptrA _ _ _ _ t' k rows v hH hl ho' hp =>
      rw [hH] at hact
      simp only at hact
      split at hact
      case isFalse => cases hact
      case isTrue hle =>
      simp only [Option.some.injEq, Prod.mk.injEq] at hact
      obtain ⟨rfl, rfl⟩ := hact
      obtain ⟨b, hb, rfl⟩ := hp hle
      exact good_pure h (run b _ hv) (.ptrA id len i (j + fd.offset) t' k rows _ hH hl rfl (fun _ => ⟨b, hb, by rw [Nat.add_assoc]⟩))
  | pel k rows i j =>
    rw [hev] at hact hx
    simp only [Option.some.injEq, Prod.mk.injEq] at hact
    obtain ⟨rfl, rfl⟩ := hact
    generalize hv : a.eval x = v at hx
    cases hx with
    | pel _ _ _ _ b off c hc hi =>
      refine good_pure h (run b _ hv) ?_
      rw [Nat.add_assoc]
      exact .pel k rows i (j + fd.offset) b off c hc hi
  | c y0 =>
    rw [hev] at hact hx
    cases y0 with
    | ref xs =>
      simp only at hact
      split at hact
      case isFalse => cases hact
      case isTrue hlt =>
      simp only [Option.some.injEq, Prod.mk.injEq] at hact
      obtain ⟨rfl, rfl⟩ := hact
      cases hx with
      | c _ _ hx =>
      obtain ⟨b, off, hv, hd⟩ := ref_drop hx
      exact good_pure h (run b off hv) (.c _ _ (hd fd.offset))
    | _ => simp at hact
  | _ => rw [hev] at hact; simp at hact
theorem good_box (h : RepH w0 N0 NA ρ H w) (ht : ∀ i, RepS w NA ρ H (T i) (a.tmps.getD i undef)) {t : TypeId} {x : Operand} (ho : o.op = .box t x) {site : Nat} {y : SV} {e : Option (Nat × Blk)}
    (hact : actF site (ev T) H (.box t x) = some (y, e)) : Good P w0 N0 NA ρ H o a w (setH H e) y := by
  simp only [actF] at hact
  split at hact
  case h_2 => cases hact
  case h_1 cs hc hs =>
  split at hact
  case isFalse => cases hact
  case isTrue ho1 =>
  simp only [Option.some.injEq, Prod.mk.injEq] at hact
  obtain ⟨rfl, rfl⟩ := hact
  obtain ⟨r1, r2, r3⟩ := box_rep h hs t (cellsS (rep_ev ht x) hc)
  refine ⟨_, _, _, ?_, .inl rfl, _, r1, r2, r3⟩
  simp [execOp, ho, Instr.box, newVar, newRow]
theorem good_boxZ (h : RepH w0 N0 NA ρ H w) (hna : ∀ b, NA b → b < w0.heap.size) (ht : ∀ i, RepS w NA ρ H (T i) (a.tmps.getD i undef)) {t : TypeId} {x : Operand} (ho : o.op = .box t x) {site : Nat} {y : SV} {e : Option (Nat × Blk)}
    (hact : actF site (ev T) H (.boxZ t x) = some (y, e)) : Good P w0 N0 NA ρ H o a w (setH H e) y := by
  simp only [actF] at hact
  split at hact
  case h_2 => cases hact
  case h_1 cs hc =>
  split at hact
  case h_2 => cases hact
  case h_1 ws hws =>
  split at hact
  case isFalse => cases hact
  case isTrue hone =>
  simp only [Option.some.injEq, Prod.mk.injEq] at hact
  obtain ⟨rfl, rfl⟩ := hact
  have hr := cellsS (rep_ev ht x) hc
  obtain ⟨c1, c2⟩ := hr.closed hws
  have hold : ∀ b, b < w.heap.size → (w.alloc (.cells (a.eval x).cells t)).heap[b]? = w.heap[b]? := fun b hb => heap_alloc_old w _ hb
  have ownlt : ∀ b, Own ρ H b → b < w.heap.size := fun b hb => h.lt hb
  have hsz : w.heap.size ≤ (w.alloc (.cells (a.eval x).cells t)).heap.size := by simp
  have calm : Calm w (Mut NA ρ H) (w.alloc (.cells (a.eval x).cells t)) (Mut NA ρ H) := ⟨hsz, fun b hb hn => ⟨hold b hb, hn⟩⟩
  have keep : ∀ i, KeepI w ρ H (w.alloc (.cells (a.eval x).cells t)) ρ H i := fun i => ⟨fun B hB _ => ⟨B, hB, rfl, rfl⟩, fun t' k rows hi => ⟨rows, hi, Nat.le_refl _, fun _ => ⟨rfl, fun b cs t' hb hc => ⟨cs, by rw [hold b (ownlt b ⟨i, by rw [hi]; simp, hb⟩)]; exact hc, rfl⟩⟩⟩⟩
  show Good P w0 N0 NA ρ H o a w H _
  refine ⟨_, .pointer (some ⟨w.heap.size, 0, none⟩), w.alloc (.cells (a.eval x).cells t), ?_, .inl rfl, ρ, ⟨h.inj, fun i B hB => (h.blk i B hB).move calm keep rfl (fun b hb => hold b (ownlt b ⟨i, by rw [hB]; simp, hb⟩)), h.fr.alloc _, h.low⟩, ⟨calm, keep⟩, .c _ _ ?_⟩
  · simp [execOp, ho, Instr.box, newVar, newRow]
  · have hn : ¬ Mut NA ρ H w.heap.size := fun hm => by
      rcases hm with hm | hm
      · have := hna _ hm; have := h.fr.size; omega
      · have := ownlt _ hm; omega
    refine .ref ws w.heap.size 0 (fun i => (a.eval x).cells.toList.getD i undef) (by simp) hn hone (fun i z hz => ?_) (fun i z hz => ?_)
    · have hi : i < (a.eval x).cells.toList.length := by rw [c1]; exact (List.getElem?_eq_some_iff.1 hz).1
      rw [Nat.zero_add, cell_of_row _ _ _ _ t (0, 0) (heap_alloc_new w _)]
      simp [List.getD_eq_getElem?_getD]
      simp at hi
      rw [Array.getElem?_eq_getElem hi]; rfl
    · have hi : i < (a.eval x).cells.toList.length := by rw [c1]; exact (List.getElem?_eq_some_iff.1 hz).1
      have : (a.eval x).cells.toList.getD i undef = (a.eval x).cells.toList[i] := by rw [List.getD_eq_getElem?_getD, List.getElem?_eq_getElem hi]; rfl
      simp only [this]
      exact (c2 i z _ hz (List.getElem?_eq_getElem hi)).move calm
theorem rep_vals (vs : List Value) : RepL w NA ρ H (vs.map fun v => .c (.val v)) vs := by
  refine ⟨by simp, fun i x v hx hv => ?_⟩
  rw [List.getElem?_map, hv] at hx
  simp at hx; subst hx
  exact .c _ _ (.val v)
theorem good_alloc (h : RepH w0 N0 NA ρ H w) (ht : ∀ i, RepS w NA ρ H (T i) (a.tmps.getD i undef)) {t : TypeId} (ho : o.op = .alloc t) {it : TypeInfo} {z : Value} (hi : P.info? t = some it) (hz : it.zero = some z) {site : Nat} {y : SV} {e : Option (Nat × Blk)}
    (hact : actF site (ev T) H (.alloc t z.cells.toList) = some (y, e)) : Good P w0 N0 NA ρ H o a w (setH H e) y := by
  simp only [actF] at hact
  split at hact
  case h_2 => cases hact
  case h_1 hs =>
  simp only [Option.some.injEq, Prod.mk.injEq] at hact
  obtain ⟨rfl, rfl⟩ := hact
  obtain ⟨r1, r2, r3⟩ := box_rep (vs := z.cells) h hs t (rep_vals z.cells.toList)
  refine ⟨_, _, _, ?_, .inl rfl, _, r1, r2, r3⟩
  simp [execOp, ho, Instr.alloc, newVar, newRow, zeroValue, run_typeInfo w hi, hz]
theorem good_build (h : RepH w0 N0 NA ρ H w) (ht : ∀ i, RepS w NA ρ H (T i) (a.tmps.getD i undef)) {t : TypeId} {ps : Array (Nat × Operand)} (ho : o.op = .build t ps) {place : Nat → Option (Nat × Nat)} {z : Value}
    (hb : ∀ parts cells, Instr.fill place z.cells parts = some cells → P.built t parts = some cells) {l : List (Nat × Nat × Operand)} (hl : places place ps.toList = some l) {site : Nat} {y : SV} {e : Option (Nat × Blk)}
    (hact : actF site (ev T) H (.build z.cells.toList l) = some (y, e)) : Good P w0 N0 NA ρ H o a w (setH H e) y := by
  simp only [actF, Option.map_eq_some_iff, Prod.mk.injEq] at hact
  obtain ⟨cs, hf, rfl, rfl⟩ := hact
  obtain ⟨cells, h1, h2⟩ := fill_rep ht hl hf (rep_vals z.cells.toList)
  refine good_pure (v := .agg cells) h ?_ (.agg cs cells (by have := h2.1; simpa using this) (fun i x v hx hv => h2.2 i x v hx (by simpa using hv)))
  have h3 := hb _ _ h1
  have := run_build (P := P) w t (ps.map fun (i, x) => (i, a.eval x)) cells (by simpa using h3)
  simp [execOp, ho, this]
end
end Go.Proofs.YtboifcengmgcaaaGreat
/- The shadow's operations are sound, V. -/
namespace Go.Proofs.YtboifcengmgcaaaGreat
open Go.RowKit
section
variable {P : Program} {w0 w : World} {N0 NA : Nat → Prop} {ρ : Nat → Option Nat} {H : Nat → Option Blk} {T : Nat → SV} {a : Act} {o : Oper}
theorem arr_rep (h : RepH w0 N0 NA ρ H w) {id : Nat} (hid : H id = none) (t : TypeId) (k : Nat) (rows : List (List CV)) (cs : Array Value) (cap : Nat) (h1 : cs.size = cap * k) (h2 : rows.length ≤ cap) (h3 : cap ≤ maxLen)
    (h4 : ∀ (j : Nat) row, rows[j]? = some row → row.length = k ∧ row.all CV.one = true) (h5 : ∀ (j : Nat) row (i : Nat) x, rows[j]? = some row → row[i]? = some x → ∃ v, cs[j * k + i]? = some v ∧ RepC w (Mut NA ρ H) x v) :
    RepH w0 N0 NA (setR ρ id (some w.heap.size)) (setH H (some (id, .arr t k rows))) (w.alloc (.cells cs t)) ∧
      Trans NA w ρ H (w.alloc (.cells cs t)) (setR ρ id (some w.heap.size)) (setH H (some (id, .arr t k rows))) ∧
      RepS (w.alloc (.cells cs t)) NA (setR ρ id (some w.heap.size)) (setH H (some (id, .arr t k rows))) (.own id rows.length) (.slice (some ⟨w.heap.size, 0, none⟩) rows.length cap) := by
  obtain ⟨r1, r2⟩ := new_rep h hid (.arr t k rows) (.cells cs t) (fun tr => by
    refine .inr ⟨w.heap.size, cs, cap, by simp [setR], heap_alloc_new w _, h1, h2, h3, h4, fun j row i x hr hx => ?_⟩
    obtain ⟨v, hv1, hv2⟩ := h5 j row i x hr hx
    exact ⟨v, hv1, hv2.move tr.1⟩)
  exact ⟨r1, r2, .own id rows.length t k rows _ (by simp [setH]) (Nat.le_refl _) rfl (fun _ => .inr ⟨w.heap.size, cap, cs, t, by simp [setR], rfl, heap_alloc_new w _, h1, h2, h3⟩)⟩
theorem chunk_length {α : Type} (k : Nat) : ∀ (n : Nat) (xs : List α), (chunk k n xs).length = n
  | 0, _ => rfl
  | n + 1, xs => by simp [chunk, chunk_length k n]
theorem chunk_get {α : Type} (k : Nat) : ∀ (n : Nat) (xs : List α) (j : Nat) (row : List α), (chunk k n xs)[j]? = some row → row = (xs.drop (j * k)).take k
  | 0, _, j, row, h => by simp [chunk] at h
  | n + 1, xs, 0, row, h => by simp [chunk] at h; simp [h]
  | n + 1, xs, j + 1, row, h => by
    simp [chunk] at h
    rw [chunk_get k n _ j row h, List.drop_drop, Nat.add_mul, Nat.one_mul, Nat.add_comm]
theorem fillS_length : ∀ {ps : List (Nat × Nat × SV)} {cs cs' : List SV}, fillC cs ps = some cs' → cs'.length = cs.length
  | [], cs, cs', h => by simp [fillC] at h; subst h; rfl
  | (off, n, x) :: ps, cs, cs', h => by
    simp only [fillC] at h
    split at h
    · split at h
      · rw [fillS_length h, setMany_length]
      · cases h
    · cases h
theorem flat_replicate (z : List Value) (k n : Nat) (hz : z.length = k) (hk : k ≠ 0) : ((List.replicate n z).flatten).toArray = (Array.range (n * k)).map (z.toArray[· % k]!) := by
  apply Array.ext'
  apply List.ext_getElem?
  intro i
  simp only [Array.toList_map, Array.toList_range, List.getElem?_map]
  have hg : ∀ (n i : Nat), ((List.replicate n z).flatten)[i]? = if i < n * k then z[i % k]? else none := by
    intro n
    induction n with
    | zero => intro i; simp
    | succ n ih =>
      intro i
      rw [List.replicate_succ, List.flatten_cons]
      by_cases h : i < k
      · rw [List.getElem?_append_left (by omega), if_pos (by rw [Nat.add_mul]; omega), Nat.mod_eq_of_lt h]
      · rw [List.getElem?_append_right (by omega), ih, hz]
        have : (i - k) % k = i % k := (Nat.mod_eq_sub_mod (by omega)).symm
        rw [this, Nat.add_mul]
        by_cases h2 : i - k < n * k
        · rw [if_pos h2, if_pos (by omega)]
        · rw [if_neg h2, if_neg (by omega)]
  rw [hg]
  by_cases h : i < n * k
  · have hm : i % k < k := Nat.mod_lt _ (by omega)
    rw [if_pos h, List.getElem?_range h]
    simp only [Option.map_some]
    rw [getElem!_pos z.toArray (i % k) (by simpa [hz] using hm), List.getElem?_eq_getElem (by omega)]
    simp
  · rw [if_neg h, List.getElem?_eq_none (by simp; omega)]; rfl
theorem build_parts (h : RepH w0 N0 NA ρ H w) (ht : ∀ i, RepS w NA ρ H (T i) (a.tmps.getD i undef)) {t e : TypeId} {len : Nat} {ps : Array (Nat × Operand)} (ho : o.op = .buildSlice t len ps) {ie : TypeInfo} {z : Value}
    (hu : P.underlying t = some (.slice e)) (hi : P.info? e = some ie) (hz : ie.zero = some z) (hk : ¬ ie.size = 0) (hzs : z.cells.size = ie.size) (hsm : ¬ len * ie.size > 2 ^ 24) (hlm : len ≤ 9223372036854775807) (hps : ∀ p ∈ ps.toList, p.1 < len)
    {site : Nat} {y : SV} {ef : Option (Nat × Blk)} (hact : actF site (ev T) H (.buildSl e ie.size z.cells.toList len (ps.toList.map fun p => (p.1, p.2))) = some (y, ef)) : H site = none ∧ ∃ (cells' : Array Value) (rows : List (List CV)), y = .own site len ∧ ef = some (site, .arr e ie.size rows) ∧ rows.length = len ∧ cells'.size = len * ie.size ∧
      (execOp a.eval o).run P w = .ok (.value (.slice (some ⟨w.heap.size, 0, none⟩) len len)) (w.alloc (.cells cells' e)) ∧ (∀ (j : Nat) row, rows[j]? = some row → row.length = ie.size ∧ row.all CV.one = true) ∧
      (∀ (j : Nat) row (i : Nat) x, rows[j]? = some row → row[i]? = some x → ∃ v, cells'[j * ie.size + i]? = some v ∧ RepC w (Mut NA ρ H) x v) := by
  simp only [actF] at hact
  split at hact
  case h_2 => cases hact
  case h_1 hs =>
  split at hact
  case h_2 => cases hact
  case h_1 cells hf =>
  split at hact
  case h_2 => cases hact
  case h_1 ws hws =>
  split at hact
  case isFalse => cases hact
  case isTrue hone =>
  simp only [Option.some.injEq, Prod.mk.injEq] at hact
  obtain ⟨rfl, rfl⟩ := hact
  have hpl : ∀ (l : List (Nat × Operand)), places (fun i => some (i * ie.size, ie.size)) l = some (l.map fun p => (p.1 * ie.size, ie.size, p.2)) := fun l => by
    induction l with
    | nil => rfl
    | cons p l ih => obtain ⟨i, x⟩ := p; simp [places, ih]
  have h0 : RepL w NA ρ H ((List.replicate len (z.cells.toList.map fun v => SV.c (.val v))).flatten) (((Array.range (len * ie.size)).map (z.cells[· % z.cells.size]!))).toList := by
    have e1 := flat_replicate z.cells.toList ie.size len (by simpa using hzs) hk
    rw [hzs]
    simp only [Array.toArray_toList] at e1
    rw [← e1]
    have := rep_vals (w := w) (NA := NA) (ρ := ρ) (H := H) ((List.replicate len z.cells.toList).flatten)
    simpa [List.map_flatten] using this
  obtain ⟨cells', h1, h2⟩ := fill_rep ht (hpl (ps.toList.map fun p => (p.1, p.2))) (by simpa [Function.comp_def] using hf) h0
  have hcl : cells.length = len * ie.size := by
    rw [fillS_length hf]; simp [List.length_flatten, List.map_replicate, hzs]
  obtain ⟨c1, c2⟩ := h2.closed hws
  have hcs : cells'.size = len * ie.size := by have := h2.1; rw [hcl] at this; simpa using this
  have hwl : ws.length = len * ie.size := by rw [← c1]; simpa using hcs
  have hrow : ∀ (j : Nat) row, (chunk ie.size len ws)[j]? = some row → j < len ∧ row = (ws.drop (j * ie.size)).take ie.size := fun j row hj =>
    ⟨by have := (List.getElem?_eq_some_iff.1 hj).1; rwa [chunk_length] at this, chunk_get _ _ _ _ _ hj⟩
  have hfit : ∀ j, j < len → j * ie.size + ie.size ≤ len * ie.size := fun j hj => by
    have : (j + 1) * ie.size ≤ len * ie.size := Nat.mul_le_mul_right _ hj
    rwa [Nat.add_mul, Nat.one_mul] at this
  refine ⟨hs, cells', chunk ie.size len ws, rfl, rfl, chunk_length .., hcs, ?_,
    (fun j row hj => by
      obtain ⟨hj1, rfl⟩ := hrow j row hj
      have := hfit j hj1
      refine ⟨by simp; omega, ?_⟩
      rw [List.all_eq_true] at hone ⊢
      exact fun x hx => hone x (List.mem_of_mem_drop (List.mem_of_mem_take hx))),
    (fun j row i x hj hx => by
      obtain ⟨hj1, rfl⟩ := hrow j row hj
      have := hfit j hj1
      have hik : i < ie.size := by have := (List.getElem?_eq_some_iff.1 hx).1; simp at this; omega
      have hg := sub_get _ _ _ _ _ hx
      refine ⟨cells'[j * ie.size + i]'(by omega), Array.getElem?_eq_getElem (by omega), c2 _ x _ hg (by simp)⟩)⟩
  have hpe : (ps.map fun (i, x) => (i, a.eval x)).toList = (ps.toList.map fun p => (p.1, p.2)).map fun p => (p.1, a.eval p.2) := by simp
  by_cases hl0 : len = 0
  · subst hl0
    have hemp : ps = #[] := by
      apply Array.ext'
      rcases hq : ps.toList with _ | ⟨p, l⟩
      · rfl
      · exact absurd (hps p (by rw [hq]; simp)) (by omega)
    subst hemp
    have hc0 : cells' = #[] := by apply Array.eq_empty_of_size_eq_zero; simpa using hcs
    subst hc0
    simp [execOp, ho, Instr.buildSlice, run_underlying hu, sizeOf, run_typeInfo w hi, Instr.fill, newRow, show Array.range 0 = #[] from rfl]
  · have hrun := run_buildSlice (P := P) w t e len (ps.map fun (i, x) => (i, a.eval x)) cells' ie z hu hi hz hsm (fun h0 => (Nat.mul_eq_zero.1 h0).elim hl0 hk) (by rw [hpe]; exact h1)
    simp only [execOp, ho, Sem.run_bind, hrun, Result.andThen_ok, Sem.run_pure]
theorem good_buildSl (h : RepH w0 N0 NA ρ H w) (ht : ∀ i, RepS w NA ρ H (T i) (a.tmps.getD i undef)) {t e : TypeId} {len : Nat} {ps : Array (Nat × Operand)} (ho : o.op = .buildSlice t len ps) {ie : TypeInfo} {z : Value}
    (hu : P.underlying t = some (.slice e)) (hi : P.info? e = some ie) (hz : ie.zero = some z) (hk : ¬ ie.size = 0) (hzs : z.cells.size = ie.size) (hsm : ¬ len * ie.size > 2 ^ 24) (hlm : len ≤ 9223372036854775807) (hps : ∀ p ∈ ps.toList, p.1 < len)
    {site : Nat} {y : SV} {ef : Option (Nat × Blk)} (hact : actF site (ev T) H (.buildSl e ie.size z.cells.toList len (ps.toList.map fun p => (p.1, p.2))) = some (y, ef)) : Good P w0 N0 NA ρ H o a w (setH H ef) y := by
  obtain ⟨hs, cells', rows, rfl, rfl, hl, hcs, hrun, h4, h5⟩ := build_parts h ht ho hu hi hz hk hzs hsm hlm hps hact
  obtain ⟨r1, r2, r3⟩ := arr_rep h hs e ie.size rows cells' len hcs (by omega) (by unfold maxLen; omega) h4 h5
  rw [hl] at r3
  exact ⟨_, _, _, hrun, .inl rfl, _, r1, r2, r3⟩
theorem good_buildC (h : RepH w0 N0 NA ρ H w) (ht : ∀ i, RepS w NA ρ H (T i) (a.tmps.getD i undef)) {t e : TypeId} {len : Nat} {ps : Array (Nat × Operand)} (ho : o.op = .buildSlice t len ps) {ie : TypeInfo} {z : Value}
    (hu : P.underlying t = some (.slice e)) (hi : P.info? e = some ie) (hz : ie.zero = some z) (hk : ¬ ie.size = 0) (hzs : z.cells.size = ie.size) (hsm : ¬ len * ie.size > 2 ^ 24) (hlm : len ≤ 9223372036854775807) (hps : ∀ p ∈ ps.toList, p.1 < len)
    (hna : ∀ b, NA b → b < w0.heap.size) {site : Nat} {y : SV} {ef : Option (Nat × Blk)} (hact : actF site (ev T) H (.buildSl e ie.size z.cells.toList len (ps.toList.map fun p => (p.1, p.2))) = some (y, ef)) :
    ∃ rows v w', y = .own site len ∧ ef = some (site, .arr e ie.size rows) ∧ (execOp a.eval o).run P w = .ok (.value v) w' ∧ Ext w w' ∧ RepC w' (Mut NA ρ H) (.sl ie.size rows) v ∧ ∃ ad, v = .slice ad rows.length rows.length := by
  obtain ⟨hs, cells', rows, rfl, rfl, hl, hcs, hrun, h4, h5⟩ := build_parts h ht ho hu hi hz hk hzs hsm hlm hps hact
  refine ⟨rows, _, _, rfl, rfl, hrun, (Ext.refl w).alloc _, ?_, ⟨_, by rw [hl]⟩⟩
  have hb := heap_alloc_new w (.cells cells' e)
  have calm : Calm w (Mut NA ρ H) (w.alloc (.cells cells' e)) (Mut NA ρ H) := ⟨by simp, fun b hb hn => ⟨heap_alloc_old w _ hb, hn⟩⟩
  have hr := RepC.sl (w := w.alloc (.cells cells' e)) (N := Mut NA ρ H) ie.size rows w.heap.size 0 len (fun j i => cells'.getD (j * ie.size + i) undef) (by omega) (by unfold maxLen; omega) (by simp) (fun hm => ?_) h4 (fun j row i x hj hx => ?_) (fun j row i x hj hx => ?_)
  · rw [hl] at hr; exact hr
  · rcases hm with hm | hm
    · have := hna _ hm; have := h.fr.size; omega
    · exact Nat.lt_irrefl _ (h.lt hm)
  · obtain ⟨v, hv1, _⟩ := h5 j row i x hj hx
    rw [Nat.zero_add, cell_of_row _ w.heap.size (j * ie.size + i) cells' _ (0, 0) hb]
    simp [hv1]
  · obtain ⟨v, hv1, hv2⟩ := h5 j row i x hj hx
    have : cells'.getD (j * ie.size + i) undef = v := by simp [hv1]
    rw [this]; exact hv2.move calm
theorem agg_of {x : Operand} (ht : ∀ i, RepS w NA ρ H (T i) (a.tmps.getD i undef)) : (∀ xs, ev T x = .agg xs → ∃ vs : Array Value, a.eval x = .agg vs ∧ RepL w NA ρ H xs vs.toList) ∧
    (∀ xs, ev T x = .c (.agg xs) → ∃ vs : Array Value, a.eval x = .agg vs ∧ RepL w NA ρ H (xs.map .c) vs.toList) := by
  have hx := rep_ev ht x
  refine ⟨fun xs he => ?_, fun xs he => ?_⟩
  · rw [he] at hx
    generalize a.eval x = v at hx ⊢
    cases hx with
    | agg _ vs hs hv => exact ⟨vs, rfl, by simpa using hs, fun i x v hx hv' => hv i x v hx (by simpa using hv')⟩
  · rw [he] at hx
    generalize a.eval x = v at hx ⊢
    cases hx with
    | c _ _ r => cases r with
      | agg _ vs hs hv => exact ⟨vs, rfl, RepL.of_closed (by simpa using hs) (fun i x v hx hv' => hv i x v hx (by simpa using hv'))⟩
theorem part_run {t : TypeId} {ag : Bool} {n : Nat} (ha : isAggT P t = some ag) (hn : sizeT P t = some n) (hag : ag = true ∨ n = 1) {vs : Array Value} {off : Nat} (hf : off + n ≤ vs.size) :
    (part t vs off).run P w = .ok (if ag then .agg ((vs.toList.drop off).take n).toArray else ((vs.toList.drop off).take n).headD undef) w := by
  unfold part
  simp only [Sem.run_bind, isAgg_run ha, Result.andThen_ok]
  cases ag with
  | true =>
    simp [size_run hn]
    apply Array.ext'
    simp
  | false =>
    have h1 : n = 1 := by simpa using hag
    subst h1
    have hlt : off < vs.size := by omega
    have : vs[off]? = some vs[off] := Array.getElem?_eq_getElem hlt
    simp [hlt, List.drop_eq_getElem_cons]
theorem good_part (h : RepH w0 N0 NA ρ H w) (ht : ∀ i, RepS w NA ρ H (T i) (a.tmps.getD i undef)) {t : TypeId} {ag : Bool} {n : Nat} (ha : isAggT P t = some ag) (hn : sizeT P t = some n) (hag : ag = true ∨ n = 1) {vs : Array Value} {xs : List SV}
    (hr : RepL w NA ρ H xs vs.toList) {off : Nat} (hf : off + n ≤ xs.length) {y : SV} (hy : mkS ag ((xs.drop off).take n) = some y) (hrun : ∀ u, (part t vs off).run P w = .ok u w → (execOp a.eval o).run P w = .ok (.value u) w) : Good P w0 N0 NA ρ H o a w H y := by
  have hsz : vs.size = xs.length := by simpa using hr.1
  have h1 := part_run (P := P) (w := w) ha hn hag (vs := vs) (off := off) (by omega)
  have h2 := mkS_rep (hr.sub off n) hy
  refine good_pure h (hrun _ h1) ?_
  cases ag with
  | true => simpa using h2
  | false =>
    obtain ⟨v, hv1, hv2⟩ := (by simpa using h2 : ∃ v, (vs.toList.drop off).take n = [v] ∧ RepS w NA ρ H y v)
    rw [hv1]; simpa using hv2
theorem good_field (h : RepH w0 N0 NA ρ H w) (ht : ∀ i, RepS w NA ρ H (T i) (a.tmps.getD i undef)) {s : TypeId} {x : Operand} {f : Nat} (ho : o.op = .field s x f) {fs : Array Field} {fd : Field} {ag : Bool} {n : Nat} (hu : P.underlying s = some (.struct fs)) (hf : fs[f]? = some fd)
    (ha : isAggT P fd.type = some ag) (hn : sizeT P fd.type = some n) (hag : ag = true ∨ n = 1) {site : Nat} {y : SV} {e : Option (Nat × Blk)} (hact : actF site (ev T) H (.field ag fd.offset n x) = some (y, e)) : Good P w0 N0 NA ρ H o a w (setH H e) y := by
  obtain ⟨h1, h2⟩ := agg_of ht (x := x)
  have run : ∀ vs : Array Value, a.eval x = .agg vs → ∀ u, (part fd.type vs fd.offset).run P w = .ok u w → (execOp a.eval o).run P w = .ok (.value u) w := fun vs hv u hu' => by
    simp [execOp, ho, hv, Instr.field, run_underlying hu, hf, asAgg, hu']
  simp only [actF] at hact
  split at hact
  case h_1 xs he =>
    obtain ⟨vs, hv, hr⟩ := h1 _ he
    split at hact
    case isFalse => cases hact
    case isTrue hc =>
    simp only [Option.map_eq_some_iff, Prod.mk.injEq] at hact
    obtain ⟨x', hm, rfl, rfl⟩ := hact
    exact good_part h ht ha hn hag hr hc hm (run vs hv)
  case h_2 xs he =>
    obtain ⟨vs, hv, hr⟩ := h2 _ he
    split at hact
    case isFalse => cases hact
    case isTrue hc =>
    simp only [Option.map_eq_some_iff, Prod.mk.injEq] at hact
    obtain ⟨x', hm, rfl, rfl⟩ := hact
    exact good_part h ht ha hn hag hr (by simpa using hc) (by simpa using hm) (run vs hv)
  case h_3 => cases hact
theorem good_index (h : RepH w0 N0 NA ρ H w) (ht : ∀ i, RepS w NA ρ H (T i) (a.tmps.getD i undef)) {s e : TypeId} {x z : Operand} {len : Nat} (ho : o.op = .index s x z) {ag : Bool} {k : Nat} (hu : P.underlying s = some (.array len e))
    (ha : isAggT P e = some ag) (hn : sizeT P e = some k) (hag : ag = true ∨ k = 1) {site : Nat} {y : SV} {ef : Option (Nat × Blk)} (hact : actF site (ev T) H (.index len k ag x z) = some (y, ef)) : Good P w0 N0 NA ρ H o a w (setH H ef) y := by
  obtain ⟨h1, h2⟩ := agg_of ht (x := x)
  simp only [actF] at hact
  split at hact
  case h_2 => cases hact
  case h_1 kk n hz =>
  have hzv := val_of ht hz
  split at hact
  case isFalse => cases hact
  case isTrue hb =>
  have run : ∀ vs : Array Value, a.eval x = .agg vs → ∀ u, (part e vs (n.toNat * k)).run P w = .ok u w → (execOp a.eval o).run P w = .ok (.value u) w := fun vs hv u hu' => by
    simp [execOp, ho, hv, hzv, Instr.index, run_underlying hu, asIntOf, size_run hn, hb, hu']
  split at hact
  case h_1 xs he =>
    obtain ⟨vs, hv, hr⟩ := h1 _ he
    split at hact
    case isFalse => cases hact
    case isTrue hc =>
    simp only [Option.map_eq_some_iff, Prod.mk.injEq] at hact
    obtain ⟨x', hm, rfl, rfl⟩ := hact
    exact good_part h ht ha hn hag hr hc hm (run vs hv)
  case h_2 xs he =>
    obtain ⟨vs, hv, hr⟩ := h2 _ he
    split at hact
    case isFalse => cases hact
    case isTrue hc =>
    simp only [Option.map_eq_some_iff, Prod.mk.injEq] at hact
    obtain ⟨x', hm, rfl, rfl⟩ := hact
    exact good_part h ht ha hn hag hr (by simpa using hc) (by simpa using hm) (run vs hv)
  case h_3 => cases hact
theorem good_idxA (h : RepH w0 N0 NA ρ H w) (ht : ∀ i, RepS w NA ρ H (T i) (a.tmps.getD i undef)) {s e : TypeId} {x z : Operand} {len : Nat} (ho : o.op = .indexAddr s x z) {k : Nat} (hu : P.underlying s = some (.array len e)) (hn : sizeT P e = some k)
    {site : Nat} {y : SV} {ef : Option (Nat × Blk)} (hact : actF site (ev T) H (.idxA len k x z) = some (y, ef)) : Good P w0 N0 NA ρ H o a w (setH H ef) y := by
  have hx := rep_ev ht x
  simp only [actF] at hact
  split at hact
  case h_2 => cases hact
  case h_1 kk n hz =>
  have hzv := val_of ht hz
  split at hact
  case isFalse => cases hact
  case isTrue hb =>
  have run : ∀ b off, a.eval x = .pointer (some ⟨b, off, none⟩) → (execOp a.eval o).run P w = .ok (.value (.pointer (some ⟨b, off + n.toNat * k, none⟩))) w := fun b off hv => by
    simp [execOp, ho, hv, hzv, Instr.indexAt, Instr.sureAddr, run_underlying hu, asIntOf, size_run hn, hb, add_none]
  split at hact
  case h_1 id j he =>
    rw [he] at hx
    simp only [Option.some.injEq, Prod.mk.injEq] at hact
    obtain ⟨rfl, rfl⟩ := hact
    generalize hv : a.eval x = v at hx
    cases hx with
    | ptrB _ _ t' cells b hH hb' => exact good_pure h (run b j hv) (.ptrB id (j + n.toNat * k) t' cells b hH hb')
  case h_2 id l i0 j he =>
    rw [he] at hx
    generalize hv : a.eval x = v at hx
    cases hx with
    | ptrA _ _ _ _ t' k' rows v hH hl ho' hp =>
      rw [hH] at hact
      simp only at hact
      split at hact
      case isFalse => cases hact
      case isTrue hle =>
      simp only [Option.some.injEq, Prod.mk.injEq] at hact
      obtain ⟨rfl, rfl⟩ := hact
      obtain ⟨b, hb', rfl⟩ := hp hle
      exact good_pure h (run b _ hv) (.ptrA id l i0 (j + n.toNat * k) t' k' rows _ hH hl rfl (fun _ => ⟨b, hb', by rw [Nat.add_assoc]⟩))
  case h_3 k' rows i0 j he =>
    rw [he] at hx
    simp only [Option.some.injEq, Prod.mk.injEq] at hact
    obtain ⟨rfl, rfl⟩ := hact
    generalize hv : a.eval x = v at hx
    cases hx with
    | pel _ _ _ _ b off c hc hi =>
      refine good_pure h (run b _ hv) ?_
      rw [Nat.add_assoc]
      exact .pel k' rows i0 (j + n.toNat * k) b off c hc hi
  case h_4 xs he =>
    rw [he] at hx
    split at hact
    case isFalse => cases hact
    case isTrue hlt =>
    simp only [Option.some.injEq, Prod.mk.injEq] at hact
    obtain ⟨rfl, rfl⟩ := hact
    cases hx with
    | c _ _ hx =>
    obtain ⟨b, off, hv, hd⟩ := ref_drop hx
    exact good_pure h (run b off hv) (.c _ _ (hd _))
  case h_5 => cases hact
theorem good_idxS (h : RepH w0 N0 NA ρ H w) (ht : ∀ i, RepS w NA ρ H (T i) (a.tmps.getD i undef)) {s e : TypeId} {x z : Operand} (ho : o.op = .indexAddr s x z) {k : Nat} (hu : P.underlying s = some (.slice e)) (hn : sizeT P e = some k)
    {site : Nat} {y : SV} {ef : Option (Nat × Blk)} (hact : actF site (ev T) H (.idxS k x z) = some (y, ef)) : Good P w0 N0 NA ρ H o a w (setH H ef) y := by
  have hx := rep_ev ht x
  simp only [actF] at hact
  split at hact
  case h_2 => cases hact
  case h_1 kk n hz =>
  have hzv := val_of ht hz
  have run : ∀ b off len c, a.eval x = .slice (some ⟨b, off, none⟩) len c → 0 ≤ n → n.toNat < len → (execOp a.eval o).run P w = .ok (.value (.pointer (some ⟨b, off + n.toNat * k, none⟩))) w := fun b off len c hv h0 h1 => by
    have h2 : n < (len : Int) := by omega
    simp [execOp, ho, hv, hzv, Instr.indexAt, run_underlying hu, asIntOf, size_run hn, h0, h2, add_none]
  split at hact
  case h_1 k' rows he =>
    rw [he] at hx
    split at hact
    case isFalse => cases hact
    case isTrue hc =>
    obtain ⟨rfl, h0, h1⟩ := hc
    simp only [Option.some.injEq, Prod.mk.injEq] at hact
    obtain ⟨rfl, rfl⟩ := hact
    generalize hv : a.eval x = v at hx
    cases hx with
    | c _ _ r =>
      obtain ⟨ad, c, rfl, q1, q2, q3⟩ := r.sl_inv
      rcases q3 with q3 | ⟨b, off, u, rfl, _⟩
      · rw [q3] at h1; simp at h1
      · exact good_pure h (run b off _ c hv h0 h1) (.pel k' rows n.toNat 0 b off c r h1)
  case h_2 id len he =>
    rw [he] at hx
    generalize hv : a.eval x = v at hx
    cases hx with
    | own _ _ t' k' rows v hH hl ho' hp =>
      rw [hH] at hact
      simp only at hact
      split at hact
      case isFalse => cases hact
      case isTrue hc =>
      obtain ⟨rfl, hle, h0, h1⟩ := hc
      simp only [Option.some.injEq, Prod.mk.injEq] at hact
      obtain ⟨rfl, rfl⟩ := hact
      rcases hp hle with ⟨_, q1, _⟩ | ⟨b, cap, cs, t2, q1, rfl, q3⟩
      · omega
      · refine good_pure h (run b 0 _ cap hv h0 (by omega)) ?_
        refine .ptrA id len n.toNat 0 t' k' rows _ hH hl rfl (fun _ => ⟨b, q1, by simp⟩)
  case h_3 => cases hact
theorem good_bin (h : RepH w0 N0 NA ρ H w) (ht : ∀ i, RepS w NA ρ H (T i) (a.tmps.getD i undef)) {op : BinOp} {t t' : TypeId} {x z : Operand} (ho : o.op = .binOp op t x z t') (hop : op ≠ .shl ∧ op ≠ .shr) {site : Nat} {y : SV} {ef : Option (Nat × Blk)}
    (hact : actF site (ev T) H (.bin op x z) = some (y, ef)) : Good P w0 N0 NA ρ H o a w (setH H ef) y := by
  simp only [actF, Option.map_eq_some_iff, Prod.mk.injEq] at hact
  obtain ⟨r, hb, rfl, rfl⟩ := hact
  unfold binS at hb
  split at hb
  case h_2 => cases hb
  case h_1 k p k' q hx hz =>
  split at hb
  case isFalse => cases hb
  case isTrue hk =>
  subst hk
  simp only [Option.map_eq_some_iff] at hb
  obtain ⟨v, hb, rfl⟩ := hb
  have hxv := val_of ht hx
  have hzv := val_of ht hz
  refine good_pure h (v := v) ?_ (.c _ _ (.val v))
  unfold binI at hb
  obtain ⟨h1, h2⟩ := hop
  cases op <;> simp at hb h1 h2 <;> first
    | (subst hb; simp [execOp, ho, hxv, hzv, eqGuard, binOp, Op.intArith, Op.intCmp]; done)
    | (subst hb; simp [execOp, ho, hxv, hzv, eqGuard, binOp, Op.intBits]; done)
    | (obtain ⟨hq, rfl⟩ := hb; simp [execOp, ho, hxv, hzv, eqGuard, binOp, Op.intDiv, hq]; done)
theorem equal_bool {t : TypeId} (hu : P.underlying t = some .bool) (p q : Bool) : (Op.equal t (.bool p) (.bool q)).run P w = .ok (p == q) w := by
  show (Op.equalIn (9999 + 1) t (.bool p) (.bool q)).run P w = _
  rw [Op.equalIn]
  simp [run_underlying hu]
theorem good_binB (h : RepH w0 N0 NA ρ H w) (ht : ∀ i, RepS w NA ρ H (T i) (a.tmps.getD i undef)) {neg : Bool} {t t' : TypeId} {x z : Operand} (ho : o.op = .binOp (if neg then .neq else .eql) t x z t') (hu : P.underlying t = some .bool) {site : Nat} {y : SV} {ef : Option (Nat × Blk)}
    (hact : actF site (ev T) H (.binB neg x z) = some (y, ef)) : Good P w0 N0 NA ρ H o a w (setH H ef) y := by
  simp only [actF, Option.map_eq_some_iff, Prod.mk.injEq] at hact
  obtain ⟨r, hb, rfl, rfl⟩ := hact
  unfold boolS at hb
  split at hb
  case h_2 => cases hb
  case h_1 p q hx hz =>
  simp only [Option.some.injEq] at hb
  subst hb
  have hxv := val_of ht hx
  have hzv := val_of ht hz
  refine good_pure h (v := _) ?_ (.c _ _ (.val _))
  have he := equal_bool (w := w) hu p q
  cases neg <;> simp [execOp, ho, hxv, hzv, eqGuard, binOp, he]
theorem good_un (h : RepH w0 N0 NA ρ H w) (ht : ∀ i, RepS w NA ρ H (T i) (a.tmps.getD i undef)) {op : UnOp} {t : TypeId} {x : Operand} (ho : o.op = .unOp op t x) {site : Nat} {y : SV} {ef : Option (Nat × Blk)}
    (hact : actF site (ev T) H (.un op x) = some (y, ef)) : Good P w0 N0 NA ρ H o a w (setH H ef) y := by
  simp only [actF, Option.map_eq_some_iff, Prod.mk.injEq] at hact
  obtain ⟨r, hb, rfl, rfl⟩ := hact
  unfold unS at hb
  split at hb
  · rename_i k n hx
    have hxv := val_of ht hx
    cases op <;> simp at hb
    subst hb
    refine good_pure h (v := _) ?_ (.c _ _ (.val _))
    simp [execOp, ho, hxv, Op.unary, Op.intArith]
  · rename_i b hx
    have hxv := val_of ht hx
    cases op <;> simp at hb
    subst hb
    refine good_pure h (v := _) ?_ (.c _ _ (.val _))
    simp [execOp, ho, hxv, Op.unary]
  · cases hb
theorem good_len (h : RepH w0 N0 NA ρ H w) (ht : ∀ i, RepS w NA ρ H (T i) (a.tmps.getD i undef)) {t e : TypeId} {x : Operand} (ho : o.op = .call { callee := .builtin .len, args := #[x], argTypes := #[t] }) (hu : P.underlying t = some (.slice e)) {site : Nat} {y : SV} {ef : Option (Nat × Blk)}
    (hact : actF site (ev T) H (.len x) = some (y, ef)) : Good P w0 N0 NA ρ H o a w (setH H ef) y := by
  have hx := rep_ev ht x
  have run : ∀ ad n c, a.eval x = .slice ad n c → (execOp a.eval o).run P w = .ok (.value (.int .i64 n)) w := fun ad n c hv => by
    simp [execOp, ho, hv, resolve, invoke, builtin, Builtin.len_, run_underlying hu, goInt]
  simp only [actF] at hact
  split at hact
  · rename_i k rows he
    rw [he] at hx
    simp only [Option.some.injEq, Prod.mk.injEq] at hact
    obtain ⟨rfl, rfl⟩ := hact
    generalize hv : a.eval x = v at hx
    cases hx with
    | c _ _ r =>
      obtain ⟨ad, c, rfl, _⟩ := r.sl_inv
      exact good_pure h (run _ _ _ hv) (.c _ _ (.val _))
  · rename_i he
    have hv := val_of ht he
    simp only [Option.some.injEq, Prod.mk.injEq] at hact
    obtain ⟨rfl, rfl⟩ := hact
    exact good_pure h (run _ _ _ hv) (.c _ _ (.val _))
  · rename_i id len he
    rw [he] at hx
    generalize hv : a.eval x = v at hx
    cases hx with
    | own _ _ t' k' rows v hH hl ho' hp =>
      rw [hH] at hact
      simp only at hact
      split at hact
      case isFalse => cases hact
      case isTrue hle =>
      simp only [Option.some.injEq, Prod.mk.injEq] at hact
      obtain ⟨rfl, rfl⟩ := hact
      rcases hp hle with ⟨_, q1, rfl⟩ | ⟨b, cap, cs, t2, q1, rfl, q3⟩
      · rw [q1]; exact good_pure h (run _ _ _ hv) (.c _ _ (.val _))
      · exact good_pure h (run _ _ _ hv) (.c _ _ (.val _))
  · cases hact
theorem good_ext (h : RepH w0 N0 NA ρ H w) (ht : ∀ i, RepS w NA ρ H (T i) (a.tmps.getD i undef)) {x : Operand} {i : Nat} (ho : o.op = .extract x i) {site : Nat} {y : SV} {ef : Option (Nat × Blk)}
    (hact : actF site (ev T) H (.ext x i) = some (y, ef)) : Good P w0 N0 NA ρ H o a w (setH H ef) y := by
  have hx := rep_ev ht x
  simp only [actF] at hact
  split at hact
  case h_2 => cases hact
  case h_1 xs he =>
  rw [he] at hx
  simp only [Option.map_eq_some_iff, Prod.mk.injEq] at hact
  obtain ⟨r, hr, rfl, rfl⟩ := hact
  generalize hv : a.eval x = v at hx
  cases hx with
  | tup _ vs hs hv' =>
    have hi : i < vs.size := by rw [hs]; exact (List.getElem?_eq_some_iff.1 hr).1
    have h1 : vs[i]? = some vs[i] := Array.getElem?_eq_getElem hi
    refine good_pure h (v := vs[i]) ?_ (hv' i r _ hr h1)
    simp [execOp, ho, hv, Instr.extract, h1]
theorem good_conv (h : RepH w0 N0 NA ρ H w) (ht : ∀ i, RepS w NA ρ H (T i) (a.tmps.getD i undef)) {src dst : TypeId} {x : Operand} {k k' : IntKind} (ho : o.op = .convert src dst x) (hs : P.underlying src = some (.int k')) (hd : P.underlying dst = some (.int k)) {site : Nat} {y : SV} {ef : Option (Nat × Blk)}
    (hact : actF site (ev T) H (.conv k x) = some (y, ef)) : Good P w0 N0 NA ρ H o a w (setH H ef) y := by
  simp only [actF] at hact
  split at hact
  case h_2 => cases hact
  case h_1 kk n hx =>
  have hxv := val_of ht hx
  simp only [Option.some.injEq, Prod.mk.injEq] at hact
  obtain ⟨rfl, rfl⟩ := hact
  refine good_pure h (v := _) ?_ (.c _ _ (.val _))
  simp [execOp, ho, hxv, convert, run_underlying hs, run_underlying hd, Conv.intToInt]
theorem max_run {k : IntKind} : ∀ {xs : List SV} {vs : List Value} {p m : Int}, RepL w NA ρ H xs vs → maxF k p xs = some m → (vs.foldlM Builtin.max2 (.int k p)).run P w = .ok (.int k m) w
  | [], [], p, m, _, hm => by simp [maxF] at hm; subst hm; simp
  | [], _ :: _, _, _, h, _ => by have := h.1; simp at this
  | _ :: _, [], _, _, h, _ => by have := h.1; simp at this
  | x :: xs, v :: vs, p, m, h, hm => by
    have h0 : RepS w NA ρ H x v := h.2 0 x v rfl rfl
    have h1 : RepL w NA ρ H xs vs := ⟨by have := h.1; simpa using this, fun i x y hx hy => h.2 (i + 1) x y (by simpa using hx) (by simpa using hy)⟩
    unfold maxF at hm
    split at hm
    · rename_i e; cases e
    · rename_i k' q xs' he
      simp only [List.cons.injEq] at he
      obtain ⟨rfl, rfl⟩ := he
      split at hm
      case isFalse => cases hm
      case isTrue hk =>
      subst hk
      cases h0 with
      | c _ _ r =>
        cases r with
        | val =>
          have := max_run h1 hm
          simp [List.foldlM_cons, Builtin.max2, this]
    · cases hm
theorem min_run {k : IntKind} : ∀ {xs : List SV} {vs : List Value} {p m : Int}, RepL w NA ρ H xs vs → minF k p xs = some m → (vs.foldlM Builtin.min2 (.int k p)).run P w = .ok (.int k m) w
  | [], [], p, m, _, hm => by simp [minF] at hm; subst hm; simp
  | [], _ :: _, _, _, h, _ => by have := h.1; simp at this
  | _ :: _, [], _, _, h, _ => by have := h.1; simp at this
  | x :: xs, v :: vs, p, m, h, hm => by
    have h0 : RepS w NA ρ H x v := h.2 0 x v rfl rfl
    have h1 : RepL w NA ρ H xs vs := ⟨by have := h.1; simpa using this, fun i x y hx hy => h.2 (i + 1) x y (by simpa using hx) (by simpa using hy)⟩
    unfold minF at hm
    split at hm
    · rename_i e; cases e
    · rename_i k' q xs' he
      simp only [List.cons.injEq] at he
      obtain ⟨rfl, rfl⟩ := he
      split at hm
      case isFalse => cases hm
      case isTrue hk =>
      subst hk
      cases h0 with
      | c _ _ r =>
        cases r with
        | val =>
          have := min_run h1 hm
          simp [List.foldlM_cons, Builtin.min2, this]
    · cases hm
theorem rep_evs (ht : ∀ i, RepS w NA ρ H (T i) (a.tmps.getD i undef)) : ∀ xs : List Operand, RepL w NA ρ H (xs.map (ev T)) (xs.map a.eval)
  | [] => RepL.nil
  | x :: xs => RepL.cons (rep_ev ht x) (rep_evs ht xs)
theorem good_max (h : RepH w0 N0 NA ρ H w) (ht : ∀ i, RepS w NA ρ H (T i) (a.tmps.getD i undef)) {xs : List Operand} {ts : Array TypeId} (ho : o.op = .call { callee := .builtin .max, args := ⟨xs⟩, argTypes := ts }) {site : Nat} {y : SV} {ef : Option (Nat × Blk)}
    (hact : actF site (ev T) H (.max xs) = some (y, ef)) : Good P w0 N0 NA ρ H o a w (setH H ef) y := by
  have hr := rep_evs ht xs
  simp only [actF] at hact
  split at hact
  case h_2 => cases hact
  case h_1 k p r hx =>
  rw [hx] at hr
  simp only [Option.map_eq_some_iff, Prod.mk.injEq] at hact
  obtain ⟨m, hm, rfl, rfl⟩ := hact
  cases hvs : xs.map a.eval with
  | nil => rw [hvs] at hr; have := hr.1; simp at this
  | cons v vs =>
    rw [hvs] at hr
    have h0 : RepS w NA ρ H (.c (.val (.int k p))) v := hr.2 0 _ v rfl rfl
    have h1 : RepL w NA ρ H r vs := ⟨by have := hr.1; simpa using this, fun i x y hx hy => hr.2 (i + 1) x y (by simpa using hx) (by simpa using hy)⟩
    cases h0 with
    | c _ _ q => cases q with
      | val =>
        have := max_run (P := P) h1 hm
        refine good_pure h (v := _) ?_ (.c _ _ (.val _))
        simp [execOp, ho, resolve, invoke, builtin, Builtin.max_, hvs, this]
theorem good_min (h : RepH w0 N0 NA ρ H w) (ht : ∀ i, RepS w NA ρ H (T i) (a.tmps.getD i undef)) {xs : List Operand} {ts : Array TypeId} (ho : o.op = .call { callee := .builtin .min, args := ⟨xs⟩, argTypes := ts }) {site : Nat} {y : SV} {ef : Option (Nat × Blk)}
    (hact : actF site (ev T) H (.min xs) = some (y, ef)) : Good P w0 N0 NA ρ H o a w (setH H ef) y := by
  have hr := rep_evs ht xs
  simp only [actF] at hact
  split at hact
  case h_2 => cases hact
  case h_1 k p r hx =>
  rw [hx] at hr
  simp only [Option.map_eq_some_iff, Prod.mk.injEq] at hact
  obtain ⟨m, hm, rfl, rfl⟩ := hact
  cases hvs : xs.map a.eval with
  | nil => rw [hvs] at hr; have := hr.1; simp at this
  | cons v vs =>
    rw [hvs] at hr
    have h0 : RepS w NA ρ H (.c (.val (.int k p))) v := hr.2 0 _ v rfl rfl
    have h1 : RepL w NA ρ H r vs := ⟨by have := hr.1; simpa using this, fun i x y hx hy => hr.2 (i + 1) x y (by simpa using hx) (by simpa using hy)⟩
    cases h0 with
    | c _ _ q => cases q with
      | val =>
        have := min_run (P := P) h1 hm
        refine good_pure h (v := _) ?_ (.c _ _ (.val _))
        simp [execOp, ho, resolve, invoke, builtin, Builtin.min_, hvs, this]
theorem good_makeSl (h : RepH w0 N0 NA ρ H w) (ht : ∀ i, RepS w NA ρ H (T i) (a.tmps.getD i undef)) {t e : TypeId} {l c : Operand} (ho : o.op = .makeSlice t l c) {ie : TypeInfo} {z : Value}
    (hu : P.underlying t = some (.slice e)) (hi : P.info? e = some ie) (hz : ie.zero = some z) (hk : ¬ ie.size = 0) (hzs : z.cells.size = ie.size) (hz1 : z.cells.all (·.oneCell') = true)
    {site : Nat} {y : SV} {ef : Option (Nat × Blk)} (hact : actF site (ev T) H (.makeSl e ie.size ie.bytes z.cells.toList l c) = some (y, ef)) : Good P w0 N0 NA ρ H o a w (setH H ef) y := by
  simp only [actF] at hact
  split at hact
  case h_2 => cases hact
  case h_1 k1 n k2 m hl hc hs =>
  split at hact
  case isFalse => cases hact
  case isTrue hcond =>
  obtain ⟨rfl, h0, hb, h63⟩ := hcond
  simp only [Option.some.injEq, Prod.mk.injEq] at hact
  obtain ⟨rfl, rfl⟩ := hact
  have hlv := val_of ht hl
  have hcv := val_of ht hc
  have hrun := run_make (P := P) w t e ie z hu hi hz k1 k2 n n h0 (Int.le_refl _) (by rw [Int.mul_comm]; omega) h63
  have hsz : (madeCells z.cells (n.toNat * ie.size)).size = n.toNat * ie.size := size_madeCells _ _
  have hrow : ∀ (j : Nat) row, (List.replicate n.toNat (z.cells.toList.map CV.val))[j]? = some row → j < n.toNat ∧ row = z.cells.toList.map CV.val := fun j row hj => by
    rw [List.getElem?_replicate] at hj
    split at hj
    · cases hj; exact ⟨by assumption, rfl⟩
    · cases hj
  obtain ⟨r1, r2, r3⟩ := arr_rep h hs e ie.size (List.replicate n.toNat (z.cells.toList.map CV.val)) (madeCells z.cells (n.toNat * ie.size)) n.toNat hsz (by simp) (by unfold maxLen; omega)
    (fun j row hj => by
      obtain ⟨_, rfl⟩ := hrow j row hj
      refine ⟨by simpa using hzs, ?_⟩
      rw [List.all_eq_true]
      intro x hx
      rw [List.mem_map] at hx
      obtain ⟨v, hv, rfl⟩ := hx
      rw [Array.all_eq_true_iff_forall_mem] at hz1
      have := hz1 v (by simpa using hv)
      cases v <;> simp [Value.oneCell'] at this <;> rfl)
    (fun j row i x hj hx => by
      obtain ⟨hj1, rfl⟩ := hrow j row hj
      rw [List.getElem?_map] at hx
      cases hq : z.cells.toList[i]? with
      | none => rw [hq] at hx; simp at hx
      | some v =>
        rw [hq] at hx; simp at hx; subst hx
        have hik : i < ie.size := by have := (List.getElem?_eq_some_iff.1 hq).1; rw [← hzs]; simpa using this
        have hlt : j * ie.size + i < n.toNat * ie.size := by
          have : (j + 1) * ie.size ≤ n.toNat * ie.size := Nat.mul_le_mul_right _ hj1
          rw [Nat.add_mul] at this; omega
        refine ⟨v, ?_, .val v⟩
        unfold madeCells
        rw [Array.getElem?_map, Array.getElem?_range, if_pos hlt]
        simp only [Option.map_some]
        rw [hzs, Nat.add_comm, Nat.add_mul_mod_self_right, Nat.mod_eq_of_lt hik]
        rw [getElem!_pos z.cells i (by rw [hzs]; exact hik)]
        have := (List.getElem?_eq_some_iff.1 hq).2
        simpa using this)
  rw [List.length_replicate] at r3
  refine ⟨_, _, _, ?_, .inl rfl, _, r1, r2, r3⟩
  simp only [execOp, ho, hlv, hcv, Sem.run_bind, hrun, Result.andThen_ok, Sem.run_pure]
end
end Go.Proofs.YtboifcengmgcaaaGreat
/- The shadow's operations are sound, VI: append. -/
namespace Go.Proofs.YtboifcengmgcaaaGreat
open Go.RowKit
section
variable {P : Program} {w0 w : World} {N0 NA : Nat → Prop} {ρ : Nat → Option Nat} {H : Nat → Option Blk} {T : Nat → SV} {a : Act} {o : Oper}
theorem setH_twice (id : Nat) (A B : Blk) : setH (setH H (some (id, A))) (some (id, B)) = setH H (some (id, B)) := by
  funext i; unfold setH; by_cases h : i = id <;> simp [h]
theorem setR_twice (id : Nat) (x y : Option Nat) : setR (setR ρ id x) id y = setR ρ id y := by
  funext i; unfold setR; by_cases h : i = id <;> simp [h]
theorem virt_rep (h : RepH w0 N0 NA ρ H w) {id : Nat} (hid : H id = none) (t : TypeId) (k : Nat) :
    RepH w0 N0 NA (setR ρ id none) (setH H (some (id, .arr t k []))) w ∧ Trans NA w ρ H w (setR ρ id none) (setH H (some (id, .arr t k []))) := by
  have hρ : ∀ i, i ≠ id → setR ρ id none i = ρ i := fun i hi => by simp [setR, hi]
  have hH : ∀ i, i ≠ id → setH H (some (id, .arr t k [])) i = H i := fun i hi => by simp [setH, hi]
  have own : ∀ b, Own (setR ρ id none) (setH H (some (id, .arr t k []))) b → Own ρ H b := by
    rintro b ⟨i, h1, h2⟩
    by_cases hi : i = id
    · subst hi; simp [setR] at h2
    · rw [hρ i hi] at h2; rw [hH i hi] at h1; exact ⟨i, h1, h2⟩
  have calm : Calm w (Mut NA ρ H) w (Mut NA (setR ρ id none) (setH H (some (id, .arr t k [])))) := by
    refine ⟨Nat.le_refl _, fun b hb hn => ⟨rfl, fun hm => ?_⟩⟩
    rcases hm with hm | hm
    · exact hn (.inl hm)
    · exact hn (.inr (own b hm))
  have keep : ∀ i, KeepI w ρ H w (setR ρ id none) (setH H (some (id, .arr t k []))) i := by
    intro i
    refine ⟨fun B' hi _ => ?_, fun t' k' rows hi => ?_⟩
    · have : i ≠ id := fun e => by rw [e, hid] at hi; cases hi
      exact ⟨B', by rw [hH i this]; exact hi, rfl, hρ i this⟩
    · have : i ≠ id := fun e => by rw [e, hid] at hi; cases hi
      exact ⟨rows, by rw [hH i this]; exact hi, Nat.le_refl _, fun _ => ⟨hρ i this, fun b cs t' hb hc => ⟨cs, hc, rfl⟩⟩⟩
  refine ⟨⟨?_, ?_, h.fr, fun b hb => h.low b (own b hb)⟩, calm, keep⟩
  · intro i j b h1 h2 h3 h4
    by_cases hi : i = id
    · subst hi; simp [setR] at h3
    · by_cases hj : j = id
      · subst hj; simp [setR] at h4
      · rw [hρ i hi] at h3; rw [hρ j hj] at h4; rw [hH i hi] at h1; rw [hH j hj] at h2
        exact h.inj i j b h1 h2 h3 h4
  · intro i B hi
    by_cases hii : i = id
    · subst hii; simp [setH] at hi; subst hi; exact .inl ⟨by simp [setR], .inl rfl⟩
    · rw [hH i hii] at hi
      exact (h.blk i B hi).move calm keep (hρ i hii) (fun _ _ => rfl)
structure Src (w : World) (NA : Nat → Prop) (ρ : Nat → Option Nat) (H : Nat → Option Blk) (k : Nat) (src : List (List CV)) (v : Value) (news : List Value) : Prop where
  is : ∃ ad c, v = .slice ad src.length c ∧ (src ≠ [] → ∃ b off, ad = some ⟨b, off, none⟩ ∧ ∀ (j : Nat) u, news[j]? = some u → w.cell? ⟨b, off + j, none⟩ = some u)
  len : news.length = src.length * k
  one : ∀ u ∈ news, u.oneCell' = true
  row : ∀ (j : Nat) row, src[j]? = some row → row.length = k ∧ row.all CV.one = true
  cell : ∀ (j : Nat) row (i : Nat) x, src[j]? = some row → row[i]? = some x → ∃ v, news[j * k + i]? = some v ∧ RepC w (Mut NA ρ H) x v
theorem rows_news {k : Nat} {rows : List (List CV)} (u : Nat → Nat → Value) (hr : ∀ (j : Nat) row, rows[j]? = some row → row.length = k) :
    ∃ news : List Value, news.length = rows.length * k ∧ ∀ (q : Nat) v, news[q]? = some v → ∃ j row i x, rows[j]? = some row ∧ row[i]? = some x ∧ q = j * k + i ∧ v = u j i ∧ i < k := by
  by_cases hk : k = 0
  · subst hk; exact ⟨[], by simp, fun q v h => by simp at h⟩
  refine ⟨(List.range (rows.length * k)).map fun q => u (q / k) (q % k), by simp, fun q v h => ?_⟩
  rw [List.getElem?_map] at h
  have hq : q < rows.length * k := by
    rcases Nat.lt_or_ge q (rows.length * k) with h' | h'
    · exact h'
    · rw [List.getElem?_eq_none (by simpa using h')] at h; simp at h
  rw [List.getElem?_range hq] at h
  simp at h
  have hj : q / k < rows.length := Nat.div_lt_of_lt_mul (by rw [Nat.mul_comm]; exact hq)
  have hi : q % k < k := Nat.mod_lt _ (by omega)
  have hl := hr (q / k) _ (List.getElem?_eq_getElem hj)
  refine ⟨q / k, _, q % k, _, List.getElem?_eq_getElem hj, List.getElem?_eq_getElem (by rw [hl]; exact hi), ?_, h.symm, hi⟩
  rw [Nat.mul_comm]; exact (Nat.div_add_mod q k).symm
theorem ji_inj {k j i j' i' : Nat} (hi : i < k) (hi' : i' < k) (h : j * k + i = j' * k + i') : j = j' ∧ i = i' := by
  have h1 : j = j' := by
    rcases Nat.lt_trichotomy j j' with h2 | h2 | h2
    · have : (j + 1) * k ≤ j' * k := Nat.mul_le_mul_right _ h2
      rw [Nat.add_mul] at this; omega
    · exact h2
    · have : (j' + 1) * k ≤ j * k := Nat.mul_le_mul_right _ h2
      rw [Nat.add_mul] at this; omega
  subst h1
  exact ⟨rfl, by omega⟩
theorem src_of (h : RepH w0 N0 NA ρ H w) {k : Nat} {x : SV} {v : Value} (hx : RepS w NA ρ H x v) {src : List (List CV)} (hs : rowsOf H k x = some src) : ∃ news, Src w NA ρ H k src v news := by
  have empty : ∀ ad c, v = .slice ad 0 c → ∃ news, Src w NA ρ H k [] v news := fun ad c hv =>
    ⟨[], ⟨ad, c, hv, fun h => absurd rfl h⟩, by simp, by simp, fun j row h => by simp at h, fun j row i x h => by simp at h⟩
  unfold rowsOf at hs
  split at hs
  · rename_i k' rows
    cases hx with
    | c _ _ r =>
      obtain ⟨ad, c, rfl, q1, q2, q3⟩ := r.sl_inv
      split at hs
      case isFalse => cases hs
      case isTrue hc =>
      simp only [Option.some.injEq] at hs
      subst hs
      rcases q3 with q3 | ⟨b, off, u, rfl, q4, q5, q6, q7, q8⟩
      · subst q3; exact empty ad c rfl
      · by_cases hr : rows = []
        · subst hr; exact empty _ c rfl
        · have hk : k' = k := hc.resolve_right hr
          subst hk
          obtain ⟨news, n1, n2⟩ := rows_news u (fun j row hj => (q6 j row hj).1)
          refine ⟨news, ⟨_, c, rfl, fun _ => ⟨b, off, rfl, fun q v hq => ?_⟩⟩, n1, fun v hv => ?_, q6, fun j row i x hj hx => ?_⟩
          · obtain ⟨j, row, i, x, hj, hx, rfl, rfl, _⟩ := n2 q v hq
            rw [← Nat.add_assoc]; exact q7 j row i x hj hx
          · obtain ⟨q, hq, rfl⟩ := List.getElem_of_mem hv
            obtain ⟨j, row, i, x, hj, hx, _, e, _⟩ := n2 q _ (List.getElem?_eq_getElem hq)
            rw [e]
            exact oneC (q8 j row i x hj hx) (List.all_eq_true.1 (q6 j row hj).2 x (List.mem_of_getElem? hx))
          · have hi : i < k' := by rw [← (q6 j row hj).1]; exact (List.getElem?_eq_some_iff.1 hx).1
            have hj' : j < rows.length := (List.getElem?_eq_some_iff.1 hj).1
            have hlt : j * k' + i < news.length := by
              rw [n1]
              have : (j + 1) * k' ≤ rows.length * k' := Nat.mul_le_mul_right _ hj'
              rw [Nat.add_mul] at this; omega
            obtain ⟨j2, row2, i2, x2, hj2, hx2, e1, e2, hi2⟩ := n2 _ _ (List.getElem?_eq_getElem hlt)
            obtain ⟨rfl, rfl⟩ := ji_inj hi hi2 e1
            refine ⟨_, List.getElem?_eq_getElem hlt, ?_⟩
            rw [e2]; exact q8 j row i x hj hx
  · cases hs
    cases hx with
    | c _ _ r => cases r; exact empty none 0 rfl
  · rename_i id len
    cases hx with
    | own _ _ t k' rows v hH hl ho hv =>
      rw [hH] at hs
      simp only at hs
      split at hs
      case isFalse => cases hs
      case isTrue hc =>
      obtain ⟨rfl, hle⟩ := hc
      simp only [Option.some.injEq] at hs
      subst hs
      rcases hv hle with ⟨q0, q1, rfl⟩ | ⟨b, cap, cs, t2, q1, rfl, q3, q4, q5, q6⟩
      · have : rows = [] := List.length_eq_zero_iff.1 (by omega)
        subst this; exact empty none 0 rfl
      · rcases h.blk id _ hH with ⟨e1, _⟩ | ⟨b', cs', cap', e1, e2, e3, e4, e5, e6, e7⟩
        · rw [q1] at e1; cases e1
        · rw [q1] at e1; cases e1
          rw [q3] at e2; cases e2
          have hfit : rows.length * k' ≤ cs.size := by rw [e3]; exact Nat.mul_le_mul_right _ e4
          have hget : ∀ (q : Nat), q < rows.length * k' → (cs.toList.take (rows.length * k'))[q]? = cs[q]? := fun q hq => by
            rw [List.getElem?_take_of_lt hq]; simp
          have hcell : ∀ (j : Nat) row (i : Nat) x, rows[j]? = some row → row[i]? = some x → ∃ v, (cs.toList.take (rows.length * k'))[j * k' + i]? = some v ∧ RepC w (Mut NA ρ H) x v := fun j row i x hj hx => by
            obtain ⟨v, hv1, hv2⟩ := e7 j row i x hj hx
            have hi : i < k' := by rw [← (e6 j row hj).1]; exact (List.getElem?_eq_some_iff.1 hx).1
            have hj' : j < rows.length := (List.getElem?_eq_some_iff.1 hj).1
            have : (j + 1) * k' ≤ rows.length * k' := Nat.mul_le_mul_right _ hj'
            rw [Nat.add_mul] at this
            exact ⟨v, by rw [hget _ (by omega)]; exact hv1, hv2⟩
          refine ⟨cs.toList.take (rows.length * k'), ⟨_, cap, by rw [hle], fun _ => ⟨b, 0, rfl, fun q v hq => ?_⟩⟩, by simp; omega, fun v hv => ?_, e6, hcell⟩
          · have hq' : q < rows.length * k' := by have := (List.getElem?_eq_some_iff.1 hq).1; simp at this; omega
            rw [hget q hq'] at hq
            rw [Nat.zero_add, cell_of_row w b q cs _ (0, 0) q3]; exact hq
          · obtain ⟨q, hq, rfl⟩ := List.getElem_of_mem hv
            by_cases hk : k' = 0
            · subst hk; simp at hq
            have hq' : q < rows.length * k' := by simp at hq; omega
            have hj : q / k' < rows.length := Nat.div_lt_of_lt_mul (by rw [Nat.mul_comm]; exact hq')
            have hi : q % k' < k' := Nat.mod_lt _ (by omega)
            have hr := List.getElem?_eq_getElem hj
            have hl := (e6 _ _ hr).1
            have hx := List.getElem?_eq_getElem (l := rows[q / k']) (i := q % k') (by omega)
            obtain ⟨v, hv1, hv2⟩ := hcell _ _ _ _ hr hx
            have e0 : q / k' * k' + q % k' = q := by rw [Nat.mul_comm]; exact Nat.div_add_mod q k'
            rw [e0, List.getElem?_eq_getElem hq] at hv1
            cases hv1
            exact oneC hv2 (List.all_eq_true.1 (e6 _ _ hr).2 _ (List.getElem_mem _))
  · cases hs
theorem run_append_zero (t ty e : TypeId) (ie : TypeInfo) (ht : P.underlying t = some (.slice e)) (hi : P.info? e = some ie) (base : Option Addr) (n cap : Nat) (hn : n ≤ cap) (ad : Option Addr) (c : Nat) :
    (Builtin.append_ #[t, t] ty #[.slice base n cap, .slice ad 0 c]).run P w = .ok (.slice base n cap) w := by
  cases ad with
  | none => cases base <;> simp [Builtin.append_, run_underlying ht, sizeOf, run_typeInfo w hi, Builtin.lenOf, Builtin.firstCells, hn, storeCells]
  | some ad => cases base <;> simp [Builtin.append_, run_underlying ht, sizeOf, run_typeInfo w hi, Builtin.lenOf, Builtin.firstCells, hn, storeCells, loadCells, loadCellsFrom]
theorem app_core (h : RepH w0 N0 NA ρ H w) {id : Nat} {e : TypeId} {k : Nat} {rows : List (List CV)} (hH : H id = some (.arr e k rows)) {v : Value} (hv : OwnV w (ρ id) k rows.length v)
    {src : List (List CV)} {x : Value} {news : List Value} (hs : Src w NA ρ H k src x news) {t ty : TypeId} {ie : TypeInfo} {z : Value} (hu : P.underlying t = some (.slice e)) (hi : P.info? e = some ie) (hz : ie.zero = some z) (hk : ie.size = k) (hk0 : k ≠ 0) (hzs : z.cells.size = ie.size)
    (h63 : rows.length + src.length ≤ 9223372036854775807) (hb : (rows.length + src.length) * ie.bytes ≤ 140737488355328) :
    ∃ v' w', (Builtin.append_ #[t, t] ty #[v, x]).run P w = .ok v' w' ∧ ∃ ρ', RepH w0 N0 NA ρ' (setH H (some (id, .arr e k (rows ++ src)))) w' ∧
      Trans NA w ρ H w' ρ' (setH H (some (id, .arr e k (rows ++ src)))) ∧ RepS w' NA ρ' (setH H (some (id, .arr e k (rows ++ src)))) (.own id (rows.length + src.length)) v' := by
  obtain ⟨ad, c, rfl, hsrc⟩ := hs.is
  by_cases hm : src = []
  · subst hm
    have e0 : setH H (some (id, .arr e k (rows ++ []))) = H := by
      funext i; unfold setH; by_cases hi : i = id
      · subst hi; simp [hH]
      · simp [hi]
    rw [e0]
    simp only [List.length_nil, Nat.add_zero]
    obtain ⟨base, cap, hvb, hle⟩ : ∃ base cap, v = .slice base rows.length cap ∧ rows.length ≤ cap := by
      rcases hv with ⟨_, q1, rfl⟩ | ⟨b, cap, cs, t2, q1, rfl, q3, q4, q5, q6⟩
      · exact ⟨none, 0, by rw [q1], by omega⟩
      · exact ⟨_, cap, rfl, q5⟩
    subst hvb
    refine ⟨_, w, run_append_zero t ty e ie hu hi base _ cap hle ad c, ρ, h, Trans.refl _ _ _ _, .own id _ e k rows _ hH (Nat.le_refl _) rfl (fun _ => hv)⟩
  · obtain ⟨b, off, rfl, hcell⟩ := hsrc hm
    have hpos : 0 < src.length := by
      rcases src with _ | ⟨r, s⟩
      · exact absurd rfl hm
      · simp
    subst hk
    obtain ⟨xs, hown, hvb, hxs⟩ : ∃ xs, w.ownsRow 0 e ie.size v rows.length xs ∧ v.ownBlock = ρ id ∧ ∀ (j : Nat) row (i : Nat) x, rows[j]? = some row → row[i]? = some x → ∃ v, xs[j * ie.size + i]? = some v ∧ RepC w (Mut NA ρ H) x v := by
      rcases hv with ⟨q0, q1, rfl⟩ | ⟨b, cap, cs, t2, q1, rfl, q3, q4, q5, q6⟩
      · have hr0 : rows = [] := List.length_eq_zero_iff.1 q1
        subst hr0
        exact ⟨[], World.ownsRow_nil _ _ _ _, by rw [q0]; rfl, fun j row i x hj => by simp at hj⟩
      · rcases h.blk id _ hH with ⟨e1, _⟩ | ⟨b', cs', cap', e1, e2, e3, e4, e5, e6, e7⟩
        · rw [q1] at e1; cases e1
        · rw [q1] at e1; cases e1
          rw [q3] at e2; cases e2
          have hfit : rows.length * ie.size ≤ cap * ie.size := Nat.mul_le_mul_right _ q5
          refine ⟨cs.toList.take (rows.length * ie.size), ⟨by simp; omega, .inr ⟨b, cap, cs, rfl, Nat.zero_le _, q3, q5, q6, q4, rfl⟩⟩, by rw [q1]; rfl, fun j row i x hj hx => ?_⟩
          obtain ⟨v, hv1, hv2⟩ := e7 j row i x hj hx
          have hi' : i < ie.size := by rw [← (e6 j row hj).1]; exact (List.getElem?_eq_some_iff.1 hx).1
          have hj' : j < rows.length := (List.getElem?_eq_some_iff.1 hj).1
          have : (j + 1) * ie.size ≤ rows.length * ie.size := Nat.mul_le_mul_right _ hj'
          rw [Nat.add_mul] at this
          exact ⟨v, by rw [List.getElem?_take_of_lt (by omega)]; simpa using hv1, hv2⟩
    obtain ⟨v', w', hrun, hown', hgrow, _, hat⟩ := run_append_own_at (P := P) w 0 t ty e ie z ie.size ie.bytes hu hi hz rfl rfl hzs (by omega) v rows.length xs hown ⟨b, off, none⟩ src.length c news hs.len (fun j u hj => by rw [add_none]; exact hcell j u hj) hs.one (by unfold maxLen; omega) hb (Nat.zero_le _)
    obtain ⟨hl', h2'⟩ := hown'
    rcases h2' with ⟨_, q1⟩ | ⟨g, cap, cur, rfl, _, g1, g2, g3, g4, g5⟩
    · omega
    have hgr : (some g = ρ id) ∨ ∃ g', some g = some g' ∧ w.heap.size ≤ g' := by
      rcases hat with h1 | h1
      · exact .inl (by rw [← hvb]; exact h1)
      · exact .inr ⟨g, rfl, by
          have : some g = some w.heap.size := h1
          cases this; exact Nat.le_refl _⟩
    have hxl : xs.length = rows.length * ie.size := hown.1
    have hfit : (rows.length + src.length) * ie.size ≤ cap * ie.size := Nat.mul_le_mul_right _ g2
    have hget : ∀ q, q < (rows.length + src.length) * ie.size → cur[q]? = (xs ++ news)[q]? := fun q hq => by
      rw [← g5, List.getElem?_take_of_lt hq]; simp
    obtain ⟨r1, r2⟩ := upd_rep (B1 := .arr e ie.size (rows ++ src)) (r := some g) h hH (by rw [← hvb]; exact hgrow) hgr
      ⟨fun B' hi' hk' => (by rw [hH] at hi'; cases hi'; exact absurd rfl hk'), fun t' k' rows' hi' => by
        rw [hH] at hi'; cases hi'
        exact ⟨rows ++ src, by simp [setH], by simp, fun e => by (rw [List.length_append] at e; omega)⟩⟩ (fun tr => by
      refine .inr ⟨g, cur, cap, by simp [setR], g1, g4, by simpa using g2, g3, fun j row hj => ?_, fun j row i x hj hx => ?_⟩
      · rcases Nat.lt_or_ge j rows.length with hj' | hj'
        · rw [List.getElem?_append_left hj'] at hj
          rcases h.blk id _ hH with ⟨e0, _⟩ | ⟨_, _, _, _, _, _, _, _, e6, _⟩
          · rcases hv with ⟨_, q1, _⟩ | ⟨_, _, _, _, q1, _⟩
            · rw [List.length_eq_zero_iff.1 q1] at hj; simp at hj
            · rw [e0] at q1; cases q1
          · exact e6 j row hj
        · rw [List.getElem?_append_right hj'] at hj
          exact hs.row _ row hj
      · rcases Nat.lt_or_ge j rows.length with hj' | hj'
        · rw [List.getElem?_append_left hj'] at hj
          obtain ⟨v, hv1, hv2⟩ := hxs j row i x hj hx
          have hlt := (List.getElem?_eq_some_iff.1 hv1).1
          refine ⟨v, ?_, hv2.move tr.1⟩
          rw [hget _ (by rw [Nat.add_mul]; omega), List.getElem?_append_left hlt]; exact hv1
        · rw [List.getElem?_append_right hj'] at hj
          obtain ⟨v, hv1, hv2⟩ := hs.cell _ row i x hj hx
          have hlt := (List.getElem?_eq_some_iff.1 hv1).1
          rw [hs.len] at hlt
          refine ⟨v, ?_, hv2.move tr.1⟩
          have e0 : j * ie.size + i = rows.length * ie.size + ((j - rows.length) * ie.size + i) := by
            have : j = rows.length + (j - rows.length) := by omega
            rw [this, Nat.add_mul]
            have : rows.length + (j - rows.length) - rows.length = j - rows.length := by omega
            rw [this]; omega
          rw [e0, hget _ (by rw [Nat.add_mul]; omega), List.getElem?_append_right (by omega)]
          have : rows.length * ie.size + ((j - rows.length) * ie.size + i) - xs.length = (j - rows.length) * ie.size + i := by omega
          rw [this]; exact hv1)
    refine ⟨_, w', hrun, _, r1, r2, .own id _ e ie.size (rows ++ src) _ (by simp [setH]) (by simp) rfl (fun _ => .inr ⟨g, cap, cur, e, by simp [setR], rfl, g1, g4, g2, g3⟩)⟩
theorem good_append (h : RepH w0 N0 NA ρ H w) (ht : ∀ i, RepS w NA ρ H (T i) (a.tmps.getD i undef)) {t e : TypeId} {s x : Operand} (ho : o.op = .call { callee := .builtin .append, args := #[s, x], argTypes := #[t, t] }) {ie : TypeInfo} {z : Value}
    (hu : P.underlying t = some (.slice e)) (hi : P.info? e = some ie) (hz : ie.zero = some z) (hk : ¬ ie.size = 0) (hzs : z.cells.size = ie.size)
    {site : Nat} {y : SV} {ef : Option (Nat × Blk)} (hact : actF site (ev T) H (.append e ie.size ie.bytes s x) = some (y, ef)) : Good P w0 N0 NA ρ H o a w (setH H ef) y := by
  have hsv := rep_ev ht s
  have hxv := rep_ev ht x
  simp only [actF] at hact
  split at hact
  case h_2 => cases hact
  case h_1 src hsrc =>
  have fin : ∀ {ρ' : Nat → Option Nat} {H1 : Nat → Option Blk} {w' : World} {v' : Value} {y : SV}, (Builtin.append_ #[t, t] o.type #[a.eval s, a.eval x]).run P w = .ok v' w' → RepH w0 N0 NA ρ' H1 w' → Trans NA w ρ H w' ρ' H1 → RepS w' NA ρ' H1 y v' →
      Good P w0 N0 NA ρ H o a w H1 y := fun {ρ' H1 w' v' y} hr h1 h2 h3 => by
    refine ⟨_, v', w', ?_, .inl rfl, ρ', h1, h2, h3⟩
    simp [execOp, ho, resolve, invoke, builtin, hr]
  split at hact
  · rename_i id len he
    rw [he] at hsv
    generalize hv : a.eval s = v at hsv
    cases hsv with
    | own _ _ t' k' rows v hH hl ho' hp =>
      rw [hH] at hact
      simp only at hact
      split at hact
      case isFalse => cases hact
      case isTrue hc =>
      obtain ⟨rfl, rfl, hle, h63, hb⟩ := hc
      simp only [Option.some.injEq, Prod.mk.injEq] at hact
      obtain ⟨rfl, rfl⟩ := hact
      obtain ⟨news, hsr⟩ := src_of h hxv hsrc
      obtain ⟨v', w', hr, ρ', h1, h2, h3⟩ := app_core (P := P) (ty := o.type) h hH (by rw [← hle]; exact hp hle) hsr hu hi hz rfl hk hzs h63 hb
      exact fin (by rw [hv]; exact hr) h1 h2 h3
  · rename_i he
    have hv := val_of ht he
    split at hact
    case h_2 => cases hact
    case h_1 hs0 =>
    split at hact
    case isFalse => cases hact
    case isTrue hc =>
    simp only [Option.some.injEq, Prod.mk.injEq] at hact
    obtain ⟨rfl, rfl⟩ := hact
    obtain ⟨news, hsr⟩ := src_of h hxv hsrc
    obtain ⟨v1, v2⟩ := virt_rep h hs0 e ie.size
    have hsr' : Src w NA (setR ρ site none) (setH H (some (site, .arr e ie.size []))) ie.size src (a.eval x) news :=
      ⟨hsr.is, hsr.len, hsr.one, hsr.row, fun j row i x hj hx => by
        obtain ⟨v, q1, q2⟩ := hsr.cell j row i x hj hx
        exact ⟨v, q1, q2.move v2.1⟩⟩
    obtain ⟨v', w', hr, ρ', h1, h2, h3⟩ := app_core (P := P) (ty := o.type) (id := site) (rows := []) (v := .slice none 0 0) v1 (by simp [setH]) (.inl ⟨by simp [setR], rfl, rfl⟩) hsr' hu hi hz rfl hk hzs (by simpa using hc.1) (by simpa using hc.2)
    have h2' := v2.trans h2
    rw [setH_twice] at h1 h3 h2'
    simp only [List.nil_append, List.length_nil, Nat.zero_add] at h1 h2' h3
    exact fin (by rw [hv]; exact hr) h1 h2' h3
  · rename_i k' rows he
    rw [he] at hsv
    generalize hv : a.eval s = v at hsv
    cases hsv with
    | c _ _ hq =>
    cases hq with
    | slx _ _ ad hq =>
    split at hact
    case h_2 => cases hact
    case h_1 hs0 =>
    split at hact
    case isFalse => cases hact
    case isTrue hc =>
    obtain ⟨rfl, hrn, hsn, h63, hb⟩ := hc
    simp only [Option.some.injEq, Prod.mk.injEq] at hact
    obtain ⟨rfl, rfl⟩ := hact
    obtain ⟨news, hsr⟩ := src_of h hxv hsrc
    obtain ⟨olds, hor⟩ := src_of h (.c _ _ hq) (k := ie.size) (src := rows) (by simp [rowsOf])
    obtain ⟨ad1, c1, e1, hcell1⟩ := hor.is
    obtain ⟨ad2, c2, e2, hcell2⟩ := hsr.is
    obtain ⟨b1, off1, rfl, hc1⟩ := hcell1 hrn
    obtain ⟨b2, off2, rfl, hc2⟩ := hcell2 hsn
    cases e1
    have hpos : 0 < src.length := by
      rcases src with _ | ⟨r, q⟩
      · exact absurd rfl hsn
      · simp
    obtain ⟨v', w', hrun, hown', hgrow⟩ := run_append_arg_grows (P := P) (w := w) t o.type e ie z ie.size ie.bytes hu hi hz rfl rfl hzs (by omega) ⟨b1, off1, none⟩ rows.length rows.length olds hor.len (fun j u hj => by rw [add_none]; exact hc1 j u hj)
      ⟨b2, off2, none⟩ src.length c2 news hsr.len (fun j u hj => by rw [add_none]; exact hc2 j u hj) (by omega) (by unfold maxLen; omega) hb
    obtain ⟨v1, v2⟩ := virt_rep h hs0 e ie.size
    obtain ⟨hl', h2'⟩ := hown'
    rcases h2' with ⟨_, q1⟩ | ⟨g, cap, cur, rfl, g0, g1, g2, g3, g4, g5⟩
    · omega
    have hget : ∀ q, q < (rows.length + src.length) * ie.size → cur[q]? = (olds ++ news)[q]? := fun q hq => by
      rw [← g5, List.getElem?_take_of_lt hq]; simp
    obtain ⟨r1, r2⟩ := upd_rep (B1 := .arr e ie.size (rows ++ src)) (r := some g) v1 (id := site) (B0 := .arr e ie.size []) (by simp [setH]) (by rw [show setR ρ site none site = none by simp [setR]]; exact hgrow) (.inr ⟨g, rfl, g0⟩)
      ⟨fun B' hi' hk' => (by simp [setH] at hi'; subst hi'; exact absurd rfl hk'), fun t' k' rows' hi' => by
        simp [setH] at hi'; obtain ⟨rfl, rfl, rfl⟩ := hi'
        exact ⟨rows ++ src, by simp [setH], by simp, fun e => by simp at e; omega⟩⟩ (fun tr => by
      refine .inr ⟨g, cur, cap, by simp [setR], g1, g4, by simpa using g2, g3, fun j row hj => ?_, fun j row i x hj hx => ?_⟩
      · rcases Nat.lt_or_ge j rows.length with hj' | hj'
        · rw [List.getElem?_append_left hj'] at hj
          exact hor.row j row hj
        · rw [List.getElem?_append_right hj'] at hj
          exact hsr.row _ row hj
      · rcases Nat.lt_or_ge j rows.length with hj' | hj'
        · rw [List.getElem?_append_left hj'] at hj
          obtain ⟨v, hv1, hv2⟩ := hor.cell j row i x hj hx
          have hlt := (List.getElem?_eq_some_iff.1 hv1).1
          refine ⟨v, ?_, (hv2.move v2.1).move tr.1⟩
          have hlo := hor.len
          rw [hget _ (by rw [Nat.add_mul]; omega), List.getElem?_append_left hlt]; exact hv1
        · rw [List.getElem?_append_right hj'] at hj
          obtain ⟨v, hv1, hv2⟩ := hsr.cell _ row i x hj hx
          have hlt := (List.getElem?_eq_some_iff.1 hv1).1
          rw [hsr.len] at hlt
          refine ⟨v, ?_, (hv2.move v2.1).move tr.1⟩
          have hlo := hor.len
          have e0 : j * ie.size + i = rows.length * ie.size + ((j - rows.length) * ie.size + i) := by
            have : j = rows.length + (j - rows.length) := by omega
            rw [this, Nat.add_mul]
            have : rows.length + (j - rows.length) - rows.length = j - rows.length := by omega
            rw [this]; omega
          rw [e0, hget _ (by rw [Nat.add_mul]; omega), List.getElem?_append_right (by omega)]
          have : rows.length * ie.size + ((j - rows.length) * ie.size + i) - olds.length = (j - rows.length) * ie.size + i := by omega
          rw [this]; exact hv1)
    have r2' := v2.trans r2
    rw [setH_twice] at r1 r2'
    rw [setR_twice] at r1 r2'
    refine fin (by rw [hv, e2]; exact hrun) r1 r2' (.own site _ e ie.size (rows ++ src) _ (by simp [setH]) (by simp) rfl (fun _ => .inr ⟨g, cap, cur, e, by simp [setR], rfl, g1, g4, g2, g3⟩))
  · cases hact
end
end Go.Proofs.YtboifcengmgcaaaGreat
/- The shadow's operations are sound, VII: structs compared; all of them. -/
namespace Go.Proofs.YtboifcengmgcaaaGreat
open Go.RowKit
def eqL : List Bool → List Value → List Value → Option Bool
  | [], [], [] => some true
  | true :: ks, .int k a :: xs, .int k' b :: ys => if k = k' then (eqL ks xs ys).map fun r => a == b && r else none
  | false :: ks, .bool a :: xs, .bool b :: ys => (eqL ks xs ys).map fun r => a == b && r
  | _, _, _ => none
theorem eqL_cons {q : Bool} {ks : List Bool} {xs ys : List Value} {r : Bool} (h : eqL (q :: ks) xs ys = some r) : ∃ x xs' y ys' r1 r2, xs = x :: xs' ∧ ys = y :: ys' ∧ eqL ks xs' ys' = some r2 ∧ r = (r1 && r2) ∧
    ((q = true ∧ ∃ k a b, x = .int k a ∧ y = .int k b ∧ r1 = (a == b)) ∨ (q = false ∧ ∃ a b, x = .bool a ∧ y = .bool b ∧ r1 = (a == b))) := by
  unfold eqL at h
  split at h
  · contradiction
  · rename_i ks' k a xs' k' b ys' e
    simp only [List.cons.injEq] at e
    obtain ⟨rfl, rfl⟩ := e
    split at h
    case isFalse => cases h
    case isTrue hk =>
    subst hk
    simp only [Option.map_eq_some_iff] at h
    obtain ⟨r2, h, rfl⟩ := h
    exact ⟨_, _, _, _, _, r2, rfl, rfl, h, rfl, .inl ⟨rfl, k, a, b, rfl, rfl, rfl⟩⟩
  · rename_i ks' a xs' b ys' e
    simp only [List.cons.injEq] at e
    obtain ⟨rfl, rfl⟩ := e
    simp only [Option.map_eq_some_iff] at h
    obtain ⟨r2, h, rfl⟩ := h
    exact ⟨_, _, _, _, _, r2, rfl, rfl, h, rfl, .inr ⟨rfl, a, b, rfl, rfl, rfl⟩⟩
  · cases h
theorem eqL_nil {xs ys : List Value} {r : Bool} (h : eqL [] xs ys = some r) : xs = [] ∧ ys = [] ∧ r = true := by
  unfold eqL at h
  split at h
  · simp at h; exact ⟨rfl, rfl, h⟩
  · rename_i e; cases e
  · rename_i e; cases e
  · cases h
theorem eqL_len : ∀ {ks : List Bool} {xs ys : List Value} {r : Bool}, eqL ks xs ys = some r → xs.length = ks.length ∧ ys.length = ks.length
  | [], xs, ys, r, h => by obtain ⟨rfl, rfl, _⟩ := eqL_nil h; simp
  | q :: ks, xs, ys, r, h => by
    obtain ⟨x, xs', y, ys', r1, r2, rfl, rfl, h2, _, _⟩ := eqL_cons h
    have := eqL_len h2
    simp [this.1, this.2]
theorem eqL_split : ∀ {k1 k2 : List Bool} {xs ys : List Value} {r : Bool}, eqL (k1 ++ k2) xs ys = some r → ∃ r1 r2, eqL k1 (xs.take k1.length) (ys.take k1.length) = some r1 ∧ eqL k2 (xs.drop k1.length) (ys.drop k1.length) = some r2 ∧ r = (r1 && r2)
  | [], k2, xs, ys, r, h => ⟨true, r, rfl, h, by simp⟩
  | q :: k1, k2, xs, ys, r, h => by
    obtain ⟨x, xs', y, ys', p1, p2, rfl, rfl, h2, rfl, hq⟩ := eqL_cons h
    obtain ⟨r1, r2, e1, e2, rfl⟩ := eqL_split h2
    refine ⟨p1 && r1, r2, ?_, by simpa using e2, by rw [Bool.and_assoc]⟩
    simp only [List.length_cons, List.take_succ_cons]
    rcases hq with ⟨rfl, k, a, b, rfl, rfl, rfl⟩ | ⟨rfl, a, b, rfl, rfl, rfl⟩ <;> simp [eqL, e1]
theorem eqL_of {w : World} {NA : Nat → Prop} {ρ : Nat → Option Nat} {H : Nat → Option Blk} : ∀ {ks : List Bool} {xs ys : List SV} {us vs : List Value} {r : Bool}, eqS ks xs ys = some r → RepL w NA ρ H xs us → RepL w NA ρ H ys vs → eqL ks us vs = some r := by
  intro ks
  induction ks with
  | nil =>
    intro xs ys us vs r h h1 h2
    unfold eqS at h
    split at h
    · have e1 : us = [] := List.length_eq_zero_iff.1 h1.1
      have e2 : vs = [] := List.length_eq_zero_iff.1 h2.1
      subst e1; subst e2; exact h
    · rename_i e; cases e
    · rename_i e; cases e
    · cases h
  | cons q ks ih =>
    intro xs ys us vs r h h1 h2
    have tail : ∀ {x : SV} {xs : List SV} {v : Value} {vs : List Value}, RepL w NA ρ H (x :: xs) (v :: vs) → RepS w NA ρ H x v ∧ RepL w NA ρ H xs vs := fun {x xs v vs} h =>
      ⟨h.2 0 x v rfl rfl, ⟨by have := h.1; simpa using this, fun i x y hx hy => h.2 (i + 1) x y (by simpa using hx) (by simpa using hy)⟩⟩
    have val : ∀ {u v : Value}, RepS w NA ρ H (.c (.val u)) v → v = u := fun h => by
      cases h with
      | c _ _ r => cases r; rfl
    unfold eqS at h
    split at h
    · contradiction
    · rename_i ks' k a xs' k' b ys' e
      simp only [List.cons.injEq] at e
      obtain ⟨rfl, rfl⟩ := e
      split at h
      case isFalse => cases h
      case isTrue hk =>
      subst hk
      simp only [Option.map_eq_some_iff] at h
      obtain ⟨r2, h, rfl⟩ := h
      match us, vs, h1, h2 with
      | [], _, h1, _ => exact absurd h1.1 (by simp)
      | _ :: _, [], _, h2 => exact absurd h2.1 (by simp)
      | u :: us, v :: vs, h1, h2 =>
        obtain ⟨a1, a2⟩ := tail h1
        obtain ⟨b1, b2⟩ := tail h2
        rw [val a1, val b1]
        simp [eqL, ih h a2 b2]
    · rename_i ks' a xs' b ys' e
      simp only [List.cons.injEq] at e
      obtain ⟨rfl, rfl⟩ := e
      simp only [Option.map_eq_some_iff] at h
      obtain ⟨r2, h, rfl⟩ := h
      match us, vs, h1, h2 with
      | [], _, h1, _ => exact absurd h1.1 (by simp)
      | _ :: _, [], _, h2 => exact absurd h2.1 (by simp)
      | u :: us, v :: vs, h1, h2 =>
        obtain ⟨a1, a2⟩ := tail h1
        obtain ⟨b1, b2⟩ := tail h2
        rw [val a1, val b1]
        simp [eqL, ih h a2 b2]
    · cases h
section
variable {P : Program} {w : World}
def view (ag : Bool) (us : List Value) : Value := if ag then .agg us.toArray else us.headD undef
def FlatEq (P : Program) (dd : Nat) (t : TypeId) (ks : List Bool) (ag : Bool) : Prop :=
  ∀ (w : World) (us vs : List Value) (r : Bool), eqL ks us vs = some r → (Op.equalIn dd t (view ag us) (view ag vs)).run P w = .ok r w
theorem part_view {e : TypeId} {ag : Bool} {n : Nat} (ha : isAggT P e = some ag) (hn : sizeT P e = some n) (hag : ag = true ∨ n = 1) {us : Array Value} {off : Nat} (hf : off + n ≤ us.size) (w : World) :
    (part e us off).run P w = .ok (view ag ((us.toList.drop off).take n)) w := part_run ha hn hag hf
theorem fields_eq {dd : Nat} (us vs : Array Value) {d : Nat} (IH : ∀ t ks, flatT P d t = some ks → ∃ ag, isAggT P t = some ag ∧ (ag = true ∨ ks.length = 1) ∧ FlatEq P dd t ks ag) : ∀ (fs : List Field) (acc : Nat) (ks : List Bool) (w : World) (r : Bool), flatFs P (flatT P d) fs acc = some ks →
    eqL ks (us.toList.drop acc) (vs.toList.drop acc) = some r → (Op.eqFields dd us vs fs).run P w = .ok r w
  | [], acc, ks, w, r, hf, he => by
    simp [flatFs] at hf; subst hf
    obtain ⟨_, _, rfl⟩ := eqL_nil he
    simp [Op.eqFields]
  | f :: fs, acc, ks, w, r, hf, he => by
    unfold flatFs at hf
    cases hk : flatT P d f.type with
    | none => rw [hk] at hf; simp at hf
    | some k1 =>
      rw [hk] at hf
      simp only at hf
      split at hf
      case isFalse => cases hf
      case isTrue hc =>
      obtain ⟨h1, h2, h3, hk0⟩ := hc
      simp only [Option.map_eq_some_iff] at hf
      obtain ⟨k2, hf, rfl⟩ := hf
      obtain ⟨ag, q1, q2, q3⟩ := IH f.type k1 hk
      have hl := eqL_len he
      simp at hl
      obtain ⟨r1, r2, e1, e2, rfl⟩ := eqL_split he
      rw [List.drop_drop, List.drop_drop] at e2
      have hq := q3 w _ _ r1 e1
      have hrest := fields_eq us vs IH fs (acc + k1.length) k2 w r2 hf e2
      have p1 := part_view q1 h3 q2 (us := us) (off := acc) (by omega) w
      have p2 := part_view q1 h3 q2 (us := vs) (off := acc) (by omega) w
      unfold Op.eqFields
      rw [if_pos h1, h2]
      simp only [Sem.run_bind, p1, p2, hq, Result.andThen_ok]
      cases r1 <;> simp [hrest]
theorem items_eq {dd : Nat} {e : TypeId} {ks : List Bool} {ag : Bool} (us vs : Array Value) (ha : isAggT P e = some ag) (hn : sizeT P e = some ks.length) (hag : ag = true ∨ ks.length = 1) (hk0 : ks.length ≠ 0) (IH : FlatEq P dd e ks ag) : ∀ (m i : Nat) (w : World) (r : Bool),
    eqL ((List.replicate m ks).flatten) (us.toList.drop (i * ks.length)) (vs.toList.drop (i * ks.length)) = some r → (Op.eqItems dd e ks.length us vs (List.range' i m)).run P w = .ok r w
  | 0, i, w, r, he => by
    obtain ⟨_, _, rfl⟩ := eqL_nil he
    simp [Op.eqItems]
  | m + 1, i, w, r, he => by
    have e0 : (i + 1) * ks.length = i * ks.length + ks.length := by rw [Nat.add_mul, Nat.one_mul]
    rw [List.replicate_succ, List.flatten_cons] at he
    have hl := eqL_len he
    rw [List.length_append] at hl
    simp at hl
    obtain ⟨r1, r2, e1, e2, rfl⟩ := eqL_split he
    rw [List.drop_drop, List.drop_drop, ← e0] at e2
    have hq := IH w _ _ r1 e1
    have hrest := items_eq us vs ha hn hag hk0 IH m (i + 1) w r2 e2
    have p1 := part_view ha hn hag (us := us) (off := i * ks.length) (by omega) w
    have p2 := part_view ha hn hag (us := vs) (off := i * ks.length) (by omega) w
    rw [List.range'_succ]
    unfold Op.eqItems
    simp only [Sem.run_bind, p1, p2, hq, Result.andThen_ok]
    cases r1 <;> simp [hrest]
theorem flat_eq : ∀ (d D : Nat) (t : TypeId) (ks : List Bool), flatT P d t = some ks → ∃ ag, isAggT P t = some ag ∧ (ag = true ∨ ks.length = 1) ∧ FlatEq P (D + d) t ks ag
  | 0, _, _, _, h => by simp [flatT] at h
  | d + 1, D, t, ks, h => by
    unfold flatT at h
    cases hu : P.underlying t with
    | none => rw [hu] at h; simp at h
    | some td =>
      rw [hu] at h
      cases td with
      | int k0 =>
        simp at h; subst h
        refine ⟨false, by simp [isAggT, hu, aggD], .inr rfl, fun w us vs r he => ?_⟩
        obtain ⟨x, xs', y, ys', r1, r2, rfl, rfl, h2, rfl, hq⟩ := eqL_cons he
        obtain ⟨rfl, rfl, rfl⟩ := eqL_nil h2
        rcases hq with ⟨_, k, a, b, rfl, rfl, rfl⟩ | ⟨h, _⟩
        · rw [Bool.and_true]; exact run_equalIn_int w (D + d) t k k0 a b hu
        · cases h
      | bool =>
        simp at h; subst h
        refine ⟨false, by simp [isAggT, hu, aggD], .inr rfl, fun w us vs r he => ?_⟩
        obtain ⟨x, xs', y, ys', r1, r2, rfl, rfl, h2, rfl, hq⟩ := eqL_cons he
        obtain ⟨rfl, rfl, rfl⟩ := eqL_nil h2
        rcases hq with ⟨h, _⟩ | ⟨_, a, b, rfl, rfl, rfl⟩
        · cases h
        · rw [Bool.and_true]; exact run_equalIn_bool' w (D + d) t a b hu
      | struct fs =>
        simp only at h
        split at h
        case isTrue => cases h
        case isFalse hst =>
        refine ⟨true, by simp [isAggT, hu, aggD], .inl rfl, fun w us vs r he => ?_⟩
        have hfs : P.fieldsOf t = fs := by simp [Program.fieldsOf, hu]
        show (Op.equalIn (D + d + 1) t (.agg us.toArray) (.agg vs.toArray)).run P w = _
        rw [run_equalIn_struct w (D + d) t _ _ (by rw [hfs]; exact hu) (by simpa using hst), hfs]
        exact fields_eq us.toArray vs.toArray (fun t k hk => flat_eq d D t k hk) fs.toList 0 ks w r h (by simpa using he)
      | array m e =>
        simp only at h
        cases hk : flatT P d e with
        | none => rw [hk] at h; simp at h
        | some k =>
          cases hi : P.info? e with
          | none => rw [hk, hi] at h; simp at h
          | some i =>
            rw [hk, hi] at h
            simp only at h
            split at h
            case isFalse => cases h
            case isTrue hik =>
            simp at h; subst h
            obtain ⟨ag, q1, q2, q3⟩ := flat_eq d D e k hk
            refine ⟨true, by simp [isAggT, hu, aggD], .inl rfl, fun w us vs r he => ?_⟩
            show (Op.equalIn (D + d + 1) t (.agg us.toArray) (.agg vs.toArray)).run P w = _
            have hc : P.cellsOf e = k.length := by simp [Program.cellsOf, hi, hik.1]
            rw [run_equalIn_array w (D + d) _ _ hu hi, hc, List.range_eq_range']
            exact items_eq us.toArray vs.toArray q1 (by simp [sizeT, hi, hik.1]) q2 hik.2 q3 m 0 w r (by simpa using he)
      | _ => simp at h
end
end Go.Proofs.YtboifcengmgcaaaGreat
/- The shadow's operations are sound: shifts, closures, slices of slices, maps, interfaces. -/
namespace Go.Proofs.YtboifcengmgcaaaGreat
open Go.RowKit
section
variable {P : Program} {w0 w : World} {N0 NA : Nat → Prop} {ρ : Nat → Option Nat} {H : Nat → Option Blk} {T : Nat → SV} {a : Act} {o : Oper}
theorem get_map {r : Nat} {es : Array MapEntry} {clock : Nat} (hb : w.heap[r]? = some (.map es clock)) : (getObj r).run P w = .ok (.map es clock) w := by simp [getObj, Sem.run, hb]
theorem set_map {r : Nat} {es : Array MapEntry} {clock : Nat} (o : Obj) (hb : w.heap[r]? = some (.map es clock)) : (setObj r o).run P w = .ok () { w with heap := w.heap.setIfInBounds r o } := by simp [setObj, Sem.run, hb]
theorem good_shift (h : RepH w0 N0 NA ρ H w) (ht : ∀ i, RepS w NA ρ H (T i) (a.tmps.getD i undef)) {l : Bool} {t t' : TypeId} {x z : Operand} (ho : o.op = .binOp (if l then .shl else .shr) t x z t') {site : Nat} {y : SV} {ef : Option (Nat × Blk)}
    (hact : actF site (ev T) H (.shift l x z) = some (y, ef)) : Good P w0 N0 NA ρ H o a w (setH H ef) y := by
  simp only [actF, Option.map_eq_some_iff, Prod.mk.injEq] at hact
  obtain ⟨r, hb, rfl, rfl⟩ := hact
  unfold shiftS at hb
  split at hb
  case h_2 => cases hb
  case h_1 k p k' q hx hz =>
  simp only [Option.map_eq_some_iff] at hb
  obtain ⟨v, hb, rfl⟩ := hb
  have hxv := val_of ht hx
  have hzv := val_of ht hz
  refine good_pure h (v := v) ?_ (.c _ _ (.val v))
  unfold shiftI at hb
  split at hb
  case isTrue => cases hb
  case isFalse hq =>
  cases hb
  cases l <;> simp [execOp, ho, hxv, hzv, eqGuard, binOp, Op.shift, hq]
theorem evals_rep (ht : ∀ i, RepS w NA ρ H (T i) (a.tmps.getD i undef)) (xs : List Operand) : RepL w NA ρ H (xs.map (ev T)) (xs.map a.eval) := by
  refine ⟨by simp, fun i x v hx hv => ?_⟩
  rw [List.getElem?_map] at hx hv
  cases hy : xs[i]? with
  | none => rw [hy] at hx; simp at hx
  | some y => rw [hy] at hx hv; simp at hx hv; subst hx; subst hv; exact rep_ev ht y
theorem good_mkFn (h : RepH w0 N0 NA ρ H w) (ht : ∀ i, RepS w NA ρ H (T i) (a.tmps.getD i undef)) {f : FuncId} {fs cs : List Operand} (ho : o.op = .makeFunc (.func f) ⟨fs⟩ ⟨cs⟩) {site : Nat} {y : SV} {ef : Option (Nat × Blk)}
    (hact : actF site (ev T) H (.mkFn f fs cs) = some (y, ef)) : Good P w0 N0 NA ρ H o a w (setH H ef) y := by
  have r1 := evals_rep ht fs
  have r2 := evals_rep ht cs
  have run : (execOp a.eval o).run P w = .ok (.value (.func (.func f) (fs.map a.eval).toArray (cs.map a.eval).toArray)) w := by
    simp [execOp, ho, Instr.makeFunc]
  simp only [actF] at hact
  split at hact
  · rename_i xs ys hx hy
    cases hact
    obtain ⟨c1, c2⟩ := r1.closed hx
    obtain ⟨d1, d2⟩ := r2.closed hy
    exact good_pure h run (.c _ _ (.fn f xs ys _ _ (by simpa using c1) (by simpa using d1) (fun i x v hx hv => c2 i x v hx (by simpa using hv)) (fun i x v hx hv => d2 i x v hx (by simpa using hv))))
  · cases hact
    exact good_pure h run (.fn f _ _ _ _ (by simp) (by simp) (fun i x v hx hv => r1.2 i x v hx (by simpa using hv)) (fun i x v hx hv => r2.2 i x v hx (by simpa using hv)))
theorem bound_run (ht : ∀ i, RepS w NA ρ H (T i) (a.tmps.getD i undef)) {d : Nat} {x : Option Operand} {n : Nat} (h : bound (ev T) d x = some n) : (x = none ∧ n = d) ∨ ∃ y k, x = some y ∧ a.eval y = .int k (n : Int) := by
  unfold bound at h
  cases x with
  | none => simp at h; exact .inl ⟨rfl, h.symm⟩
  | some y =>
    right
    simp only at h
    split at h
    case h_2 => cases h
    case h_1 k m hm =>
    split at h
    case isFalse => cases h
    case isTrue h0 =>
    cases h
    exact ⟨y, k, rfl, by rw [val_of ht hm, Int.toNat_of_nonneg h0]⟩
theorem run_bounds (sl : Bool) (len cap l h : Nat) (lo hi : Option Operand) (hlo : (lo = none ∧ l = 0) ∨ ∃ y k, lo = some y ∧ a.eval y = .int k (l : Int)) (hhi : (hi = none ∧ h = len) ∨ ∃ y k, hi = some y ∧ a.eval y = .int k (h : Int)) (h1 : l ≤ h) (h2 : h ≤ len) (h3 : len ≤ cap) :
    (Instr.sliceBounds sl len cap (lo.map a.eval) (hi.map a.eval) none).run P w = .ok (l, h, cap) w := by
  have c1 : (h : Int) ≤ cap := by omega
  have c2 : (l : Int) ≤ h := by omega
  rcases hhi with ⟨rfl, rfl⟩ | ⟨y, k, rfl, hy⟩ <;> rcases hlo with ⟨rfl, rfl⟩ | ⟨y', k', rfl, hy'⟩ <;> simp [Instr.sliceBounds, Instr.sliceBound, asIntOf, *]
  all_goals (try omega)
theorem good_slcS (h : RepH w0 N0 NA ρ H w) (ht : ∀ i, RepS w NA ρ H (T i) (a.tmps.getD i undef)) {t e : TypeId} {x : Operand} {lo hi : Option Operand} (ho : o.op = .slice t x lo hi none) {k : Nat} (hu : P.underlying t = some (.slice e)) (hn : sizeT P e = some k)
    {site : Nat} {y : SV} {ef : Option (Nat × Blk)} (hact : actF site (ev T) H (.slcS k x lo hi) = some (y, ef)) : Good P w0 N0 NA ρ H o a w (setH H ef) y := by
  have hx := rep_ev ht x
  simp only [actF] at hact
  split at hact
  case h_2 => cases hact
  case h_1 k' rows he =>
  split at hact
  case h_2 => cases hact
  case h_1 l m hl hm =>
  split at hact
  case isFalse => cases hact
  case isTrue hc =>
  obtain ⟨rfl, h1, h2⟩ := hc
  cases hact
  have bl := bound_run ht hl
  have bm := bound_run ht hm
  rw [he] at hx
  generalize hv : a.eval x = v at hx
  cases hx with
  | c _ _ r =>
  obtain ⟨ad, c, rfl, q1, q2, q3⟩ := r.sl_inv
  have hb := run_bounds (P := P) (w := w) true rows.length c l m lo hi bl bm h1 h2 q1
  have run : (execOp a.eval o).run P w = .ok (.value (.slice (if c = l then ad else ad.map (·.add (l * k'))) (m - l) (c - l))) w := by
    simp [execOp, ho, hv, Instr.sliceAt, Instr.slice, run_underlying hu, hb, size_run hn]
  refine good_pure h run (.c _ _ ?_)
  have hlen : ((rows.drop l).take (m - l)).length = m - l := by simp; omega
  by_cases hml : m - l = 0
  · have : (rows.drop l).take (m - l) = [] := by rw [hml]; simp
    rw [this, hml]
    exact .nil _ _ _ (by omega)
  · rcases q3 with q3 | ⟨b, off, u, rfl, q4, q5, q6, q7, q8⟩
    · subst q3; simp at h2; omega
    · have hcl : ¬ c = l := by omega
      rw [if_neg hcl]
      simp only [Option.map_some, add_none]
      have key : ∀ (j : Nat) row, ((rows.drop l).take (m - l))[j]? = some row → rows[l + j]? = some row := fun j row hj => sub_get rows l (m - l) j row hj
      have := RepC.sl (w := w) (N := Mut NA ρ H) k' ((rows.drop l).take (m - l)) b (off + l * k') (c - l) (fun j i => u (l + j) i) (by omega) (by omega) q4 q5 (fun j row hj => q6 _ row (key j row hj))
        (fun j row i x hj hx => by
          have := q7 _ row i x (key j row hj) hx
          rw [Nat.add_mul] at this
          rw [← this]; congr 2; omega) (fun j row i x hj hx => q8 _ row i x (key j row hj) hx)
      rw [hlen] at this
      exact this
theorem good_slcA (h : RepH w0 N0 NA ρ H w) (ht : ∀ i, RepS w NA ρ H (T i) (a.tmps.getD i undef)) {t e : TypeId} {x : Operand} {lo hi : Option Operand} {len : Nat} (ho : o.op = .slice t x lo hi none) {k : Nat} (hu : P.underlying t = some (.array len e)) (hn : sizeT P e = some k) (hlen : len ≤ maxLen)
    {site : Nat} {y : SV} {ef : Option (Nat × Blk)} (hact : actF site (ev T) H (.slcA len k x lo hi) = some (y, ef)) : Good P w0 N0 NA ρ H o a w (setH H ef) y := by
  have hx := rep_ev ht x
  simp only [actF] at hact
  split at hact
  case h_2 => cases hact
  case h_1 xs he =>
  split at hact
  case h_2 => cases hact
  case h_1 l m hl hm =>
  split at hact
  case isFalse => cases hact
  case isTrue hc =>
  obtain ⟨h1, h2, h3⟩ := hc
  cases hact
  have bl := bound_run ht hl
  have bm := bound_run ht hm
  rw [he] at hx
  generalize hv : a.eval x = v at hx
  cases hx with
  | c _ _ r =>
  cases r with
  | ref _ b off u q1 q2 q3 q4 q5 =>
  have hb := run_bounds (P := P) (w := w) false len len l m lo hi bl bm h1 h2 (Nat.le_refl _)
  have run : (execOp a.eval o).run P w = .ok (.value (.slice (some (if len = l then ⟨b, off, none⟩ else (⟨b, off, none⟩ : Addr).add (l * k))) (m - l) (len - l))) w := by
    simp [execOp, ho, hv, Instr.sliceAt, Instr.sureAddr, run_underlying hu, hb, size_run hn]
  refine good_pure h run (.c _ _ ?_)
  have hlen' : (((chunk k len xs).drop l).take (m - l)).length = m - l := by simp [chunk_length]; omega
  by_cases hml : m - l = 0
  · have : ((chunk k len xs).drop l).take (m - l) = [] := by rw [hml]; simp
    rw [this, hml]
    exact .nil _ _ _ (by omega)
  · have hcl : ¬ len = l := by omega
    rw [if_neg hcl]
    simp only [add_none]
    have key : ∀ (j : Nat) row, (((chunk k len xs).drop l).take (m - l))[j]? = some row → row = (xs.drop ((l + j) * k)).take k ∧ l + j < len := fun j row hj => by
      have h4 := sub_get (chunk k len xs) l (m - l) j row hj
      have h5 := (List.getElem?_eq_some_iff.1 h4).1
      rw [chunk_length] at h5
      exact ⟨chunk_get k len xs _ row h4, h5⟩
    have fit : ∀ j, l + j < len → (l + j) * k + k ≤ xs.length := fun j hj => by
      have : (l + j + 1) * k ≤ len * k := Nat.mul_le_mul_right _ hj
      rw [Nat.add_mul] at this; omega
    have at_ : ∀ (j : Nat) row (i : Nat) x, (((chunk k len xs).drop l).take (m - l))[j]? = some row → row[i]? = some x → xs[(l + j) * k + i]? = some x := fun j row i x hj hx => by
      obtain ⟨rfl, _⟩ := key j row hj
      exact sub_get xs _ k i x hx
    have := RepC.sl (w := w) (N := Mut NA ρ H) k (((chunk k len xs).drop l).take (m - l)) b (off + l * k) (len - l) (fun j i => u ((l + j) * k + i)) (by omega) (by omega) q1 q2 (fun j row hj => by
        obtain ⟨rfl, hlt⟩ := key j row hj
        refine ⟨by simp; have := fit j hlt; omega, ?_⟩
        rw [List.all_eq_true] at q3 ⊢
        exact fun x hx => q3 x (List.mem_of_mem_drop (List.mem_of_mem_take hx)))
      (fun j row i x hj hx => by
        have := q4 _ x (at_ j row i x hj hx)
        have e0 : off + l * k + j * k + i = off + ((l + j) * k + i) := by rw [Nat.add_mul]; omega
        rw [e0]; exact this) (fun j row i x hj hx => q5 _ x (at_ j row i x hj hx))
    rw [hlen'] at this
    exact this
theorem good_mkIfc (h : RepH w0 N0 NA ρ H w) (ht : ∀ i, RepS w NA ρ H (T i) (a.tmps.getD i undef)) {t : TypeId} {x : Operand} (ho : o.op = .makeInterface t x) {td : TypeDesc} (hu : P.underlying t = some td) (hni : ∀ ms, td ≠ .interface ms)
    {site : Nat} {y : SV} {ef : Option (Nat × Blk)} (hact : actF site (ev T) H (.mkIfc t x) = some (y, ef)) : Good P w0 N0 NA ρ H o a w (setH H ef) y := by
  have hx := rep_ev ht x
  simp only [actF] at hact
  split at hact
  case h_2 => cases hact
  case h_1 z he =>
  cases hact
  have run : (execOp a.eval o).run P w = .ok (.value (.iface t (a.eval x))) w := by
    cases td <;> first | (exfalso; exact hni _ rfl) | simp [execOp, ho, Instr.makeInterface, run_underlying hu]
  refine good_pure h run (.c _ _ (.ifc t z _ ?_))
  unfold clsS at he
  generalize ev T x = u at he hx
  split at he
  · cases he
    cases hx with
    | c _ _ r => exact r
  · split at he
    case h_2 => cases he
    case h_1 ys hy =>
    cases he
    generalize a.eval x = v at hx
    cases hx with
    | agg _ vs h1 h2 =>
      obtain ⟨c1, c2⟩ := RepL.closed (vs := vs.toList) ⟨by simpa using h1, fun i x v hx hv => h2 i x v hx (by simpa using hv)⟩ hy
      exact .agg ys vs (by simpa using c1) (fun i x v hx hv => c2 i x v hx (by simpa using hv))
  · cases he
theorem good_mkMap (h : RepH w0 N0 NA ρ H w) {t : TypeId} (ho : o.op = .makeMap t none) {kd : IntKind}
    {site : Nat} {y : SV} {ef : Option (Nat × Blk)} (hact : actF site (ev T) H (.mkMap false kd) = some (y, ef)) : Good P w0 N0 NA ρ H o a w (setH H ef) y := by
  simp only [actF] at hact
  split at hact
  case h_2 => cases hact
  case h_1 hs =>
  cases hact
  obtain ⟨r1, r2⟩ := new_rep h hs (.map false kd []) (.map #[] 0) (fun tr => ⟨w.heap.size, #[], 0, by simp [setR], heap_alloc_new w _, ⟨rfl, fun i p e hp => by simp at hp, fun p hp => by simp at hp, by simp, by simp⟩, fun i p e hp => by simp at hp⟩)
  refine ⟨_, _, _, ?_, .inl rfl, _, r1, r2, .om site false kd [] w.heap.size (by simp [setH]) (by simp [setR])⟩
  simp [execOp, ho, Instr.makeMap]
theorem mapT_is {t : TypeId} {kd : IntKind} {e : TypeId} (h : mapT P t = some (kd, e)) : ∃ k, P.underlying t = some (.map k e) ∧ P.underlying k = some (.int kd) := by
  unfold mapT at h
  split at h
  case h_2 => cases h
  case h_1 k e' hu =>
  split at h
  case h_2 => cases h
  case h_1 kd' hk =>
  cases h
  exact ⟨k, hu, hk⟩
theorem findNow_ints {kd : IntKind} {n : Int} : ∀ {es : List (List Int × CV)} {ents : List MapEntry} (i0 : Nat), ents.length = es.length → (∀ (i : Nat) p e, es[i]? = some p → ents[i]? = some e → e.key = .int kd (p.1.headD 0)) → (∀ p ∈ es, ∃ m, p.1 = [m]) →
    ∃ r, Instr.findNow (.int kd) (.int kd n) ents i0 = some r ∧ ((r = none ∧ getM es [n] = none ∧ ∀ p ∈ es, p.1 ≠ [n]) ∨ ∃ i p e, r = some (i0 + i, e.val) ∧ es[i]? = some p ∧ ents[i]? = some e ∧ p.1 = [n] ∧ getM es [n] = some p.2)
  | [], ents, i0, hl, _, _ => by
    have : ents = [] := List.length_eq_zero_iff.1 hl
    subst this
    exact ⟨none, rfl, .inl ⟨rfl, rfl, fun p hp => by cases hp⟩⟩
  | p :: es, [], i0, hl, _, _ => by simp at hl
  | p :: es, e :: ents, i0, hl, hk, h1 => by
    obtain ⟨m, hm⟩ := h1 p (by simp)
    have hek := hk 0 p e rfl rfl
    rw [hm] at hek
    simp only [List.headD_cons] at hek
    by_cases hmn : n = m
    · subst hmn
      refine ⟨some (i0, e.val), ?_, .inr ⟨0, p, e, rfl, rfl, rfl, hm, ?_⟩⟩
      · unfold Instr.findNow
        simp [hek, Instr.sameNow]
      · unfold getM; simp [hm]
    · obtain ⟨r, hr, hcase⟩ := findNow_ints (kd := kd) (n := n) (es := es) (ents := ents) (i0 + 1) (by simpa using hl) (fun i q f hq hf => hk (i + 1) q f (by simpa using hq) (by simpa using hf)) (fun q hq => h1 q (by simp [hq]))
      refine ⟨r, ?_, ?_⟩
      · unfold Instr.findNow
        have : (n == m) = false := by simpa using hmn
        simp [hek, Instr.sameNow, this, hr]
      · have hne : (p.1 == [n]) = false := by rw [hm]; simp; omega
        have hg : getM (p :: es) [n] = getM es [n] := by unfold getM; simp [hne]
        rcases hcase with ⟨c1, c2, c3⟩ | ⟨i, q, f, c1, c2, c3, c4, c5⟩
        · refine .inl ⟨c1, by rw [hg]; exact c2, fun q hq => ?_⟩
          rcases List.mem_cons.1 hq with rfl | hq
          · intro e2; rw [e2] at hne; simp at hne
          · exact c3 q hq
        · exact .inr ⟨i + 1, q, f, by rw [c1]; congr 2; omega, by simpa using c2, by simpa using c3, c4, by rw [hg]; exact c5⟩
theorem checkKey_int {b : Bool} {k : TypeId} {kd : IntKind} {n : Int} (hk : P.underlying k = some (.int kd)) : (Instr.checkKey b 10000 k (.int kd n)).run P w = .ok () w := by
  show (Instr.checkKey b (9999 + 1) k (.int kd n)).run P w = _
  unfold Instr.checkKey
  simp [run_underlying hk]
theorem keyS_int {kd : IntKind} {x : SV} {key : List Int} (h : keyS false kd x = some key) : ∃ n, x = .c (.val (.int kd n)) ∧ key = [n] := by
  unfold keyS at h
  simp only at h
  unfold intsOf at h
  split at h
  · rename_i e; cases e
  · rename_i k n xs e
    simp only [List.cons.injEq] at e
    obtain ⟨rfl, rfl⟩ := e
    split at h
    case isFalse => cases h
    case isTrue hk =>
    subst hk
    simp [intsOf] at h
    exact ⟨n, rfl, h.symm⟩
  · cases h
theorem ents_of (h : RepH w0 N0 NA ρ H w) {ag : Bool} {kd : IntKind} {x : SV} {v : Value} (hx : RepS w NA ρ H x v) {es : List (List Int × CV)} (he : entsS H ag kd x = some es) :
    (v = .map none ∧ es = []) ∨ ∃ b ents clock, v = .map (some b) ∧ w.heap[b]? = some (.map ents clock) ∧ Ents ag kd es ents clock ∧ ∀ (i : Nat) p e, es[i]? = some p → ents[i]? = some e → RepC w (Mut NA ρ H) p.2 e.val := by
  unfold entsS at he
  split at he
  · split at he
    case isFalse => cases he
    case isTrue hc =>
    obtain ⟨rfl, rfl⟩ := hc
    cases he
    cases hx with
    | c _ _ r =>
    cases r with
    | nilm => exact .inl ⟨rfl, rfl⟩
    | map _ _ _ b ents clock h1 h2 h3 h4 h5 => exact .inr ⟨b, ents, clock, rfl, h3, h4, h5⟩
  · cases he
    cases hx with
    | c _ _ r => cases r; exact .inl ⟨rfl, rfl⟩
  · split at he
    case h_2 => cases he
    case h_1 ag' kd' es' hH =>
    split at he
    case isFalse => cases he
    case isTrue hc =>
    obtain ⟨rfl, rfl⟩ := hc
    cases he
    cases hx with
    | om _ _ _ _ b hH' hb =>
      rw [hH] at hH'; cases hH'
      obtain ⟨b', ents, clock, e1, e2, e3, e4⟩ := h.blk _ _ hH
      rw [hb] at e1; cases e1
      exact .inr ⟨b, ents, clock, rfl, e2, e3, e4⟩
  · cases he
theorem good_lookup (h : RepH w0 N0 NA ρ H w) (ht : ∀ i, RepS w NA ρ H (T i) (a.tmps.getD i undef)) {t e : TypeId} {m k : Operand} {ok : Bool} (ho : o.op = .lookup t m k ok) {kd : IntKind} (hm : mapT P t = some (kd, e)) {ie : TypeInfo} {z : Value} (hi : P.info? e = some ie) (hz : ie.zero = some z)
    {site : Nat} {y : SV} {ef : Option (Nat × Blk)} (hact : actF site (ev T) H (.lookup false kd z ok m k) = some (y, ef)) : Good P w0 N0 NA ρ H o a w (setH H ef) y := by
  obtain ⟨kt, hu, hk⟩ := mapT_is hm
  simp only [actF] at hact
  split at hact
  case h_2 => cases hact
  case h_1 es key he hkey =>
  obtain ⟨n, hn, rfl⟩ := keyS_int hkey
  have hkv := val_of ht hn
  cases hact
  have fin : ∀ (r : CV) (b : Bool) (v : Value), (Instr.lookup t (a.eval m) (.int kd n) ok).run P w = .ok (if ok then .tuple #[v, .bool b] else v) w → RepC w (Mut NA ρ H) r v → r = (getM es [n]).getD (.val z) → b = (getM es [n]).isSome →
      Good P w0 N0 NA ρ H o a w (setH H none) (if ok then .tup [.c ((getM es [n]).getD (.val z)), .c (.val (.bool (getM es [n]).isSome))] else .c ((getM es [n]).getD (.val z))) := fun r b v hr hc e1 e2 => by
    rw [← e1, ← e2]
    refine good_pure h (v := if ok then .tuple #[v, .bool b] else v) ?_ ?_
    · simp only [execOp, ho, hkv, Sem.run_bind, hr, Result.andThen_ok, Sem.run_pure]
    · cases ok
      · exact .c _ _ hc
      · refine .tup _ _ rfl (fun i x u hx hu => ?_)
        match i with
        | 0 => cases hx; cases hu; exact .c _ _ hc
        | 1 => cases hx; cases hu; exact .c _ _ (.val _)
        | i + 2 => simp at hx
  rcases ents_of h (rep_ev ht m) he with ⟨hv, rfl⟩ | ⟨b, ents, clock, hv, hb, hE, hE2⟩
  · refine fin (.val z) false z ?_ (.val z) rfl rfl
    cases ok <;> simp [Instr.lookup, hv, run_underlying hu, checkKey_int hk, Instr.findKey, run_underlying hk, Instr.findNow, zeroValue, run_typeInfo w hi, hz]
  · obtain ⟨r, hr, hcase⟩ := findNow_ints (kd := kd) (n := n) (es := es) (ents := ents.toList) 0 (by simpa using hE.size) (fun i p e hp he => (hE.key i p e hp (by simpa using he)).1) (fun p hp => hE.one p hp rfl)
    rcases hcase with ⟨rfl, c2, _⟩ | ⟨i, p, e', rfl, c2, c3, c4, c5⟩
    · refine fin (.val z) false z ?_ (.val z) (by rw [c2]; rfl) (by rw [c2]; rfl)
      cases ok <;> simp [Instr.lookup, hv, run_underlying hu, checkKey_int hk, Instr.findKey, run_underlying hk, get_map hb, hr, zeroValue, run_typeInfo w hi, hz]
    · refine fin p.2 true e'.val ?_ (hE2 i p e' c2 (by simpa using c3)) (by rw [c5]; rfl) (by rw [c5]; rfl)
      cases ok <;> simp [Instr.lookup, hv, run_underlying hu, checkKey_int hk, Instr.findKey, run_underlying hk, get_map hb, hr]
theorem good_mlen (h : RepH w0 N0 NA ρ H w) (ht : ∀ i, RepS w NA ρ H (T i) (a.tmps.getD i undef)) {t k e : TypeId} {x : Operand} (ho : o.op = .call { callee := .builtin .len, args := #[x], argTypes := #[t] }) (hu : P.underlying t = some (.map k e)) {site : Nat} {y : SV} {ef : Option (Nat × Blk)}
    (hact : actF site (ev T) H (.mlen x) = some (y, ef)) : Good P w0 N0 NA ρ H o a w (setH H ef) y := by
  have key : ∃ ag kd es, entsS H ag kd (ev T x) = some es ∧ y = .c (.val (.int .i64 es.length)) ∧ ef = none := by
    simp only [actF] at hact
    split at hact
    · rename_i ag kd es he; cases hact; exact ⟨ag, kd, es, by rw [he]; simp [entsS], rfl, rfl⟩
    · rename_i he; cases hact; exact ⟨false, .i64, [], by rw [he]; simp [entsS], rfl, rfl⟩
    · rename_i id he
      split at hact
      case h_2 => cases hact
      case h_1 ag kd es hH => cases hact; exact ⟨ag, kd, es, by rw [he]; simp [entsS, hH], rfl, rfl⟩
    · cases hact
  obtain ⟨ag, kd, es, he, rfl, rfl⟩ := key
  refine good_pure h (v := .int .i64 es.length) ?_ (.c _ _ (.val _))
  rcases ents_of h (rep_ev ht x) he with ⟨hv, rfl⟩ | ⟨b, ents, clock, hv, hb, hE, _⟩
  · simp [execOp, ho, hv, resolve, invoke, builtin, Builtin.len_, run_underlying hu, goInt]
  · simp [execOp, ho, hv, resolve, invoke, builtin, Builtin.len_, run_underlying hu, goInt, get_map hb, hE.size]
theorem keyC_rep {N : Nat → Prop} (ag : Bool) (kd : IntKind) (ns : List Int) : RepC w N (keyC ag kd ns) (mkKey ag kd ns) := by
  unfold keyC mkKey
  cases ag with
  | false => exact .val _
  | true =>
    simp only [if_true]
    refine .agg _ _ (by simp) (fun i x v hx hv => ?_)
    simp only [List.getElem?_toArray, List.getElem?_map, Option.map_eq_some_iff] at hx hv
    obtain ⟨n, h1, rfl⟩ := hx
    obtain ⟨m, h2, rfl⟩ := hv
    rw [h1] at h2; cases h2
    exact .val _
theorem unseen_new (es : List (List Int × CV)) (ents : Array MapEntry) (h : ents.size = es.length) : unseen es ents #[] = es := by
  unfold unseen
  rw [List.filter_eq_self.2 (fun q _ => by simp)]
  exact List.map_fst_zip (by simp [h])
theorem good_rng (h : RepH w0 N0 NA ρ H w) (ht : ∀ i, RepS w NA ρ H (T i) (a.tmps.getD i undef)) {t e : TypeId} {m : Operand} (ho : o.op = .range t m) {kd : IntKind} (hm : mapT P t = some (kd, e))
    {site : Nat} {y : SV} {ef : Option (Nat × Blk)} (hact : actF site (ev T) H (.rng false kd m) = some (y, ef)) : Good P w0 N0 NA ρ H o a w (setH H ef) y := by
  obtain ⟨kt, hu, hk⟩ := mapT_is hm
  simp only [actF] at hact
  split at hact
  case h_2 => cases hact
  case h_1 es hs he =>
  cases hact
  have hmv := rep_ev ht m
  have fin : ∀ (ob : Obj), (Instr.range t (a.eval m)).run P w = .ok (.pointer (some ⟨w.heap.size, 0, none⟩)) (w.alloc ob) →
      (Trans NA w ρ H (w.alloc ob) (setR ρ site (some w.heap.size)) (setH H (some (site, .it false kd es none))) → ItAt (w.alloc ob) (Mut NA (setR ρ site (some w.heap.size)) (setH H (some (site, .it false kd es none)))) w.heap.size false kd es none) →
      Good P w0 N0 NA ρ H o a w (setH H (some (site, .it false kd es none))) (.it site) := fun ob hrun hit => by
    obtain ⟨r1, r2⟩ := new_rep h hs (.it false kd es none) ob (fun tr => ⟨w.heap.size, by simp [setR], hit tr⟩)
    refine ⟨_, _, _, ?_, .inl rfl, _, r1, r2, .it site false kd es none w.heap.size (by simp [setH]) (by simp [setR])⟩
    simp [execOp, ho, hrun]
  have cases3 : (a.eval m = .map none ∧ es = []) ∨ ∃ b ents clock, a.eval m = .map (some b) ∧ b < w.heap.size ∧ ¬ Mut NA ρ H b ∧ w.heap[b]? = some (.map ents clock) ∧ Ents false kd es ents clock ∧ ∀ (i : Nat) p e, es[i]? = some p → ents[i]? = some e → RepC w (Mut NA ρ H) p.2 e.val := by
    unfold rngS at he
    split at he
    · split at he
      case isFalse => cases he
      case isTrue hc =>
      obtain ⟨rfl, rfl⟩ := hc
      cases he
      rename_i hx
      rw [hx] at hmv
      cases hmv with
      | c _ _ r =>
      generalize hv : a.eval m = vm at r
      cases r with
      | nilm => exact .inl ⟨rfl, rfl⟩
      | map _ _ _ b ents clock h1 h2 h3 h4 h5 => exact .inr ⟨b, ents, clock, rfl, h1, h2, h3, h4, h5⟩
    · rename_i hx
      cases he
      exact .inl ⟨val_of ht hx, rfl⟩
    · cases he
  rcases cases3 with ⟨hv, rfl⟩ | ⟨b, ents, clock, hv, h1, h2, h3, h4, h5⟩
  · exact fin _ (by rw [hv]; exact run_range_nilMap w t kt e hu) (fun tr => .inl ⟨rfl, rfl, _, _, _, heap_alloc_new w _⟩)
  · refine fin _ (by rw [hv]; exact run_range_map w t kt e b ents clock hu h3) (fun tr => ?_)
    obtain ⟨e1, e2⟩ := tr.1.same b h1 h2
    refine .inr ⟨b, clock, #[], clock, ents, clock, es, heap_alloc_new w _, Nat.lt_of_lt_of_le h1 tr.1.size, e2, e1.trans h3, h4, fun i p e hp he => (h5 i p e hp he).move tr.1, fun x hx => ?_, Nat.le_refl _, Nat.le_refl _, ?_, fun p hp => by cases hp⟩
    · obtain ⟨i, hi, hie⟩ := List.getElem_of_mem hx
      have hi2 : i < ents.size := by simpa using hi
      have hi3 : i < es.length := by have := h4.size; omega
      exact (h4.key i _ x (List.getElem?_eq_getElem hi3) (by rw [Array.getElem?_eq_getElem hi2]; simpa using hie)).2
    · rw [unseen_new es ents h4.size]
theorem good_ent (h : RepH w0 N0 NA ρ H w) (ht : ∀ i, RepS w NA ρ H (T i) (a.tmps.getD i undef)) {x : Operand} (ho : o.op = .entry x)
    {site : Nat} {y : SV} {ef : Option (Nat × Blk)} (hact : actF site (ev T) H (.ent x) = some (y, ef)) : Good P w0 N0 NA ρ H o a w (setH H ef) y := by
  simp only [actF] at hact
  split at hact
  case h_2 => cases hact
  case h_1 id hid =>
  split at hact
  case h_2 => cases hact
  case h_1 ag kd left p hH =>
  cases hact
  have hxv := rep_ev ht x
  rw [hid] at hxv
  generalize hv : a.eval x = v at hxv
  cases hxv with
  | it _ _ _ _ _ b hH' hb =>
  obtain ⟨b', e1, hit⟩ := h.blk _ _ hH
  rw [hb] at e1; cases e1
  rcases hit with ⟨_, hc, _⟩ | ⟨Bm, since, seen, c0, ents, clock, es, h1, h2, h3, h4, h5, h6, h7, h8, h9, h10, h11⟩
  · cases hc
  obtain ⟨i, e, s0, g1, g2, rfl, rfl⟩ := h11 p rfl
  have hem : e ∈ ents.toList := by
    have := List.mem_of_getElem? (l := ents.toList) (i := i) (a := e) (by simpa using g2)
    exact this
  have hrun := run_entry_at (P := P) w b Bm since s0 ents c0 e h1 h4 hem h5.born
  have hk := (h5.key i p e g1 g2).1
  refine good_pure h (v := .tuple #[e.key, e.val]) (by simp [execOp, ho, hv, hrun]) (.tup _ _ rfl (fun j x u hx hu => ?_))
  match j with
  | 0 => cases hx; cases hu; rw [hk]; exact .c _ _ (keyC_rep ag kd p.1)
  | 1 => cases hx; cases hu; exact .c _ _ (h6 i p e g1 g2)
  | j + 2 => simp at hx
theorem good_strAt (h : RepH w0 N0 NA ρ H w) (ht : ∀ i, RepS w NA ρ H (T i) (a.tmps.getD i undef)) {t : TypeId} {x z : Operand} (ho : o.op = .index t x z) (hu : P.underlying t = some .string)
    {site : Nat} {y : SV} {ef : Option (Nat × Blk)} (hact : actF site (ev T) H (.strAt x z) = some (y, ef)) : Good P w0 N0 NA ρ H o a w (setH H ef) y := by
  simp only [actF] at hact
  split at hact
  case h_2 => cases hact
  case h_1 s k n hx hz =>
  split at hact
  case isFalse => cases hact
  case isTrue h0 =>
  simp only [Option.map_eq_some_iff, Prod.mk.injEq] at hact
  obtain ⟨b, hb, rfl, rfl⟩ := hact
  refine good_pure h (v := .int .u8 b.toNat) ?_ (.c _ _ (.val _))
  simp [execOp, ho, val_of ht hx, val_of ht hz, Instr.index, run_underlying hu, asIntOf, h0, hb]
theorem good_nilC (h : RepH w0 N0 NA ρ H w) (ht : ∀ i, RepS w NA ρ H (T i) (a.tmps.getD i undef)) {x : Operand} (ho : o.op = .nilCheck x)
    {site : Nat} {y : SV} {ef : Option (Nat × Blk)} (hact : actF site (ev T) H (.nilC x) = some (y, ef)) : Good P w0 N0 NA ρ H o a w (setH H ef) y := by
  have hxv := rep_ev ht x
  simp only [actF] at hact
  split at hact <;> cases hact
  all_goals
    rename_i he
    rw [he] at hxv
    generalize hv : a.eval x = v at hxv
  · have hxv' := hxv
    cases hxv with
    | c _ _ r => cases r; exact good_pure h (by simp [execOp, ho, hv]) hxv'
  · have hxv' := hxv
    cases hxv with
    | c _ _ r => cases r; exact good_pure h (by simp [execOp, ho, hv]) hxv'
  · have hxv' := hxv
    cases hxv with
    | c _ _ r => cases r; exact good_pure h (by simp [execOp, ho, hv]) hxv'
  · have hxv' := hxv
    cases hxv; exact good_pure h (by simp [execOp, ho, hv]) hxv'
  · have hxv' := hxv
    cases hxv; exact good_pure h (by simp [execOp, ho, hv]) hxv'
  · have hxv' := hxv
    cases hxv; exact good_pure h (by simp [execOp, ho, hv]) hxv'
def nilV : Nat → Value → Option Bool
  | 0, .slice a _ _ => some a.isNone
  | 1, .map m => some m.isNone
  | 2, .pointer a => some a.isNone
  | 3, .nilIface => some true
  | 3, .iface _ _ => some false
  | 4, .nilFunc => some true
  | 4, .func _ _ _ => some false
  | _, _ => none
theorem nilS_rep {x : SV} {v : Value} (hx : RepS w NA ρ H x v) {kd : Nat} {r : Option Bool} (hn : nilS H kd x = some r) : ∃ b, nilV kd v = some b ∧ (∀ q, r = some q → b = q) := by
  have slc : ∀ (k : Nat) (rows : List (List CV)) (v : Value), RepC w (Mut NA ρ H) (.sl k rows) v → ∀ r, (if rows.isEmpty then none else some false) = r → ∃ b, nilV 0 v = some b ∧ (∀ q, r = some q → b = q) := fun k rows v hc r hr => by
    obtain ⟨ad, c, rfl, _, _, q⟩ := hc.sl_inv
    refine ⟨_, rfl, fun q' hq' => ?_⟩
    rw [hq'] at hr
    split at hr
    · cases hr
    · rename_i hne
      cases hr
      rcases q with q | ⟨b, off, u, rfl, _⟩
      · subst q; simp at hne
      · rfl
  unfold nilS at hn
  split at hn
  · cases hx with | c _ _ rc => exact slc _ _ _ rc _ (Option.some.inj hn)
  · cases hx with
    | c _ _ rc => cases rc with
      | slx _ _ _ rc => exact slc _ _ _ rc _ (Option.some.inj hn)
  · cases hn
    cases hx with | c _ _ rc => cases rc; exact ⟨_, rfl, fun q hq => by cases hq; rfl⟩
  · rename_i id len
    split at hn
    case h_2 => cases hn
    case h_1 t k rows hH =>
    split at hn
    case isFalse => cases hn
    case isTrue hl =>
    subst hl
    cases hx with
    | own _ _ t' k' rows' _ hH' h1 h2 h3 =>
    rw [hH] at hH'; cases hH'
    rcases h3 rfl with ⟨_, h5, rfl⟩ | ⟨b, cap, cs, t', _, rfl, _⟩
    · refine ⟨true, rfl, fun q hq => ?_⟩
      have : rows = [] := List.length_eq_zero_iff.1 h5
      subst this
      simp at hn; subst hn; cases hq
    · refine ⟨false, rfl, fun q hq => ?_⟩
      subst hq
      simp only [Option.some.injEq] at hn
      split at hn <;> cases hn
      rfl
  · cases hx with
    | c _ _ rc => cases rc with
      | nilm => exact ⟨_, rfl, fun q hq => by subst hq; simp at hn⟩
      | map _ _ es b ents clock =>
        refine ⟨false, rfl, fun q hq => ?_⟩
        subst hq
        simp only [Option.some.injEq] at hn
        split at hn <;> cases hn
        rfl
  · cases hn
    cases hx with | c _ _ rc => cases rc; exact ⟨_, rfl, fun q hq => by cases hq; rfl⟩
  · cases hn
    cases hx; exact ⟨_, rfl, fun q hq => by cases hq; rfl⟩
  · cases hn
    cases hx with | c _ _ rc => cases rc; exact ⟨_, rfl, fun q hq => by cases hq; rfl⟩
  · cases hn
    cases hx; exact ⟨_, rfl, fun q hq => by cases hq; rfl⟩
  · cases hn
    cases hx; exact ⟨_, rfl, fun q hq => by cases hq; rfl⟩
  · cases hn
    cases hx with | c _ _ rc => cases rc; exact ⟨_, rfl, fun q hq => by cases hq; rfl⟩
  · cases hn
    cases hx with | c _ _ rc => cases rc; exact ⟨_, rfl, fun q hq => by cases hq; rfl⟩
  · cases hn
    cases hx with | c _ _ rc => cases rc; exact ⟨_, rfl, fun q hq => by cases hq; rfl⟩
  · cases hn
    cases hx with | c _ _ rc => cases rc; exact ⟨_, rfl, fun q hq => by cases hq; rfl⟩
  · cases hn
    cases hx; exact ⟨_, rfl, fun q hq => by cases hq; rfl⟩
  · cases hn
    cases hx with | c _ _ rc => cases rc; exact ⟨_, rfl, fun q hq => by cases hq; rfl⟩
  · cases hn
theorem run_isNil {neg : Bool} {t t' : TypeId} {x : Operand} {v : Value} {td : TypeDesc} {kd : Nat} {b : Bool} (ho : o.op = .binOp (if neg then .neq else .eql) t x (.const v) t') (hu : P.underlying t = some td) (hn : nilT td v = some kd) (hb : nilV kd (a.eval x) = some b) :
    (execOp a.eval o).run P w = .ok (.value (.bool (b != neg))) w := by
  have he : a.eval (.const v) = v := rfl
  have key : (Op.equal t (a.eval x) v).run P w = .ok b w := by
    show (Op.equalIn (9999 + 1) t (a.eval x) v).run P w = _
    unfold Op.equalIn
    generalize a.eval x = u at hb ⊢
    unfold nilT at hn
    split at hn
    · cases hn
      cases u <;> simp only [nilV, Option.some.injEq, reduceCtorEq] at hb
      rename_i ad l c
      subst hb
      cases ad <;> simp [run_underlying hu]
    · cases hn
      cases u <;> simp only [nilV, Option.some.injEq, reduceCtorEq] at hb
      rename_i ad
      subst hb
      cases ad <;> simp [run_underlying hu]
    · cases hn
      cases u <;> simp only [nilV, Option.some.injEq, reduceCtorEq] at hb
      rename_i ad
      subst hb
      cases ad <;> simp [run_underlying hu]
    · cases hn
      cases u <;> simp only [nilV, Option.some.injEq, reduceCtorEq] at hb <;> subst hb <;> simp [run_underlying hu]
    · cases hn
      cases u <;> simp only [nilV, Option.some.injEq, reduceCtorEq] at hb <;> subst hb <;> simp [run_underlying hu]
    · cases hn
  have guard : ∀ op, (eqGuard op t x (.const v) (a.eval x) v).run P w = .ok () w := fun op => by
    unfold eqGuard
    generalize a.eval x = u at hb ⊢
    unfold nilT at hn
    split at hn <;> first | cases hn | skip
    all_goals (cases u <;> simp only [nilV, Option.some.injEq, reduceCtorEq] at hb) <;> (cases op <;> first | rfl | (cases x <;> rfl))
  have notint : ∀ op : BinOp, (op = .eql ∨ op = .neq) → (binOp op t (a.eval x) v).run P w = .ok (.bool (b != (op == .neq))) w := fun op hop => by
    generalize a.eval x = u at hb key ⊢
    unfold nilT at hn
    split at hn <;> first | cases hn | skip
    all_goals (cases u <;> simp only [nilV, Option.some.injEq, reduceCtorEq] at hb) <;> (rcases hop with rfl | rfl) <;> simp only [binOp, Sem.run_bind, key, Result.andThen_ok, Sem.run_pure] <;> cases b <;> rfl
  cases neg with
  | true =>
    simp only [if_true] at ho
    simp only [execOp, ho, he, Sem.run_bind, guard, Result.andThen_ok, notint .neq (.inr rfl), Sem.run_pure]
    rfl
  | false =>
    simp only [Bool.false_eq_true, if_false] at ho
    simp only [execOp, ho, he, Sem.run_bind, guard, Result.andThen_ok, notint .eql (.inl rfl), Sem.run_pure]
    rfl
theorem good_mapUpd (h : RepH w0 N0 NA ρ H w) (ht : ∀ i, RepS w NA ρ H (T i) (a.tmps.getD i undef)) {t e : TypeId} {m k v : Operand} (ho : o.op = .mapUpdate t m k v ∨ o.op = .insert t m k v) {kd : IntKind} (hm : mapT P t = some (kd, e))
    {site : Nat} {y : SV} {ef : Option (Nat × Blk)} (hact : actF site (ev T) H (.mapUpd false kd m k v) = some (y, ef)) : Good P w0 N0 NA ρ H o a w (setH H ef) y := by
  obtain ⟨kt, hu, hk⟩ := mapT_is hm
  simp only [actF] at hact
  split at hact
  case h_2 => cases hact
  case h_1 id key x hid hkey hx =>
  obtain ⟨n, hn, rfl⟩ := keyS_int hkey
  have hkv := val_of ht hn
  split at hact
  case h_2 => cases hact
  case h_1 ag' kd' es hH =>
  split at hact
  case isFalse => cases hact
  case isTrue hc =>
  obtain ⟨hc1, hc2, hl63⟩ := hc
  subst hc1
  have hc3 := hc2.symm
  subst hc3
  cases hact
  have hmv := rep_ev ht m
  rw [hid] at hmv
  generalize hv : a.eval m = vm at hmv
  cases hmv with
  | om _ _ _ _ b hH' hb =>
  obtain ⟨b', ents, clock, e1, e2, e3, e4⟩ := h.blk _ _ hH
  rw [hb] at e1; cases e1
  have hxv : RepC w (Mut NA ρ H) x (a.eval v) := by
    have := rep_ev ht v
    unfold toC at hx
    split at hx
    · rename_i z hz
      cases hx
      rw [hz] at this
      cases this; assumption
    · cases hx
  obtain ⟨r, hr, hcase⟩ := findNow_ints (kd := kd) (n := n) (es := es) (ents := ents.toList) 0 (by simpa using e3.size) (fun i p e hp he => (e3.key i p e hp (by simpa using he)).1) (fun p hp => e3.one p hp rfl)
  have run0 : ∀ (w' : World), (Instr.mapUpdate t (.map (some b)) (.int kd n) (a.eval v)).run P w = .ok () w' → (execOp a.eval o).run P w = .ok .skip w' := fun w' hr' => by
    rcases ho with ho | ho <;> simp [execOp, ho, hv, hkv, hr']
  have fin : ∀ (ents' : Array MapEntry) (clock' : Nat), (Instr.mapUpdate t (.map (some b)) (.int kd n) (a.eval v)).run P w = .ok () { w with heap := w.heap.setIfInBounds b (.map ents' clock') } → Ents false kd (putM es [n] x) ents' clock' →
      (∀ (i : Nat) p e, (putM es [n] x)[i]? = some p → ents'[i]? = some e → RepC w (Mut NA ρ H) p.2 e.val) → Good P w0 N0 NA ρ H o a w (setH H (some (id, .map false kd (putM es [n] x)))) .dead := fun ents' clock' hrun hE hE2 => by
    have hblt : b < w.heap.size := h.lt ⟨id, by rw [hH]; simp, hb⟩
    have hg : w.grownBy { w with heap := w.heap.setIfInBounds b (.map ents' clock') } (ρ id) := by
      rw [hb]
      exact ⟨rfl, rfl, rfl, by simp, fun q _ hq => by
        have : b ≠ q := fun e => hq (by rw [e])
        simp [Array.getElem?_setIfInBounds_ne this]⟩
    obtain ⟨r1, r2⟩ := upd_rep (B1 := .map false kd (putM es [n] x)) h hH hg (.inl rfl)
      ⟨fun B2 he _ => by rw [hH] at he; cases he; exact ⟨.map false kd (putM es [n] x), by simp [setH], rfl, by simp [setR]⟩, fun t2 k2 r2 he => by rw [hH] at he; cases he⟩
      (fun tr => ⟨b, ents', clock', by simp [setR, hb], by simp [hblt], hE, fun i p e hp he => (hE2 i p e hp he).move tr.1⟩)
    exact ⟨_, undef, _, run0 _ hrun, .inr ⟨rfl, rfl⟩, _, r1, r2, .dead _⟩
  have hcl := get_map (P := P) e2
  rcases hcase with ⟨rfl, c2, c3⟩ | ⟨i, p, e', rfl, c2, c3, c4, c5⟩
  · have hput : putM es [n] x = es ++ [([n], x)] := by
      unfold putM
      rw [if_neg]
      simp only [List.any_eq_true, not_exists, not_and, beq_iff_eq]
      exact c3
    refine fin (ents.push { key := .int kd n, val := a.eval v, born := clock }) (clock + 1) ?_ ?_ ?_
    · simp [Instr.mapUpdate, run_underlying hu, hcl, checkKey_int hk, Instr.findKey, run_underlying hk, hr, set_map _ e2]
    · rw [hput]
      refine ⟨by simp [e3.size], fun i p e hp he => ?_, fun p hp hag => ?_, ?_, ?_⟩
      · rw [Array.getElem?_push] at he
        by_cases hi : i = ents.size
        · subst hi
          rw [if_pos rfl] at he
          rw [List.getElem?_append_right (by rw [e3.size]; exact Nat.le_refl _), e3.size] at hp
          simp at hp he
          subst hp; subst he
          exact ⟨rfl, by simp⟩
        · rw [if_neg hi] at he
          have hi2 : i < ents.size := (Array.getElem?_eq_some_iff.1 he).1
          rw [List.getElem?_append_left (by rw [← e3.size]; exact hi2)] at hp
          have := e3.key i p e hp he
          exact ⟨this.1, by omega⟩
      · rcases List.mem_append.1 hp with hp | hp
        · exact e3.one p hp hag
        · simp at hp; subst hp; exact ⟨n, rfl⟩
      · rw [List.map_append, List.nodup_append]
        refine ⟨e3.nodup, by simp, fun a ha b hb' => ?_⟩
        simp at hb'
        obtain ⟨p, hp, rfl⟩ := List.mem_map.1 ha
        subst hb'
        exact c3 p hp
      · rw [Array.toList_push, List.map_append, List.nodup_append]
        refine ⟨e3.born, by simp, fun a ha b hb' => ?_⟩
        simp at hb'
        obtain ⟨e, he, rfl⟩ := List.mem_map.1 ha
        subst hb'
        obtain ⟨j, hj, rfl⟩ := List.getElem_of_mem he
        have hj' : j < es.length := by rw [← e3.size]; simpa using hj
        have := (e3.key j _ _ (List.getElem?_eq_getElem hj') (by simpa using Array.getElem?_eq_getElem (by simpa using hj))).2
        simp at this ⊢; omega
    · intro i p e hp he
      rw [hput] at hp
      rw [Array.getElem?_push] at he
      by_cases hi : i = ents.size
      · subst hi
        rw [if_pos rfl] at he
        rw [List.getElem?_append_right (by rw [e3.size]; exact Nat.le_refl _), e3.size] at hp
        simp at hp he
        subst hp; subst he
        exact hxv
      · rw [if_neg hi] at he
        have hi2 : i < ents.size := (Array.getElem?_eq_some_iff.1 he).1
        rw [List.getElem?_append_left (by rw [← e3.size]; exact hi2)] at hp
        exact e4 i p e hp he
  · have hi : i < es.length := (List.getElem?_eq_some_iff.1 c2).1
    have hie : ents[i]? = some e' := by simpa using c3
    have hput : putM es [n] x = es.set i ([n], x) := by
      unfold putM
      rw [if_pos (by rw [List.any_eq_true]; exact ⟨p, List.mem_of_getElem? c2, by simpa using c4⟩)]
      apply List.ext_getElem?
      intro j
      rw [List.getElem?_map, List.getElem?_set]
      by_cases hij : i = j
      · subst hij
        rw [c2, if_pos rfl, if_pos hi]
        simp [c4]
      · rw [if_neg hij]
        cases hq : es[j]? with
        | none => rfl
        | some q =>
          have hne : ¬ q.1 = [n] := fun e => by
            have hnd := e3.nodup
            have h1 : (es.map (·.1))[i]? = some [n] := by rw [List.getElem?_map, c2]; simp [c4]
            have h2 : (es.map (·.1))[j]? = some [n] := by rw [List.getElem?_map, hq]; simp [e]
            obtain ⟨l1, g1⟩ := List.getElem?_eq_some_iff.1 h1
            obtain ⟨l2, g2⟩ := List.getElem?_eq_some_iff.1 h2
            exact hij ((List.getElem_inj hnd).1 (g1.trans g2.symm))
          simp [hne]
    have hkey : e'.key = .int kd n := by have := (e3.key i p e' c2 hie).1; rw [c4] at this; exact this
    have hsame : Instr.sameBits 10000 (.int kd n) (.int kd n) = true := by
      show Instr.sameBits (9999 + 1) (.int kd n) (.int kd n) = true
      simp [Instr.sameBits]
    have hstay : (Instr.keyThatStays (.int kd n) (.int kd n)).run P w = .ok (.int kd n) w := by
      simp [Instr.keyThatStays, hsame]
    have hmod : ∀ (j : Nat), (ents.modify i fun e => { e with key := .int kd n, val := a.eval v })[j]? = if i = j then some { e' with key := .int kd n, val := a.eval v } else ents[j]? := fun j => by
      rw [Array.getElem?_modify]
      by_cases hij : i = j
      · subst hij; simp [hie]
      · simp [hij]
    refine fin (ents.modify i fun e => { e with key := .int kd n, val := a.eval v }) clock ?_ ?_ ?_
    · simp [Instr.mapUpdate, run_underlying hu, hcl, checkKey_int hk, Instr.findKey, run_underlying hk, hr, hie, hkey, hstay, set_map _ e2]
    · rw [hput]
      refine ⟨by simp [e3.size], fun j q e hq he => ?_, fun q hq hag => ?_, ?_, ?_⟩
      · rw [hmod] at he
        rw [List.getElem?_set] at hq
        by_cases hij : i = j
        · subst hij
          rw [if_pos rfl] at he hq
          rw [if_pos hi] at hq
          cases he; cases hq
          exact ⟨rfl, (e3.key i p e' c2 hie).2⟩
        · rw [if_neg hij] at he hq
          exact e3.key j q e hq he
      · rcases List.mem_or_eq_of_mem_set hq with hq | rfl
        · exact e3.one q hq hag
        · exact ⟨n, rfl⟩
      · have : (es.set i ([n], x)).map (·.1) = es.map (·.1) := by
          rw [List.map_set]
          apply List.ext_getElem?
          intro j
          rw [List.getElem?_set]
          by_cases hij : i = j
          · subst hij; rw [if_pos rfl, List.getElem?_map, c2, if_pos (by simpa using hi)]; simp [c4]
          · rw [if_neg hij]
        rw [this]; exact e3.nodup
      · have : (ents.modify i fun e => { e with key := .int kd n, val := a.eval v }).toList.map (·.born) = ents.toList.map (·.born) := by
          apply List.ext_getElem?
          intro j
          rw [List.getElem?_map, List.getElem?_map]
          have := hmod j
          rw [Array.getElem?_toList, this, Array.getElem?_toList]
          by_cases hij : i = j
          · subst hij; simp [hie]
          · rw [if_neg hij]
        rw [this]; exact e3.born
    · intro j q e hq he
      rw [hput, List.getElem?_set] at hq
      rw [hmod] at he
      by_cases hij : i = j
      · subst hij
        rw [if_pos rfl] at he hq
        rw [if_pos hi] at hq
        cases he; cases hq
        exact hxv
      · rw [if_neg hij] at he hq
        exact e4 j q e hq he
end
end Go.Proofs.YtboifcengmgcaaaGreat
