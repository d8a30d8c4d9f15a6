/- Part 1 of a proof: Base, Lib, Num, Own, Maps, Works, Cells, Clash, Run, RunOk, Iter, Seq, Lay, SortOwn, Sort, Tail, All, Blows, Plays. -/
import Derived.WalkKit
import Derived.WalkSpells
import Derived.WalkLawsBesides
import Derived.Lib.Hide
import Derived.Deep.AppendLies
import Derived.Shelf.Abstract
import Derived.Test.YtdgplebmlggmcaaRows
import Derived.Maps.AppendAt
import Derived.Maps.OwnSet
import Derived.Maps.Views
import Derived.DeepKeys5
import Derived.Laws.ResultCell
import Derived.Laws.Rows
import Derived.Deep.RegionHeld3
import Derived.Deep.QuietTactic
import Derived.BigQuiet
import Derived.StillTailTactics
import Derived.RangeFuncNested
import Derived.RangeFuncBound
import Derived.RangeFuncCalls
import Derived.RangeFuncLeaves
import Derived.Shelf.RegionOpen
import Derived.OwnWalkIn
import Derived.TacticsInMore
import Derived.LoopNIn
import Derived.LoopIn
import Derived.Maps.OwnIn
import Derived.Shelf.SlSortCmp.WholeK
import Derived.Shelf.SlicesG.Cmp
import Derived.Test.YtdgplebmlggmcaaProg
import Derived.Shelf.SlSortCmp.NoneTotal
import Derived.RegionTactic
import Derived.Sort.BigQuietIn
import Derived.RegionIn
import Derived.BigRegionIn
set_option linter.unusedSimpArgs false
set_option linter.unusedVariables false
/- Small words for the walks of this seat: worlds that extend one another, slices that read as lists. -/
namespace Go.Proofs.Ytdgplebmlggmcaa
open Go.RowKit

theorem ret_int {k : IntKind} {a b : Int} (h : a = b) : Ending.returned (.int k a) = .returned (.int k b) := by rw [h]
theorem ret_bool {a b : Bool} (h : a = b) : Ending.returned (.bool a) = .returned (.bool b) := by rw [h]

/-- w' is w with blocks added: nothing that lay in w has turned. -/
def Ext (w w' : World) : Prop := Below w.heap.size w w'

theorem Ext.refl (w : World) : Ext w w := Below.refl _ w
theorem Ext.size {w w' : World} (h : Ext w w') : w.heap.size ≤ w'.heap.size := Below.size h
theorem Ext.trans {a b c : World} (h : Ext a b) (k : Ext b c) : Ext a c := Below.trans h (Below.mono k h.size)
theorem Ext.drew {a w : World} (h : Ext a w) : Ext a w.drew := Below.drew h
theorem Ext.drewN {a w : World} (h : Ext a w) (n : Nat) : Ext a (w.drewN n) := ⟨h.os, h.tape, h.output, h.size, h.block⟩
theorem Ext.alloc {a w : World} (h : Ext a w) (o : Obj) : Ext a (w.alloc o) := Below.alloc h h.size o
theorem Ext.setCell {a w : World} (h : Ext a w) {p : Addr} (hp : a.heap.size ≤ p.block) (u : Value) : Ext a (w.setCell p u) := Below.setCell h hp u
theorem Ext.grown {a w w' : World} {row : Option Nat} (h : Ext a w) (hg : w.grownBy w' row) (hr : ∀ k, row = some k → a.heap.size ≤ k) : Ext a w' :=
  Below.grown h hg h.size hr
theorem Ext.cell {w w' : World} (h : Ext w w') {b : Nat} (o : Nat) (hb : b < w.heap.size) : w'.cell? ⟨b, o, none⟩ = w.cell? ⟨b, o, none⟩ := Below.cell (p := ⟨b, o, none⟩) h hb
theorem Ext.frozen {w w' : World} (h : Ext w w') {b : Nat} (o : Nat) (hb : b < w.heap.size) : w'.frozen? ⟨b, o, none⟩ = w.frozen? ⟨b, o, none⟩ := Below.frozen (p := ⟨b, o, none⟩) h hb
theorem Ext.block' {w w' : World} (h : Ext w w') {b : Nat} (hb : b < w.heap.size) : w'.heap[b]? = w.heap[b]? := Below.block h b hb
/-- A cell that was there holds what it held. -/
theorem Ext.keep {w w' : World} (h : Ext w w') {a : Addr} {v : Value} (hc : w.cell? a = some v) : w'.cell? a = some v := cell_later h hc
/-- The rules for the walk behind a call. -/
theorem Ext.rules {w w' : World} (h : Ext w w') : (∀ b o, b < w.heap.size → w'.cell? ⟨b, o, none⟩ = w.cell? ⟨b, o, none⟩) ∧ (∀ b o, b < w.heap.size → w'.frozen? ⟨b, o, none⟩ = w.frozen? ⟨b, o, none⟩) :=
  ⟨fun _ o hb => h.cell o hb, fun _ o hb => h.frozen o hb⟩

/-- The slice that begins at a, with room for c elements of k cells, reads as xs. -/
structure Row {α : Type} (k : Nat) (enc : α → List Value) (w : World) (a : Option Addr) (c : Nat) (xs : List α) : Prop where
  cap : xs.length ≤ c
  top : c ≤ maxLen
  at' : ∀ j (hj : j < xs.length), ∃ b off, a = some ⟨b, off, none⟩ ∧ b < w.heap.size ∧ ∀ i, i < k → w.cell? ⟨b, off + j * k + i, none⟩ = (enc xs[j])[i]?

theorem Row.ext {α : Type} {k : Nat} {enc : α → List Value} {w w' : World} {a : Option Addr} {c : Nat} {xs : List α} (h : Row k enc w a c xs) (e : Ext w w') : Row k enc w' a c xs :=
  ⟨h.cap, h.top, fun j hj => by
    obtain ⟨b, off, ha, hb, hc⟩ := h.at' j hj
    exact ⟨b, off, ha, Nat.lt_of_lt_of_le hb e.size, fun i hi => (e.cell _ hb).trans (hc i hi)⟩⟩

theorem Row.len {α : Type} {k : Nat} {enc : α → List Value} {w : World} {a : Option Addr} {c : Nat} {xs : List α} (h : Row k enc w a c xs) : xs.length ≤ 9223372036854775807 := by
  have h1 := h.cap; have h2 := h.top; unfold maxLen at h2; omega

theorem Row.nil {α : Type} (k : Nat) (enc : α → List Value) (w : World) : Row k enc w none 0 ([] : List α) :=
  ⟨Nat.le_refl _, Nat.zero_le _, fun _ hj => absurd hj (Nat.not_lt_zero _)⟩

/-- The value v is a slice that reads as xs. -/
def Sl {α : Type} (k : Nat) (enc : α → List Value) (w : World) (v : Value) (xs : List α) : Prop :=
  ∃ a c, v = .slice a xs.length c ∧ Row k enc w a c xs

theorem Sl.ext {α : Type} {k : Nat} {enc : α → List Value} {w w' : World} {v : Value} {xs : List α} (h : Sl k enc w v xs) (e : Ext w w') : Sl k enc w' v xs := by
  obtain ⟨a, c, hv, hr⟩ := h
  exact ⟨a, c, hv, hr.ext e⟩

/-- What the call has built reads as the list whose cells it owns. -/
theorem Sl.of_owns {α : Type} {k : Nat} {enc : α → List Value} {w : World} {base : Nat} {e : TypeId} {v : Value} {n : Nat} {xs : List α} {cs : List Value}
    (h : w.ownsRow base e k v n cs) (hn : n = xs.length) (hcs : ∀ j (hj : j < xs.length), ∀ i, i < k → cs[j * k + i]? = (enc xs[j])[i]?) : Sl k enc w v xs := by
  subst hn
  obtain ⟨hl, h2⟩ := h
  rcases h2 with ⟨rfl, h0⟩ | ⟨g, cap, cur, rfl, _, hg, hcap, hmax, hsz, htk⟩
  · have : xs = [] := List.length_eq_zero_iff.1 h0
    subst this
    exact ⟨none, 0, rfl, Row.nil _ _ _⟩
  · refine ⟨_, cap, rfl, hcap, hmax, fun j hj => ⟨g, 0, rfl, ?_, fun i hi => ?_⟩⟩
    · rcases Nat.lt_or_ge g w.heap.size with h | h
      · exact h
      · rw [Array.getElem?_eq_none h] at hg; cases hg
    · rw [← hcs j hj i hi, ← htk, Nat.zero_add, cell_of_row w g (j * k + i) cur e (0, 0) hg]
      have hlt : j * k + i < xs.length * k := by
        have : (j + 1) * k ≤ xs.length * k := Nat.mul_le_mul_right _ hj
        rw [Nat.add_mul, Nat.one_mul] at this; omega
      rw [List.getElem?_take_of_lt hlt]; simp

/-- A slice of so many elements from k0 on. -/
theorem Row.drop {α : Type} {k : Nat} {enc : α → List Value} {w : World} {b off c : Nat} {xs : List α} (h : Row k enc w (some ⟨b, off, none⟩) c xs) (m : Nat) (hm : m ≤ xs.length) :
    Row k enc w (some ⟨b, off + m * k, none⟩) (c - m) (xs.drop m) := by
  refine ⟨?_, ?_, fun j hj => ?_⟩
  · have := h.cap; simp; omega
  · have := h.top; omega
  · rw [List.length_drop] at hj
    obtain ⟨b', off', ha, hb, hc⟩ := h.at' (m + j) (by omega)
    cases ha
    refine ⟨b, _, rfl, hb, fun i hi => ?_⟩
    rw [List.getElem_drop, ← hc i hi, Nat.add_mul, Nat.add_assoc off (m * k) (j * k)]

theorem Row.take {α : Type} {k : Nat} {enc : α → List Value} {w : World} {a : Option Addr} {c : Nat} {xs : List α} (h : Row k enc w a c xs) (m : Nat) :
    Row k enc w a c (xs.take m) := by
  refine ⟨?_, h.top, fun j hj => ?_⟩
  · have := h.cap; simp; omega
  · rw [List.length_take] at hj
    obtain ⟨b', off', ha, hb, hc⟩ := h.at' j (by omega)
    exact ⟨b', off', ha, hb, fun i hi => by rw [List.getElem_take]; exact hc i hi⟩

/-- An int as its one cell. -/
def encI (x : Int) : List Value := [.int .i64 x]
/-- A pair of ints as its two cells. -/
def encP (x : Int × Int) : List Value := [.int .i64 x.1, .int .i64 x.2]

/-- A pair of ints as a struct's value. -/
def valP (x : Int × Int) : Value := .agg #[.int .i64 x.1, .int .i64 x.2]

theorem Row.cellI {w : World} {a : Option Addr} {c : Nat} {xs : List Int} (h : Row 1 encI w a c xs) (j : Nat) (hj : j < xs.length) :
    ∃ b off, a = some ⟨b, off, none⟩ ∧ b < w.heap.size ∧ w.cell? ⟨b, off + j, none⟩ = some (.int .i64 xs[j]) := by
  obtain ⟨b, off, ha, hb, hc⟩ := h.at' j hj
  exact ⟨b, off, ha, hb, by have := hc 0 (by omega); simpa [encI] using this⟩

theorem Row.cellP {w : World} {a : Option Addr} {c : Nat} {xs : List (Int × Int)} (h : Row 2 encP w a c xs) (j : Nat) (hj : j < xs.length) :
    ∃ b off, a = some ⟨b, off, none⟩ ∧ b < w.heap.size ∧ w.cell? ⟨b, off + j * 2, none⟩ = some (.int .i64 xs[j].1) ∧ w.cell? ⟨b, off + j * 2 + 1, none⟩ = some (.int .i64 xs[j].2) := by
  obtain ⟨b, off, ha, hb, hc⟩ := h.at' j hj
  exact ⟨b, off, ha, hb, hc 0 (by omega), hc 1 (by omega)⟩

/-- One int in a block of its own. -/
theorem fact_int (w : World) (x : Int) (t : TypeId) : (w.alloc (.cells #[.int .i64 x] t)).cell? ⟨w.heap.size, 0, none⟩ = some (.int .i64 x) := by
  rw [cell_of_row (w.alloc (.cells #[.int .i64 x] t)) w.heap.size 0 #[.int .i64 x] t (0, 0) (heap_alloc_new w _)]
  rfl

theorem fact_two (w : World) (x y : Int) (t : TypeId) : w.heap.size < (w.alloc (.cells #[.int .i64 x, .int .i64 y] t)).heap.size ∧ (w.alloc (.cells #[.int .i64 x, .int .i64 y] t)).cell? ⟨w.heap.size, 0, none⟩ = some (.int .i64 x) ∧ (w.alloc (.cells #[.int .i64 x, .int .i64 y] t)).cell? ⟨w.heap.size, 1, none⟩ = some (.int .i64 y) := by
  refine ⟨by simp, ?_, ?_⟩ <;> (rw [cell_of_row (w.alloc (.cells #[.int .i64 x, .int .i64 y] t)) w.heap.size _ _ t (0, 0) (heap_alloc_new w _)]; rfl)

theorem Row.oneI (w : World) (x : Int) (t : TypeId) : Row 1 encI (w.alloc (.cells #[.int .i64 x] t)) (some ⟨w.heap.size, 0, none⟩) 1 [x] := by
  refine ⟨Nat.le_refl _, by unfold maxLen; omega, fun j hj => ⟨_, _, rfl, by simp, fun i hi => ?_⟩⟩
  have hj0 : j = 0 := by simp at hj; omega
  have hi0 : i = 0 := by omega
  subst hj0; subst hi0
  exact fact_int w x t

end Go.Proofs.Ytdgplebmlggmcaa
/- slices.IndexFunc and slices.ContainsFunc at this seat's element types, for whatever predicate. -/
namespace Go.Proofs.Ytdgplebmlggmcaa
open Go.RowKit

/-- What a function value that is a predicate does. -/
def Pred {α : Type} (P : Program) (g : Nat) (cb : Array Value) (val : α → Value) (p : α → Bool) (xs : List α) (w : World) : Prop :=
  ∀ x ∈ xs, ∀ W, Ext w W → Calls P g (#[val x] ++ cb) W fun e W' => e = .returned (.bool (p x)) ∧ Ext W W'

/-- The first place at which p holds, or -1. -/
def idxP {α : Type} (p : α → Bool) (xs : List α) : Int := if xs.any p then (xs.findIdx p : Int) else -1

theorem idxP_found {α : Type} (p : α → Bool) (xs : List α) (k : Nat) (hk : k < xs.length) (h : ∀ y ∈ xs.take k, p y = false) (hp : p xs[k] = true) : idxP p xs = k := by
  have h1 : xs.any p = true := List.any_eq_true.2 ⟨xs[k], List.getElem_mem hk, hp⟩
  have h2 : xs.findIdx p = k := (List.findIdx_eq hk).2 ⟨hp, fun j hj => h _ (by
    rw [List.mem_take_iff_getElem]; exact ⟨j, by omega, rfl⟩)⟩
  simp [idxP, h1, h2]

theorem idxP_none {α : Type} (p : α → Bool) (xs : List α) (h : ∀ y ∈ xs, p y = false) : idxP p xs = -1 := by
  have h1 : xs.any p = false := List.any_eq_false.2 fun y hy => by simp [h y hy]
  simp [idxP, h1]

theorem take_grow {α : Type} (p : α → Bool) (xs : List α) (k : Nat) (hk : k < xs.length) (h : ∀ y ∈ xs.take k, p y = false) (hp : p xs[k] = false) : ∀ y ∈ xs.take (k + 1), p y = false := by
  intro y hy
  rw [List.take_succ_eq_append_getElem hk, List.mem_append] at hy
  rcases hy with hy | hy
  · exact h y hy
  · simp at hy; subst hy; exact hp

theorem idxP_nonneg {α : Type} (p : α → Bool) (xs : List α) : decide (0 ≤ idxP p xs) = xs.any p := by
  unfold idxP
  cases h : xs.any p <;> simp


set_option maxHeartbeats 400000 in
theorem IndexFunc_int (g : Nat) (cb : Array Value) (eg : ∀ args w, (callFunc g args).run Try.prog w = .ok (.enter g args) w) (p : Int → Bool) (xs : List (Int)) (a : Option Addr) (c : Nat) (w : World)
    (hr : Row 1 encI w a c xs) (hp : Pred Try.prog g cb (Value.int .i64) p xs w) :
    Calls Try.prog 96 #[.slice a xs.length c, .func (.func g) #[] cb] w fun e w' => e = .returned (.int .i64 (idxP p xs)) ∧ Ext w w' := by
  have hlen := hr.len
  have HP : Hid (Pred Try.prog g cb (Value.int .i64) p xs w) := hp
  have HR : Hid (Row 1 encI w a c xs) := hr
  clear hp hr
  go_enter Try.func96, Try.ntmps96
  go_wp2
  go_loopw [8] (fun i wr => ∃ k : Nat, k ≤ xs.length ∧ i = .int .i64 k ∧ Ext w wr ∧ ∀ y ∈ xs.take k, p y = false) (fun i _ => xs.length - (intOf i).toNat)
  case atStart => exact ⟨0, Nat.zero_le _, rfl, Ext.refl _, by simp⟩
  case round =>
    obtain ⟨k, hk, rfl, hb, ht⟩ := hrel
    have HT := Lib.hid ht
    clear ht
    by_cases hlt : k < xs.length
    · obtain ⟨b, off, rfl, hbl, hc0⟩ := HR.out.cellI k hlt
      have hc := (hb.cell (off + k) hbl).trans hc0
      clear hc0
      have HP' := Lib.hid (HP.out xs[k] (List.getElem_mem hlt))
      have HI := Lib.hid (idxP_found p xs k hlt HT.out)
      have HG := Lib.hid (take_grow p xs k hlt HT.out)
      generalize xs[k] = y at *
      cases hy : p y
      · have HY := Lib.hid hy
        clear hy
        go_wp2_with (refine (HP'.out _ hb).mono ?_; rintro e w2 ⟨rfl, hb2⟩; rw [HY.out])
        go_roundw
        case rel => exact ⟨k + 1, by omega, by go_num, hb.trans hb2, HG.out HY.out⟩
        case measure => simp [intOf]; omega
      · have HY := Lib.hid hy
        clear hy
        go_wp2_with (refine (HP'.out _ hb).mono ?_; rintro e w2 ⟨rfl, hb2⟩; rw [HY.out])
        go_ret
        exact ⟨by rw [HI.out HY.out]; rfl, hb.trans hb2⟩
    · go_wp2
      go_ret
      exact ⟨by rw [idxP_none p xs (by rw [List.take_of_length_le (by omega)] at HT; exact HT.out)]; rfl, hb⟩

theorem ContainsFunc_int (g : Nat) (cb : Array Value) (eg : ∀ args w, (callFunc g args).run Try.prog w = .ok (.enter g args) w) (p : Int → Bool) (xs : List (Int)) (a : Option Addr) (c : Nat) (w : World)
    (hr : Row 1 encI w a c xs) (hp : Pred Try.prog g cb (Value.int .i64) p xs w) :
    Calls Try.prog 79 #[.slice a xs.length c, .func (.func g) #[] cb] w fun e w' => e = .returned (.bool (xs.any p)) ∧ Ext w w' := by
  have hc := Lib.hid (IndexFunc_int g cb eg p xs a c w hr hp)
  have hn := Lib.hid (idxP_nonneg p xs)
  clear hr hp
  go_enter Try.func79, Try.ntmps79
  go_wp2_with (go_at_call 96; refine hc.out.mono ?_; rintro e w2 ⟨rfl, hb2⟩)
  go_ret
  exact ⟨by rw [hn.out]; rfl, hb2⟩


set_option maxHeartbeats 400000 in
theorem IndexFunc_Hammer (g : Nat) (cb : Array Value) (eg : ∀ args w, (callFunc g args).run Try.prog w = .ok (.enter g args) w) (p : Int × Int → Bool) (xs : List (Int × Int)) (a : Option Addr) (c : Nat) (w : World)
    (hr : Row 2 encP w a c xs) (hp : Pred Try.prog g cb valP p xs w) :
    Calls Try.prog 81 #[.slice a xs.length c, .func (.func g) #[] cb] w fun e w' => e = .returned (.int .i64 (idxP p xs)) ∧ Ext w w' := by
  have hlen := hr.len
  have HP : Hid (Pred Try.prog g cb valP p xs w) := hp
  have HR : Hid (Row 2 encP w a c xs) := hr
  clear hp hr
  go_enter Try.func81, Try.ntmps81
  go_wp2
  go_loopw [8] (fun i wr => ∃ k : Nat, k ≤ xs.length ∧ i = .int .i64 k ∧ Ext w wr ∧ ∀ y ∈ xs.take k, p y = false) (fun i _ => xs.length - (intOf i).toNat)
  case atStart => exact ⟨0, Nat.zero_le _, rfl, Ext.refl _, by simp⟩
  case round =>
    obtain ⟨k, hk, rfl, hb, ht⟩ := hrel
    have HT := Lib.hid ht
    clear ht
    by_cases hlt : k < xs.length
    · obtain ⟨b, off, rfl, hbl, hc0, hd0⟩ := HR.out.cellP k hlt
      have hc := (hb.cell (off + k * 2) hbl).trans hc0
      have hd := (hb.cell (off + k * 2 + 1) hbl).trans hd0
      clear hc0 hd0
      have HP' := Lib.hid (HP.out xs[k] (List.getElem_mem hlt))
      have HI := Lib.hid (idxP_found p xs k hlt HT.out)
      have HG := Lib.hid (take_grow p xs k hlt HT.out)
      generalize xs[k] = y at *
      cases hy : p y
      · have HY := Lib.hid hy
        clear hy
        go_wp2_with (refine (HP'.out _ hb).mono ?_; rintro e w2 ⟨rfl, hb2⟩; rw [HY.out])
        go_roundw
        case rel => exact ⟨k + 1, by omega, by go_num, hb.trans hb2, HG.out HY.out⟩
        case measure => simp [intOf]; omega
      · have HY := Lib.hid hy
        clear hy
        go_wp2_with (refine (HP'.out _ hb).mono ?_; rintro e w2 ⟨rfl, hb2⟩; rw [HY.out])
        go_ret
        exact ⟨by rw [HI.out HY.out]; rfl, hb.trans hb2⟩
    · go_wp2
      go_ret
      exact ⟨by rw [idxP_none p xs (by rw [List.take_of_length_le (by omega)] at HT; exact HT.out)]; rfl, hb⟩

theorem ContainsFunc_Hammer (g : Nat) (cb : Array Value) (eg : ∀ args w, (callFunc g args).run Try.prog w = .ok (.enter g args) w) (p : Int × Int → Bool) (xs : List (Int × Int)) (a : Option Addr) (c : Nat) (w : World)
    (hr : Row 2 encP w a c xs) (hp : Pred Try.prog g cb valP p xs w) :
    Calls Try.prog 53 #[.slice a xs.length c, .func (.func g) #[] cb] w fun e w' => e = .returned (.bool (xs.any p)) ∧ Ext w w' := by
  have hc := Lib.hid (IndexFunc_Hammer g cb eg p xs a c w hr hp)
  have hn := Lib.hid (idxP_nonneg p xs)
  clear hr hp
  go_enter Try.func53, Try.ntmps53
  go_wp2_with (go_at_call 81; refine hc.out.mono ?_; rintro e w2 ⟨rfl, hb2⟩)
  go_ret
  exact ⟨by rw [hn.out]; rfl, hb2⟩


set_option maxHeartbeats 400000 in
theorem IndexFunc_Pin (g : Nat) (cb : Array Value) (eg : ∀ args w, (callFunc g args).run Try.prog w = .ok (.enter g args) w) (p : Int × Int → Bool) (xs : List (Int × Int)) (a : Option Addr) (c : Nat) (w : World)
    (hr : Row 2 encP w a c xs) (hp : Pred Try.prog g cb valP p xs w) :
    Calls Try.prog 82 #[.slice a xs.length c, .func (.func g) #[] cb] w fun e w' => e = .returned (.int .i64 (idxP p xs)) ∧ Ext w w' := by
  have hlen := hr.len
  have HP : Hid (Pred Try.prog g cb valP p xs w) := hp
  have HR : Hid (Row 2 encP w a c xs) := hr
  clear hp hr
  go_enter Try.func82, Try.ntmps82
  go_wp2
  go_loopw [8] (fun i wr => ∃ k : Nat, k ≤ xs.length ∧ i = .int .i64 k ∧ Ext w wr ∧ ∀ y ∈ xs.take k, p y = false) (fun i _ => xs.length - (intOf i).toNat)
  case atStart => exact ⟨0, Nat.zero_le _, rfl, Ext.refl _, by simp⟩
  case round =>
    obtain ⟨k, hk, rfl, hb, ht⟩ := hrel
    have HT := Lib.hid ht
    clear ht
    by_cases hlt : k < xs.length
    · obtain ⟨b, off, rfl, hbl, hc0, hd0⟩ := HR.out.cellP k hlt
      have hc := (hb.cell (off + k * 2) hbl).trans hc0
      have hd := (hb.cell (off + k * 2 + 1) hbl).trans hd0
      clear hc0 hd0
      have HP' := Lib.hid (HP.out xs[k] (List.getElem_mem hlt))
      have HI := Lib.hid (idxP_found p xs k hlt HT.out)
      have HG := Lib.hid (take_grow p xs k hlt HT.out)
      generalize xs[k] = y at *
      cases hy : p y
      · have HY := Lib.hid hy
        clear hy
        go_wp2_with (refine (HP'.out _ hb).mono ?_; rintro e w2 ⟨rfl, hb2⟩; rw [HY.out])
        go_roundw
        case rel => exact ⟨k + 1, by omega, by go_num, hb.trans hb2, HG.out HY.out⟩
        case measure => simp [intOf]; omega
      · have HY := Lib.hid hy
        clear hy
        go_wp2_with (refine (HP'.out _ hb).mono ?_; rintro e w2 ⟨rfl, hb2⟩; rw [HY.out])
        go_ret
        exact ⟨by rw [HI.out HY.out]; rfl, hb.trans hb2⟩
    · go_wp2
      go_ret
      exact ⟨by rw [idxP_none p xs (by rw [List.take_of_length_le (by omega)] at HT; exact HT.out)]; rfl, hb⟩

theorem ContainsFunc_Pin (g : Nat) (cb : Array Value) (eg : ∀ args w, (callFunc g args).run Try.prog w = .ok (.enter g args) w) (p : Int × Int → Bool) (xs : List (Int × Int)) (a : Option Addr) (c : Nat) (w : World)
    (hr : Row 2 encP w a c xs) (hp : Pred Try.prog g cb valP p xs w) :
    Calls Try.prog 54 #[.slice a xs.length c, .func (.func g) #[] cb] w fun e w' => e = .returned (.bool (xs.any p)) ∧ Ext w w' := by
  have hc := Lib.hid (IndexFunc_Pin g cb eg p xs a c w hr hp)
  have hn := Lib.hid (idxP_nonneg p xs)
  clear hr hp
  go_enter Try.func54, Try.ntmps54
  go_wp2_with (go_at_call 82; refine hc.out.mono ?_; rintro e w2 ⟨rfl, hb2⟩)
  go_ret
  exact ⟨by rw [hn.out]; rfl, hb2⟩


set_option maxHeartbeats 400000 in
theorem IndexFunc_Blow (g : Nat) (cb : Array Value) (eg : ∀ args w, (callFunc g args).run Try.prog w = .ok (.enter g args) w) (p : Int × Int → Bool) (xs : List (Int × Int)) (a : Option Addr) (c : Nat) (w : World)
    (hr : Row 2 encP w a c xs) (hp : Pred Try.prog g cb valP p xs w) :
    Calls Try.prog 100 #[.slice a xs.length c, .func (.func g) #[] cb] w fun e w' => e = .returned (.int .i64 (idxP p xs)) ∧ Ext w w' := by
  have hlen := hr.len
  have HP : Hid (Pred Try.prog g cb valP p xs w) := hp
  have HR : Hid (Row 2 encP w a c xs) := hr
  clear hp hr
  go_enter Try.func100, Try.ntmps100
  go_wp2
  go_loopw [8] (fun i wr => ∃ k : Nat, k ≤ xs.length ∧ i = .int .i64 k ∧ Ext w wr ∧ ∀ y ∈ xs.take k, p y = false) (fun i _ => xs.length - (intOf i).toNat)
  case atStart => exact ⟨0, Nat.zero_le _, rfl, Ext.refl _, by simp⟩
  case round =>
    obtain ⟨k, hk, rfl, hb, ht⟩ := hrel
    have HT := Lib.hid ht
    clear ht
    by_cases hlt : k < xs.length
    · obtain ⟨b, off, rfl, hbl, hc0, hd0⟩ := HR.out.cellP k hlt
      have hc := (hb.cell (off + k * 2) hbl).trans hc0
      have hd := (hb.cell (off + k * 2 + 1) hbl).trans hd0
      clear hc0 hd0
      have HP' := Lib.hid (HP.out xs[k] (List.getElem_mem hlt))
      have HI := Lib.hid (idxP_found p xs k hlt HT.out)
      have HG := Lib.hid (take_grow p xs k hlt HT.out)
      generalize xs[k] = y at *
      cases hy : p y
      · have HY := Lib.hid hy
        clear hy
        go_wp2_with (refine (HP'.out _ hb).mono ?_; rintro e w2 ⟨rfl, hb2⟩; rw [HY.out])
        go_roundw
        case rel => exact ⟨k + 1, by omega, by go_num, hb.trans hb2, HG.out HY.out⟩
        case measure => simp [intOf]; omega
      · have HY := Lib.hid hy
        clear hy
        go_wp2_with (refine (HP'.out _ hb).mono ?_; rintro e w2 ⟨rfl, hb2⟩; rw [HY.out])
        go_ret
        exact ⟨by rw [HI.out HY.out]; rfl, hb.trans hb2⟩
    · go_wp2
      go_ret
      exact ⟨by rw [idxP_none p xs (by rw [List.take_of_length_le (by omega)] at HT; exact HT.out)]; rfl, hb⟩

theorem ContainsFunc_Blow (g : Nat) (cb : Array Value) (eg : ∀ args w, (callFunc g args).run Try.prog w = .ok (.enter g args) w) (p : Int × Int → Bool) (xs : List (Int × Int)) (a : Option Addr) (c : Nat) (w : World)
    (hr : Row 2 encP w a c xs) (hp : Pred Try.prog g cb valP p xs w) :
    Calls Try.prog 90 #[.slice a xs.length c, .func (.func g) #[] cb] w fun e w' => e = .returned (.bool (xs.any p)) ∧ Ext w w' := by
  have hc := Lib.hid (IndexFunc_Blow g cb eg p xs a c w hr hp)
  have hn := Lib.hid (idxP_nonneg p xs)
  clear hr hp
  go_enter Try.func90, Try.ntmps90
  go_wp2_with (go_at_call 100; refine hc.out.mono ?_; rintro e w2 ⟨rfl, hb2⟩)
  go_ret
  exact ⟨by rw [hn.out]; rfl, hb2⟩

end Go.Proofs.Ytdgplebmlggmcaa
/- The small functions on numbers of package chime: within, isBell, isHammer, isPin, areParts. -/
namespace Go.Proofs.Ytdgplebmlggmcaa
open Go.RowKit

/-- Whether x lies between lo and hi. -/
def inn (lo hi x : Int) : Bool := !(decide (x < lo) || decide (hi < x))

theorem inn_iff {lo hi x : Int} : inn lo hi x = true ↔ lo ≤ x ∧ x ≤ hi := by
  unfold inn; by_cases h1 : x < lo <;> by_cases h2 : hi < x <;> simp [h1, h2] <;> omega

theorem within_pred (x lo hi : Int) (B1 B2 : Nat) (w : World) (h1 : w.cell? ⟨B1, 0, none⟩ = some (.int .i64 lo)) (h2 : w.cell? ⟨B2, 0, none⟩ = some (.int .i64 hi)) :
    Calls Try.prog 80 #[.int .i64 x, .pointer (some ⟨B1, 0, none⟩), .pointer (some ⟨B2, 0, none⟩)] w fun e w' => e = .returned (.bool (!inn lo hi x)) ∧ Ext w w' := by
  unfold inn
  rw [Bool.not_not]
  go_enter Try.func80, Try.ntmps80
  go_wp2
  all_goals (go_ret; exact ⟨by simp_all, Ext.refl _⟩)

theorem within_any (lo hi : Int) (xs : List Int) (a : Option Addr) (c : Nat) (w : World) (hr : Row 1 encI w a c xs) :
    Calls Try.prog 52 #[.int .i64 lo, .int .i64 hi, .slice a xs.length c] w fun e w' => e = .returned (.bool (xs.all (inn lo hi))) ∧ Ext w w' := by
  have hx : Ext w ((w.alloc (.cells #[.int .i64 lo] 3)).alloc (.cells #[.int .i64 hi] 3)) := ((Ext.refl w).alloc _).alloc _
  have hc := Lib.hid (ContainsFunc_int 80 #[.pointer (some ⟨w.heap.size, 0, none⟩), .pointer (some ⟨w.heap.size + 1, 0, none⟩)] (enters_of Try.func80 (by kernel_rfl) rfl) (fun x => !inn lo hi x) xs a c
    ((w.alloc (.cells #[.int .i64 lo] 3)).alloc (.cells #[.int .i64 hi] 3)) (hr.ext hx) (fun x _ W hW => within_pred x lo hi w.heap.size (w.heap.size + 1) W
      ((hW.cell 0 (by simp <;> omega)).trans (by go_simp)) ((hW.cell 0 (by simp <;> omega)).trans (by go_simp))))
  clear hr
  have HX := Lib.hid hx
  clear hx
  go_enter Try.func52, Try.ntmps52
  go_wp2_with (go_at_call 79; refine hc.out.mono ?_; rintro e w2 ⟨rfl, hb2⟩)
  go_ret
  exact ⟨by simp [List.all_eq_not_any_not], HX.out.trans hb2⟩

theorem within_lit (lo hi x : Int) (b : Nat) (w : World) (hb : b < w.heap.size) (hc : w.cell? ⟨b, 0, none⟩ = some (.int .i64 x)) :
    Calls Try.prog 52 #[.int .i64 lo, .int .i64 hi, .slice (some ⟨b, 0, none⟩) 1 1] w fun e w' => e = .returned (.bool (inn lo hi x)) ∧ Ext w w' := by
  have h := within_any lo hi [x] (some ⟨b, 0, none⟩) 1 w ⟨Nat.le_refl _, by unfold maxLen; omega, fun j hj => ⟨_, _, rfl, hb, fun i hi => by
    have hj0 : j = 0 := by simp at hj; omega
    have hi0 : i = 0 := by omega
    subst hj0; subst hi0
    exact hc⟩⟩
  simpa using h

theorem within_one (lo hi x : Int) (W : World) (b : Nat) (hb : W.heap.size = b) :
    Calls Try.prog 52 #[.int .i64 lo, .int .i64 hi, .slice (some ⟨b, 0, none⟩) 1 1] (W.alloc (.cells #[.int .i64 x] 3)) fun e w' => e = .returned (.bool (inn lo hi x)) ∧ Ext (W.alloc (.cells #[.int .i64 x] 3)) w' := by
  subst hb
  exact within_lit lo hi x W.heap.size _ (by simp) (fact_int W x 3)

theorem isBell_any (x : Int) (w : World) :
    Calls Try.prog 78 #[.int .i64 x] w fun e w' => e = .returned (.bool (inn 0 15 x)) ∧ Ext w w' := by
  go_enter Try.func78, Try.ntmps78
  go_wp2_with ((go_at_call 52; (with_reducible refine (within_one _ _ _ _ _ (by simp)).mono ?_); rintro e w2 ⟨rfl, hb2⟩; obtain ⟨hr1, hr2⟩ := hb2.rules; have hz2 := hb2.size; (try simp at hz2); (try have hl0 : w.heap.size < w2.heap.size := by omega); (try have hl0 : w.heap.size ≤ w2.heap.size := by omega); (try have hl1 : w.heap.size + 1 < w2.heap.size := by omega); (try have hl1 : w.heap.size + 1 ≤ w2.heap.size := by omega)))
  go_ret
  exact ⟨rfl, by (repeat (first | with_reducible exact Ext.refl _ | with_reducible assumption | with_reducible refine Ext.alloc ?_ _ | with_reducible refine Ext.drew ?_ | with_reducible refine Ext.drewN ?_ _ | (with_reducible refine Ext.setCell ?_ ?hsc _; case hsc => (simp <;> omega)) | with_reducible refine Ext.trans ?_ (by assumption)))⟩

def hamOk (h : Int × Int) : Bool := inn 0 15 h.1 && inn 0 1000 h.2

theorem isHammer_any (h : Int × Int) (w : World) :
    Calls Try.prog 48 #[valP h] w fun e w' => e = .returned (.bool (hamOk h)) ∧ Ext w w' := by
  unfold valP hamOk
  cases h1 : inn 0 15 h.1
  · go_enter Try.func48, Try.ntmps48
    go_wp2_with (first | (go_at_call 52; (with_reducible refine (within_one _ _ _ _ _ (by simp)).mono ?_); rintro e w2 ⟨rfl, hb2⟩; obtain ⟨hr1, hr2⟩ := hb2.rules; have hz2 := hb2.size; (try simp at hz2); (try have hl0 : w.heap.size < w2.heap.size := by omega); (try have hl0 : w.heap.size ≤ w2.heap.size := by omega); (try have hl1 : w.heap.size + 1 < w2.heap.size := by omega); (try have hl1 : w.heap.size + 1 ≤ w2.heap.size := by omega)) | (go_at_call 78; refine (isBell_any _ _).mono ?_; rintro e w2 ⟨rfl, hb2⟩; obtain ⟨hr1, hr2⟩ := hb2.rules; have hz2 := hb2.size; (try simp at hz2); (try have hl0 : w.heap.size < w2.heap.size := by omega); (try have hl0 : w.heap.size ≤ w2.heap.size := by omega); (try have hl1 : w.heap.size + 1 < w2.heap.size := by omega); (try have hl1 : w.heap.size + 1 ≤ w2.heap.size := by omega)))
    go_ret
    exact ⟨rfl, by (repeat (first | with_reducible exact Ext.refl _ | with_reducible assumption | with_reducible refine Ext.alloc ?_ _ | with_reducible refine Ext.drew ?_ | with_reducible refine Ext.drewN ?_ _ | (with_reducible refine Ext.setCell ?_ ?hsc _; case hsc => (simp <;> omega)) | with_reducible refine Ext.trans ?_ (by assumption)))⟩
  · go_enter Try.func48, Try.ntmps48
    go_wp2_with (first | (go_at_call 52; (with_reducible refine (within_one _ _ _ _ _ (by simp)).mono ?_); rintro e w2 ⟨rfl, hb2⟩; obtain ⟨hr1, hr2⟩ := hb2.rules; have hz2 := hb2.size; (try simp at hz2); (try have hl0 : w.heap.size < w2.heap.size := by omega); (try have hl0 : w.heap.size ≤ w2.heap.size := by omega); (try have hl1 : w.heap.size + 1 < w2.heap.size := by omega); (try have hl1 : w.heap.size + 1 ≤ w2.heap.size := by omega)) | (go_at_call 78; refine (isBell_any _ _).mono ?_; rintro e w2 ⟨rfl, hb2⟩; obtain ⟨hr1, hr2⟩ := hb2.rules; have hz2 := hb2.size; (try simp at hz2); (try have hl0 : w.heap.size < w2.heap.size := by omega); (try have hl0 : w.heap.size ≤ w2.heap.size := by omega); (try have hl1 : w.heap.size + 1 < w2.heap.size := by omega); (try have hl1 : w.heap.size + 1 ≤ w2.heap.size := by omega)))
    go_ret
    exact ⟨rfl, by (repeat (first | with_reducible exact Ext.refl _ | with_reducible assumption | with_reducible refine Ext.alloc ?_ _ | with_reducible refine Ext.drew ?_ | with_reducible refine Ext.drewN ?_ _ | (with_reducible refine Ext.setCell ?_ ?hsc _; case hsc => (simp <;> omega)) | with_reducible refine Ext.trans ?_ (by assumption)))⟩

/-- Works, as plain data. -/
structure Wk where
  steps : Int
  sections : Int
  runs : List Int
  tunes : Int
  hammers : List (Int × Int)
  pins : List (Int × Int)

structure RdW (w : World) (c : Wk) (a1 : Option Addr) (c1 : Nat) (a2 : Option Addr) (c2 : Nat) (a3 : Option Addr) (c3 : Nat) : Prop where
  runs : Row 1 encI w a1 c1 c.runs
  hammers : Row 2 encP w a2 c2 c.hammers
  pins : Row 2 encP w a3 c3 c.pins

theorem RdW.ext {w w' : World} (c : Wk) (a1 : Option Addr) (c1 : Nat) (a2 : Option Addr) (c2 : Nat) (a3 : Option Addr) (c3 : Nat) (hw : RdW w c a1 c1 a2 c2 a3 c3) (e : Ext w w') : RdW w' c a1 c1 a2 c2 a3 c3 := ⟨hw.runs.ext e, hw.hammers.ext e, hw.pins.ext e⟩

def pinOk (c : Wk) (p : Int × Int) : Bool := inn 0 (c.hammers.length * c.tunes - 1) p.1 && inn 0 (c.steps - 1) p.2

set_option maxHeartbeats 400000 in
theorem isPin_any (c : Wk) (a1 : Option Addr) (c1 : Nat) (a2 : Option Addr) (c2 : Nat) (a3 : Option Addr) (c3 : Nat) (p : Int × Int) (w : World) (h1 : c.hammers.length ≤ 40) (h2 : 0 ≤ c.tunes) (h3 : c.tunes ≤ 8) (h4 : 0 ≤ c.steps) (h5 : c.steps ≤ 1000) :
    Calls Try.prog 50 #[(.agg #[.int .i64 c.steps, .int .i64 c.sections, .slice a1 c.runs.length c1, .int .i64 c.tunes, .slice a2 c.hammers.length c2, .slice a3 c.pins.length c3]), valP p] w fun e w' => e = .returned (.bool (pinOk c p)) ∧ Ext w w' := by
  unfold valP pinOk
  have h6 : 0 ≤ (c.hammers.length : Int) * c.tunes := Int.mul_nonneg (by omega) h2
  have h7 : (c.hammers.length : Int) * c.tunes ≤ 40 * 8 := Int.mul_le_mul (by omega) h3 h2 (by omega)
  cases hx : inn 0 (c.hammers.length * c.tunes - 1) p.1
  all_goals
    go_enter Try.func50, Try.ntmps50
    go_wp2_with (first | (go_at_call 52; (with_reducible refine (within_one _ _ _ _ _ (by simp)).mono ?_); rintro e w2 ⟨rfl, hb2⟩; obtain ⟨hr1, hr2⟩ := hb2.rules; have hz2 := hb2.size; (try simp at hz2); (try have hl0 : w.heap.size < w2.heap.size := by omega); (try have hl0 : w.heap.size ≤ w2.heap.size := by omega); (try have hl1 : w.heap.size + 1 < w2.heap.size := by omega); (try have hl1 : w.heap.size + 1 ≤ w2.heap.size := by omega)))

    go_ret
    exact ⟨rfl, by (repeat (first | with_reducible exact Ext.refl _ | with_reducible assumption | with_reducible refine Ext.alloc ?_ _ | with_reducible refine Ext.drew ?_ | with_reducible refine Ext.drewN ?_ _ | (with_reducible refine Ext.setCell ?_ ?hsc _; case hsc => (simp <;> omega)) | with_reducible refine Ext.trans ?_ (by assumption)))⟩

def partsOk (c : Wk) : Bool := inn 1 1000 c.steps && inn 1 c.steps c.sections && (c.steps % c.sections == 0) && inn 1 8 c.runs.length && c.runs.all (inn 1 c.sections) && inn 1 8 c.tunes

set_option maxHeartbeats 1000000 in
theorem areParts_any (c : Wk) (a1 : Option Addr) (c1 : Nat) (a2 : Option Addr) (c2 : Nat) (a3 : Option Addr) (c3 : Nat) (w : World) (hw : RdW w c a1 c1 a2 c2 a3 c3) :
    Calls Try.prog 51 #[(.agg #[.int .i64 c.steps, .int .i64 c.sections, .slice a1 c.runs.length c1, .int .i64 c.tunes, .slice a2 c.hammers.length c2, .slice a3 c.pins.length c3])] w fun e w' => e = .returned (.bool (partsOk c)) ∧ Ext w w' := by
  have hlen := hw.runs.len
  have HR := Lib.hid hw.runs
  clear hw
  unfold partsOk
  cases h1 : inn 1 1000 c.steps
  · go_enter Try.func51, Try.ntmps51
    go_wp2_with (first | (go_at_call 52; (with_reducible refine (within_one _ _ _ _ _ (by simp)).mono ?_); rintro e w2 ⟨rfl, hb2⟩; obtain ⟨hr1, hr2⟩ := hb2.rules; have hz2 := hb2.size; (try simp at hz2); (try have hl0 : w.heap.size < w2.heap.size := by omega); (try have hl0 : w.heap.size ≤ w2.heap.size := by omega); (try have hl1 : w.heap.size + 1 < w2.heap.size := by omega); (try have hl1 : w.heap.size + 1 ≤ w2.heap.size := by omega)))
    go_ret
    exact ⟨rfl, by (repeat (first | with_reducible exact Ext.refl _ | with_reducible assumption | with_reducible refine Ext.alloc ?_ _ | with_reducible refine Ext.drew ?_ | with_reducible refine Ext.drewN ?_ _ | (with_reducible refine Ext.setCell ?_ ?hsc _; case hsc => (simp <;> omega)) | with_reducible refine Ext.trans ?_ (by assumption)))⟩
  have hs := inn_iff.1 h1
  obtain ⟨hs1, hs2⟩ := hs
  cases h2 : inn 1 c.steps c.sections
  · go_enter Try.func51, Try.ntmps51
    go_wp2_with (first | (go_at_call 52; (with_reducible refine (within_one _ _ _ _ _ (by simp)).mono ?_); rintro e w2 ⟨rfl, hb2⟩; obtain ⟨hr1, hr2⟩ := hb2.rules; have hz2 := hb2.size; (try simp at hz2); (try have hl0 : w.heap.size < w2.heap.size := by omega); (try have hl0 : w.heap.size ≤ w2.heap.size := by omega); (try have hl1 : w.heap.size + 1 < w2.heap.size := by omega); (try have hl1 : w.heap.size + 1 ≤ w2.heap.size := by omega)))
    go_ret
    exact ⟨rfl, by (repeat (first | with_reducible exact Ext.refl _ | with_reducible assumption | with_reducible refine Ext.alloc ?_ _ | with_reducible refine Ext.drew ?_ | with_reducible refine Ext.drewN ?_ _ | (with_reducible refine Ext.setCell ?_ ?hsc _; case hsc => (simp <;> omega)) | with_reducible refine Ext.trans ?_ (by assumption)))⟩
  have ht := inn_iff.1 h2
  obtain ⟨ht1, ht2⟩ := ht
  cases h3 : (c.steps % c.sections == 0)
  · go_enter Try.func51, Try.ntmps51
    go_wp2_with (first | (go_at_call 52; (with_reducible refine (within_one _ _ _ _ _ (by simp)).mono ?_); rintro e w2 ⟨rfl, hb2⟩; obtain ⟨hr1, hr2⟩ := hb2.rules; have hz2 := hb2.size; (try simp at hz2); (try have hl0 : w.heap.size < w2.heap.size := by omega); (try have hl0 : w.heap.size ≤ w2.heap.size := by omega); (try have hl1 : w.heap.size + 1 < w2.heap.size := by omega); (try have hl1 : w.heap.size + 1 ≤ w2.heap.size := by omega)))
    go_ret
    exact ⟨rfl, by (repeat (first | with_reducible exact Ext.refl _ | with_reducible assumption | with_reducible refine Ext.alloc ?_ _ | with_reducible refine Ext.drew ?_ | with_reducible refine Ext.drewN ?_ _ | (with_reducible refine Ext.setCell ?_ ?hsc _; case hsc => (simp <;> omega)) | with_reducible refine Ext.trans ?_ (by assumption)))⟩
  cases h4 : inn 1 8 c.runs.length
  · go_enter Try.func51, Try.ntmps51
    go_wp2_with (first | (go_at_call 52; (with_reducible refine (within_one _ _ _ _ _ (by simp)).mono ?_); rintro e w2 ⟨rfl, hb2⟩; obtain ⟨hr1, hr2⟩ := hb2.rules; have hz2 := hb2.size; (try simp at hz2); (try have hl0 : w.heap.size < w2.heap.size := by omega); (try have hl0 : w.heap.size ≤ w2.heap.size := by omega); (try have hl1 : w.heap.size + 1 < w2.heap.size := by omega); (try have hl1 : w.heap.size + 1 ≤ w2.heap.size := by omega)))
    go_ret
    exact ⟨rfl, by (repeat (first | with_reducible exact Ext.refl _ | with_reducible assumption | with_reducible refine Ext.alloc ?_ _ | with_reducible refine Ext.drew ?_ | with_reducible refine Ext.drewN ?_ _ | (with_reducible refine Ext.setCell ?_ ?hsc _; case hsc => (simp <;> omega)) | with_reducible refine Ext.trans ?_ (by assumption)))⟩
  cases h5 : c.runs.all (inn 1 c.sections)
  all_goals
    go_enter Try.func51, Try.ntmps51
    go_wp2_with (first | (go_at_call 52; (with_reducible refine (within_one _ _ _ _ _ (by simp)).mono ?_); rintro e w2 ⟨rfl, hb2⟩; obtain ⟨hr1, hr2⟩ := hb2.rules; have hz2 := hb2.size; (try simp at hz2); (try have hl0 : w.heap.size < w2.heap.size := by omega); (try have hl0 : w.heap.size ≤ w2.heap.size := by omega); (try have hl1 : w.heap.size + 1 < w2.heap.size := by omega); (try have hl1 : w.heap.size + 1 ≤ w2.heap.size := by omega)) | (go_at_call 52; (with_reducible refine (within_any _ _ c.runs _ _ _ (HR.out.ext (by (repeat (first | with_reducible exact Ext.refl _ | with_reducible assumption | with_reducible refine Ext.alloc ?_ _ | with_reducible refine Ext.drew ?_ | with_reducible refine Ext.drewN ?_ _ | (with_reducible refine Ext.setCell ?_ ?hsc _; case hsc => (simp <;> omega)) | with_reducible refine Ext.trans ?_ (by assumption)))))).mono ?_); rintro e w2 ⟨rfl, hb2⟩; obtain ⟨hr1, hr2⟩ := hb2.rules; have hz2 := hb2.size; (try simp at hz2); (try have hl0 : w.heap.size < w2.heap.size := by omega); (try have hl0 : w.heap.size ≤ w2.heap.size := by omega); (try have hl1 : w.heap.size + 1 < w2.heap.size := by omega); (try have hl1 : w.heap.size + 1 ≤ w2.heap.size := by omega)))
    go_ret
    exact ⟨rfl, by (repeat (first | with_reducible exact Ext.refl _ | with_reducible assumption | with_reducible refine Ext.alloc ?_ _ | with_reducible refine Ext.drew ?_ | with_reducible refine Ext.drewN ?_ _ | (with_reducible refine Ext.setCell ?_ ?hsc _; case hsc => (simp <;> omega)) | with_reducible refine Ext.trans ?_ (by assumption)))⟩

end Go.Proofs.Ytdgplebmlggmcaa
/- Slices that a call builds by append: they read as lists, and lie in a block that nothing else uses. -/
namespace Go.Proofs.Ytdgplebmlggmcaa
open Go.RowKit

/-- From w to w' nothing has turned but the block of v and new blocks; v' lies in the block of v, or in a new one. -/
structure Grew (w : World) (v : Value) (w' : World) (v' : Value) : Prop where
  os : w'.os = w.os
  tape : w'.tape = w.tape
  output : w'.output = w.output
  size : w.heap.size ≤ w'.heap.size
  block : ∀ b, b < w.heap.size → v.ownBlock ≠ some b → w'.heap[b]? = w.heap[b]?
  own : v'.ownBlock = v.ownBlock ∨ ∀ g, v'.ownBlock = some g → w.heap.size ≤ g

theorem Grew.refl (w : World) (v : Value) : Grew w v w v := ⟨rfl, rfl, rfl, Nat.le_refl _, fun _ _ _ => rfl, .inl rfl⟩

theorem Grew.trans {a b c : World} {u v x : Value} (h : Grew a u b v) (k : Grew b v c x) : Grew a u c x := by
  refine ⟨k.os.trans h.os, k.tape.trans h.tape, k.output.trans h.output, Nat.le_trans h.size k.size, fun i hi hu => ?_, ?_⟩
  · refine (k.block i (Nat.lt_of_lt_of_le hi h.size) ?_).trans (h.block i hi hu)
    rcases h.own with e | e
    · rw [e]; exact hu
    · intro e2; exact absurd (e i e2) (by omega)
  · rcases k.own with e | e
    · rcases h.own with e2 | e2
      · exact .inl (e.trans e2)
      · exact .inr (by rw [e]; exact e2)
    · exact .inr fun g hg => Nat.le_trans h.size (e g hg)

theorem Grew.low {w w' : World} {v v' : Value} (h : Grew w v w' v') {n : Nat} (hl : ∀ b, v.ownBlock = some b → n ≤ b) (hn : n ≤ w.heap.size) : ∀ b, v'.ownBlock = some b → n ≤ b := fun b hb => by
  rcases h.own with e | e
  · exact hl b (by rw [← e]; exact hb)
  · exact Nat.le_trans hn (e b hb)

theorem Grew.of_ext {w w' : World} (h : Ext w w') (v : Value) : Grew w v w' v := ⟨h.os, h.tape, h.output, h.size, fun b hb _ => h.block b hb, .inl rfl⟩

/-- A call, a new block, a draw. -/
theorem Grew.call {w w1 w2 : World} {v v1 : Value} (h : Grew w v w1 v1) (e : Ext w1 w2) : Grew w v w2 v1 := h.trans (Grew.of_ext e v1)
theorem Grew.alloc {w w1 : World} {v v1 : Value} (h : Grew w v w1 v1) (o : Obj) : Grew w v (w1.alloc o) v1 := h.call ((Ext.refl _).alloc o)
theorem Grew.drew {w w1 : World} {v v1 : Value} (h : Grew w v w1 v1) : Grew w v w1.drew v1 := h.call (Ext.refl _).drew
theorem Grew.drewN {w w1 : World} {v v1 : Value} (h : Grew w v w1 v1) (n : Nat) : Grew w v (w1.drewN n) v1 := h.call ((Ext.refl _).drewN n)

/-- From nil on: nothing that lay in w has turned. -/
theorem Grew.ext {w w' : World} {v v' : Value} (h : Grew w v w' v') (hv : v.ownBlock = none) : Ext w w' :=
  ⟨h.os, h.tape, h.output, h.size, fun b hb => h.block b hb (by rw [hv]; exact fun e => by cases e)⟩

theorem Grew.cell {w w' : World} {v v' : Value} (h : Grew w v w' v') {b : Nat} (o : Nat) (hb : b < w.heap.size) (hne : v.ownBlock ≠ some b) : w'.cell? ⟨b, o, none⟩ = w.cell? ⟨b, o, none⟩ :=
  World.cell?_of_block (w := w) (h.block b hb hne)
theorem Grew.frozen {w w' : World} {v v' : Value} (h : Grew w v w' v') {b : Nat} (o : Nat) (hb : b < w.heap.size) (hne : v.ownBlock ≠ some b) : w'.frozen? ⟨b, o, none⟩ = w.frozen? ⟨b, o, none⟩ :=
  World.frozen?_of_block (w := w) (h.block b hb hne)

/-- v is a slice of the call's own that holds xs. -/
def OwnL {α : Type} (k : Nat) (enc : α → List Value) (e : TypeId) (w : World) (v : Value) (xs : List α) : Prop :=
  w.ownsRow 0 e k v xs.length (xs.flatMap enc)

theorem flat_get {α : Type} {k : Nat} {enc : α → List Value} (hk : ∀ x, (enc x).length = k) : ∀ (xs : List α) (j : Nat) (hj : j < xs.length) (i : Nat), i < k → (xs.flatMap enc)[j * k + i]? = (enc xs[j])[i]?
  | [], j, hj, _, _ => absurd hj (Nat.not_lt_zero _)
  | x :: xs, 0, _, i, hi => by
    rw [List.flatMap_cons, Nat.zero_mul, Nat.zero_add, List.getElem?_append_left (by rw [hk]; exact hi)]
    rfl
  | x :: xs, j + 1, hj, i, hi => by
    rw [List.flatMap_cons, List.getElem?_append_right (by rw [hk, Nat.add_mul]; omega), hk, show (j + 1) * k + i - k = j * k + i by rw [Nat.add_mul]; omega]
    exact flat_get hk xs j (by simpa using hj) i hi

theorem flat_len {α : Type} {k : Nat} {enc : α → List Value} (hk : ∀ x, (enc x).length = k) (xs : List α) : (xs.flatMap enc).length = xs.length * k := by
  induction xs with
  | nil => simp
  | cons x xs ih => rw [List.flatMap_cons, List.length_append, hk, ih, List.length_cons, Nat.add_mul]; omega

theorem OwnL.sl {α : Type} {k : Nat} {enc : α → List Value} {e : TypeId} {w : World} {v : Value} {xs : List α} (h : OwnL k enc e w v xs) (hk : ∀ x, (enc x).length = k) : Sl k enc w v xs :=
  Sl.of_owns h rfl fun j hj i hi => flat_get hk xs j hj i hi

theorem OwnL.nil {α : Type} (k : Nat) (enc : α → List Value) (e : TypeId) (w : World) : OwnL k enc e w (.slice none 0 0) ([] : List α) := World.ownsRow_nil _ _ _ _

theorem OwnL.empty {α : Type} (k : Nat) (enc : α → List Value) (e : TypeId) (w : World) : OwnL k enc e (w.alloc (.cells #[] e)) (.slice (some ⟨w.heap.size, 0, none⟩) 0 0) ([] : List α) := by
  refine ⟨by simp, .inr ⟨w.heap.size, 0, #[], rfl, Nat.zero_le _, heap_alloc_new w _, Nat.le_refl _, Nat.zero_le _, by simp, by simp⟩⟩

theorem OwnL.kept {α : Type} {k : Nat} {enc : α → List Value} {e : TypeId} {w w' : World} {v : Value} {xs : List α} (h : OwnL k enc e w v xs) (x : Ext w w') : OwnL k enc e w' v xs :=
  World.ownsRow.kept h (w' := w') (row := none) ⟨x.os, x.tape, x.output, x.size, fun k hk _ => x.block k hk⟩ (by cases hv : v.ownBlock <;> simp)

theorem OwnL.lt {α : Type} {k : Nat} {enc : α → List Value} {e : TypeId} {w : World} {v : Value} {xs : List α} (h : OwnL k enc e w v xs) (b : Nat) (hb : v.ownBlock = some b) : b < w.heap.size :=
  (World.ownsRow.lt h b hb).2

/-- The block of such a slice is none of those that are made later. -/
theorem OwnL.ne {α : Type} {k : Nat} {enc : α → List Value} {e : TypeId} {w : World} {v : Value} {xs : List α} (h : OwnL k enc e w v xs) (b : Nat) (hb : w.heap.size ≤ b) : v.ownBlock ≠ some b := fun e2 => by
  have := h.lt b e2; omega

/-- Behind an append: the list is longer; nothing else has turned. -/
theorem OwnL.grew {w w' : World} {v v' : Value} (hg : w.grownBy w' v.ownBlock) (hat : v'.ownBlock = v.ownBlock ∨ v'.ownBlock = some w.heap.size) : Grew w v w' v' :=
  ⟨hg.os, hg.tape, hg.output, hg.size, fun b hb hne => hg.block b hb (fun e => hne e.symm), hat.imp id fun e g hg => by rw [e] at hg; cases hg; exact Nat.le_refl _⟩

section
variable {P : Program} {w : World} {α : Type}

/-- 'append(s, ys...)' for a slice of the call's own. -/
theorem wpList_append_L {ops : Array Oper} {rest : List Oper} {o : Oper} {a : Act} {Q : Exit → Act → World → Prop} (hgd : o.guard = none) (s x : Operand) (t : TypeId)
    (ho : o.op = .call { callee := .builtin .append, args := #[s, x], argTypes := #[t, t] })
    (k : Nat) (enc : α → List Value) (hk : ∀ x, (enc x).length = k) (hone : ∀ x, ∀ u ∈ enc x, u.oneCell' = true) (hk0 : 0 < k)
    (e : TypeId) (i : TypeInfo) (z : Value) (bytes : Nat) (ht : P.underlying t = some (.slice e)) (hi : P.info? e = some i) (hz : i.zero = some z)
    (hsize : i.size = k) (hby : i.bytes = bytes) (hzs : z.cells.size = k)
    (v : Value) (xs : List α) (hs : a.eval s = v) (hown : OwnL k enc e w v xs)
    (b off n c : Nat) (ys : List α) (hx : a.eval x = .slice (some ⟨b, off, none⟩) n c) (hn : n = ys.length) (hys : Row k enc w (some ⟨b, off, none⟩) c ys)
    (h63 : xs.length + ys.length ≤ maxLen) (hbytes : (xs.length + ys.length) * bytes ≤ 140737488355328)
    (h : ∀ v' w', OwnL k enc e w' v' (xs ++ ys) → Grew w v w' v' → wpList P ops Q rest (a.put o.dst v') w') : wpList P ops Q (o :: rest) a w := by
  subst hn
  refine wpList_append_own_at w hgd s x t ho 0 e i z k bytes ht hi hz hsize hby hzs hk0 v xs.length (xs.flatMap enc) hs hown ⟨b, off, none⟩ ys.length c (ys.flatMap enc) hx (flat_len hk ys) ?_ ?_ h63 hbytes (Nat.zero_le _) ?_
  · intro j u hu
    have hadd : (⟨b, off, none⟩ : Addr).add j = ⟨b, off + j, none⟩ := by unfold Addr.add; split <;> simp_all
    have hjl : j < ys.length * k := by
      rw [← flat_len hk ys]
      exact (List.getElem?_eq_some_iff.1 hu).1
    have hq : j / k < ys.length := Nat.div_lt_of_lt_mul (by rw [Nat.mul_comm]; exact hjl)
    have hr : j % k < k := Nat.mod_lt _ hk0
    have hd : j / k * k + j % k = j := by rw [Nat.mul_comm]; exact Nat.div_add_mod j k
    obtain ⟨b', off', hab, _, hc⟩ := hys.at' (j / k) hq
    cases hab
    rw [hadd, ← hd, ← Nat.add_assoc, hc _ hr, ← flat_get hk ys _ hq _ hr, hd, hu]
  · intro u hu
    obtain ⟨y, _, hy⟩ := List.mem_flatMap.1 hu
    exact hone y u hy
  · intro v' w' hown' hg _ hat
    refine h v' w' ?_ (OwnL.grew hg hat)
    unfold OwnL
    rw [List.length_append, List.flatMap_append]
    exact hown'

/-- 'append(s, y)': the one element lies in a block of its own. -/
theorem wpList_append_one {ops : Array Oper} {rest : List Oper} {o : Oper} {a : Act} {Q : Exit → Act → World → Prop} (hgd : o.guard = none) (s x : Operand) (t : TypeId)
    (ho : o.op = .call { callee := .builtin .append, args := #[s, x], argTypes := #[t, t] })
    (k : Nat) (enc : α → List Value) (hk : ∀ x, (enc x).length = k) (hone : ∀ x, ∀ u ∈ enc x, u.oneCell' = true) (hk0 : 0 < k)
    (e : TypeId) (i : TypeInfo) (z : Value) (bytes : Nat) (ht : P.underlying t = some (.slice e)) (hi : P.info? e = some i) (hz : i.zero = some z)
    (hsize : i.size = k) (hby : i.bytes = bytes) (hzs : z.cells.size = k)
    (v : Value) (xs : List α) (hs : a.eval s = v) (hown : OwnL k enc e w v xs)
    (b c : Nat) (y : α) (hx : a.eval x = .slice (some ⟨b, 0, none⟩) 1 c) (hb : ∃ cs tt, w.heap[b]? = some (.cells cs tt (0, 0)) ∧ cs.toList = enc y) (hc1 : 1 ≤ c) (hcm : c ≤ maxLen)
    (h63 : xs.length + 1 ≤ maxLen) (hbytes : (xs.length + 1) * bytes ≤ 140737488355328)
    (h : ∀ v' w', OwnL k enc e w' v' (xs ++ [y]) → Grew w v w' v' → wpList P ops Q rest (a.put o.dst v') w') : wpList P ops Q (o :: rest) a w := by
  refine wpList_append_L hgd s x t ho k enc hk hone hk0 e i z bytes ht hi hz hsize hby hzs v xs hs hown b 0 1 c [y] hx rfl ⟨hc1, hcm, fun j hj => ⟨b, 0, rfl, ?_, fun i hi => ?_⟩⟩ h63 hbytes h
  · obtain ⟨cs, tt, hb, _⟩ := hb
    rcases Nat.lt_or_ge b w.heap.size with h | h
    · exact h
    · rw [Array.getElem?_eq_none h] at hb; cases hb
  · have hj0 : j = 0 := by simp at hj; omega
    subst hj0
    obtain ⟨cs, tt, hb, he⟩ := hb
    rw [Nat.zero_mul, Nat.zero_add, cell_of_row w b i cs tt (0, 0) hb]
    simp [← he]

end

/-- 's[l:]': some slice that reads as the rest. -/
theorem slice_from {P : Program} {α : Type} {k : Nat} (enc : α → List Value) (t e : TypeId) (he : P.elem t = e) (hu : P.underlying t = some (.slice e)) (hs : ∀ w, (sizeOf e).run P w = .ok k w)
    (a : Option Addr) (c : Nat) (xs : List α) (l : Int) (n : Nat) (hl : l = n) (hn : n ≤ xs.length) (hc : xs.length ≤ c) :
    ∃ A C, (∀ W, (Instr.slice t (.slice a xs.length c) (some (.int .i64 l)) none none).run P W = .ok (.slice A (xs.length - n) C) W) ∧ ∀ W, Row k enc W a c xs → Row k enc W A C (xs.drop n) := by
  subst hl
  refine ⟨if c = n then a else a.map (·.add (n * k)), c - n, fun W => ?_, fun W hr => ?_⟩
  · rw [run_slice_l W t a xs.length c (by rw [he]; exact hu) .i64 (n : Int) (by omega) (by omega), he, hs W]
    rfl
  · by_cases hcn : c = n
    · rw [if_pos hcn]
      have h0 : xs.drop n = [] := List.drop_eq_nil_of_le (by omega)
      rw [h0]
      exact ⟨Nat.zero_le _, by have := hr.top; omega, fun j hj => absurd hj (Nat.not_lt_zero _)⟩
    · rw [if_neg hcn]
      by_cases h0 : n < xs.length
      · obtain ⟨b, off, rfl, _, _⟩ := hr.at' n h0
        have := hr.drop n hn
        have hadd : (⟨b, off, none⟩ : Addr).add (n * k) = ⟨b, off + n * k, none⟩ := by unfold Addr.add; split <;> simp_all
        simpa [hadd] using this
      · have h0 : xs.drop n = [] := List.drop_eq_nil_of_le (by omega)
        rw [h0]
        exact ⟨Nat.zero_le _, by have := hr.top; omega, fun j hj => absurd hj (Nat.not_lt_zero _)⟩

theorem encI_len (x : Int) : (encI x).length = 1 := rfl
theorem encP_len (x : Int × Int) : (encP x).length = 2 := rfl
theorem encI_one (x : Int) : ∀ u ∈ encI x, u.oneCell' = true := by intro u hu; simp [encI] at hu; subst hu; rfl
theorem encP_one (x : Int × Int) : ∀ u ∈ encP x, u.oneCell' = true := by intro u hu; simp [encP] at hu; rcases hu with rfl | rfl <;> rfl

end Go.Proofs.Ytdgplebmlggmcaa
/- Maps whose keys are pairs of ints; distinct: whether no two elements are equal. -/
namespace Go.Proofs.Ytdgplebmlggmcaa
open Go.RowKit Go.Maps

/-- An int of 64 bits. -/
def in64 (x : Int) : Prop := -9223372036854775808 ≤ x ∧ x ≤ 9223372036854775807
theorem in64.wf {x : Int} (h : in64 x) : (Lit.int .i64 x).wf = true := by
  obtain ⟨h1, h2⟩ := h
  have e1 : IntKind.i64.min = -9223372036854775808 := by decide
  have e2 : IntKind.i64.max = 9223372036854775807 := by decide
  simp [Lit.wf]
  omega

theorem one_of {n : Nat} (h : Nat.ble 1 n = true) : ∃ m, n = m + 1 := ⟨n - 1, by have := Nat.le_of_ble_eq_true h; omega⟩

theorem types_pos : ∃ m, Try.prog.types.size = m + 1 := one_of (show Nat.ble 1 Try.prog.types.size = true by kernel_rfl)

theorem keyOf_two {P : Program} {k e : TypeId} {f0 f1 : Field} (hu : P.underlying k = some (.struct #[f0, f1])) (t0 : f0.type = e) (t1 : f1.type = e) (o0 : f0.offset = 0) (o1 : f1.offset = 1)
    (n0 : (f0.name != "_") = true) (n1 : (f1.name != "_") = true) (he : P.underlying e = some (.int .i64)) (hk : P.keyType k = true) (hc : P.cellsOf k = 2) (hce : P.cellsOf e = 1) (hsz : ∃ m, P.types.size = m + 1)
    {a b : Int} (wa : (Lit.int .i64 a).wf = true) (wb : (Lit.int .i64 b).wf = true) : keyOf P k (.agg #[.int .i64 a, .int .i64 b]) = some (.string (keyBytes [.int .i64 a, .int .i64 b])) := by
  obtain ⟨m, hm⟩ := hsz
  unfold keyOf
  simp only [hu]
  rw [if_pos (by simp [hk, Value.formed, hu, hc]), hm]
  unfold Program.keyLits
  simp only [hu, Value.cells]
  rw [if_pos (by refine ⟨by rw [hc]; rfl, ?_⟩; simp at n0 n1; simp [n0, n1])]
  simp [t0, t1, o0, o1, hce, Program.keyLits, he, wa, wb]

theorem snoc_rec {α : Type} {P : List α → Prop} (h0 : P []) (h1 : ∀ xs x, P xs → P (xs ++ [x])) (xs : List α) : P xs := by
  suffices h : ∀ ys : List α, P ys.reverse by simpa using h xs.reverse
  intro ys
  induction ys with
  | nil => exact h0
  | cons y ys ih => rw [List.reverse_cons]; exact h1 _ _ ih

/-- What a pair of ints reads as, as a key. -/
def pk (p : Int × Int) : Lit := .string (keyBytes [.int .i64 p.1, .int .i64 p.2])

theorem isKey_pk (p : Int × Int) : WideAt.IsKeyLit (pk p) := trivial

/-- How many different elements. -/
theorem addKey_spec (xs : List Lit) (h : ∀ x ∈ xs, WideAt.IsKeyLit x) :
    (∀ k, WideAt.IsKeyLit k → ((xs.foldl addKey []).any fun y => y.sameKey k) = xs.any fun y => y.sameKey k) ∧ (xs.foldl addKey []).length ≤ xs.length ∧ ((xs.foldl addKey []).length = xs.length ↔ xs.Nodup) := by
  induction xs using snoc_rec with
  | h0 => simp
  | h1 xs x ih =>
    obtain ⟨h1, h2, h3⟩ := ih (fun y hy => h y (by simp [hy]))
    have hx : WideAt.IsKeyLit x := h x (by simp)
    rw [List.foldl_append, List.foldl_cons, List.foldl_nil]
    have hm : (xs.any fun y => y.sameKey x) = true ↔ x ∈ xs := by
      rw [List.any_eq_true]
      constructor
      · rintro ⟨y, hy, e⟩
        rw [WideAt.sameKey_eq e] at hy; exact hy
      · intro hy
        exact ⟨x, hy, WideAt.sameKey_self hx⟩
    have hnd : (xs ++ [x]).Nodup ↔ xs.Nodup ∧ x ∉ xs := by
      rw [List.nodup_append]
      simp only [List.nodup_cons, List.not_mem_nil, not_false_eq_true, List.nodup_nil, and_self, true_and, List.mem_singleton, ne_eq, forall_eq]
      constructor
      · rintro ⟨a, b⟩; exact ⟨a, fun hx => b x hx rfl⟩
      · rintro ⟨a, b⟩; exact ⟨a, fun y hy e => b (e ▸ hy)⟩
    generalize xs.foldl addKey [] = L at *
    unfold addKey
    rw [h1 x hx]
    cases hb : (xs.any fun y => y.sameKey x)
    · have hn : x ∉ xs := fun e => by rw [hm.2 e] at hb; cases hb
      simp only [Bool.false_eq_true, if_false]
      refine ⟨fun k hk => ?_, by simp; omega, ?_⟩
      · rw [List.any_append, List.any_append, h1 k hk]
      · rw [hnd, List.length_append, List.length_append]
        simp only [List.length_singleton]
        constructor
        · intro e; exact ⟨h3.1 (by omega), hn⟩
        · intro e; have := h3.2 e.1; omega
    · have hn : x ∈ xs := hm.1 hb
      simp only [if_true]
      refine ⟨fun k hk => ?_, by simp; omega, ?_⟩
      · rw [List.any_append, h1 k hk]
        cases hk2 : x.sameKey k
        · simp [hk2]
        · have : x = k := WideAt.sameKey_eq hk2
          subst this
          rw [hb]; simp
      · rw [hnd, List.length_append]
        simp only [List.length_singleton]
        constructor
        · intro e; omega
        · intro e; exact absurd hn e.2

theorem size_nodup {H : Type} (u : DataW H) (xs : List Lit) (h : ∀ x ∈ xs, WideAt.IsKeyLit x) : (((Maps.size (setOf u xs) : Nat) : Int) == (xs.length : Int)) = true ↔ xs.Nodup := by
  rw [size_setOf u xs h, beq_iff_eq]
  have h3 := (addKey_spec xs h).2.2
  rw [← h3]
  omega


theorem keyOf_Pin (p : Int × Int) (h1 : in64 p.1) (h2 : in64 p.2) : keyOf Try.prog 89 (valP p) = some (pk p) := by
  obtain ⟨a, b⟩ := p
  exact keyOf_two Try.underlying89 rfl rfl rfl rfl rfl rfl Try.underlying3 (by kernel_rfl) (by kernel_rfl) (by kernel_rfl) types_pos h1.wf h2.wf

theorem keyed_Pin : Keyed Try.prog 89 := Keyed.of_law (deep_law_gate (P := Try.prog) (by kernel_rfl) (Nat.le_of_ble_eq_true (by kernel_rfl)) (Nat.le_of_ble_eq_true (by kernel_rfl)) (by kernel_rfl) (by kernel_rfl))

theorem pk_inj_Pin {p q : Int × Int} (hp : in64 p.1 ∧ in64 p.2) (hq : in64 q.1 ∧ in64 q.2) (h : pk p = pk q) : p = q := by
  have := keyed_Pin.inj (keyOf_Pin p hp.1 hp.2) (by rw [h]; exact keyOf_Pin q hq.1 hq.2)
  obtain ⟨a, b⟩ := p
  obtain ⟨c, d⟩ := q
  simpa [valP] using this

theorem nodup_pk_Pin (xs : List (Int × Int)) (h : ∀ p ∈ xs, in64 p.1 ∧ in64 p.2) : (xs.map pk).Nodup ↔ xs.Nodup := by
  constructor
  · intro hn
    rw [List.Nodup, List.pairwise_map] at hn
    exact hn.imp fun h e => h (by rw [e])
  · intro hn
    rw [List.Nodup, List.pairwise_map]
    exact List.Pairwise.imp_of_mem (fun {a b} ha hb hne e => hne (pk_inj_Pin (h a ha) (h b hb) e)) hn

set_option maxHeartbeats 400000 in
theorem distinct_Pin (xs : List (Int × Int)) (a : Option Addr) (c : Nat) (w : World) (hr : Row 2 encP w a c xs) (h64 : ∀ p ∈ xs, in64 p.1 ∧ in64 p.2) :
    Calls Try.prog 55 #[.slice a xs.length c] w fun e w' => e = .returned (.bool (decide xs.Nodup)) ∧ Ext w w' := by
  have hlen := hr.len
  have HR := Lib.hid hr
  have H64 := Lib.hid h64
  have HS : Hid ((((Maps.size (setOf (H := Unit) (.lit (.bool true)) (xs.map pk)) : Nat) : Int) == (xs.length : Int)) = decide xs.Nodup) := by
    have h := size_nodup (H := Unit) (.lit (.bool true)) (xs.map pk) (fun x hx => by obtain ⟨p, _, rfl⟩ := List.mem_map.1 hx; exact isKey_pk p)
    rw [List.length_map] at h
    show _ = _
    rw [Bool.eq_iff_iff, h, decide_eq_true_iff]
    exact nodup_pk_Pin xs h64
  clear hr h64
  have hmm := @run_makeMap Try.prog
  go_enter Try.func55, Try.ntmps55
  go_wp2
  go_loopw [9] (fun i wr => ∃ k : Nat, k ≤ xs.length ∧ i = .int .i64 k ∧ wr.ownsMap Try.prog 89 (plainElem Try.prog 4) w.heap.size k (setOf (H := Unit) (.lit (.bool true)) ((xs.take k).map pk)) ∧ Ext w wr)
    (fun i _ => xs.length - (intOf i).toNat)
  case atStart => exact ⟨0, Nat.zero_le _, rfl, by simpa [setOf] using World.ownsMap_made (H := Unit) w Try.prog 89 (plainElem Try.prog 4), (Ext.refl _).alloc _⟩
  case round =>
    obtain ⟨k, hk, rfl, hown, hnx⟩ := hrel
    have HO := Lib.hid hown
    clear hown
    by_cases hlt : k < xs.length
    · obtain ⟨b, off, rfl, hbl, hc0, hd0⟩ := HR.out.cellP k hlt
      have hc := (hnx.cell (off + k * 2) hbl).trans hc0
      have hd := (hnx.cell (off + k * 2 + 1) hbl).trans hd0
      clear hc0 hd0
      have hsz := hnx.size
      have HK := Lib.hid (keyOf_Pin xs[k] (H64.out _ (List.getElem_mem hlt)).1 (H64.out _ (List.getElem_mem hlt)).2)
      have HT : Hid (setOf (H := Unit) (.lit (.bool true)) ((xs.take (k + 1)).map pk) = (setOf (H := Unit) (.lit (.bool true)) ((xs.take k).map pk)).put (pk xs[k]) (.lit (.bool true))) := by
        show _ = _; rw [List.take_succ_eq_append_getElem hlt, List.map_append]
        exact setOf_snoc _ _ _
      generalize xs[k] = y at *
      have hky : keyOf Try.prog 89 (.agg #[.int .i64 y.1, .int .i64 y.2]) = some (pk y) := HK.out
      have HY := Lib.hid hky
      clear hky
      go_wp2_with (first
        | (at_mapUpdate; refine wpList_mapUpdate_own _ rfl _ _ _ 145 rfl 89 4 keyed_Pin Try.underlying145 (plainElem (H := Unit) Try.prog 4) w.heap.size k _ rfl (HO.out.alloc _) (by unfold maxLen; omega) _ _ _ rfl rfl HY.out _ [] (plainElem_bool Try.underlying4 true) ?_; intro w1 hown1 hgrow1))
      have HW := Lib.hid hown1
      clear hown1
      go_roundw
      case rel => exact ⟨k + 1, by omega, by go_num, by rw [HT.out]; exact HW.out, (hnx.alloc _).grown hgrow1 (fun j hj => by cases hj; exact Nat.le_refl _)⟩
      case measure => simp [intOf]; omega
    · have hke : k = xs.length := by omega
      subst hke
      go_wp2_with (first
        | (at_len; refine wpList_len_own _ rfl _ 145 rfl 89 4 Try.underlying145 _ w.heap.size _ _ rfl HO.out ?_))
      go_ret
      exact ⟨by rw [HS.out]; rfl, hnx⟩


theorem keyOf_Blow (p : Int × Int) (h1 : in64 p.1) (h2 : in64 p.2) : keyOf Try.prog 66 (valP p) = some (pk p) := by
  obtain ⟨a, b⟩ := p
  exact keyOf_two Try.underlying66 rfl rfl rfl rfl rfl rfl Try.underlying3 (by kernel_rfl) (by kernel_rfl) (by kernel_rfl) types_pos h1.wf h2.wf

theorem keyed_Blow : Keyed Try.prog 66 := Keyed.of_law (deep_law_gate (P := Try.prog) (by kernel_rfl) (Nat.le_of_ble_eq_true (by kernel_rfl)) (Nat.le_of_ble_eq_true (by kernel_rfl)) (by kernel_rfl) (by kernel_rfl))

theorem pk_inj_Blow {p q : Int × Int} (hp : in64 p.1 ∧ in64 p.2) (hq : in64 q.1 ∧ in64 q.2) (h : pk p = pk q) : p = q := by
  have := keyed_Blow.inj (keyOf_Blow p hp.1 hp.2) (by rw [h]; exact keyOf_Blow q hq.1 hq.2)
  obtain ⟨a, b⟩ := p
  obtain ⟨c, d⟩ := q
  simpa [valP] using this

theorem nodup_pk_Blow (xs : List (Int × Int)) (h : ∀ p ∈ xs, in64 p.1 ∧ in64 p.2) : (xs.map pk).Nodup ↔ xs.Nodup := by
  constructor
  · intro hn
    rw [List.Nodup, List.pairwise_map] at hn
    exact hn.imp fun h e => h (by rw [e])
  · intro hn
    rw [List.Nodup, List.pairwise_map]
    exact List.Pairwise.imp_of_mem (fun {a b} ha hb hne e => hne (pk_inj_Blow (h a ha) (h b hb) e)) hn

set_option maxHeartbeats 400000 in
theorem distinct_Blow (xs : List (Int × Int)) (a : Option Addr) (c : Nat) (w : World) (hr : Row 2 encP w a c xs) (h64 : ∀ p ∈ xs, in64 p.1 ∧ in64 p.2) :
    Calls Try.prog 91 #[.slice a xs.length c] w fun e w' => e = .returned (.bool (decide xs.Nodup)) ∧ Ext w w' := by
  have hlen := hr.len
  have HR := Lib.hid hr
  have H64 := Lib.hid h64
  have HS : Hid ((((Maps.size (setOf (H := Unit) (.lit (.bool true)) (xs.map pk)) : Nat) : Int) == (xs.length : Int)) = decide xs.Nodup) := by
    have h := size_nodup (H := Unit) (.lit (.bool true)) (xs.map pk) (fun x hx => by obtain ⟨p, _, rfl⟩ := List.mem_map.1 hx; exact isKey_pk p)
    rw [List.length_map] at h
    show _ = _
    rw [Bool.eq_iff_iff, h, decide_eq_true_iff]
    exact nodup_pk_Blow xs h64
  clear hr h64
  have hmm := @run_makeMap Try.prog
  go_enter Try.func91, Try.ntmps91
  go_wp2
  go_loopw [9] (fun i wr => ∃ k : Nat, k ≤ xs.length ∧ i = .int .i64 k ∧ wr.ownsMap Try.prog 66 (plainElem Try.prog 4) w.heap.size k (setOf (H := Unit) (.lit (.bool true)) ((xs.take k).map pk)) ∧ Ext w wr)
    (fun i _ => xs.length - (intOf i).toNat)
  case atStart => exact ⟨0, Nat.zero_le _, rfl, by simpa [setOf] using World.ownsMap_made (H := Unit) w Try.prog 66 (plainElem Try.prog 4), (Ext.refl _).alloc _⟩
  case round =>
    obtain ⟨k, hk, rfl, hown, hnx⟩ := hrel
    have HO := Lib.hid hown
    clear hown
    by_cases hlt : k < xs.length
    · obtain ⟨b, off, rfl, hbl, hc0, hd0⟩ := HR.out.cellP k hlt
      have hc := (hnx.cell (off + k * 2) hbl).trans hc0
      have hd := (hnx.cell (off + k * 2 + 1) hbl).trans hd0
      clear hc0 hd0
      have hsz := hnx.size
      have HK := Lib.hid (keyOf_Blow xs[k] (H64.out _ (List.getElem_mem hlt)).1 (H64.out _ (List.getElem_mem hlt)).2)
      have HT : Hid (setOf (H := Unit) (.lit (.bool true)) ((xs.take (k + 1)).map pk) = (setOf (H := Unit) (.lit (.bool true)) ((xs.take k).map pk)).put (pk xs[k]) (.lit (.bool true))) := by
        show _ = _; rw [List.take_succ_eq_append_getElem hlt, List.map_append]
        exact setOf_snoc _ _ _
      generalize xs[k] = y at *
      have hky : keyOf Try.prog 66 (.agg #[.int .i64 y.1, .int .i64 y.2]) = some (pk y) := HK.out
      have HY := Lib.hid hky
      clear hky
      go_wp2_with (first
        | (at_mapUpdate; refine wpList_mapUpdate_own _ rfl _ _ _ 105 rfl 66 4 keyed_Blow Try.underlying105 (plainElem (H := Unit) Try.prog 4) w.heap.size k _ rfl (HO.out.alloc _) (by unfold maxLen; omega) _ _ _ rfl rfl HY.out _ [] (plainElem_bool Try.underlying4 true) ?_; intro w1 hown1 hgrow1))
      have HW := Lib.hid hown1
      clear hown1
      go_roundw
      case rel => exact ⟨k + 1, by omega, by go_num, by rw [HT.out]; exact HW.out, (hnx.alloc _).grown hgrow1 (fun j hj => by cases hj; exact Nat.le_refl _)⟩
      case measure => simp [intOf]; omega
    · have hke : k = xs.length := by omega
      subst hke
      go_wp2_with (first
        | (at_len; refine wpList_len_own _ rfl _ 105 rfl 66 4 Try.underlying105 _ w.heap.size _ _ rfl HO.out ?_))
      go_ret
      exact ⟨by rw [HS.out]; rfl, hnx⟩

end Go.Proofs.Ytdgplebmlggmcaa
/- Check, modulo, apart, hammer of package chime. -/
namespace Go.Proofs.Ytdgplebmlggmcaa
open Go.RowKit

/-- Works whose cells lie in block B. -/
structure AtW (W : World) (B : Nat) (c : Wk) (a1 : Option Addr) (c1 : Nat) (a2 : Option Addr) (c2 : Nat) (a3 : Option Addr) (c3 : Nat) : Prop where
  lt : B < W.heap.size
  k0 : W.cell? ⟨B, 0, none⟩ = some (.int .i64 c.steps)
  k1 : W.cell? ⟨B, 1, none⟩ = some (.int .i64 c.sections)
  k2 : W.cell? ⟨B, 2, none⟩ = some (.slice a1 c.runs.length c1)
  k3 : W.cell? ⟨B, 3, none⟩ = some (.int .i64 c.tunes)
  k4 : W.cell? ⟨B, 4, none⟩ = some (.slice a2 c.hammers.length c2)
  k5 : W.cell? ⟨B, 5, none⟩ = some (.slice a3 c.pins.length c3)

theorem AtW.ext {W W' : World} {B : Nat} (c : Wk) (a1 : Option Addr) (c1 : Nat) (a2 : Option Addr) (c2 : Nat) (a3 : Option Addr) (c3 : Nat) (h : AtW W B c a1 c1 a2 c2 a3 c3) (e : Ext W W') : AtW W' B c a1 c1 a2 c2 a3 c3 :=
  ⟨Nat.lt_of_lt_of_le h.lt e.size, (e.cell _ h.lt).trans h.k0, (e.cell _ h.lt).trans h.k1, (e.cell _ h.lt).trans h.k2, (e.cell _ h.lt).trans h.k3, (e.cell _ h.lt).trans h.k4, (e.cell _ h.lt).trans h.k5⟩

theorem AtW.new (W : World) (t : TypeId) (c : Wk) (a1 : Option Addr) (c1 : Nat) (a2 : Option Addr) (c2 : Nat) (a3 : Option Addr) (c3 : Nat) : AtW (W.alloc (.cells #[.int .i64 c.steps, .int .i64 c.sections, .slice a1 c.runs.length c1, .int .i64 c.tunes, .slice a2 c.hammers.length c2, .slice a3 c.pins.length c3] t)) W.heap.size c a1 c1 a2 c2 a3 c3 := by
  refine ⟨by simp, ?_, ?_, ?_, ?_, ?_, ?_⟩ <;> (rw [cell_of_row _ W.heap.size _ _ t (0, 0) (heap_alloc_new W _)]; rfl)

theorem isNoHammer_any (h : Int × Int) (w : World) :
    Calls Try.prog 47 #[valP h] w fun e w' => e = .returned (.bool (!hamOk h)) ∧ Ext w w' := by
  unfold valP
  have hc : ∀ W, Hid (Calls Try.prog 48 #[.agg #[.int .i64 h.1, .int .i64 h.2]] W fun e w' => e = .returned (.bool (hamOk h)) ∧ Ext W w') := fun W => isHammer_any h W
  go_enter Try.func47, Try.ntmps47
  go_wp2_with (go_at_call 48; refine (hc _).out.mono ?_; rintro e w2 ⟨rfl, hb2⟩)
  go_ret
  exact ⟨rfl, by (repeat (first | with_reducible exact Ext.refl _ | with_reducible assumption | with_reducible refine Ext.alloc ?_ _ | with_reducible refine Ext.drew ?_ | with_reducible refine Ext.drewN ?_ _ | (with_reducible refine Ext.setCell ?_ ?hsc _; case hsc => (simp <;> omega)) | with_reducible refine Ext.trans ?_ (by assumption)))⟩

theorem isNoPin_any (c : Wk) (a1 : Option Addr) (c1 : Nat) (a2 : Option Addr) (c2 : Nat) (a3 : Option Addr) (c3 : Nat) (B : Nat) (p : Int × Int) (w : World) (hB : AtW w B c a1 c1 a2 c2 a3 c3) (h1 : c.hammers.length ≤ 40) (h2 : 0 ≤ c.tunes) (h3 : c.tunes ≤ 8) (h4 : 0 ≤ c.steps) (h5 : c.steps ≤ 1000) :
    Calls Try.prog 49 #[valP p, .pointer (some ⟨B, 0, none⟩)] w fun e w' => e = .returned (.bool (!pinOk c p)) ∧ Ext w w' := by
  have hc : ∀ W, Hid (Calls Try.prog 50 #[(.agg #[.int .i64 c.steps, .int .i64 c.sections, .slice a1 c.runs.length c1, .int .i64 c.tunes, .slice a2 c.hammers.length c2, .slice a3 c.pins.length c3]), .agg #[.int .i64 p.1, .int .i64 p.2]] W fun e w' => e = .returned (.bool (pinOk c p)) ∧ Ext W w') := fun W => isPin_any c a1 c1 a2 c2 a3 c3 p W h1 h2 h3 h4 h5
  unfold valP
  obtain ⟨hlt, k0, k1, k2, k3, k4, k5⟩ := hB
  go_enter Try.func49, Try.ntmps49
  go_wp2_with (go_at_call 50; refine (hc _).out.mono ?_; rintro e w2 ⟨rfl, hb2⟩)
  go_ret
  exact ⟨rfl, by (repeat (first | with_reducible exact Ext.refl _ | with_reducible assumption | with_reducible refine Ext.alloc ?_ _ | with_reducible refine Ext.drew ?_ | with_reducible refine Ext.drewN ?_ _ | (with_reducible refine Ext.setCell ?_ ?hsc _; case hsc => (simp <;> omega)) | with_reducible refine Ext.trans ?_ (by assumption)))⟩

theorem tmod_bounds (n m : Int) (hm : 0 < m) : -m < n.tmod m ∧ n.tmod m < m := by
  constructor
  · have := Int.tmod_lt_of_pos (-n) hm
    rw [Int.neg_tmod] at this; omega
  · exact Int.tmod_lt_of_pos n hm

theorem mod_eq (n m : Int) : (n.tmod m + m) % m = n % m := by
  rw [Int.add_emod_right]
  have h := Int.tmod_add_mul_tdiv n m
  have h2 : n.tmod m = n + m * (-(n.tdiv m)) := by rw [Int.mul_neg]; omega
  rw [h2, Int.add_mul_emod_self_left]

theorem modulo_any (n m : Int) (w : World) (h3 : 0 < m) (h4 : m ≤ 1000000000000) :
    Calls Try.prog 64 #[.int .i64 n, .int .i64 m] w fun e w' => e = .returned (.int .i64 (n % m)) ∧ w = w' := by
  obtain ⟨hb1, hb2⟩ := tmod_bounds n m h3
  have HM := Lib.hid (mod_eq n m)
  have hz : (m == 0) = false := by simp; omega
  have h5 : 0 ≤ n.tmod m + m := by omega
  go_enter Try.func64, Try.ntmps64
  go_wp2
  go_ret
  exact ⟨by rw [← HM.out]; rfl, rfl⟩

/-- How many steps of a turn lie between two of them. -/
def apartI (a b m : Int) : Int := min ((a - b) % m) ((b - a) % m)

theorem apart_any (a b m : Int) (w : World) (h1 : 0 ≤ a) (h2 : a ≤ 1000000) (h3 : 0 ≤ b) (h4 : b ≤ 1000000) (h5 : 0 < m) (h6 : m ≤ 1000000) :
    Calls Try.prog 56 #[.int .i64 a, .int .i64 b, .int .i64 m] w fun e w' => e = .returned (.int .i64 (apartI a b m)) ∧ w = w' := by
  have hm := fun n W => Lib.hid (modulo_any n m W h5 (by omega))
  go_enter Try.func56, Try.ntmps56
  go_wp2_with fail
  refine (hm _ _).out.mono ?_
  rintro e w' ⟨rfl, rfl⟩
  go_wp2_with fail
  refine (hm _ _).out.mono ?_
  rintro e w' ⟨rfl, rfl⟩
  go_wp2
  all_goals (go_ret; exact ⟨ret_int (by unfold apartI; omega), rfl⟩)

/-- The hammer that a pin lifts. -/
def ham (c : Wk) (p : Int × Int) : Int × Int := c.hammers.getD (p.1 / c.tunes).toNat (0, 0)

theorem ham_get (c : Wk) (p : Int × Int) (j : Nat) (hj : (p.1 / c.tunes).toNat = j) (hl : j < c.hammers.length) : ham c p = c.hammers[j] := by
  unfold ham; rw [hj, List.getD_eq_getElem?_getD, List.getElem?_eq_getElem hl]; rfl

set_option maxHeartbeats 400000 in
theorem hammer_any (c : Wk) (a1 : Option Addr) (c1 : Nat) (a2 : Option Addr) (c2 : Nat) (a3 : Option Addr) (c3 : Nat) (p : Int × Int) (w : World) (hh : Row 2 encP w a2 c2 c.hammers) (h1 : 0 ≤ p.1) (h2 : p.1 < c.hammers.length * c.tunes) (h3 : 0 < c.tunes) (h4 : c.tunes ≤ 8) (h5 : c.hammers.length ≤ 40) :
    Calls Try.prog 57 #[(.agg #[.int .i64 c.steps, .int .i64 c.sections, .slice a1 c.runs.length c1, .int .i64 c.tunes, .slice a2 c.hammers.length c2, .slice a3 c.pins.length c3]), valP p] w fun e w' => e = .returned (valP (ham c p)) ∧ Ext w w' := by
  have hq0 : 0 ≤ p.1 / c.tunes := Int.ediv_nonneg h1 (by omega)
  have hq1 : p.1 / c.tunes < c.hammers.length := Int.ediv_lt_of_lt_mul h3 h2
  obtain ⟨j, hj⟩ := Int.eq_ofNat_of_zero_le hq0
  have hjl : j < c.hammers.length := by omega
  have HH := Lib.hid (ham_get c p j (by omega) hjl)
  obtain ⟨b, off, rfl, hbl, hc, hd⟩ := hh.cellP j hjl
  have hw0 : p.1.tdiv c.tunes = j := by rw [Int.tdiv_eq_ediv_of_nonneg h1]; exact hj
  have hw1 : wrap64 (p.1.tdiv c.tunes) = j := by rw [hw0]; exact IntWalk.wrap64_in _ (by omega)
  have hw2 : IntKind.i64.wrap (p.1.tdiv c.tunes) = j := by rw [hw0]; exact IntWalk.i64_in _ (by omega)
  have hj0 : (0 : Int) ≤ (j : Int) := by omega
  have hj1 : (j : Int) < (c.hammers.length : Int) := by omega
  have hz0 : c.tunes ≠ 0 := by omega
  have hn1 : b < w.heap.size + 1 := by omega
  have hn2 : b ≤ w.heap.size := by omega
  have hn3 : b < w.heap.size + 1 + 1 := by omega
  have hn4 : b < w.heap.size + 2 := by omega
  have hn5 : b ≤ w.heap.size + 1 := by omega
  clear hh
  generalize c.hammers[j] = y at *
  have hz : (c.tunes == 0) = false := by simp; omega
  unfold valP
  clear h2 hj hw0
  go_enter Try.func57, Try.ntmps57
  go_wp2
  go_region
  all_goals go_wp2
  all_goals refine bodyPost_ret (v := .agg #[.int .i64 y.1, .int .i64 y.2]) (by simp [results, Try.results57, go_sem]) rfl ⟨by rw [HH.out], by (repeat (first | with_reducible exact Ext.refl _ | with_reducible assumption | with_reducible refine Ext.alloc ?_ _ | with_reducible refine Ext.drew ?_ | with_reducible refine Ext.drewN ?_ _ | (with_reducible refine Ext.setCell ?_ ?hsc _; case hsc => (simp <;> omega)) | with_reducible refine Ext.trans ?_ (by assumption)))⟩

theorem not_all {α : Type} (xs : List α) (p : α → Bool) : (xs.any fun h => !p h) = !xs.all p := by rw [List.all_eq_not_any_not, Bool.not_not]

def worksOk (c : Wk) : Bool := partsOk c && inn 1 40 c.hammers.length && c.hammers.all hamOk && decide (c.pins.length ≤ 400) && c.pins.all (pinOk c) && decide c.pins.Nodup

theorem partsOk_bounds {c : Wk} (h : partsOk c = true) : 1 ≤ c.steps ∧ c.steps ≤ 1000 ∧ 1 ≤ c.sections ∧ c.sections ≤ c.steps ∧ c.steps % c.sections = 0 ∧ 1 ≤ c.runs.length ∧ c.runs.length ≤ 8 ∧ (∀ r ∈ c.runs, 1 ≤ r ∧ r ≤ c.sections) ∧ 1 ≤ c.tunes ∧ c.tunes ≤ 8 := by
  unfold partsOk at h
  simp only [Bool.and_eq_true, List.all_eq_true, inn_iff, beq_iff_eq] at h
  obtain ⟨⟨⟨⟨⟨⟨h1, h2⟩, h3, h4⟩, h5⟩, h6, h7⟩, h8⟩, h9, h10⟩ := h
  exact ⟨h1, h2, h3, h4, h5, by omega, by omega, h8, h9, h10⟩

theorem pinOk_bounds {c : Wk} {p : Int × Int} (h : pinOk c p = true) : 0 ≤ p.1 ∧ p.1 ≤ c.hammers.length * c.tunes - 1 ∧ 0 ≤ p.2 ∧ p.2 ≤ c.steps - 1 := by
  unfold pinOk at h
  simp only [Bool.and_eq_true, inn_iff] at h
  exact ⟨h.1.1, h.1.2, h.2.1, h.2.2⟩

set_option maxHeartbeats 4000000 in
theorem check_any (c : Wk) (a1 : Option Addr) (c1 : Nat) (a2 : Option Addr) (c2 : Nat) (a3 : Option Addr) (c3 : Nat) (w : World) (hw : RdW w c a1 c1 a2 c2 a3 c3) :
    Calls Try.prog 17 #[(.agg #[.int .i64 c.steps, .int .i64 c.sections, .slice a1 c.runs.length c1, .int .i64 c.tunes, .slice a2 c.hammers.length c2, .slice a3 c.pins.length c3])] w fun e w' => e = .returned (.int .i64 (if worksOk c then 0 else 2)) ∧ Ext w w' := by
  have hl1 := hw.hammers.len
  have hl2 := hw.pins.len
  obtain ⟨W0, hW0⟩ : ∃ W0, W0 = ((w.alloc (.cells #[.int .i64 c.steps, .int .i64 c.sections, .slice a1 c.runs.length c1, .int .i64 c.tunes, .slice a2 c.hammers.length c2, .slice a3 c.pins.length c3] 26)).alloc (.cells #[.int .i64 c.steps, .int .i64 c.sections, .slice a1 c.runs.length c1, .int .i64 c.tunes, .slice a2 c.hammers.length c2, .slice a3 c.pins.length c3] 112)) := ⟨_, rfl⟩
  have hA : AtW W0 (w.heap.size + 1) c a1 c1 a2 c2 a3 c3 := by
    have := AtW.new (w.alloc (.cells #[.int .i64 c.steps, .int .i64 c.sections, .slice a1 c.runs.length c1, .int .i64 c.tunes, .slice a2 c.hammers.length c2, .slice a3 c.pins.length c3] 26)) 112 c a1 c1 a2 c2 a3 c3
    rw [World.size_alloc] at this
    rw [hW0]; exact this
  have hx : Ext w W0 := by rw [hW0]; (repeat (first | with_reducible exact Ext.refl _ | with_reducible assumption | with_reducible refine Ext.alloc ?_ _ | with_reducible refine Ext.drew ?_ | with_reducible refine Ext.drewN ?_ _ | (with_reducible refine Ext.setCell ?_ ?hsc _; case hsc => (simp <;> omega)) | with_reducible refine Ext.trans ?_ (by assumption)))
  have HP : ∀ W, Ext w W → Hid (Calls Try.prog 51 #[(.agg #[.int .i64 c.steps, .int .i64 c.sections, .slice a1 c.runs.length c1, .int .i64 c.tunes, .slice a2 c.hammers.length c2, .slice a3 c.pins.length c3])] W fun e w' => e = .returned (.bool (partsOk c)) ∧ Ext W w') := fun W hW => areParts_any c a1 c1 a2 c2 a3 c3 W (hw.ext _ _ _ _ _ _ _ hW)
  have HH : ∀ W, Ext w W → Hid (Calls Try.prog 53 #[.slice a2 c.hammers.length c2, .func (.func 47) #[] #[]] W fun e w' => e = .returned (.bool (!c.hammers.all hamOk)) ∧ Ext W w') := fun W hW => by
    have := ContainsFunc_Hammer 47 #[] (enters_of Try.func47 (by kernel_rfl) rfl) (fun h => !hamOk h) c.hammers a2 c2 W (hw.hammers.ext hW) (fun h _ W2 _ => isNoHammer_any h W2)
    rw [not_all] at this
    exact this
  have HR := Lib.hid hw
  have HA := Lib.hid hA
  unfold worksOk
  clear hw hA hx
  cases h1 : partsOk c
  · subst hW0
    clear HA
    go_enter Try.func17, Try.ntmps17
    go_wp2_with (first
      | (go_at_call 51; refine (HP _ (by (repeat (first | with_reducible exact Ext.refl _ | with_reducible assumption | with_reducible refine Ext.alloc ?_ _ | with_reducible refine Ext.drew ?_ | with_reducible refine Ext.drewN ?_ _ | (with_reducible refine Ext.setCell ?_ ?hsc _; case hsc => (simp <;> omega)) | with_reducible refine Ext.trans ?_ (by assumption))))).out.mono ?_; rintro e w2 ⟨rfl, hb2⟩; obtain ⟨hr1, hr2⟩ := hb2.rules; have hz2 := hb2.size; (try simp at hz2); (try have hl0 : w.heap.size < w2.heap.size := by omega); (try have hl0 : w.heap.size ≤ w2.heap.size := by omega); (try have hl1 : w.heap.size + 1 < w2.heap.size := by omega); (try have hl1 : w.heap.size + 1 ≤ w2.heap.size := by omega))
      | (go_at_call 52; (with_reducible refine (within_one _ _ _ _ _ (by simp)).mono ?_); rintro e w2 ⟨rfl, hb2⟩; obtain ⟨hr1, hr2⟩ := hb2.rules; have hz2 := hb2.size; (try simp at hz2); (try have hl0 : w.heap.size < w2.heap.size := by omega); (try have hl0 : w.heap.size ≤ w2.heap.size := by omega); (try have hl1 : w.heap.size + 1 < w2.heap.size := by omega); (try have hl1 : w.heap.size + 1 ≤ w2.heap.size := by omega))
      | (go_at_call 53; refine (HH _ (by (repeat (first | with_reducible exact Ext.refl _ | with_reducible assumption | with_reducible refine Ext.alloc ?_ _ | with_reducible refine Ext.drew ?_ | with_reducible refine Ext.drewN ?_ _ | (with_reducible refine Ext.setCell ?_ ?hsc _; case hsc => (simp <;> omega)) | with_reducible refine Ext.trans ?_ (by assumption))))).out.mono ?_; rintro e w2 ⟨rfl, hb2⟩; obtain ⟨hr1, hr2⟩ := hb2.rules; have hz2 := hb2.size; (try simp at hz2); (try have hl0 : w.heap.size < w2.heap.size := by omega); (try have hl0 : w.heap.size ≤ w2.heap.size := by omega); (try have hl1 : w.heap.size + 1 < w2.heap.size := by omega); (try have hl1 : w.heap.size + 1 ≤ w2.heap.size := by omega)))
    all_goals first | (go_ret; exact ⟨rfl, by (repeat (first | with_reducible exact Ext.refl _ | with_reducible assumption | with_reducible refine Ext.alloc ?_ _ | with_reducible refine Ext.drew ?_ | with_reducible refine Ext.drewN ?_ _ | (with_reducible refine Ext.setCell ?_ ?hsc _; case hsc => (simp <;> omega)) | with_reducible refine Ext.trans ?_ (by assumption)))⟩) | (exfalso; omega)
  obtain ⟨hs1, hs2, _, _, _, _, _, _, ht1, ht2⟩ := partsOk_bounds h1
  cases h2 : inn 1 40 c.hammers.length
  · subst hW0
    clear HA
    go_enter Try.func17, Try.ntmps17
    go_wp2_with (first
      | (go_at_call 51; refine (HP _ (by (repeat (first | with_reducible exact Ext.refl _ | with_reducible assumption | with_reducible refine Ext.alloc ?_ _ | with_reducible refine Ext.drew ?_ | with_reducible refine Ext.drewN ?_ _ | (with_reducible refine Ext.setCell ?_ ?hsc _; case hsc => (simp <;> omega)) | with_reducible refine Ext.trans ?_ (by assumption))))).out.mono ?_; rintro e w2 ⟨rfl, hb2⟩; obtain ⟨hr1, hr2⟩ := hb2.rules; have hz2 := hb2.size; (try simp at hz2); (try have hl0 : w.heap.size < w2.heap.size := by omega); (try have hl0 : w.heap.size ≤ w2.heap.size := by omega); (try have hl1 : w.heap.size + 1 < w2.heap.size := by omega); (try have hl1 : w.heap.size + 1 ≤ w2.heap.size := by omega))
      | (go_at_call 52; (with_reducible refine (within_one _ _ _ _ _ (by simp)).mono ?_); rintro e w2 ⟨rfl, hb2⟩; obtain ⟨hr1, hr2⟩ := hb2.rules; have hz2 := hb2.size; (try simp at hz2); (try have hl0 : w.heap.size < w2.heap.size := by omega); (try have hl0 : w.heap.size ≤ w2.heap.size := by omega); (try have hl1 : w.heap.size + 1 < w2.heap.size := by omega); (try have hl1 : w.heap.size + 1 ≤ w2.heap.size := by omega))
      | (go_at_call 53; refine (HH _ (by (repeat (first | with_reducible exact Ext.refl _ | with_reducible assumption | with_reducible refine Ext.alloc ?_ _ | with_reducible refine Ext.drew ?_ | with_reducible refine Ext.drewN ?_ _ | (with_reducible refine Ext.setCell ?_ ?hsc _; case hsc => (simp <;> omega)) | with_reducible refine Ext.trans ?_ (by assumption))))).out.mono ?_; rintro e w2 ⟨rfl, hb2⟩; obtain ⟨hr1, hr2⟩ := hb2.rules; have hz2 := hb2.size; (try simp at hz2); (try have hl0 : w.heap.size < w2.heap.size := by omega); (try have hl0 : w.heap.size ≤ w2.heap.size := by omega); (try have hl1 : w.heap.size + 1 < w2.heap.size := by omega); (try have hl1 : w.heap.size + 1 ≤ w2.heap.size := by omega)))
    all_goals first | (go_ret; exact ⟨rfl, by (repeat (first | with_reducible exact Ext.refl _ | with_reducible assumption | with_reducible refine Ext.alloc ?_ _ | with_reducible refine Ext.drew ?_ | with_reducible refine Ext.drewN ?_ _ | (with_reducible refine Ext.setCell ?_ ?hsc _; case hsc => (simp <;> omega)) | with_reducible refine Ext.trans ?_ (by assumption)))⟩) | (exfalso; omega)
  have hh40 := (inn_iff.1 h2).2
  cases h3 : c.hammers.all hamOk
  · subst hW0
    clear HA
    go_enter Try.func17, Try.ntmps17
    go_wp2_with (first
      | (go_at_call 51; refine (HP _ (by (repeat (first | with_reducible exact Ext.refl _ | with_reducible assumption | with_reducible refine Ext.alloc ?_ _ | with_reducible refine Ext.drew ?_ | with_reducible refine Ext.drewN ?_ _ | (with_reducible refine Ext.setCell ?_ ?hsc _; case hsc => (simp <;> omega)) | with_reducible refine Ext.trans ?_ (by assumption))))).out.mono ?_; rintro e w2 ⟨rfl, hb2⟩; obtain ⟨hr1, hr2⟩ := hb2.rules; have hz2 := hb2.size; (try simp at hz2); (try have hl0 : w.heap.size < w2.heap.size := by omega); (try have hl0 : w.heap.size ≤ w2.heap.size := by omega); (try have hl1 : w.heap.size + 1 < w2.heap.size := by omega); (try have hl1 : w.heap.size + 1 ≤ w2.heap.size := by omega))
      | (go_at_call 52; (with_reducible refine (within_one _ _ _ _ _ (by simp)).mono ?_); rintro e w2 ⟨rfl, hb2⟩; obtain ⟨hr1, hr2⟩ := hb2.rules; have hz2 := hb2.size; (try simp at hz2); (try have hl0 : w.heap.size < w2.heap.size := by omega); (try have hl0 : w.heap.size ≤ w2.heap.size := by omega); (try have hl1 : w.heap.size + 1 < w2.heap.size := by omega); (try have hl1 : w.heap.size + 1 ≤ w2.heap.size := by omega))
      | (go_at_call 53; refine (HH _ (by (repeat (first | with_reducible exact Ext.refl _ | with_reducible assumption | with_reducible refine Ext.alloc ?_ _ | with_reducible refine Ext.drew ?_ | with_reducible refine Ext.drewN ?_ _ | (with_reducible refine Ext.setCell ?_ ?hsc _; case hsc => (simp <;> omega)) | with_reducible refine Ext.trans ?_ (by assumption))))).out.mono ?_; rintro e w2 ⟨rfl, hb2⟩; obtain ⟨hr1, hr2⟩ := hb2.rules; have hz2 := hb2.size; (try simp at hz2); (try have hl0 : w.heap.size < w2.heap.size := by omega); (try have hl0 : w.heap.size ≤ w2.heap.size := by omega); (try have hl1 : w.heap.size + 1 < w2.heap.size := by omega); (try have hl1 : w.heap.size + 1 ≤ w2.heap.size := by omega)))
    all_goals first | (go_ret; exact ⟨rfl, by (repeat (first | with_reducible exact Ext.refl _ | with_reducible assumption | with_reducible refine Ext.alloc ?_ _ | with_reducible refine Ext.drew ?_ | with_reducible refine Ext.drewN ?_ _ | (with_reducible refine Ext.setCell ?_ ?hsc _; case hsc => (simp <;> omega)) | with_reducible refine Ext.trans ?_ (by assumption)))⟩) | (exfalso; omega)
  by_cases h4 : c.pins.length ≤ 400
  case neg =>
    have h4' : decide (c.pins.length ≤ 400) = false := by simpa using h4
    subst hW0
    clear HA
    go_enter Try.func17, Try.ntmps17
    go_wp2_with (first
      | (go_at_call 51; refine (HP _ (by (repeat (first | with_reducible exact Ext.refl _ | with_reducible assumption | with_reducible refine Ext.alloc ?_ _ | with_reducible refine Ext.drew ?_ | with_reducible refine Ext.drewN ?_ _ | (with_reducible refine Ext.setCell ?_ ?hsc _; case hsc => (simp <;> omega)) | with_reducible refine Ext.trans ?_ (by assumption))))).out.mono ?_; rintro e w2 ⟨rfl, hb2⟩; obtain ⟨hr1, hr2⟩ := hb2.rules; have hz2 := hb2.size; (try simp at hz2); (try have hl0 : w.heap.size < w2.heap.size := by omega); (try have hl0 : w.heap.size ≤ w2.heap.size := by omega); (try have hl1 : w.heap.size + 1 < w2.heap.size := by omega); (try have hl1 : w.heap.size + 1 ≤ w2.heap.size := by omega))
      | (go_at_call 52; (with_reducible refine (within_one _ _ _ _ _ (by simp)).mono ?_); rintro e w2 ⟨rfl, hb2⟩; obtain ⟨hr1, hr2⟩ := hb2.rules; have hz2 := hb2.size; (try simp at hz2); (try have hl0 : w.heap.size < w2.heap.size := by omega); (try have hl0 : w.heap.size ≤ w2.heap.size := by omega); (try have hl1 : w.heap.size + 1 < w2.heap.size := by omega); (try have hl1 : w.heap.size + 1 ≤ w2.heap.size := by omega))
      | (go_at_call 53; refine (HH _ (by (repeat (first | with_reducible exact Ext.refl _ | with_reducible assumption | with_reducible refine Ext.alloc ?_ _ | with_reducible refine Ext.drew ?_ | with_reducible refine Ext.drewN ?_ _ | (with_reducible refine Ext.setCell ?_ ?hsc _; case hsc => (simp <;> omega)) | with_reducible refine Ext.trans ?_ (by assumption))))).out.mono ?_; rintro e w2 ⟨rfl, hb2⟩; obtain ⟨hr1, hr2⟩ := hb2.rules; have hz2 := hb2.size; (try simp at hz2); (try have hl0 : w.heap.size < w2.heap.size := by omega); (try have hl0 : w.heap.size ≤ w2.heap.size := by omega); (try have hl1 : w.heap.size + 1 < w2.heap.size := by omega); (try have hl1 : w.heap.size + 1 ≤ w2.heap.size := by omega)))
    all_goals first | (go_ret; exact ⟨rfl, by (repeat (first | with_reducible exact Ext.refl _ | with_reducible assumption | with_reducible refine Ext.alloc ?_ _ | with_reducible refine Ext.drew ?_ | with_reducible refine Ext.drewN ?_ _ | (with_reducible refine Ext.setCell ?_ ?hsc _; case hsc => (simp <;> omega)) | with_reducible refine Ext.trans ?_ (by assumption)))⟩) | (exfalso; omega)
  have HQ : ∀ W, Ext W0 W → Hid (Calls Try.prog 54 #[.slice a3 c.pins.length c3, .func (.func 49) #[] #[.pointer (some ⟨w.heap.size + 1, 0, none⟩)]] W fun e w' => e = .returned (.bool (!c.pins.all (pinOk c))) ∧ Ext W w') := fun W hW => by
    have := ContainsFunc_Pin 49 #[.pointer (some ⟨w.heap.size + 1, 0, none⟩)] (enters_of Try.func49 (by kernel_rfl) rfl) (fun h => !pinOk c h) c.pins a3 c3 W (HR.out.pins.ext (Ext.trans (by rw [hW0]; (repeat (first | with_reducible exact Ext.refl _ | with_reducible assumption | with_reducible refine Ext.alloc ?_ _ | with_reducible refine Ext.drew ?_ | with_reducible refine Ext.drewN ?_ _ | (with_reducible refine Ext.setCell ?_ ?hsc _; case hsc => (simp <;> omega)) | with_reducible refine Ext.trans ?_ (by assumption)))) hW)) (fun h _ W2 hW2 => isNoPin_any c a1 c1 a2 c2 a3 c3 _ h W2 (HA.out.ext _ _ _ _ _ _ _ (hW.trans hW2)) (by omega) (by omega) (by omega) (by omega) (by omega))
    rw [not_all] at this
    exact this
  cases h5 : c.pins.all (pinOk c)
  · subst hW0
    clear HA
    go_enter Try.func17, Try.ntmps17
    go_wp2_with (first
      | (go_at_call 51; refine (HP _ (by (repeat (first | with_reducible exact Ext.refl _ | with_reducible assumption | with_reducible refine Ext.alloc ?_ _ | with_reducible refine Ext.drew ?_ | with_reducible refine Ext.drewN ?_ _ | (with_reducible refine Ext.setCell ?_ ?hsc _; case hsc => (simp <;> omega)) | with_reducible refine Ext.trans ?_ (by assumption))))).out.mono ?_; rintro e w2 ⟨rfl, hb2⟩; obtain ⟨hr1, hr2⟩ := hb2.rules; have hz2 := hb2.size; (try simp at hz2); (try have hl0 : w.heap.size < w2.heap.size := by omega); (try have hl0 : w.heap.size ≤ w2.heap.size := by omega); (try have hl1 : w.heap.size + 1 < w2.heap.size := by omega); (try have hl1 : w.heap.size + 1 ≤ w2.heap.size := by omega))
      | (go_at_call 52; (with_reducible refine (within_one _ _ _ _ _ (by simp)).mono ?_); rintro e w2 ⟨rfl, hb2⟩; obtain ⟨hr1, hr2⟩ := hb2.rules; have hz2 := hb2.size; (try simp at hz2); (try have hl0 : w.heap.size < w2.heap.size := by omega); (try have hl0 : w.heap.size ≤ w2.heap.size := by omega); (try have hl1 : w.heap.size + 1 < w2.heap.size := by omega); (try have hl1 : w.heap.size + 1 ≤ w2.heap.size := by omega))
      | (go_at_call 53; refine (HH _ (by (repeat (first | with_reducible exact Ext.refl _ | with_reducible assumption | with_reducible refine Ext.alloc ?_ _ | with_reducible refine Ext.drew ?_ | with_reducible refine Ext.drewN ?_ _ | (with_reducible refine Ext.setCell ?_ ?hsc _; case hsc => (simp <;> omega)) | with_reducible refine Ext.trans ?_ (by assumption))))).out.mono ?_; rintro e w2 ⟨rfl, hb2⟩; obtain ⟨hr1, hr2⟩ := hb2.rules; have hz2 := hb2.size; (try simp at hz2); (try have hl0 : w.heap.size < w2.heap.size := by omega); (try have hl0 : w.heap.size ≤ w2.heap.size := by omega); (try have hl1 : w.heap.size + 1 < w2.heap.size := by omega); (try have hl1 : w.heap.size + 1 ≤ w2.heap.size := by omega))
      | (go_at_call 54; refine (HQ _ (by (repeat (first | with_reducible exact Ext.refl _ | with_reducible assumption | with_reducible refine Ext.alloc ?_ _ | with_reducible refine Ext.drew ?_ | with_reducible refine Ext.drewN ?_ _ | (with_reducible refine Ext.setCell ?_ ?hsc _; case hsc => (simp <;> omega)) | with_reducible refine Ext.trans ?_ (by assumption))))).out.mono ?_; rintro e w2 ⟨rfl, hb2⟩; obtain ⟨hr1, hr2⟩ := hb2.rules; have hz2 := hb2.size; (try simp at hz2); (try have hl0 : w.heap.size < w2.heap.size := by omega); (try have hl0 : w.heap.size ≤ w2.heap.size := by omega); (try have hl1 : w.heap.size + 1 < w2.heap.size := by omega); (try have hl1 : w.heap.size + 1 ≤ w2.heap.size := by omega)))
    all_goals first | (go_ret; exact ⟨rfl, by (repeat (first | with_reducible exact Ext.refl _ | with_reducible assumption | with_reducible refine Ext.alloc ?_ _ | with_reducible refine Ext.drew ?_ | with_reducible refine Ext.drewN ?_ _ | (with_reducible refine Ext.setCell ?_ ?hsc _; case hsc => (simp <;> omega)) | with_reducible refine Ext.trans ?_ (by assumption)))⟩) | (exfalso; omega)
  have H5 : Hid (∀ p ∈ c.pins, in64 p.1 ∧ in64 p.2) := by
    have h := List.all_eq_true.1 h5
    intro p hp
    obtain ⟨b1, b2, b3, b4⟩ := pinOk_bounds (h p hp)
    have h7 : (c.hammers.length : Int) * c.tunes ≤ 40 * 8 := Int.mul_le_mul (by omega) ht2 (by omega) (by omega)
    unfold in64
    omega
  have HD : ∀ W, Ext W0 W → Hid (Calls Try.prog 55 #[.slice a3 c.pins.length c3] W fun e w' => e = .returned (.bool (decide c.pins.Nodup)) ∧ Ext W w') := fun W hW =>
    distinct_Pin c.pins a3 c3 W (HR.out.pins.ext (Ext.trans (by rw [hW0]; (repeat (first | with_reducible exact Ext.refl _ | with_reducible assumption | with_reducible refine Ext.alloc ?_ _ | with_reducible refine Ext.drew ?_ | with_reducible refine Ext.drewN ?_ _ | (with_reducible refine Ext.setCell ?_ ?hsc _; case hsc => (simp <;> omega)) | with_reducible refine Ext.trans ?_ (by assumption)))) hW)) H5.out
  cases h6 : decide c.pins.Nodup
  all_goals
    subst hW0
    clear HA
    go_enter Try.func17, Try.ntmps17
    go_wp2_with (first
      | (go_at_call 51; refine (HP _ (by (repeat (first | with_reducible exact Ext.refl _ | with_reducible assumption | with_reducible refine Ext.alloc ?_ _ | with_reducible refine Ext.drew ?_ | with_reducible refine Ext.drewN ?_ _ | (with_reducible refine Ext.setCell ?_ ?hsc _; case hsc => (simp <;> omega)) | with_reducible refine Ext.trans ?_ (by assumption))))).out.mono ?_; rintro e w2 ⟨rfl, hb2⟩; obtain ⟨hr1, hr2⟩ := hb2.rules; have hz2 := hb2.size; (try simp at hz2); (try have hl0 : w.heap.size < w2.heap.size := by omega); (try have hl0 : w.heap.size ≤ w2.heap.size := by omega); (try have hl1 : w.heap.size + 1 < w2.heap.size := by omega); (try have hl1 : w.heap.size + 1 ≤ w2.heap.size := by omega))
      | (go_at_call 52; (with_reducible refine (within_one _ _ _ _ _ (by simp)).mono ?_); rintro e w2 ⟨rfl, hb2⟩; obtain ⟨hr1, hr2⟩ := hb2.rules; have hz2 := hb2.size; (try simp at hz2); (try have hl0 : w.heap.size < w2.heap.size := by omega); (try have hl0 : w.heap.size ≤ w2.heap.size := by omega); (try have hl1 : w.heap.size + 1 < w2.heap.size := by omega); (try have hl1 : w.heap.size + 1 ≤ w2.heap.size := by omega))
      | (go_at_call 53; refine (HH _ (by (repeat (first | with_reducible exact Ext.refl _ | with_reducible assumption | with_reducible refine Ext.alloc ?_ _ | with_reducible refine Ext.drew ?_ | with_reducible refine Ext.drewN ?_ _ | (with_reducible refine Ext.setCell ?_ ?hsc _; case hsc => (simp <;> omega)) | with_reducible refine Ext.trans ?_ (by assumption))))).out.mono ?_; rintro e w2 ⟨rfl, hb2⟩; obtain ⟨hr1, hr2⟩ := hb2.rules; have hz2 := hb2.size; (try simp at hz2); (try have hl0 : w.heap.size < w2.heap.size := by omega); (try have hl0 : w.heap.size ≤ w2.heap.size := by omega); (try have hl1 : w.heap.size + 1 < w2.heap.size := by omega); (try have hl1 : w.heap.size + 1 ≤ w2.heap.size := by omega))
      | (go_at_call 54; refine (HQ _ (by (repeat (first | with_reducible exact Ext.refl _ | with_reducible assumption | with_reducible refine Ext.alloc ?_ _ | with_reducible refine Ext.drew ?_ | with_reducible refine Ext.drewN ?_ _ | (with_reducible refine Ext.setCell ?_ ?hsc _; case hsc => (simp <;> omega)) | with_reducible refine Ext.trans ?_ (by assumption))))).out.mono ?_; rintro e w2 ⟨rfl, hb2⟩; obtain ⟨hr1, hr2⟩ := hb2.rules; have hz2 := hb2.size; (try simp at hz2); (try have hl0 : w.heap.size < w2.heap.size := by omega); (try have hl0 : w.heap.size ≤ w2.heap.size := by omega); (try have hl1 : w.heap.size + 1 < w2.heap.size := by omega); (try have hl1 : w.heap.size + 1 ≤ w2.heap.size := by omega))
      | (go_at_call 55; refine (HD _ (by (repeat (first | with_reducible exact Ext.refl _ | with_reducible assumption | with_reducible refine Ext.alloc ?_ _ | with_reducible refine Ext.drew ?_ | with_reducible refine Ext.drewN ?_ _ | (with_reducible refine Ext.setCell ?_ ?hsc _; case hsc => (simp <;> omega)) | with_reducible refine Ext.trans ?_ (by assumption))))).out.mono ?_; rintro e w2 ⟨rfl, hb2⟩; obtain ⟨hr1, hr2⟩ := hb2.rules; have hz2 := hb2.size; (try simp at hz2); (try have hl0 : w.heap.size < w2.heap.size := by omega); (try have hl0 : w.heap.size ≤ w2.heap.size := by omega); (try have hl1 : w.heap.size + 1 < w2.heap.size := by omega); (try have hl1 : w.heap.size + 1 ≤ w2.heap.size := by omega)))
    all_goals first | (go_ret; exact ⟨rfl, by (repeat (first | with_reducible exact Ext.refl _ | with_reducible assumption | with_reducible refine Ext.alloc ?_ _ | with_reducible refine Ext.drew ?_ | with_reducible refine Ext.drewN ?_ _ | (with_reducible refine Ext.setCell ?_ ?hsc _; case hsc => (simp <;> omega)) | with_reducible refine Ext.trans ?_ (by assumption)))⟩) | (exfalso; omega)

end Go.Proofs.Ytdgplebmlggmcaa
/- Blocks that are known whole: stores of whole structs, results that lie in a cell. -/
namespace Go.Proofs.Ytdgplebmlggmcaa
open Go.RowKit

theorem results_cell_row_tmp {P : Program} {fn : Func} {p u : Tmp} {ty : TypeId} (h : fn.results = #[.cell p ty, .tmp u]) (tmps : Array Value) (w : World) (g : Nat) (t : TypeId) (cs : Array Value) (fr : Nat × Nat) (d : TypeDesc) (x : Value)
    (hp : tmps.getD p undef = .pointer (some ⟨g, 0, none⟩)) (hx : tmps.getD u undef = x) (hg : w.heap[g]? = some (.cells cs t fr))
    (hu : P.underlying ty = some d) (hd : (match d with | .struct _ | .array _ _ => true | _ => false) = true) (hi : (P.info? ty).map (·.size) = some cs.size) :
    (results fn tmps).run P w = .ok (.tuple #[.agg cs, x]) w := by
  rw [results_cell_tmp h, hp, hx]
  simp [asAddr, run_loadVar_row w g t ty cs fr d hg hu hd hi]

theorem set_one {w : World} {B : Nat} {cs : Array Value} {t : TypeId} (i : Nat) (v : Value) {ds : Array Value} (h : w.heap[B]? = some (.cells cs t (0, 0))) (hd : cs.setIfInBounds i v = ds) :
    (w.setCell ⟨B, i, none⟩ v).heap[B]? = some (.cells ds t (0, 0)) := by
  rw [heap_setCell_same w B i cs t v h, hd]

theorem set_nine {w : World} {B : Nat} {t : TypeId} {a0 a1 a2 a3 a4 a5 a6 a7 a8 : Value} (b0 b1 b2 b3 b4 b5 b6 b7 b8 : Value) (h : w.heap[B]? = some (.cells #[a0, a1, a2, a3, a4, a5, a6, a7, a8] t (0, 0))) :
    (((((((((w.setCell ⟨B, 0, none⟩ b0).setCell ⟨B, 1, none⟩ b1).setCell ⟨B, 2, none⟩ b2).setCell ⟨B, 3, none⟩ b3).setCell ⟨B, 4, none⟩ b4).setCell ⟨B, 5, none⟩ b5).setCell ⟨B, 6, none⟩ b6).setCell ⟨B, 7, none⟩ b7).setCell ⟨B, 8, none⟩ b8).heap[B]? = some (.cells #[b0, b1, b2, b3, b4, b5, b6, b7, b8] t (0, 0)) := by
  have h0 := set_one 0 b0 (ds := #[b0, a1, a2, a3, a4, a5, a6, a7, a8]) h rfl
  have h1 := set_one 1 b1 (ds := #[b0, b1, a2, a3, a4, a5, a6, a7, a8]) h0 rfl
  have h2 := set_one 2 b2 (ds := #[b0, b1, b2, a3, a4, a5, a6, a7, a8]) h1 rfl
  have h3 := set_one 3 b3 (ds := #[b0, b1, b2, b3, a4, a5, a6, a7, a8]) h2 rfl
  have h4 := set_one 4 b4 (ds := #[b0, b1, b2, b3, b4, a5, a6, a7, a8]) h3 rfl
  have h5 := set_one 5 b5 (ds := #[b0, b1, b2, b3, b4, b5, a6, a7, a8]) h4 rfl
  have h6 := set_one 6 b6 (ds := #[b0, b1, b2, b3, b4, b5, b6, a7, a8]) h5 rfl
  have h7 := set_one 7 b7 (ds := #[b0, b1, b2, b3, b4, b5, b6, b7, a8]) h6 rfl
  have h8 := set_one 8 b8 (ds := #[b0, b1, b2, b3, b4, b5, b6, b7, b8]) h7 rfl
  exact h8

theorem set_six {w : World} {B : Nat} {t : TypeId} {a0 a1 a2 a3 a4 a5 : Value} (b0 b1 b2 b3 b4 b5 : Value) (h : w.heap[B]? = some (.cells #[a0, a1, a2, a3, a4, a5] t (0, 0))) :
    ((((((w.setCell ⟨B, 0, none⟩ b0).setCell ⟨B, 1, none⟩ b1).setCell ⟨B, 2, none⟩ b2).setCell ⟨B, 3, none⟩ b3).setCell ⟨B, 4, none⟩ b4).setCell ⟨B, 5, none⟩ b5).heap[B]? = some (.cells #[b0, b1, b2, b3, b4, b5] t (0, 0)) := by
  have h0 := set_one 0 b0 (ds := #[b0, a1, a2, a3, a4, a5]) h rfl
  have h1 := set_one 1 b1 (ds := #[b0, b1, a2, a3, a4, a5]) h0 rfl
  have h2 := set_one 2 b2 (ds := #[b0, b1, b2, a3, a4, a5]) h1 rfl
  have h3 := set_one 3 b3 (ds := #[b0, b1, b2, b3, a4, a5]) h2 rfl
  have h4 := set_one 4 b4 (ds := #[b0, b1, b2, b3, b4, a5]) h3 rfl
  have h5 := set_one 5 b5 (ds := #[b0, b1, b2, b3, b4, b5]) h4 rfl
  exact h5

theorem set_three {w : World} {B : Nat} {t : TypeId} {a0 a1 a2 : Value} (b0 b1 b2 : Value) (h : w.heap[B]? = some (.cells #[a0, a1, a2] t (0, 0))) :
    (((w.setCell ⟨B, 0, none⟩ b0).setCell ⟨B, 1, none⟩ b1).setCell ⟨B, 2, none⟩ b2).heap[B]? = some (.cells #[b0, b1, b2] t (0, 0)) := by
  have h0 := set_one 0 b0 (ds := #[b0, a1, a2]) h rfl
  have h1 := set_one 1 b1 (ds := #[b0, b1, a2]) h0 rfl
  have h2 := set_one 2 b2 (ds := #[b0, b1, b2]) h1 rfl
  exact h2

theorem set_two {w : World} {B : Nat} {t : TypeId} {a0 a1 : Value} (b0 b1 : Value) (h : w.heap[B]? = some (.cells #[a0, a1] t (0, 0))) :
    ((w.setCell ⟨B, 0, none⟩ b0).setCell ⟨B, 1, none⟩ b1).heap[B]? = some (.cells #[b0, b1] t (0, 0)) := by
  have h0 := set_one 0 b0 (ds := #[b0, a1]) h rfl
  have h1 := set_one 1 b1 (ds := #[b0, b1]) h0 rfl
  exact h1

theorem heap_lt' {w : World} {B : Nat} {o : Obj} (h : w.heap[B]? = some o) : B < w.heap.size := by
  rcases Nat.lt_or_ge B w.heap.size with h' | h'
  · exact h'
  · rw [Array.getElem?_eq_none h'] at h; cases h

/-- The cells of a block that is known whole. -/
theorem cells_of {w : World} {B : Nat} {cs : Array Value} {t : TypeId} {fr : Nat × Nat} (h : w.heap[B]? = some (.cells cs t fr)) (i : Nat) {v : Value} (hv : cs[i]? = some v) : w.cell? ⟨B, i, none⟩ = some v := by
  rw [cell_of_row w B i cs t fr h, hv]
theorem free_of {w : World} {B : Nat} {cs : Array Value} {t : TypeId} (h : w.heap[B]? = some (.cells cs t (0, 0))) (i : Nat) : w.frozen? ⟨B, i, none⟩ = false := by
  simp [World.frozen?, h]
theorem lt_of {w : World} {B : Nat} {o : Obj} (h : w.heap[B]? = some o) : B < w.heap.size := by
  rcases Nat.lt_or_ge B w.heap.size with h' | h'
  · exact h'
  · rw [Array.getElem?_eq_none h'] at h; cases h

end Go.Proofs.Ytdgplebmlggmcaa
/- Clash of package chime. -/
namespace Go.Proofs.Ytdgplebmlggmcaa
open Go.RowKit

/-- A call that returns a slice and an error. -/
def RetL2 {α : Type} (k : Nat) (enc : α → List Value) (xs : List α) (err : Int) (w : World) (e : Ending) (w' : World) : Prop :=
  ∃ v, e = .returned (.tuple #[v, .int .i64 err]) ∧ Sl k enc w' v xs ∧ (∀ b, v.ownBlock = some b → w.heap.size ≤ b) ∧ Ext w w'

def pinAt (c : Wk) (i : Nat) : Int × Int := c.pins.getD i (0, 0)
theorem pinAt_get (c : Wk) (i : Nat) (h : i < c.pins.length) : pinAt c i = c.pins[i] := by
  unfold pinAt; rw [List.getD_eq_getElem?_getD, List.getElem?_eq_getElem h]; rfl

/-- Whether two pins clash. -/
def clashB (c : Wk) (p q : Int × Int) : Bool := decide (p.1 = q.1) && decide (apartI p.2 q.2 c.steps < (ham c p).2)
def clIn (c : Wk) (i m : Nat) : List (Int × Int) := ((List.range m).filter fun k => clashB c (pinAt c i) (pinAt c (i + 1 + k))).map fun (k : Nat) => ((i : Int), (i : Int) + 1 + (k : Int))
def clOut (c : Wk) (n : Nat) : List (Int × Int) := (List.range n).flatMap fun i => clIn c i (c.pins.length - (i + 1))
def clashL (c : Wk) : List (Int × Int) := clOut c c.pins.length

theorem clIn_yes (c : Wk) (i m : Nat) (h : clashB c (pinAt c i) (pinAt c (i + 1 + m)) = true) : clIn c i (m + 1) = clIn c i m ++ [((i : Int), (i : Int) + 1 + (m : Int))] := by
  simp [clIn, List.range_succ, List.filter_append, h]
theorem clIn_no (c : Wk) (i m : Nat) (h : clashB c (pinAt c i) (pinAt c (i + 1 + m)) = false) : clIn c i (m + 1) = clIn c i m := by
  simp [clIn, List.range_succ, List.filter_append, h]
theorem clOut_step (c : Wk) (n : Nat) : clOut c (n + 1) = clOut c n ++ clIn c n (c.pins.length - (n + 1)) := by
  simp [clOut, List.range_succ]
theorem clIn_len (c : Wk) (i m : Nat) : (clIn c i m).length ≤ m := by
  unfold clIn; rw [List.length_map]; exact Nat.le_trans (List.length_filter_le _ _) (by simp)
theorem clOut_len (c : Wk) (h : c.pins.length ≤ 400) : ∀ n, (clOut c n).length ≤ n * 400
  | 0 => by simp [clOut]
  | n + 1 => by
    rw [clOut_step, List.length_append]
    have := clOut_len c h n
    have := clIn_len c n (c.pins.length - (n + 1))
    omega

theorem worksOk_bounds {c : Wk} (h : worksOk c = true) : partsOk c = true ∧ 1 ≤ c.hammers.length ∧ c.hammers.length ≤ 40 ∧ (∀ x ∈ c.hammers, hamOk x = true) ∧ c.pins.length ≤ 400 ∧ (∀ p ∈ c.pins, pinOk c p = true) ∧ c.pins.Nodup := by
  unfold worksOk at h
  simp only [Bool.and_eq_true, List.all_eq_true, inn_iff, decide_eq_true_eq] at h
  obtain ⟨⟨⟨⟨⟨h1, h2, h3⟩, h4⟩, h5⟩, h6⟩, h7⟩ := h
  exact ⟨h1, by omega, by omega, h4, h5, h6, h7⟩

theorem Try.info37 : (Try.prog.info? 37).map (fun i => (i.zero, i.size, i.bytes)) = some (some (.agg #[.int .i64 0, .int .i64 0]), 2, 16) := by kernel_rfl

theorem field_rest (x y : Int) (w : World) : (Instr.field 91 (.agg #[.int .i64 x, .int .i64 y]) 1).run Try.prog w = .ok (.int .i64 y) w := by kernel_rfl

theorem hammer_out (c : Wk) (a1 : Option Addr) (c1 : Nat) (a2 : Option Addr) (c2 : Nat) (a3 : Option Addr) (c3 : Nat) (p : Int × Int) (w : World) (hh : Row 2 encP w a2 c2 c.hammers) (h1 : 0 ≤ p.1) (h2 : p.1 < c.hammers.length * c.tunes) (h3 : 0 < c.tunes) (h4 : c.tunes ≤ 8) (h5 : c.hammers.length ≤ 40) :
    Calls Try.prog 57 #[(.agg #[.int .i64 c.steps, .int .i64 c.sections, .slice a1 c.runs.length c1, .int .i64 c.tunes, .slice a2 c.hammers.length c2, .slice a3 c.pins.length c3]), .agg #[.int .i64 p.1, .int .i64 p.2]] w fun e w' => e = .returned (.agg #[.int .i64 (ham c p).1, .int .i64 (ham c p).2]) ∧ Ext w w' := hammer_any c a1 c1 a2 c2 a3 c3 p w hh h1 h2 h3 h4 h5

set_option maxRecDepth 100000 in
set_option maxHeartbeats 4000000 in
theorem clash_any (c : Wk) (a1 : Option Addr) (c1 : Nat) (a2 : Option Addr) (c2 : Nat) (a3 : Option Addr) (c3 : Nat) (w : World) (hw : RdW w c a1 c1 a2 c2 a3 c3) :
    Calls Try.prog 18 #[(.agg #[.int .i64 c.steps, .int .i64 c.sections, .slice a1 c.runs.length c1, .int .i64 c.tunes, .slice a2 c.hammers.length c2, .slice a3 c.pins.length c3])] w (RetL2 2 encP (if worksOk c then clashL c else []) (if worksOk c then 0 else 2) w) := by
  have hlen := hw.pins.len
  have hx0 : Ext w (w.alloc (.cells #[.int .i64 c.steps, .int .i64 c.sections, .slice a1 c.runs.length c1, .int .i64 c.tunes, .slice a2 c.hammers.length c2, .slice a3 c.pins.length c3] 26)) := (Ext.refl w).alloc _
  have HC := Lib.hid (check_any c a1 c1 a2 c2 a3 c3 _ (hw.ext _ _ _ _ _ _ _ hx0))
  obtain ⟨i37, hi, hz0, hz1, hz2⟩ := info_parts Try.info37
  have HR := Lib.hid hw
  clear hw
  cases hok : worksOk c
  · have HOK := Lib.hid hok
    clear hok
    go_enter Try.func18, Try.ntmps18
    go_wp2_with (go_at_call 17; refine HC.out.mono ?_; rintro e w2 ⟨rfl, hb2⟩; rw [HOK.out])
    go_ret2
    exact ⟨_, rfl, OwnL.sl (OwnL.nil 2 encP 0 _) encP_len, fun b hb => (by cases hb), by (repeat (first | with_reducible exact Ext.refl _ | with_reducible assumption | with_reducible refine Ext.alloc ?_ _ | with_reducible refine Ext.drew ?_ | with_reducible refine Ext.drewN ?_ _ | (with_reducible refine Ext.setCell ?_ ?hsc _; case hsc => (simp <;> omega)) | with_reducible refine Ext.trans ?_ (by assumption)))⟩
  · obtain ⟨b1, b2, b3, b4, b5, b6, b7⟩ := worksOk_bounds hok
    have HOK := Lib.hid hok
    clear hok
    go_enter Try.func18, Try.ntmps18
    go_wp2_with (go_at_call 17; refine HC.out.mono ?_; rintro e w2 ⟨rfl, hb2⟩; rw [HOK.out]; obtain ⟨hr1, hr2⟩ := hb2.rules; have hz2 := hb2.size; (try simp at hz2); (try have hl0 : w.heap.size < w2.heap.size := by omega); (try have hl0 : w.heap.size ≤ w2.heap.size := by omega); (try have hl1 : w.heap.size + 1 < w2.heap.size := by omega); (try have hl1 : w.heap.size + 1 ≤ w2.heap.size := by omega))
    have hxw : Ext w w2 := by (repeat (first | with_reducible exact Ext.refl _ | with_reducible assumption | with_reducible refine Ext.alloc ?_ _ | with_reducible refine Ext.drew ?_ | with_reducible refine Ext.drewN ?_ _ | (with_reducible refine Ext.setCell ?_ ?hsc _; case hsc => (simp <;> omega)) | with_reducible refine Ext.trans ?_ (by assumption)))
    have hA := AtW.new w2 112 c a1 c1 a2 c2 a3 c3
    have hx1 : Ext w (w2.alloc (.cells #[.int .i64 c.steps, .int .i64 c.sections, .slice a1 c.runs.length c1, .int .i64 c.tunes, .slice a2 c.hammers.length c2, .slice a3 c.pins.length c3] 112)) := hxw.alloc _
    clear hl0 hr1 hr2 hb2 hz2
    generalize w2.alloc (.cells #[.int .i64 c.steps, .int .i64 c.sections, .slice a1 c.runs.length c1, .int .i64 c.tunes, .slice a2 c.hammers.length c2, .slice a3 c.pins.length c3] 112) = W1 at *
    generalize w2.heap.size = B4 at *
    clear hxw
    have HA := Lib.hid hA
    have HX1 := Lib.hid hx1
    clear hA hx1
    go_loopw [2, 18] (fun v i wr => ∃ k : Nat, k ≤ c.pins.length ∧ i = .int .i64 k ∧ OwnL 2 encP 37 wr v (clOut c k) ∧ Grew W1 (.slice none 0 0) wr v)
      (fun _ i _ => c.pins.length - (intOf i).toNat)
    case atStart => exact ⟨0, Nat.zero_le _, rfl, OwnL.nil _ _ _ _, Grew.refl _ _⟩
    case round =>
      obtain ⟨k, hk, rfl, ho, hg⟩ := hrel
      obtain ⟨wo, rfl⟩ : ∃ wo : World, wo = wr := ⟨_, rfl⟩
      have hgx : Ext W1 wo := hg.ext rfl
      have hwx : Ext w wo := HX1.out.trans hgx
      by_cases hlt : k < c.pins.length
      · obtain ⟨hB4, k0, k1, k2, k3, k4, k5⟩ := HA.out.ext _ _ _ _ _ _ _ hgx
        have HAr := Lib.hid (HA.out.ext _ _ _ _ _ _ _ hgx)
        have HRr := Lib.hid (HR.out.ext _ _ _ _ _ _ _ hwx)
        have HO := Lib.hid ho
        have HG := Lib.hid hg
        clear ho hg hgx
        obtain ⟨b, off, ha3, hbl, hc, hd⟩ := HRr.out.pins.cellP k hlt
        rw [← pinAt_get c k hlt] at hc hd
        have hbp := b6 (pinAt c k) (by rw [pinAt_get c k hlt]; exact List.getElem_mem hlt)
        obtain ⟨A, C, hrun, hrow⟩ := slice_from (P := Try.prog) encP 24 89 (by kernel_rfl) Try.underlying24 Try.sizeOf89 a3 c3 c.pins ((k : Int) + 1) (k + 1) (by omega) (by omega) HRr.out.pins.cap
        have HROW := Lib.hid hrow
        clear hrow
        subst ha3
        go_wp2
        have hq0 := fact_two wo (pinAt c k).1 (pinAt c k).2 89
        have hO2 := HO.out.kept ((Ext.refl wo).alloc (.cells #[.int .i64 (pinAt c k).1, .int .i64 (pinAt c k).2] 89))
        have hG2 := HG.out.alloc (.cells #[.int .i64 (pinAt c k).1, .int .i64 (pinAt c k).2] 89)
        have hne := HO.out.ne wo.heap.size (Nat.le_refl _)
        have hx2 : Ext wo (wo.alloc (.cells #[.int .i64 (pinAt c k).1, .int .i64 (pinAt c k).2] 89)) := (Ext.refl wo).alloc _
        clear hB4 k0 k1 k2 k3 k4 k5 hc hd hrun
        generalize wo.alloc (.cells #[.int .i64 (pinAt c k).1, .int .i64 (pinAt c k).2] 89) = W2 at *
        generalize wo.heap.size = B6 at *
        have HQ := Lib.hid hq0
        have HO2 := Lib.hid hO2
        have HG2 := Lib.hid hG2
        have HNE := Lib.hid hne
        have HX2 := Lib.hid (hwx.trans hx2)
        clear hq0 hO2 hG2 hne HO HG HAr HRr hx2 hwx
        go_loopw [2, 30] (fun v i wr => ∃ m : Nat, m ≤ c.pins.length - (k + 1) ∧ i = .int .i64 m ∧ OwnL 2 encP 37 wr v (clOut c k ++ clIn c k m) ∧ Grew W2 u2 wr v)
          (fun _ i _ => c.pins.length - (k + 1) - (intOf i).toNat)
        case atStart => exact ⟨0, Nat.zero_le _, rfl, by simpa [clIn] using HO2.out, Grew.refl _ _⟩
        case round =>
          obtain ⟨m, hm, rfl, ho, hg⟩ := hrel
          by_cases hlm : m < c.pins.length - (k + 1)
          · have hgx : Ext W1 wr := (HG2.out.trans hg).ext rfl
            have hwq : Ext w wr := HX1.out.trans hgx
            obtain ⟨hB4, k0, k1, k2, k3, k4, k5⟩ := HA.out.ext _ _ _ _ _ _ _ hgx
            have HRq := Lib.hid (HR.out.ext _ _ _ _ _ _ _ hwq)
            obtain ⟨hB6, q0, q1⟩ := HQ.out
            have hp0 := (hg.cell 0 hB6 HNE.out).trans q0
            have hp1 := (hg.cell 1 hB6 HNE.out).trans q1
            have hB6q : B6 < wr.heap.size := Nat.lt_of_lt_of_le hB6 hg.size
            have HG := Lib.hid hg
            have HO := Lib.hid ho
            clear hg ho q0 q1 hgx
            obtain ⟨b', off', hA', hbl', hc, hd⟩ := (HROW.out wr HRq.out.pins).cellP m (by rw [List.length_drop]; exact hlm)
            have hget : (c.pins.drop (k + 1))[m]'(by rw [List.length_drop]; exact hlm) = pinAt c (k + 1 + m) := by
              rw [List.getElem_drop, pinAt_get c _ (by omega)]
            rw [hget] at hc hd
            have hbq := b6 (pinAt c (k + 1 + m)) (by rw [pinAt_get c (k + 1 + m) (by omega)]; exact List.getElem_mem _)
            clear hget
            subst hA'
            have HY := Lib.hid (clIn_yes c k m)
            have HN := Lib.hid (clIn_no c k m)
            obtain ⟨p1, p2, p3, p4⟩ := pinOk_bounds hbp
            obtain ⟨r1, r2, r3, r4⟩ := pinOk_bounds hbq
            obtain ⟨s1, s2, _, _, _, _, _, _, t1, t2⟩ := partsOk_bounds b1
            clear hbp hbq
            generalize pinAt c k = p at *
            generalize pinAt c (k + 1 + m) = q at *
            by_cases ht : p.1 = q.1
            · have hq1 := fact_two wr q.1 q.2 89
              obtain ⟨hB8, q80, q81⟩ := hq1
              have hx8 : Ext wr (wr.alloc (.cells #[.int .i64 q.1, .int .i64 q.2] 89)) := (Ext.refl wr).alloc _
              have g0 := hx8.keep hp0
              have g1 := hx8.keep hp1
              have j0 := hx8.keep k0
              have j1 := hx8.keep k1
              have j2 := hx8.keep k2
              have j3 := hx8.keep k3
              have j4 := hx8.keep k4
              have j5 := hx8.keep k5
              have ht1 : (p.1 == q.1) = true := by simpa using ht
              have HT := Lib.hid ht
              have HM := fun W (hW : Ext wr W) => Lib.hid (hammer_out c a1 c1 a2 c2 (some ⟨b, off, none⟩) c3 p W (HRq.out.hammers.ext hW) p1 (by omega) (by omega) t2 b3)
              clear ht
              have hfr := field_rest
              go_wp2
              generalize wr.alloc (.cells #[.int .i64 q.1, .int .i64 q.2] 89) = W8 at *
              generalize wr.heap.size = B8 at *
              have HX8 := Lib.hid hx8
              go_region_held3 (fun w' => Ext W8 w' ∧ w'.cell? ⟨B6, 0, none⟩ = some (.int .i64 p.1) ∧ w'.cell? ⟨B6, 1, none⟩ = some (.int .i64 p.2) ∧ w'.cell? ⟨B8, 0, none⟩ = some (.int .i64 q.1) ∧ w'.cell? ⟨B8, 1, none⟩ = some (.int .i64 q.2)
                  ∧ w'.cell? ⟨B4, 0, none⟩ = some (.int .i64 c.steps) ∧ w'.cell? ⟨B4, 1, none⟩ = some (.int .i64 c.sections) ∧ w'.cell? ⟨B4, 2, none⟩ = some (.slice a1 c.runs.length c1) ∧ w'.cell? ⟨B4, 3, none⟩ = some (.int .i64 c.tunes)
                  ∧ w'.cell? ⟨B4, 4, none⟩ = some (.slice a2 c.hammers.length c2) ∧ w'.cell? ⟨B4, 5, none⟩ = some (.slice (some ⟨b, off, none⟩) c.pins.length c3))
                (((try dsimp only); ((repeat' apply And.intro) <;> (first | assumption | exact Ext.refl _ | ((repeat (first | with_reducible exact Ext.refl _ | with_reducible assumption | with_reducible refine Ext.alloc ?_ _ | with_reducible refine Ext.drew ?_ | with_reducible refine Ext.drewN ?_ _ | (with_reducible refine Ext.setCell ?_ ?hsc _; case hsc => (simp <;> omega)) | with_reducible refine Ext.trans ?_ (by assumption))); done) | exact (Ext.refl _).drew | exact Ext.trans (by assumption) (by assumption) | exact Ext.trans (Ext.refl _).drew (by assumption) | exact Ext.keep (by assumption) (by assumption) | exact Ext.keep (Ext.refl _).drew (by assumption)))))
                (first
                  | (go_at_call 56; refine (apart_any _ _ _ _ p3 (by omega) r3 (by omega) (by omega) (by omega)).mono ?_; rintro e w3 ⟨rfl, rfl⟩)
                  | (go_at_call 57; refine (HM _ (HX8.out.trans (by first | assumption | exact (Ext.refl _).drew))).out.mono ?_; rintro e w3 ⟨rfl, hb3⟩))
              all_goals
                have hLL : (clOut c k ++ clIn c k m).length ≤ 160400 := by
                  have e1 := clOut_len c b5 k
                  have e2 := clIn_len c k m
                  rw [List.length_append]; omega
                have HL := Lib.hid hLL
                clear hLL
                by_cases hcl : apartI p.2 q.2 c.steps < (ham c p).2
                · have hcc : clashB c p q = true := by unfold clashB; simp [hcl, HT.out]
                  have HY' := Lib.hid (HY.out hcc)
                  clear hcc
                  go_wp2_with (at_builtin; refine wpList_append_one rfl _ _ 32 rfl 2 encP encP_len encP_one (by decide) 37 i37 _ 16 Try.underlying32 hi hz0 hz1 hz2 rfl _ _ rfl (HO.out.kept (by (repeat (first | with_reducible exact Ext.refl _ | with_reducible assumption | with_reducible refine Ext.alloc ?_ _ | with_reducible refine Ext.drew ?_ | with_reducible refine Ext.drewN ?_ _ | (with_reducible refine Ext.setCell ?_ ?hsc _; case hsc => (simp <;> omega)) | with_reducible refine Ext.trans ?_ (by assumption))))) _ _ ((k : Int), (k : Int) + 1 + (m : Int)) rfl ⟨_, _, heap_alloc_new _ _, rfl⟩ (by omega) (by unfold maxLen; omega) (by have := HL.out; unfold maxLen; omega) (by have := HL.out; omega) ?_; intro v' w4 hown' hgrow')
                  go_roundw
                  case rel => exact ⟨m + 1, by omega, by go_num, by rw [HY'.out, ← List.append_assoc]; exact hown', (HG.out.call (by (repeat (first | with_reducible exact Ext.refl _ | with_reducible assumption | with_reducible refine Ext.alloc ?_ _ | with_reducible refine Ext.drew ?_ | with_reducible refine Ext.drewN ?_ _ | (with_reducible refine Ext.setCell ?_ ?hsc _; case hsc => (simp <;> omega)) | with_reducible refine Ext.trans ?_ (by assumption))))).trans hgrow'⟩
                  case measure => simp [intOf]; omega
                · have hcc : clashB c p q = false := by unfold clashB; simp [hcl]
                  have HN' := Lib.hid (HN.out hcc)
                  clear hcc
                  go_wp2
                  go_roundw
                  case rel => exact ⟨m + 1, by omega, by go_num, by rw [HN'.out]; exact HO.out.kept (by (repeat (first | with_reducible exact Ext.refl _ | with_reducible assumption | with_reducible refine Ext.alloc ?_ _ | with_reducible refine Ext.drew ?_ | with_reducible refine Ext.drewN ?_ _ | (with_reducible refine Ext.setCell ?_ ?hsc _; case hsc => (simp <;> omega)) | with_reducible refine Ext.trans ?_ (by assumption)))), HG.out.call (by (repeat (first | with_reducible exact Ext.refl _ | with_reducible assumption | with_reducible refine Ext.alloc ?_ _ | with_reducible refine Ext.drew ?_ | with_reducible refine Ext.drewN ?_ _ | (with_reducible refine Ext.setCell ?_ ?hsc _; case hsc => (simp <;> omega)) | with_reducible refine Ext.trans ?_ (by assumption))))⟩
                  case measure => simp [intOf]; omega
            · have hcl : clashB c p q = false := by unfold clashB; simp [ht]
              have ht1 : (p.1 == q.1) = false := by simpa using ht
              have ht2 : decide (p.1 = q.1) = false := by simpa using ht
              have HN' := Lib.hid (HN.out hcl)
              clear hcl ht
              go_wp2
              go_quiet (fail)
              go_wp2
              go_roundw
              case rel => exact ⟨m + 1, by omega, by go_num, by rw [HN'.out]; exact HO.out.kept (by (repeat (first | with_reducible exact Ext.refl _ | with_reducible assumption | with_reducible refine Ext.alloc ?_ _ | with_reducible refine Ext.drew ?_ | with_reducible refine Ext.drewN ?_ _ | (with_reducible refine Ext.setCell ?_ ?hsc _; case hsc => (simp <;> omega)) | with_reducible refine Ext.trans ?_ (by assumption)))), HG.out.call (by (repeat (first | with_reducible exact Ext.refl _ | with_reducible assumption | with_reducible refine Ext.alloc ?_ _ | with_reducible refine Ext.drew ?_ | with_reducible refine Ext.drewN ?_ _ | (with_reducible refine Ext.setCell ?_ ?hsc _; case hsc => (simp <;> omega)) | with_reducible refine Ext.trans ?_ (by assumption))))⟩
              case measure => simp [intOf]; omega
          · go_wp2
            go_roundw
            case rel => exact ⟨k + 1, by omega, by go_num, by rw [clOut_step, show c.pins.length - (k + 1) = m by omega]; exact ho, HG2.out.trans hg⟩
            case measure => simp [intOf]; omega
      · go_wp2
        go_ret2
        exact ⟨_, rfl, by simp only []; unfold clashL; rw [show c.pins.length = k by omega]; exact ho.sl encP_len, fun b hb => hg.low (fun b hb => (by cases hb)) HX1.out.size b hb, HX1.out.trans (hg.ext rfl)⟩

end Go.Proofs.Ytdgplebmlggmcaa
/- newRun of package chime. -/
namespace Go.Proofs.Ytdgplebmlggmcaa
open Go.RowKit

/-- The error of a run. -/
def runErr (c : Wk) (t n s : Int) : Int := if worksOk c then (if inn 0 (c.tunes - 1) t && inn 0 (c.runs.length - 1) n && inn 0 (c.sections - 1) s then 0 else 7) else 2

theorem worksOk_bounds' {c : Wk} (h : worksOk c = true) : partsOk c = true := by
  unfold worksOk at h
  simp only [Bool.and_eq_true] at h
  exact h.1.1.1.1.1

set_option maxRecDepth 100000 in
set_option maxHeartbeats 4000000 in
theorem newRun_bad (c : Wk) (a1 : Option Addr) (c1 : Nat) (a2 : Option Addr) (c2 : Nat) (a3 : Option Addr) (c3 : Nat) (t n s : Int) (w : World) (hw : RdW w c a1 c1 a2 c2 a3 c3) (hok : worksOk c = false) :
    Calls Try.prog 60 #[(.agg #[.int .i64 c.steps, .int .i64 c.sections, .slice a1 c.runs.length c1, .int .i64 c.tunes, .slice a2 c.hammers.length c2, .slice a3 c.pins.length c3]), .int .i64 t, .int .i64 n, .int .i64 s] w fun e w' =>
      e = .returned (.tuple #[.agg #[.int .i64 0, .int .i64 0, .slice none 0 0, .int .i64 0, .slice none 0 0, .slice none 0 0, .int .i64 0, .int .i64 0, .int .i64 0], .int .i64 2]) ∧ Ext w w' := by
  have hx0 : Ext w ((w.alloc (.cells #[.int .i64 c.steps, .int .i64 c.sections, .slice a1 c.runs.length c1, .int .i64 c.tunes, .slice a2 c.hammers.length c2, .slice a3 c.pins.length c3] 26)).alloc (.cells #[.int .i64 0, .int .i64 0, .slice none 0 0, .int .i64 0, .slice none 0 0, .slice none 0 0, .int .i64 0, .int .i64 0, .int .i64 0] 122)) := ((Ext.refl w).alloc _).alloc _
  have HC := Lib.hid (check_any c a1 c1 a2 c2 a3 c3 _ (hw.ext _ _ _ _ _ _ _ hx0))
  have HOK := Lib.hid hok
  clear hok hw hx0
  go_enter Try.func60, Try.ntmps60
  go_wp2_with (go_at_call 17; refine HC.out.mono ?_; rintro e w2 ⟨rfl, hb2⟩; rw [HOK.out]; obtain ⟨hr1, hr2⟩ := hb2.rules; have hz2 := hb2.size; (try simp at hz2); (try have hl0 : w.heap.size < w2.heap.size := by omega); (try have hl0 : w.heap.size ≤ w2.heap.size := by omega); (try have hl1 : w.heap.size + 1 < w2.heap.size := by omega); (try have hl1 : w.heap.size + 1 ≤ w2.heap.size := by omega))
  have hB : w2.heap[w.heap.size + 1]? = some (.cells #[.int .i64 0, .int .i64 0, .slice none 0 0, .int .i64 0, .slice none 0 0, .slice none 0 0, .int .i64 0, .int .i64 0, .int .i64 0] 122 (0, 0)) :=
    (hb2.block' (by simp)).trans (heap_alloc2_new w _ _)
  refine bodyPost_ret (results_cell_row_tmp rfl _ _ (w.heap.size + 1) _ _ _ _ _ rfl rfl (set_nine _ _ _ _ _ _ _ _ _ hB) Try.underlying122 rfl (by kernel_rfl)) rfl ⟨rfl, by (repeat (first | with_reducible exact Ext.refl _ | with_reducible assumption | with_reducible refine Ext.alloc ?_ _ | with_reducible refine Ext.drew ?_ | with_reducible refine Ext.drewN ?_ _ | (with_reducible refine Ext.setCell ?_ ?hsc _; case hsc => (simp <;> omega)) | with_reducible refine Ext.trans ?_ (by assumption)))⟩

set_option maxRecDepth 100000 in
set_option maxHeartbeats 4000000 in
theorem newRun_none (c : Wk) (a1 : Option Addr) (c1 : Nat) (a2 : Option Addr) (c2 : Nat) (a3 : Option Addr) (c3 : Nat) (t n s : Int) (w : World) (hw : RdW w c a1 c1 a2 c2 a3 c3) (hok : worksOk c = true) (hin : (inn 0 (c.tunes - 1) t && inn 0 (c.runs.length - 1) n && inn 0 (c.sections - 1) s) = false) :
    Calls Try.prog 60 #[(.agg #[.int .i64 c.steps, .int .i64 c.sections, .slice a1 c.runs.length c1, .int .i64 c.tunes, .slice a2 c.hammers.length c2, .slice a3 c.pins.length c3]), .int .i64 t, .int .i64 n, .int .i64 s] w fun e w' =>
      e = .returned (.tuple #[.agg #[.int .i64 0, .int .i64 0, .slice none 0 0, .int .i64 0, .slice none 0 0, .slice none 0 0, .int .i64 0, .int .i64 0, .int .i64 0], .int .i64 7]) ∧ Ext w w' := by
  have hx0 : Ext w ((w.alloc (.cells #[.int .i64 c.steps, .int .i64 c.sections, .slice a1 c.runs.length c1, .int .i64 c.tunes, .slice a2 c.hammers.length c2, .slice a3 c.pins.length c3] 26)).alloc (.cells #[.int .i64 0, .int .i64 0, .slice none 0 0, .int .i64 0, .slice none 0 0, .slice none 0 0, .int .i64 0, .int .i64 0, .int .i64 0] 122)) := ((Ext.refl w).alloc _).alloc _
  have HC := Lib.hid (check_any c a1 c1 a2 c2 a3 c3 _ (hw.ext _ _ _ _ _ _ _ hx0))
  obtain ⟨s1, s2, s3, s4, _, r1, r2, _, t1, t2⟩ := partsOk_bounds (worksOk_bounds' hok)
  have HOK := Lib.hid hok
  clear hok hw hx0
  cases h1 : inn 0 (c.tunes - 1) t
  case' true => cases h2 : inn 0 (c.runs.length - 1) n
  case' true.true =>
    have h3 : inn 0 (c.sections - 1) s = false := by rw [h1, h2] at hin; simpa using hin
  all_goals
    clear hin
    go_enter Try.func60, Try.ntmps60
    go_wp2_with (first | (go_at_call 17; refine HC.out.mono ?_; rintro e w2 ⟨rfl, hb2⟩; rw [HOK.out]; obtain ⟨hr1, hr2⟩ := hb2.rules; have hz2 := hb2.size; (try simp at hz2); (try have hl0 : w.heap.size < w2.heap.size := by omega); (try have hl0 : w.heap.size ≤ w2.heap.size := by omega); (try have hl1 : w.heap.size + 1 < w2.heap.size := by omega); (try have hl1 : w.heap.size + 1 ≤ w2.heap.size := by omega)) | (go_at_call 52; (with_reducible refine (within_one _ _ _ _ _ (by simp)).mono ?_); rintro e w2 ⟨rfl, hb2⟩; obtain ⟨hr1, hr2⟩ := hb2.rules; have hz2 := hb2.size; (try simp at hz2); (try have hl0 : w.heap.size < w2.heap.size := by omega); (try have hl0 : w.heap.size ≤ w2.heap.size := by omega); (try have hl1 : w.heap.size + 1 < w2.heap.size := by omega); (try have hl1 : w.heap.size + 1 ≤ w2.heap.size := by omega)))
    have hB : w2.heap[w.heap.size + 1]? = some (.cells #[.int .i64 0, .int .i64 0, .slice none 0 0, .int .i64 0, .slice none 0 0, .slice none 0 0, .int .i64 0, .int .i64 0, .int .i64 0] 122 (0, 0)) :=
      (Ext.block' (w := (w.alloc (.cells #[.int .i64 c.steps, .int .i64 c.sections, .slice a1 c.runs.length c1, .int .i64 c.tunes, .slice a2 c.hammers.length c2, .slice a3 c.pins.length c3] 26)).alloc (.cells #[.int .i64 0, .int .i64 0, .slice none 0 0, .int .i64 0, .slice none 0 0, .slice none 0 0, .int .i64 0, .int .i64 0, .int .i64 0] 122)) (by (repeat (first | with_reducible exact Ext.refl _ | with_reducible assumption | with_reducible refine Ext.alloc ?_ _ | with_reducible refine Ext.drew ?_ | with_reducible refine Ext.drewN ?_ _ | (with_reducible refine Ext.setCell ?_ ?hsc _; case hsc => (simp <;> omega)) | with_reducible refine Ext.trans ?_ (by assumption)))) (by simp)).trans (heap_alloc2_new w _ _)
    refine bodyPost_ret (results_cell_row_tmp rfl _ _ (w.heap.size + 1) _ _ _ _ _ rfl rfl (set_nine _ _ _ _ _ _ _ _ _ hB) Try.underlying122 rfl (by kernel_rfl)) rfl ⟨rfl, by (repeat (first | with_reducible exact Ext.refl _ | with_reducible assumption | with_reducible refine Ext.alloc ?_ _ | with_reducible refine Ext.drew ?_ | with_reducible refine Ext.drewN ?_ _ | (with_reducible refine Ext.setCell ?_ ?hsc _; case hsc => (simp <;> omega)) | with_reducible refine Ext.trans ?_ (by assumption)))⟩

end Go.Proofs.Ytdgplebmlggmcaa
/- newRun of package chime: the run. -/
namespace Go.Proofs.Ytdgplebmlggmcaa
open Go.RowKit

set_option maxRecDepth 100000 in
set_option maxHeartbeats 1000000 in
theorem newRun_ok (c : Wk) (a1 : Option Addr) (c1 : Nat) (a2 : Option Addr) (c2 : Nat) (a3 : Option Addr) (c3 : Nat) (t n s : Int) (w : World) (hw : RdW w c a1 c1 a2 c2 a3 c3) (hok : worksOk c = true) (ht : inn 0 (c.tunes - 1) t = true) (hn : inn 0 (c.runs.length - 1) n = true) (hs : inn 0 (c.sections - 1) s = true) :
    Calls Try.prog 60 #[(.agg #[.int .i64 c.steps, .int .i64 c.sections, .slice a1 c.runs.length c1, .int .i64 c.tunes, .slice a2 c.hammers.length c2, .slice a3 c.pins.length c3]), .int .i64 t, .int .i64 n, .int .i64 s] w fun e w' =>
      e = .returned (.tuple #[.agg #[.int .i64 c.steps, .int .i64 c.sections, .slice a1 c.runs.length c1, .int .i64 c.tunes, .slice a2 c.hammers.length c2, .slice a3 c.pins.length c3, .int .i64 t, .int .i64 s, .int .i64 (c.runs.getD n.toNat 0)], .int .i64 0]) ∧ Ext w w' := by
  have hx0 : Ext w ((w.alloc (.cells #[.int .i64 c.steps, .int .i64 c.sections, .slice a1 c.runs.length c1, .int .i64 c.tunes, .slice a2 c.hammers.length c2, .slice a3 c.pins.length c3] 26)).alloc (.cells #[.int .i64 0, .int .i64 0, .slice none 0 0, .int .i64 0, .slice none 0 0, .slice none 0 0, .int .i64 0, .int .i64 0, .int .i64 0] 122)) := ((Ext.refl w).alloc _).alloc _
  have HC := Lib.hid (check_any c a1 c1 a2 c2 a3 c3 _ (hw.ext _ _ _ _ _ _ _ hx0))
  obtain ⟨s1, s2, s3, s4, _, r1, r2, _, t1, t2⟩ := partsOk_bounds (worksOk_bounds' hok)
  obtain ⟨n0, n1⟩ := inn_iff.1 hn
  obtain ⟨j, rfl⟩ := Int.eq_ofNat_of_zero_le n0
  have hjl : j < c.runs.length := by omega
  obtain ⟨b, off, rfl, hbl, hc⟩ := hw.runs.cellI j hjl
  have hj : c.runs.getD (j : Int).toNat 0 = c.runs[j] := by
    rw [List.getD_eq_getElem?_getD, Int.toNat_natCast, List.getElem?_eq_getElem hjl]; rfl
  rw [hj]
  generalize c.runs[j] = y at *
  have hj1 : (j : Int) < (c.runs.length : Int) := by omega
  have HOK := Lib.hid hok
  have HCC := Lib.hid hc
  clear hok hw hx0 hj hc
  go_enter Try.func60, Try.ntmps60
  go_wp2_with (first | (go_at_call 17; refine HC.out.mono ?_; rintro e w2 ⟨rfl, hb2⟩; rw [HOK.out]; obtain ⟨hr1, hr2⟩ := hb2.rules; have hz2 := hb2.size; (try simp at hz2); (try have hl0 : w.heap.size < w2.heap.size := by omega); (try have hl0 : w.heap.size ≤ w2.heap.size := by omega); (try have hl1 : w.heap.size + 1 < w2.heap.size := by omega); (try have hl1 : w.heap.size + 1 ≤ w2.heap.size := by omega)) | (go_at_call 52; (with_reducible refine (within_one _ _ _ _ _ (by simp)).mono ?_); rintro e w2 ⟨rfl, hb2⟩; obtain ⟨hr1, hr2⟩ := hb2.rules; have hz2 := hb2.size; (try simp at hz2); (try have hl0 : w.heap.size < w2.heap.size := by omega); (try have hl0 : w.heap.size ≤ w2.heap.size := by omega); (try have hl1 : w.heap.size + 1 < w2.heap.size := by omega); (try have hl1 : w.heap.size + 1 ≤ w2.heap.size := by omega)))
  have hxl : Ext ((w.alloc (.cells #[.int .i64 c.steps, .int .i64 c.sections, .slice (some ⟨b, off, none⟩) c.runs.length c1, .int .i64 c.tunes, .slice a2 c.hammers.length c2, .slice a3 c.pins.length c3] 26)).alloc (.cells #[.int .i64 0, .int .i64 0, .slice none 0 0, .int .i64 0, .slice none 0 0, .slice none 0 0, .int .i64 0, .int .i64 0, .int .i64 0] 122)) w2 := by (repeat (first | with_reducible exact Ext.refl _ | with_reducible assumption | with_reducible refine Ext.alloc ?_ _ | with_reducible refine Ext.drew ?_ | with_reducible refine Ext.drewN ?_ _ | (with_reducible refine Ext.setCell ?_ ?hsc _; case hsc => (simp <;> omega)) | with_reducible refine Ext.trans ?_ (by assumption)))
  have hxw : Ext w w2 := by (repeat (first | with_reducible exact Ext.refl _ | with_reducible assumption | with_reducible refine Ext.alloc ?_ _ | with_reducible refine Ext.drew ?_ | with_reducible refine Ext.drewN ?_ _ | (with_reducible refine Ext.setCell ?_ ?hsc _; case hsc => (simp <;> omega)) | with_reducible refine Ext.trans ?_ (by assumption)))
  have hB : w2.heap[w.heap.size + 1]? = some (.cells #[.int .i64 0, .int .i64 0, .slice none 0 0, .int .i64 0, .slice none 0 0, .slice none 0 0, .int .i64 0, .int .i64 0, .int .i64 0] 122 (0, 0)) := (hxl.block' (by simp)).trans (heap_alloc2_new w _ _)
  have hA : w2.heap[w.heap.size]? = some (.cells #[.int .i64 c.steps, .int .i64 c.sections, .slice (some ⟨b, off, none⟩) c.runs.length c1, .int .i64 c.tunes, .slice a2 c.hammers.length c2, .slice a3 c.pins.length c3] 26 (0, 0)) :=
    (hxl.block' (by simp <;> omega)).trans ((heap_alloc_old _ _ (by simp)).trans (heap_alloc_new w _))
  have hc : w2.cell? ⟨b, off + j, none⟩ = some (.int .i64 y) := (hxw.cell _ hbl).trans HCC.out
  have k0 := cells_of hA 0 rfl
  have k1 := cells_of hA 1 rfl
  have k2 := cells_of hA 2 rfl
  have k3 := cells_of hA 3 rfl
  have k4 := cells_of hA 4 rfl
  have k5 := cells_of hA 5 rfl
  have z0 := cells_of hB 0 rfl
  have z1 := cells_of hB 1 rfl
  have z2 := cells_of hB 2 rfl
  have z3 := cells_of hB 3 rfl
  have z4 := cells_of hB 4 rfl
  have z5 := cells_of hB 5 rfl
  have z6 := cells_of hB 6 rfl
  have z7 := cells_of hB 7 rfl
  have z8 := cells_of hB 8 rfl
  have f0 := free_of hB 0
  have f1 := free_of hB 1
  have f2 := free_of hB 2
  have f3 := free_of hB 3
  have f4 := free_of hB 4
  have f5 := free_of hB 5
  have f6 := free_of hB 6
  have f7 := free_of hB 7
  have f8 := free_of hB 8
  have HX := Lib.hid hxw
  have HB := Lib.hid hB
  clear hxw hB hA hxl hr1 hr2 hb2 HC HOK HCC
  go_still_tail 10, (by kernel_rfl)
  change wpList _ _ _ _ _ w2.drew
  have HBD : Hid (w2.drew.heap[w.heap.size + 1]? = some (.cells #[.int .i64 0, .int .i64 0, .slice none 0 0, .int .i64 0, .slice none 0 0, .slice none 0 0, .int .i64 0, .int .i64 0, .int .i64 0] 122 (0, 0))) := HB.out
  have HXD : Hid (Ext w w2.drew) := HX.out.drew
  have hf := fun i => free_of HBD.out i
  clear HB HX k0 k1 k2 k3 k4 k5 z0 z1 z2 z3 z4 z5 z6 z7 z8 hc
  have z0 := cells_of HBD.out 0 rfl
  have z1 := cells_of HBD.out 1 rfl
  have z2 := cells_of HBD.out 2 rfl
  have z3 := cells_of HBD.out 3 rfl
  have z4 := cells_of HBD.out 4 rfl
  have z5 := cells_of HBD.out 5 rfl
  have z6 := cells_of HBD.out 6 rfl
  have z7 := cells_of HBD.out 7 rfl
  have z8 := cells_of HBD.out 8 rfl
  clear f0 f1 f2 f3 f4 f5 f6 f7 f8
  generalize w2.drew = W3 at *
  go_wp2
  refine bodyPost_ret (results_cell_row_tmp rfl _ _ (w.heap.size + 1) _ _ _ _ _ rfl rfl (set_nine (.int .i64 c.steps) (.int .i64 c.sections) (.slice (some ⟨b, off, none⟩) c.runs.length c1) (.int .i64 c.tunes) (.slice a2 c.hammers.length c2) (.slice a3 c.pins.length c3) (.int .i64 t) (.int .i64 s) (.int .i64 y) HBD.out) Try.underlying122 rfl (by kernel_rfl)) rfl ⟨rfl, ?_⟩
  have hx := HXD.out
  (repeat (first | with_reducible exact Ext.refl _ | with_reducible assumption | with_reducible refine Ext.alloc ?_ _ | with_reducible refine Ext.drew ?_ | with_reducible refine Ext.drewN ?_ _ | (with_reducible refine Ext.setCell ?_ ?hsc _; case hsc => (simp <;> omega)) | with_reducible refine Ext.trans ?_ (by assumption)))

end Go.Proofs.Ytdgplebmlggmcaa
/- Loops over iterators: one law, in which a round's freedom is told by the types of the cells that it may turn. -/
namespace Go.Proofs.Ytdgplebmlggmcaa
open Go.RowKit

/-- No cells have turned, and nothing below B. -/
structure Soft (B : Nat) (W W' : World) : Prop where
  os : W'.os = W.os
  tape : W'.tape = W.tape
  output : W'.output = W.output
  size : W.heap.size ≤ W'.heap.size
  low : ∀ b, b < B → W'.heap[b]? = W.heap[b]?
  cells : ∀ (b : Nat) (cs : Array Value) (t : TypeId) (fr : Nat × Nat), W.heap[b]? = some (.cells cs t fr) → W'.heap[b]? = some (.cells cs t fr)

/-- What an iterator may count on: of cells of other types than T's none have turned, and nothing below n₀. -/
structure KeepsC (n₀ : Nat) (T : List TypeId) (W W' : World) : Prop where
  os : W'.os = W.os
  tape : W'.tape = W.tape
  output : W'.output = W.output
  size : W.heap.size ≤ W'.heap.size
  low : ∀ b, b < n₀ → W'.heap[b]? = W.heap[b]?
  cells : ∀ (b : Nat) (cs : Array Value) (t : TypeId) (fr : Nat × Nat), W.heap[b]? = some (.cells cs t fr) → t ∉ T → W'.heap[b]? = some (.cells cs t fr)

/-- What a round does: it keeps what an iterator counts on, and whatever is no cells, from B on. -/
structure Keeps (n₀ B : Nat) (T : List TypeId) (W W' : World) : Prop where
  base : KeepsC n₀ T W W'
  rest : ∀ (b : Nat) (o : Obj), B ≤ b → W.heap[b]? = some o → o.isCells = false → W'.heap[b]? = some o

theorem heap_lt {w : World} {B : Nat} {o : Obj} (h : w.heap[B]? = some o) : B < w.heap.size := by
  rcases Nat.lt_or_ge B w.heap.size with h' | h'
  · exact h'
  · rw [Array.getElem?_eq_none h'] at h; cases h

theorem Ext.at' {w w' : World} (h : Ext w w') {b : Nat} {o : Obj} (hb : w.heap[b]? = some o) : w'.heap[b]? = some o := (h.block' (heap_lt hb)).trans hb
theorem Ext.soft {w w' : World} (h : Ext w w') (B : Nat) (hB : B ≤ w.heap.size) : Soft B w w' :=
  ⟨h.os, h.tape, h.output, h.size, fun _ hb => h.block' (Nat.lt_of_lt_of_le hb hB), fun _ _ _ _ hb => h.at' hb⟩
theorem Soft.ext {B : Nat} {w w' : World} (h : Soft B w w') {u : World} (hu : Ext u w) (hB : u.heap.size ≤ B) : Ext u w' :=
  ⟨h.os.trans hu.os, h.tape.trans hu.tape, h.output.trans hu.output, Nat.le_trans hu.size h.size, fun b hb => (h.low b (Nat.lt_of_lt_of_le hb hB)).trans (hu.block b hb)⟩
theorem Soft.putObj {B : Nat} (W : World) {l : Nat} {o : Obj} (o' : Obj) (hB : B ≤ l) (hl : W.heap[l]? = some o) (ho : o.isCells = false) : Soft B W (W.putObj l o') := by
  have hg := grownBy_putObj' W l o'
  refine ⟨hg.os, hg.tape, hg.output, hg.size, fun b hb => World.putObj_heap_other (by omega), fun b cs t fr hb => ?_⟩
  rw [World.putObj_heap_other (fun e => by subst e; rw [hl] at hb; cases hb; cases ho)]
  exact hb
theorem Soft.cell {B : Nat} {W W' : World} (h : Soft B W W') {b o : Nat} {cs : Array Value} {t : TypeId} {fr : Nat × Nat} (hb : W.heap[b]? = some (.cells cs t fr)) : W'.cell? ⟨b, o, none⟩ = W.cell? ⟨b, o, none⟩ :=
  World.cell?_of_block (w := W) (a := ⟨b, o, none⟩) ((h.cells b cs t fr hb).trans hb.symm)

theorem KeepsC.refl (n₀ : Nat) (T : List TypeId) (W : World) : KeepsC n₀ T W W := ⟨rfl, rfl, rfl, Nat.le_refl _, fun _ _ => rfl, fun _ _ _ _ h _ => h⟩
theorem KeepsC.trans {n₀ : Nat} {T : List TypeId} {a b c : World} (h : KeepsC n₀ T a b) (k : KeepsC n₀ T b c) : KeepsC n₀ T a c :=
  ⟨k.os.trans h.os, k.tape.trans h.tape, k.output.trans h.output, Nat.le_trans h.size k.size, fun b hb => (k.low b hb).trans (h.low b hb), fun b cs t fr hb ht => k.cells b cs t fr (h.cells b cs t fr hb ht) ht⟩
theorem Soft.keepsC {B n₀ : Nat} {T : List TypeId} {W W' : World} (h : Soft B W W') (hn : n₀ ≤ B) : KeepsC n₀ T W W' :=
  ⟨h.os, h.tape, h.output, h.size, fun b hb => h.low b (Nat.lt_of_lt_of_le hb hn), fun b cs t fr hb _ => h.cells b cs t fr hb⟩
theorem Ext.keepsC {n₀ : Nat} {T : List TypeId} {W W' : World} (h : Ext W W') (hn : n₀ ≤ W.heap.size) : KeepsC n₀ T W W' := (h.soft W.heap.size (Nat.le_refl _)).keepsC hn
theorem KeepsC.ext {n₀ : Nat} {T : List TypeId} {w w' u : World} (h : KeepsC n₀ T w w') (hu : Ext u w) (hB : u.heap.size ≤ n₀) : Ext u w' :=
  ⟨h.os.trans hu.os, h.tape.trans hu.tape, h.output.trans hu.output, Nat.le_trans hu.size h.size, fun b hb => (h.low b (Nat.lt_of_lt_of_le hb hB)).trans (hu.block b hb)⟩

theorem Keeps.refl (n₀ B : Nat) (T : List TypeId) (W : World) : Keeps n₀ B T W W := ⟨KeepsC.refl _ _ _, fun _ _ _ h _ => h⟩
theorem Keeps.trans {n₀ B : Nat} {T : List TypeId} {a b c : World} (h : Keeps n₀ B T a b) (k : Keeps n₀ B T b c) : Keeps n₀ B T a c :=
  ⟨h.base.trans k.base, fun b o hb ho hc => k.rest b o hb (h.rest b o hb ho hc) hc⟩
theorem Ext.keeps {n₀ B : Nat} {T : List TypeId} {W W' : World} (h : Ext W W') (hn : n₀ ≤ W.heap.size) : Keeps n₀ B T W W' :=
  ⟨h.keepsC hn, fun _ _ _ ho _ => h.at' ho⟩
theorem Keeps.call {n₀ B : Nat} {T : List TypeId} {W W1 W2 : World} (h : Keeps n₀ B T W W1) (e : Ext W1 W2) (hn : n₀ ≤ W.heap.size) : Keeps n₀ B T W W2 :=
  h.trans (e.keeps (Nat.le_trans hn h.base.size))

/-- A store into a cell of one of the types. -/
theorem keeps_setCell {n₀ B : Nat} {T : List TypeId} {W : World} {b : Nat} {cs : Array Value} {t : TypeId} {fr : Nat × Nat} (hb : W.heap[b]? = some (.cells cs t fr)) (ht : t ∈ T) (hn : n₀ ≤ b) (o : Nat) (v : Value) :
    Keeps n₀ B T W (W.setCell ⟨b, o, none⟩ v) := by
  have hx : Below b W (W.setCell ⟨b, o, none⟩ v) := (Below.refl b W).setCell (p := ⟨b, o, none⟩) (Nat.le_refl _) v
  have hne : ∀ k, k ≠ b → (W.setCell ⟨b, o, none⟩ v).heap[k]? = W.heap[k]? := fun k hk => Below.heap_setCell W ⟨b, o, none⟩ v k hk
  refine ⟨⟨hx.os, hx.tape, hx.output, hx.size, fun k hk => hne k (by omega), fun k cs' t' fr' hk htn => ?_⟩, fun k o' hk ho hc => ?_⟩
  · by_cases hkb : k = b
    · subst hkb; rw [hb] at hk; cases hk; exact absurd ht htn
    · rw [hne k hkb]; exact hk
  · by_cases hkb : k = b
    · subst hkb; rw [hb] at ho; cases ho; cases hc
    · rw [hne k hkb]; exact ho

/-- An append to a slice of the call's own. -/
theorem Grew.keeps {α : Type} {k n₀ B : Nat} {enc : α → List Value} {e : TypeId} {xs : List α} {T : List TypeId} {w w' : World} {v v' : Value} (h : Grew w v w' v') (ho : OwnL k enc e w v xs) (ht : e ∈ T) (hn : n₀ ≤ w.heap.size)
    (hlow : ∀ b, v.ownBlock = some b → n₀ ≤ b) : Keeps n₀ B T w w' := by
  have key : ∀ (b : Nat) (o : Obj), w.heap[b]? = some o → (∀ (cs : Array Value) (fr : Nat × Nat), o ≠ Obj.cells cs e fr) → w'.heap[b]? = some o := fun b o hb hne => by
    refine (h.block b (heap_lt hb) (fun e2 => ?_)).trans hb
    rcases ho.2 with ⟨rfl, _⟩ | ⟨g, cap, cur, rfl, _, hg, _⟩
    · cases e2
    · simp [Value.ownBlock] at e2
      subst e2
      rw [hg] at hb; cases hb
      exact hne _ _ rfl
  refine ⟨⟨h.os, h.tape, h.output, h.size, fun b hb => ?_, fun b cs t fr hb htn => key b _ hb (fun cs' fr' e2 => by cases e2; exact htn ht)⟩, fun b o _ hb hc => key b o hb (fun cs fr e2 => by subst e2; cases hc)⟩
  exact h.block b (Nat.lt_of_lt_of_le hb hn) (fun e2 => by have := hlow b e2; omega)

theorem OwnL.soft {α : Type} {k : Nat} {enc : α → List Value} {e : TypeId} {B : Nat} {w w' : World} {v : Value} {xs : List α} (h : OwnL k enc e w v xs) (s : Soft B w w') : OwnL k enc e w' v xs := by
  refine ⟨h.1, ?_⟩
  rcases h.2 with hn | ⟨g, cap, cur, hv, hbg, hg, hr⟩
  · exact .inl hn
  · exact .inr ⟨g, cap, cur, hv, hbg, s.cells g cur e (0, 0) hg, hr⟩

theorem OwnL.keepsC {α : Type} {k : Nat} {enc : α → List Value} {e : TypeId} {n₀ : Nat} {T : List TypeId} {w w' : World} {v : Value} {xs : List α} (h : OwnL k enc e w v xs) (s : KeepsC n₀ T w w') (he : e ∉ T) : OwnL k enc e w' v xs := by
  refine ⟨h.1, ?_⟩
  rcases h.2 with hn | ⟨g, cap, cur, hv, hbg, hg, hr⟩
  · exact .inl hn
  · exact .inr ⟨g, cap, cur, hv, hbg, s.cells g cur e (0, 0) hg he, hr⟩

theorem OwnL.is {α : Type} {k : Nat} {enc : α → List Value} {e : TypeId} {w : World} {v : Value} {xs : List α} (h : OwnL k enc e w v xs) : ∃ a c, v = .slice a xs.length c := by
  rcases h.2 with ⟨rfl, h0⟩ | ⟨g, cap, cur, rfl, _⟩
  · exact ⟨none, 0, by rw [h0]⟩
  · exact ⟨_, _, rfl⟩

theorem OwnL.is3 {α : Type} {k : Nat} {enc : α → List Value} {e : TypeId} {w : World} {v : Value} {xs : List α} (h : OwnL k enc e w v xs) : ∃ a n c, v = .slice a n c := by
  obtain ⟨a, c, h⟩ := h.is
  exact ⟨a, _, c, h⟩

/-- The values that an iterator yields, for whatever loop. -/
def Yields {α : Type} (P : Program) (g : Nat) (pr po : Array Value) (encs : α → Array Value) (T : List TypeId) (n₀ : Nat) (xs : List α) (w0 : World) : Prop :=
  ∀ (l : Nat) (J Jx : List α → World → Prop) (W : World), Ext w0 W → (∀ s A B, J s A → Ext A B → J s B) → (∀ s A B, Jx s A → Ext A B → Jx s B) →
    (∀ pre x W1, pre ++ [x] <+: xs → J pre W1 → ∀ m, YieldAt Fence.wide m P l (encs x) W1 fun e W' => (e = .returned (.bool true) ∧ J (pre ++ [x]) W' ∧ KeepsC n₀ T W1 W') ∨ (e = .returned (.bool false) ∧ Jx (pre ++ [x]) W')) →
    J [] W → Calls P g (pr ++ #[.func (.yield l) #[] #[]] ++ po) W fun e W' => (∃ v, e = .returned v) ∧ (J xs W' ∨ ∃ pre, pre <+: xs ∧ Jx pre W')

/-- How a round may be left. -/
def roundEnd {α : Type} (n₀ B : Nat) (T : List TypeId) (I : List α → World → Prop) (Ix : Code → List α → World → Prop) (s : List α) (W : World) : Exit → Act → World → Prop
  | .normal, _, W' => Keeps n₀ B T W W' ∧ I s W'
  | .ret, _, W' => Keeps n₀ B T W W' ∧ Ix .ret s W'
  | .exit id, _, W' => Keeps n₀ B T W W' ∧ Ix (.exit id) s W'
  | .goto t, _, W' => Keeps n₀ B T W W' ∧ Ix (.goto t) s W'
  | _, _, _ => False

theorem wp_range {α : Type} {P : Program} {gop : Operand} {ps : Array Tmp} {assign body : Code} {Q : Exit → Act → World → Prop} {a : Act} {w : World} {n gf : Nat} {pr po : Array Value}
    (hg : a.eval gop = .func (.func gf) pr po) (eg : ∀ args w, (callFunc gf args).run P w = .ok (.enter gf args) w)
    {encs : α → Array Value} {T : List TypeId} {n₀ : Nat} {xs : List α} {w0 : World} (hseq : Yields P gf pr po encs T n₀ xs w0) (hb0 : Ext w0 w) (hn₀ : n₀ ≤ w.heap.size) (hps : ∀ x, (encs x).size = ps.size)
    (I : List α → World → Prop) (Ix : Code → List α → World → Prop) (hI : ∀ s A B, I s A → Soft w.heap.size A B → I s B) (hIx : ∀ c s A B, Ix c s A → Soft w.heap.size A B → Ix c s B) (h0 : I [] w)
    (hround : ∀ (m l : Nat) (pre : List α) (x : α) (W : World), pre ++ [x] <+: xs → w.heap.size ≤ W.heap.size → I pre W →
      assign.wpIn (Fence.wide.inRound l) m P (Exit.then (fun a₁ W₁ => Ext W W₁ ∧ ∀ W₂, Soft w.heap.size W₁ W₂ → body.wpIn (Fence.wide.inRound l) m P (roundEnd n₀ w.heap.size T I Ix (pre ++ [x]) W₂) a₁ W₂) (fun _ _ _ => False))
        { tmps := (ps.zip (encs x)).foldl (fun t (p, v) => t.setIfInBounds p v) a.tmps, defers := [] } W)
    (hdone : ∀ (D : Nat) (W : World), w.heap.size ≤ D → I xs W → W.heap[D]? = some (.deferred (some [])) → Q .normal { a with defers := { target := .collected D, args := #[] } :: a.defers } W)
    (hstop : ∀ (D : Nat) (c : Code) (pre : List α) (W : World), w.heap.size ≤ D → pre <+: xs → Ix c pre W → W.heap[D]? = some (.deferred (some [])) → c.wpIn Fence.wide n P Q { a with defers := { target := .collected D, args := #[] } :: a.defers } W) :
    (Code.rangeFunc gop ps assign body).wpIn Fence.wide n P Q a w := by
  refine wpIn_rangeFunc ?_
  intro fn hfn
  have lpIs : ∃ lp : LoopState → Option Code → Loop, lp = fun st pe => { state := st, pending := pe, fn, tmps := a.tmps, params := ps, assign, body, defers := w.heap.size } := ⟨_, rfl⟩
  obtain ⟨lp, hlp⟩ := lpIs
  obtain ⟨V, hV⟩ : ∃ V, (w.alloc (.deferred (some []))).alloc (.loop (lp .ready none)) = V := ⟨_, rfl⟩
  have hxV : Ext w V := by rw [← hV]; exact ((Ext.refl w).alloc _).alloc _
  have hVl : V.heap[w.heap.size + 1]? = some (.loop (lp .ready none)) := by rw [← hV]; exact heap_alloc2_new w _ _
  have hVd : V.heap[w.heap.size]? = some (.deferred (some [])) := by
    rw [← hV]; exact (heap_alloc_old _ _ (by simp)).trans (heap_alloc_new w _)
  refine ⟨w.heap.size + 1, [{ target := .collected w.heap.size, args := #[] }], V, { target := .fn (.func gf) po, args := pr ++ #[.func (.yield (w.heap.size + 1)) #[] #[]] }, V, gf,
    pr ++ #[.func (.yield (w.heap.size + 1)) #[] #[]] ++ po, V, ?_, ?_, fun _ _ => trivial, ?_, fun h => by simp [Fence.wide] at h, ?_⟩
  · rw [← hV, hlp]
    exact run_enterLoop_outer _ _ _ _ _
  · simp only [resolve, hg]
    simp [go_sem]
  · simp only [invoke]
    exact eg _ _
  · refine callsIn_wide.2 ((hseq (w.heap.size + 1)
      (fun s W => (I s W ∧ w.heap.size ≤ W.heap.size) ∧ W.heap[w.heap.size + 1]? = some (.loop (lp .ready none)) ∧ W.heap[w.heap.size]? = some (.deferred (some [])))
      (fun s W => ∃ c, Ix c s W ∧ w.heap.size ≤ W.heap.size ∧ W.heap[w.heap.size + 1]? = some (.loop (lp .done (some c))) ∧ W.heap[w.heap.size]? = some (.deferred (some [])))
      V (hb0.trans hxV) ?_ ?_ ?_ ⟨⟨hI [] w V h0 (hxV.soft _ (Nat.le_refl _)), hxV.size⟩, hVl, hVd⟩).mono ?_)
    · rintro s A B ⟨⟨h1, h2⟩, h3, h4⟩ hx
      exact ⟨⟨hI s A B h1 (hx.soft _ h2), Nat.le_trans h2 hx.size⟩, hx.at' h3, hx.at' h4⟩
    · rintro s A B ⟨c, h1, h2, h3, h4⟩ hx
      exact ⟨c, hIx c s A B h1 (hx.soft _ h2), Nat.le_trans h2 hx.size, hx.at' h3, hx.at' h4⟩
    · rintro pre x W hpre ⟨⟨hi, hsz⟩, hl, hd⟩ m
      have hy := run_yield (P := P) (args := encs x) hl (by rw [hlp]; exact hps x)
      rw [hlp] at hy
      refine ⟨fn, _, assign, body, hy, roundIn_of_wpIn hfn ?_⟩
      refine wpIn_mono (hround m (w.heap.size + 1) pre x W hpre hsz hi) ?_
      intro ex a1 W1 hp
      cases ex with
      | normal =>
        obtain ⟨hx1, hbody⟩ := hp
        have hl1 := hx1.at' hl
        have hd1 := hx1.at' hd
        have hs2 : Soft w.heap.size W1 (W1.putObj (w.heap.size + 1) (.loop { lp .ready none with state := .busy })) := Soft.putObj W1 _ (Nat.le_succ _) hl1 rfl
        refine ⟨_, run_beginRound hl1 (by rw [hlp]), ?_⟩
        have hl2 : (W1.putObj (w.heap.size + 1) (.loop { lp .ready none with state := .busy })).heap[w.heap.size + 1]? = some (.loop { lp .ready none with state := .busy }) := World.putObj_heap_same (heap_lt hl1)
        have hd2 : (W1.putObj (w.heap.size + 1) (.loop { lp .ready none with state := .busy })).heap[w.heap.size]? = some (.deferred (some [])) := (World.putObj_heap_other (by omega)).trans hd1
        have hk2 : KeepsC n₀ T W (W1.putObj (w.heap.size + 1) (.loop { lp .ready none with state := .busy })) := (hx1.keepsC (Nat.le_trans hn₀ hsz)).trans (hs2.keepsC hn₀)
        refine wpIn_mono (hbody _ hs2) ?_
        generalize (W1.putObj (w.heap.size + 1) (.loop { lp .ready none with state := .busy })) = W2 at hl2 hd2 hk2 hs2
        have fin : ∀ (jump : Option Code) (W3 : World), Keeps n₀ w.heap.size T W2 W3 →
            ∃ W4, (Instr.endRound (w.heap.size + 1) jump).run P W3 = .ok (.bool jump.isNone) W4 ∧ Soft w.heap.size W3 W4 ∧ W4.heap[w.heap.size + 1]? = some (.loop (lp (if jump.isNone then .ready else .done) jump)) ∧ W4.heap[w.heap.size]? = some (.deferred (some [])) ∧ KeepsC n₀ T W W4 ∧ w.heap.size ≤ W4.heap.size := fun jump W3 hk => by
          have hl3 := hk.rest _ _ (Nat.le_succ _) hl2 rfl
          have hd3 := hk.rest _ _ (Nat.le_refl _) hd2 rfl
          have hr := run_endRound (P := P) jump hl3
          have hs4 : Soft w.heap.size W3 (W3.putObj (w.heap.size + 1) (.loop (lp (if jump.isNone then .ready else .done) jump))) := Soft.putObj W3 _ (Nat.le_succ _) hl3 rfl
          refine ⟨_, ?_, hs4, World.putObj_heap_same (heap_lt hl3), (World.putObj_heap_other (by omega)).trans hd3, (hk2.trans hk.base).trans (hs4.keepsC hn₀), ?_⟩
          · rw [hlp] at hr ⊢; exact hr
          · exact Nat.le_trans (Nat.le_trans hsz (hk2.trans hk.base).size) hs4.size
        intro ex a3 W3 hp
        cases ex with
        | normal =>
          obtain ⟨hk, hi3⟩ := hp
          obtain ⟨W4, hr, hs4, hl4, hd4, hk4, hz4⟩ := fin none W3 hk
          exact ⟨_, _, hr, .inl ⟨rfl, ⟨⟨hI _ _ _ hi3 hs4, hz4⟩, hl4, hd4⟩, hk4⟩⟩
        | ret =>
          obtain ⟨hk, hi3⟩ := hp
          obtain ⟨W4, hr, hs4, hl4, hd4, hk4, hz4⟩ := fin (some .ret) W3 hk
          exact ⟨_, _, hr, .inr ⟨rfl, _, hIx _ _ _ _ hi3 hs4, hz4, hl4, hd4⟩⟩
        | exit id =>
          obtain ⟨hk, hi3⟩ := hp
          obtain ⟨W4, hr, hs4, hl4, hd4, hk4, hz4⟩ := fin (some (.exit id)) W3 hk
          exact ⟨_, _, hr, .inr ⟨rfl, _, hIx _ _ _ _ hi3 hs4, hz4, hl4, hd4⟩⟩
        | goto t =>
          obtain ⟨hk, hi3⟩ := hp
          obtain ⟨W4, hr, hs4, hl4, hd4, hk4, hz4⟩ := fin (some (.goto t)) W3 hk
          exact ⟨_, _, hr, .inr ⟨rfl, _, hIx _ _ _ _ hi3 hs4, hz4, hl4, hd4⟩⟩
        | panic _ => exact hp.elim
        | outgrown => exact hp.elim
      | ret => exact hp.elim
      | exit _ => exact hp.elim
      | goto _ => exact hp.elim
      | panic _ => exact hp.elim
      | outgrown => exact hp.elim
    · rintro e W2 ⟨⟨v, rfl⟩, (⟨⟨hi, hsz⟩, hl, hd⟩ | ⟨pre, hpre, c, hi, hsz, hl, hd⟩)⟩
      · have hr := run_endLoop (P := P) hl (by rw [hlp]; simp)
        have hs := Soft.putObj (B := w.heap.size) W2 (.loop { lp .ready none with state := .exhausted }) (Nat.le_succ _) hl rfl
        exact ⟨none, _, by rw [hlp] at hr; exact hr, hdone w.heap.size _ (Nat.le_refl _) (hI _ _ _ hi (by rw [hlp] at hs; exact hs)) ((World.putObj_heap_other (by omega)).trans hd)⟩
      · have hr := run_endLoop (P := P) hl (by rw [hlp]; simp)
        have hs := Soft.putObj (B := w.heap.size) W2 (.loop { lp .done (some c) with state := .exhausted }) (Nat.le_succ _) hl rfl
        exact ⟨some c, _, by rw [hlp] at hr; exact hr, hstop w.heap.size c pre _ (Nat.le_refl _) hpre (hIx _ _ _ _ hi (by rw [hlp] at hs; exact hs)) ((World.putObj_heap_other (by omega)).trans hd)⟩

/-- Behind such a loop: the block of the deferred calls is shut. -/
theorem Ext.shut {w W : World} (h : Ext w W) {D : Nat} (o : Obj) (hD : w.heap.size ≤ D) : Ext w (W.putObj D o) := by
  have hg := grownBy_putObj' W D o
  exact Below.grown h hg h.size (fun k e => by cases e; exact hD)

end Go.Proofs.Ytdgplebmlggmcaa
/- Slices that a call builds by append, inside a round; slices.AppendSeq and slices.Collect at strikes. -/
namespace Go.Proofs.Ytdgplebmlggmcaa
open Go.RowKit
attribute [local go_sem] Oper.semAt_some

section
variable {F : Fence} {nF : Nat} {P : Program} {w : World} {α : Type}

/-- 'append(s, ys...)' for a slice of the call's own. -/
theorem wpListIn_append_L {ops : Array Oper} {rest : List Oper} {o : Oper} {a : Act} {Q : Exit → Act → World → Prop} (hgd : o.guard = none) (s x : Operand) (t : TypeId)
    (ho : o.op = .call { callee := .builtin .append, args := #[s, x], argTypes := #[t, t] })
    (k : Nat) (enc : α → List Value) (hk : ∀ x, (enc x).length = k) (hone : ∀ x, ∀ u ∈ enc x, u.oneCell' = true) (hk0 : 0 < k)
    (e : TypeId) (i : TypeInfo) (z : Value) (bytes : Nat) (ht : P.underlying t = some (.slice e)) (hi : P.info? e = some i) (hz : i.zero = some z)
    (hsize : i.size = k) (hby : i.bytes = bytes) (hzs : z.cells.size = k)
    (v : Value) (xs : List α) (hs : a.eval s = v) (hown : OwnL k enc e w v xs)
    (b off n c : Nat) (ys : List α) (hx : a.eval x = .slice (some ⟨b, off, none⟩) n c) (hn : n = ys.length) (hys : Row k enc w (some ⟨b, off, none⟩) c ys)
    (h63 : xs.length + ys.length ≤ maxLen) (hbytes : (xs.length + ys.length) * bytes ≤ 140737488355328)
    (h : ∀ v' w', OwnL k enc e w' v' (xs ++ ys) → Grew w v w' v' → wpListIn F nF P ops Q rest (a.put o.dst v') w') : wpListIn F nF P ops Q (o :: rest) a w := by
  subst hn
  refine wpListIn_append_own_at w hgd s x t ho 0 e i z k bytes ht hi hz hsize hby hzs hk0 v xs.length (xs.flatMap enc) hs hown ⟨b, off, none⟩ ys.length c (ys.flatMap enc) hx (flat_len hk ys) ?_ ?_ h63 hbytes (Nat.zero_le _) ?_
  · intro j u hu
    have hadd : (⟨b, off, none⟩ : Addr).add j = ⟨b, off + j, none⟩ := by unfold Addr.add; split <;> simp_all
    have hjl : j < ys.length * k := by
      rw [← flat_len hk ys]
      exact (List.getElem?_eq_some_iff.1 hu).1
    have hq : j / k < ys.length := Nat.div_lt_of_lt_mul (by rw [Nat.mul_comm]; exact hjl)
    have hr : j % k < k := Nat.mod_lt _ hk0
    have hd : j / k * k + j % k = j := by rw [Nat.mul_comm]; exact Nat.div_add_mod j k
    obtain ⟨b', off', hab, _, hc⟩ := hys.at' (j / k) hq
    cases hab
    rw [hadd, ← hd, ← Nat.add_assoc, hc _ hr, ← flat_get hk ys _ hq _ hr, hd, hu]
  · intro u hu
    obtain ⟨y, _, hy⟩ := List.mem_flatMap.1 hu
    exact hone y u hy
  · intro v' w' hown' hg _ hat
    refine h v' w' ?_ (OwnL.grew hg hat)
    unfold OwnL
    rw [List.length_append, List.flatMap_append]
    exact hown'

/-- 'append(s, y)': the one element lies in a block of its own. -/
theorem wpListIn_append_one {ops : Array Oper} {rest : List Oper} {o : Oper} {a : Act} {Q : Exit → Act → World → Prop} (hgd : o.guard = none) (s x : Operand) (t : TypeId)
    (ho : o.op = .call { callee := .builtin .append, args := #[s, x], argTypes := #[t, t] })
    (k : Nat) (enc : α → List Value) (hk : ∀ x, (enc x).length = k) (hone : ∀ x, ∀ u ∈ enc x, u.oneCell' = true) (hk0 : 0 < k)
    (e : TypeId) (i : TypeInfo) (z : Value) (bytes : Nat) (ht : P.underlying t = some (.slice e)) (hi : P.info? e = some i) (hz : i.zero = some z)
    (hsize : i.size = k) (hby : i.bytes = bytes) (hzs : z.cells.size = k)
    (v : Value) (xs : List α) (hs : a.eval s = v) (hown : OwnL k enc e w v xs)
    (b c : Nat) (y : α) (hx : a.eval x = .slice (some ⟨b, 0, none⟩) 1 c) (hb : ∃ cs tt, w.heap[b]? = some (.cells cs tt (0, 0)) ∧ cs.toList = enc y) (hc1 : 1 ≤ c) (hcm : c ≤ maxLen)
    (h63 : xs.length + 1 ≤ maxLen) (hbytes : (xs.length + 1) * bytes ≤ 140737488355328)
    (h : ∀ v' w', OwnL k enc e w' v' (xs ++ [y]) → Grew w v w' v' → wpListIn F nF P ops Q rest (a.put o.dst v') w') : wpListIn F nF P ops Q (o :: rest) a w := by
  refine wpListIn_append_L hgd s x t ho k enc hk hone hk0 e i z bytes ht hi hz hsize hby hzs v xs hs hown b 0 1 c [y] hx rfl ⟨hc1, hcm, fun j hj => ⟨b, 0, rfl, ?_, fun i hi => ?_⟩⟩ h63 hbytes h
  · obtain ⟨cs, tt, hb, _⟩ := hb
    rcases Nat.lt_or_ge b w.heap.size with h | h
    · exact h
    · rw [Array.getElem?_eq_none h] at hb; cases hb
  · have hj0 : j = 0 := by simp at hj; omega
    subst hj0
    obtain ⟨cs, tt, hb, he⟩ := hb
    rw [Nat.zero_mul, Nat.zero_add, cell_of_row w b i cs tt (0, 0) hb]
    simp [← he]

end

/-- A strike as its three cells: when, which bell, which track. -/
def encS (x : Int × Int × Int) : List Value := [.int .i64 x.1, .int .i64 x.2.1, .int .i64 x.2.2]
def valS (x : Int × Int × Int) : Value := .agg #[.int .i64 x.1, .int .i64 x.2.1, .int .i64 x.2.2]
theorem encS_len (x : Int × Int × Int) : (encS x).length = 3 := rfl
theorem encS_one (x : Int × Int × Int) : ∀ u ∈ encS x, u.oneCell' = true := by intro u hu; simp [encS] at hu; rcases hu with rfl | rfl | rfl <;> rfl

theorem Try.infoS : (Try.prog.info? 153).map (fun i => (i.zero, i.size, i.bytes)) = some (some (.agg #[.int .i64 0, .int .i64 0, .int .i64 0]), 3, 24) := by kernel_rfl

/-- Between two rounds: the box holds what has come so far. -/
def ApAt (w : World) (B : Nat) (s : List (Int × Int × Int)) (W : World) : Prop :=
  ∃ v, W.heap[B]? = some (.cells #[v] 150 (0, 0)) ∧ OwnL 3 encS 153 W v s ∧ (∀ b, v.ownBlock = some b → w.heap.size ≤ b) ∧ Ext w W

theorem ApAt.soft {w : World} {B C : Nat} (s : List (Int × Int × Int)) (A A' : World) (h : ApAt w B s A) (hs : Soft C A A') (hC : w.heap.size ≤ C) : ApAt w B s A' := by
  obtain ⟨v, h1, h2, h3, h4⟩ := h
  exact ⟨v, hs.cells _ _ _ _ h1, h2.soft hs, h3, hs.ext h4 hC⟩

set_option maxRecDepth 100000 in
set_option maxHeartbeats 2000000 in
theorem appendSeq_any (gf : Nat) (pr po : Array Value) (eg : ∀ args w, (callFunc gf args).run Try.prog w = .ok (.enter gf args) w) (xs : List (Int × Int × Int)) (w : World)
    (hseq : Yields Try.prog gf pr po (fun x => #[valS x]) [150, 153] w.heap.size xs w) (hlen : xs.length ≤ 1000000) :
    Calls Try.prog 102 #[.slice none 0 0, .func (.func gf) pr po] w fun e w' => ∃ v, e = .returned v ∧ OwnL 3 encS 153 w' v xs ∧ (∀ b, v.ownBlock = some b → w.heap.size ≤ b) ∧ Ext w w' := by
  obtain ⟨iS, hi, hz0, hzz, hz2⟩ := info_parts Try.infoS
  refine (callsIn_wide (n := 3)).1 (callsIn_of_wp_marks Try.func102 rfl trivial ?_ rfl)
  simp only [Try.ntmps102, List.size_toArray, List.length_cons, List.length_nil, Nat.reduceAdd, Nat.reduceSub, Array.replicate_succ, Array.replicate_zero, List.push_toArray, List.append_toArray, List.nil_append, List.cons_append]
  gi_wp2
  have hx0 : Ext w (w.alloc (.cells #[.slice none 0 0] 150)) := (Ext.refl w).alloc _
  have h0 : ApAt w w.heap.size [] (w.alloc (.cells #[.slice none 0 0] 150)) := ⟨_, heap_alloc_new _ _, OwnL.nil _ _ _ _, fun b hb => by simp [Value.ownBlock] at hb, hx0⟩
  have hz1 : w.heap.size ≤ (w.alloc (.cells #[.slice none 0 0] 150)).heap.size := hx0.size
  generalize w.alloc (.cells #[.slice none 0 0] 150) = w1 at *
  refine wp_range (gf := gf) rfl eg hseq hx0 hz1 (fun _ => rfl) (ApAt w w.heap.size) (fun _ _ _ => False) (fun s A B h hs => ApAt.soft s A B h hs hz1) (fun _ _ _ _ h _ => h) h0 ?round ?done ?stop
  case round =>
    intro m l pre x W hpre hsz hI
    unfold valS
    gi_wp2
    have hxW : Ext W (W.alloc (.cells #[.int .i64 x.1, .int .i64 x.2.1, .int .i64 x.2.2] 153)) := (Ext.refl W).alloc _
    have hel := heap_alloc_new W (.cells #[.int .i64 x.1, .int .i64 x.2.1, .int .i64 x.2.2] 153)
    generalize W.alloc (.cells #[.int .i64 x.1, .int .i64 x.2.1, .int .i64 x.2.2] 153) = W1 at *
    refine ⟨hxW, fun W2 hs => ?_⟩
    obtain ⟨v, hv, hrow, hlow, hxx⟩ := ApAt.soft _ _ _ (ApAt.soft _ _ _ hI (hxW.soft _ (Nat.le_refl _)) (Nat.le_trans hz1 hsz)) hs hz1
    have hel2 := hs.cells _ _ _ _ hel
    have hlen2 : pre.length + 1 ≤ xs.length := by have := hpre.length_le; simpa using this
    have hc : W2.cell? ⟨w.heap.size, 0, none⟩ = some v := cells_of hv 0 rfl
    have hf := free_of hv 0
    have he0 := cells_of hel2 0 rfl
    have he1 := cells_of hel2 1 rfl
    have he2 := cells_of hel2 2 rfl
    have hBl := lt_of hv
    have HV := Lib.hid hv
    have HR := Lib.hid hrow
    have HL := Lib.hid hlow
    have HX := Lib.hid hxx
    clear hv hrow hlow hxx hel hel2 hs hI hpre hseq
    gi_wp2_with (gi_at_builtin; refine wpListIn_append_one rfl _ _ 150 rfl 3 encS encS_len encS_one (by decide) 153 iS _ 24 Try.underlying150 hi hz0 hzz hz2 rfl _ _ rfl (HR.out.kept ((Ext.refl W2).alloc _)) _ _ x rfl ⟨_, _, heap_alloc_new _ _, rfl⟩ (by omega) (by unfold maxLen; omega) (by unfold maxLen; omega) (by omega) ?_; intro v' w4 hown' hgrow'; have HK := Lib.hid (Grew.keeps (n₀ := w.heap.size) (B := w1.heap.size) (T := [150, 153]) hgrow' (HR.out.kept ((Ext.refl W2).alloc _)) (by simp) (by simp; omega) HL.out); have HL4 := Lib.hid (Grew.low hgrow' HL.out (by simp; omega)); obtain ⟨a', n', c', rfl⟩ := hown'.is3; have HV4 := Lib.hid ((Grew.keeps (n₀ := w.heap.size) (B := w1.heap.size) (T := [153]) hgrow' (HR.out.kept ((Ext.refl W2).alloc _)) (by simp) (by simp; omega) HL.out).base.cells _ _ _ _ (((Ext.refl W2).alloc _).at' HV.out) (by decide)); have HO := Lib.hid hown'; clear hown' hgrow'; have hc4 : w4.cell? ⟨w.heap.size, 0, none⟩ = some v := cells_of HV4.out 0 rfl; have hf4 := free_of HV4.out 0)
    generalize hv' : Value.slice a' n' c' = v' at *
    have hks : Keeps w.heap.size w1.heap.size [150] w4 (w4.setCell ⟨w.heap.size, 0, none⟩ v') := keeps_setCell HV4.out (by simp) (Nat.le_refl _) 0 v'
    have hks2 : Keeps w.heap.size w1.heap.size [150, 153] w4 (w4.setCell ⟨w.heap.size, 0, none⟩ v') := keeps_setCell HV4.out (by simp) (Nat.le_refl _) 0 v'
    have hk2 : Keeps w.heap.size w1.heap.size [150, 153] W2 (w4.setCell ⟨w.heap.size, 0, none⟩ v') := (((Ext.refl W2).alloc _).keeps (by omega)).trans (HK.out.trans hks2)
    exact ⟨hk2, v', set_one 0 v' HV4.out rfl, HO.out.keepsC hks.base (by decide), HL4.out, hk2.base.ext HX.out (Nat.le_refl _)⟩
  case done =>
    intro D W hD hI hK
    obtain ⟨v, hv, hrow, hlow, hxx⟩ := hI
    have hc : W.cell? ⟨w.heap.size, 0, none⟩ = some v := cells_of hv 0 rfl
    have hBl := lt_of hv
    have HR := Lib.hid hrow
    have HL := Lib.hid hlow
    have HX := Lib.hid hxx
    clear hv hrow hlow hxx
    gi_wp2
    refine ⟨by simp, .inl ⟨_, _, rfl, run_takeDeferred hK, ?_⟩⟩
    exact ⟨_, results_tmp rfl _ _ _, v, rfl, HR.out.soft (Soft.putObj (B := D) W _ (Nat.le_refl _) hK rfl), HL.out, HX.out.shut _ (Nat.le_trans hz1 hD)⟩
  case stop =>
    intro D c pre W _ _ h _
    exact h.elim

end Go.Proofs.Ytdgplebmlggmcaa
/- The shelf's structures for slices.SortFunc at strikes and cmp.Compare at ints, laid at this seat (written by a tool of the kit). -/
namespace Go.Proofs.Ytdgplebmlggmcaa
open Go.Shelf
def Try.sortS_ren : Go.Shelf.Ren := ⟨fun | 6 => 98 | 15 => 104 | 14 => 103 | 28 => 113 | 29 => 114 | 20 => 105 | 21 => 106 | 22 => 107 | 23 => 108 | 24 => 109 | 25 => 110 | 26 => 111 | 27 => 112 | 46 => 115 | 47 => 116 | 48 => 117 | 49 => 118 | 50 => 119 | 57 => 120 | n => n, fun | 22 => 150 | 24 => 153 | 25 => 155 | 3 => 3 | 39 => 175 | 0 => 0 | 53 => 108 | 55 => 186 | 4 => 4 | 46 => 178 | 45 => 177 | 50 => 182 | 5 => 5 | 9 => 9 | 66 => 187 | 70 => 191 | 76 => 193 | 77 => 45 | n => n, fun | n => n⟩
theorem Try.sortS : Go.Proofs.SlLaysF0.n6 Try.prog Try.sortS_ren := {
  mixed := by kernel_rfl
  f6 := ⟨Try.f98.name, by decide, Try.func98.trans (congrArg some (by kernel_rfl))⟩
  f14 := ⟨Try.f103.name, by decide, Try.func103.trans (congrArg some (by kernel_rfl))⟩
  f15 := Try.func104.trans (congrArg some (by kernel_rfl))
  f20 := ⟨Try.f105.name, by decide, Try.func105.trans (congrArg some (by kernel_rfl))⟩
  f21 := ⟨Try.f106.name, by decide, Try.func106.trans (congrArg some (by kernel_rfl))⟩
  f22 := ⟨Try.f107.name, by decide, Try.func107.trans (congrArg some (by kernel_rfl))⟩
  f23 := ⟨Try.f108.name, by decide, Try.func108.trans (congrArg some (by kernel_rfl))⟩
  f24 := ⟨Try.f109.name, by decide, Try.func109.trans (congrArg some (by kernel_rfl))⟩
  f25 := ⟨Try.f110.name, by decide, Try.func110.trans (congrArg some (by kernel_rfl))⟩
  f26 := ⟨Try.f111.name, by decide, Try.func111.trans (congrArg some (by kernel_rfl))⟩
  f27 := ⟨Try.f112.name, by decide, Try.func112.trans (congrArg some (by kernel_rfl))⟩
  f28 := Try.func113.trans (congrArg some (by kernel_rfl))
  f29 := Try.func114.trans (congrArg some (by kernel_rfl))
  f46 := ⟨Try.f115.name, by decide, Try.func115.trans (congrArg some (by kernel_rfl))⟩
  f47 := Try.func116.trans (congrArg some (by kernel_rfl))
  f48 := Try.func117.trans (congrArg some (by kernel_rfl))
  f49 := ⟨Try.f118.name, by decide, Try.func118.trans (congrArg some (by kernel_rfl))⟩
  f50 := ⟨Try.f119.name, by decide, Try.func119.trans (congrArg some (by kernel_rfl))⟩
  f57 := ⟨Try.f120.name, by decide, Try.func120.trans (congrArg some (by kernel_rfl))⟩
  t0 := Try.underlying0
  a0 := Try.isAgg0
  z0 := Try.sizeOf0
  v0 := Try.zeroValue0
  t3 := Try.underlying3
  a3 := Try.isAgg3
  z3 := Try.sizeOf3
  v3 := Try.zeroValue3
  t4 := Try.underlying4
  a4 := Try.isAgg4
  z4 := Try.sizeOf4
  v4 := Try.zeroValue4
  t5 := Try.underlying5
  a5 := Try.isAgg5
  z5 := Try.sizeOf5
  v5 := Try.zeroValue5
  t9 := Try.underlying9
  a9 := Try.isAgg9
  z9 := Try.sizeOf9
  v9 := Try.zeroValue9
  t22 := Try.underlying150
  a22 := Try.isAgg150
  z22 := Try.sizeOf150
  v22 := Try.zeroValue150
  t25 := Try.underlying155
  a25 := Try.isAgg155
  z25 := Try.sizeOf155
  v25 := Try.zeroValue155
  t39 := Try.underlying175
  a39 := Try.isAgg175
  z39 := Try.sizeOf175
  v39 := Try.zeroValue175
  t45 := Try.underlying177
  a45 := Try.isAgg177
  z45 := Try.sizeOf177
  v45 := Try.zeroValue177
  t46 := Try.underlying178
  a46 := Try.isAgg178
  z46 := Try.sizeOf178
  v46 := Try.zeroValue178
  t50 := Try.underlying182
  a50 := Try.isAgg182
  z50 := Try.sizeOf182
  v50 := Try.zeroValue182
  t53 := Try.underlying108
  a53 := Try.isAgg108
  z53 := Try.sizeOf108
  v53 := Try.zeroValue108
  t55 := Try.underlying186
  a55 := Try.isAgg186
  z55 := Try.sizeOf186
  v55 := Try.zeroValue186
  t66 := Try.underlying187
  a66 := Try.isAgg187
  z66 := Try.sizeOf187
  v66 := Try.zeroValue187
  t70 := Try.underlying191
  a70 := Try.isAgg191
  z70 := Try.sizeOf191
  v70 := Try.zeroValue191
  t76 := Try.underlying193
  a76 := Try.isAgg193
  z76 := Try.sizeOf193
  v76 := Try.zeroValue193
  t77 := Try.underlying45
  a77 := Try.isAgg45
  z77 := Try.sizeOf45
  v77 := Try.zeroValue45 }
def Try.cmpInt_ren : Go.Shelf.Ren := ⟨fun | 5 => 87 | 7 => 99 | n => n, fun | 22 => 3 | 3 => 3 | 4 => 4 | n => n, fun | n => n⟩
theorem Try.cmpInt : Go.Proofs.SlLaysC2.n5 Try.prog Try.cmpInt_ren := {
  mixed := by kernel_rfl
  f5 := ⟨Try.f87.name, by decide, Try.func87.trans (congrArg some (by kernel_rfl))⟩
  f7 := ⟨Try.f99.name, by decide, Try.func99.trans (congrArg some (by kernel_rfl))⟩
  t3 := Try.underlying3
  a3 := Try.isAgg3
  z3 := Try.sizeOf3
  v3 := Try.zeroValue3
  t4 := Try.underlying4
  a4 := Try.isAgg4
  z4 := Try.sizeOf4
  v4 := Try.zeroValue4
  t22 := Try.underlying3
  a22 := Try.isAgg3
  z22 := Try.sizeOf3
  v22 := Try.zeroValue3 }
end Go.Proofs.Ytdgplebmlggmcaa
/- slices.SortFunc at a slice of the call's own: it holds the same elements, in order. -/
namespace Go.Proofs.Ytdgplebmlggmcaa
open Go.RowKit Go.Sort Go.Shelf

theorem flatK_get {α : Type} [Inhabited α] {k : Nat} (hk0 : 0 < k) {enc : α → List Value} (hk : ∀ x, (enc x).length = k) (xs : List α) (t : Nat) (ht : t < xs.length * k) : (xs.flatMap enc)[t]? = some (flatK enc k xs.toArray)[t]! := by
  have hq : t / k < xs.length := Nat.div_lt_of_lt_mul (by rw [Nat.mul_comm]; exact ht)
  have hr : t % k < k := Nat.mod_lt _ hk0
  have hd : t / k * k + t % k = t := by rw [Nat.mul_comm]; exact Nat.div_add_mod t k
  rw [get_flatK enc k _ t (by simpa using ht)]
  have h := flat_get hk xs (t / k) hq (t % k) hr
  rw [hd] at h
  rw [h]
  have hl : t % k < (enc xs[t / k]).length := by rw [hk]; exact hr
  rw [List.getElem?_eq_getElem hl]
  have : xs.toArray[t / k]! = xs[t / k] := by simp [hq]
  rw [this, getElem!_pos (enc xs[t / k]) (t % k) hl]

theorem holdsK_of {α : Type} [Inhabited α] {k : Nat} (hk0 : 0 < k) {enc : α → List Value} (hk : ∀ x, (enc x).length = k) {w : World} {g : Nat} {cur : Array Value} {e : TypeId} {xs : List α}
    (hb : w.heap[g]? = some (.cells cur e (0, 0))) (ht : cur.toList.take (xs.length * k) = xs.flatMap enc) : HoldsK enc k w g 0 xs.toArray := by
  intro j hj
  have hj' : j < xs.length * k := by simpa using hj
  refine ⟨?_, ?_⟩
  · rw [Nat.zero_add, cell_of_row w g j cur e (0, 0) hb]
    have h := flatK_get hk0 hk xs j hj'
    rw [← ht, List.getElem?_take_of_lt hj'] at h
    simpa using h
  · exact free_of hb _

theorem take_putCells_flat {α : Type} [Inhabited α] {k : Nat} (hk0 : 0 < k) {enc : α → List Value} (hk : ∀ x, (enc x).length = k) (cur : Array Value) (ys : List α) (h : ys.length * k ≤ cur.size) :
    (putCells id 0 (flatK enc k ys.toArray) cur).toList.take (ys.length * k) = ys.flatMap enc := by
  apply List.ext_getElem?
  intro j
  by_cases hj : j < ys.length * k
  · rw [List.getElem?_take_of_lt hj, Array.getElem?_toList, flatK_get hk0 hk ys j hj]
    simp [putCells, hj, show j < cur.size by omega]
  · rw [List.getElem?_take_eq_none (by omega), List.getElem?_eq_none (by rw [flat_len hk]; omega)]

theorem heap_sortedK {w : World} {g n : Nat} {os : Array Obj} {cur : Array Value} {e : TypeId} {fr : Nat × Nat} (D : Array Value) (hb : w.heap[g]? = some (.cells cur e fr)) :
    (grow (putRow id (Sort.ahead w n) g 0 D) os).heap[g]? = some (.cells (putCells id 0 D cur) e fr) := by
  have hg : g < w.heap.size := (Array.getElem?_eq_some_iff.1 hb).1
  rw [heap_grow_old _ _ (by simpa using hg)]
  simp [putRow, mapBlock, Sort.ahead, Array.getElem?_modify, hb, onCells]

theorem grew_sortedK {w : World} {g n m c : Nat} {os : Array Obj} (D : Array Value) : Grew w (.slice (some ⟨g, 0, none⟩) m c) (grow (putRow id (Sort.ahead w n) g 0 D) os) (.slice (some ⟨g, 0, none⟩) m c) := by
  refine ⟨rfl, rfl, rfl, by simp, fun k hk hne => ?_, .inl rfl⟩
  rw [heap_grow_old _ _ (by simpa using hk)]
  have : g ≠ k := fun e => hne (by simp [Value.ownBlock, e])
  simp [putRow, mapBlock, Sort.ahead, Array.getElem?_modify, this]

theorem perm_of_permIn {α : Type} [Inhabited α] {d d' : Array α} (h : PermIn 0 d.size d d') : d'.toList.Perm d.toList := by
  obtain ⟨h1, _, h3⟩ := h
  have e1 : d'.extract 0 d.size = d' := by rw [← h1]; simp
  have e2 : d.extract 0 d.size = d := by simp
  rw [e1, e2] at h3
  exact h3

theorem pairwise_of_sortedIn {α : Type} [Inhabited α] {lt : α → α → Bool} {d' : Array α} (h : SortedIn lt 0 d'.size d') : d'.toList.Pairwise fun x y => lt y x = false := by
  rw [List.pairwise_iff_getElem]
  intro i j hi hj hij
  have hi' : i < d'.size := by simpa using hi
  have hj' : j < d'.size := by simpa using hj
  have := h i j (Nat.zero_le _) hij hj'
  simpa [getElem!_pos, hi', hj'] using this

theorem sortFunc_own {α : Type} [Inhabited α] {P : Program} {ρ : Ren} (L : SlLaysF0.n6 P ρ) (k : Nat) (hk0 : 0 < k) (aE : ∀ w, (isAgg (ρ.t 24)).run P w = .ok true w) (zE : ∀ w, (Go.sizeOf (ρ.t 24)).run P w = .ok k w) (enc : α → List Value) (hk : ∀ x, (enc x).length = k)
    (h1 : ∀ x, ∀ v ∈ enc x, v.oneCell' = true) (cf : α → α → Int) (hO : SWO (ltOf cf)) (g : Nat) (cb : Array Value) (eg : ∀ args w, (callFunc g args).run P w = .ok (.enter g args) w)
    (e : TypeId) (v : Value) (xs : List α) (w : World) (hcmp : ∀ blk, CmpLays P g cb enc k cf blk 0 xs.length w) (hown : OwnL k enc e w v xs) (hsz : xs.length ≤ 1000000000) :
    Calls P (ρ.f 6) #[v, .func (.func g) #[] cb] w fun e2 w' => e2 = .returned (.tuple #[]) ∧ ∃ ys, ys.Perm xs ∧ ys.Pairwise (fun x y => ltOf cf y x = false) ∧ OwnL k enc e w' v ys ∧ Grew w v w' v := by
  obtain ⟨hl, h2⟩ := id hown
  rcases h2 with ⟨rfl, h0⟩ | ⟨b, cap, cur, rfl, _, hg, hcap, hmax, hsize, htk⟩
  · have : xs = [] := List.length_eq_zero_iff.1 h0
    subst this
    refine (AnyF.slices_SortFunc_none L none 0 _ w).mono ?_
    rintro e2 w' ⟨rfl, rfl⟩
    exact ⟨rfl, [], List.Perm.refl _, List.Pairwise.nil, hown, Grew.refl _ _⟩
  · have hH := holdsK_of hk0 hk hg htk
    have hc := AnyQ.slices_SortFunc L k aE zE enc hk h1 cf hO g cb b 0 cap xs.toArray w eg (by simpa using hcmp b) hH (heap_lt' hg) (by simp; omega)
    refine Calls.mono (show Calls P (ρ.f 6) #[.slice (some ⟨b, 0, none⟩) xs.length cap, .func (.func g) #[] cb] w _ from hc) ?_
    rintro e2 w' ⟨rfl, d', n, os, hp, hs, rfl⟩
    have hp' : PermIn 0 xs.toArray.size xs.toArray d' := hp
    have hsz' : d'.size = xs.length := by simpa using hp'.1
    have hperm := perm_of_permIn hp'
    refine ⟨rfl, d'.toList, by simpa using hperm, pairwise_of_sortedIn (by rw [hsz']; simpa using hs), ?_, grew_sortedK _⟩
    have hlen : d'.toList.length = xs.length := by simpa using hsz'
    refine ⟨by rw [flat_len hk], .inr ⟨b, cap, _, by rw [hlen], Nat.zero_le _, heap_sortedK _ hg, by rw [hlen]; exact hcap, hmax, by simpa [putCells] using hsize, ?_⟩⟩
    have := take_putCells_flat hk0 hk cur d'.toList (by rw [hlen, hsize]; exact Nat.mul_le_mul_right _ hcap)
    simpa using this

end Go.Proofs.Ytdgplebmlggmcaa
/- Strikes in order: the function that compares them; slices.Collect and slices.SortedFunc at strikes. -/
namespace Go.Proofs.Ytdgplebmlggmcaa
open Go.RowKit Go.Sort

/-- The first of two ints that is not 0. -/
def orI (x y : Int) : Int := if x = 0 then y else x
/-- How two strikes compare: by when, then by track. -/
def cmpS (x y : Int × Int × Int) : Int := orI (Lib.compareInt x.1 y.1) (Lib.compareInt x.2.2 y.2.2)

theorem or_two (x y : Int) (w : World) (b : Nat) (h0 : w.cell? ⟨b, 0, none⟩ = some (.int .i64 x)) (h1 : w.cell? ⟨b, 1, none⟩ = some (.int .i64 y)) :
    Calls Try.prog 86 #[.slice (some ⟨b, 0, none⟩) 2 2] w fun e w' => e = .returned (.int .i64 (orI x y)) ∧ w = w' := by
  go_enter Try.func86, Try.ntmps86
  go_wp2
  go_loop [8] (fun i => ∃ k : Nat, k ≤ 2 ∧ i = .int .i64 k ∧ (1 ≤ k → x = 0) ∧ (k = 2 → y = 0)) (fun i => 2 - (intOf i).toNat)
  case atStart => exact ⟨0, by omega, rfl, by omega, by omega⟩
  case round =>
    obtain ⟨k, hk, rfl, ha, hb⟩ := hrel
    have HA := Lib.hid ha
    have HB := Lib.hid hb
    clear ha hb
    by_cases hk0 : k = 0
    · subst hk0
      by_cases hx : x = 0
      · subst hx
        go_wp2
        go_round
        case rel => exact ⟨1, by omega, by simp, by simp, by omega⟩
        case measure => simp [intOf]
      · have HX := Lib.hid hx
        have hx1 : (x != 0) = true := by simp [hx]
        clear hx
        go_wp2
        go_ret
        exact ⟨ret_int (by unfold orI; rw [if_neg HX.out]), rfl⟩
    · by_cases hk1 : k = 1
      · subst hk1
        have hx : x = 0 := HA.out (by omega)
        subst hx
        by_cases hy : y = 0
        · subst hy
          go_wp2
          go_round
          case rel => exact ⟨2, by omega, by simp, by simp, by simp⟩
          case measure => simp [intOf]
        · have HY := Lib.hid hy
          have hy1 : (y != 0) = true := by simp [hy]
          clear hy
          go_wp2
          go_ret
          exact ⟨ret_int (by unfold orI; simp), rfl⟩
      · have hk2 : k = 2 := by omega
        subst hk2
        have hx : x = 0 := HA.out (by omega)
        have hy : y = 0 := HB.out rfl
        subst hx; subst hy
        go_wp2
        go_ret
        exact ⟨ret_int (by unfold orI; simp), rfl⟩

set_option maxRecDepth 100000 in
set_option maxHeartbeats 1000000 in
theorem cmpS_any (x y : Int × Int × Int) (W : World) :
    Calls Try.prog 85 #[.agg #[.int .i64 x.1, .int .i64 x.2.1, .int .i64 x.2.2], .agg #[.int .i64 y.1, .int .i64 y.2.1, .int .i64 y.2.2]] W fun e w' => e = .returned (.int .i64 (cmpS x y)) ∧ ∃ q os', w' = grow (W.drewN q) os' := by
  have hcon := fun u v W' => AnyG.cmp_Compare_int Try.cmpInt u v W'
  change ∀ u v W', Calls Try.prog 87 _ _ _ at hcon
  unfold cmpS
  have HC1 := fun W' => Lib.hid (hcon x.1 y.1 W')
  have HC2 := fun W' => Lib.hid (hcon x.2.2 y.2.2 W')
  clear hcon
  generalize Lib.compareInt x.1 y.1 = r at *
  generalize Lib.compareInt x.2.2 y.2.2 = s at *
  go_enter Try.func85, Try.ntmps85
  go_wp2
  have ha := heap_alloc_new W (.cells #[.int .i64 x.1, .int .i64 x.2.1, .int .i64 x.2.2] 153)
  have hA : ((W.alloc (.cells #[.int .i64 x.1, .int .i64 x.2.1, .int .i64 x.2.2] 153)).alloc (.cells #[.int .i64 y.1, .int .i64 y.2.1, .int .i64 y.2.2] 153)).heap[W.heap.size]? = some (.cells #[.int .i64 x.1, .int .i64 x.2.1, .int .i64 x.2.2] 153 (0, 0)) :=
    (heap_alloc_old _ _ (by simp)).trans ha
  have hB := heap_alloc2_new W (.cells #[.int .i64 x.1, .int .i64 x.2.1, .int .i64 x.2.2] 153) (.cells #[.int .i64 y.1, .int .i64 y.2.1, .int .i64 y.2.2] 153)
  have hG : Hid (∃ os', ((W.alloc (.cells #[.int .i64 x.1, .int .i64 x.2.1, .int .i64 x.2.2] 153)).alloc (.cells #[.int .i64 y.1, .int .i64 y.2.1, .int .i64 y.2.2] 153)) = grow W os') := ⟨_, by rw [alloc_eq_grow, alloc_eq_grow, grow_grow]⟩
  generalize ((W.alloc (.cells #[.int .i64 x.1, .int .i64 x.2.1, .int .i64 x.2.2] 153)).alloc (.cells #[.int .i64 y.1, .int .i64 y.2.1, .int .i64 y.2.2] 153)) = W1 at *
  have c0 := cells_of hA 0 rfl
  have c1 := cells_of hA 2 rfl
  have c2 := cells_of hB 0 rfl
  have c3 := cells_of hB 2 rfl
  clear ha hA hB
  refine wp_region_still_tail 12 (by kernel_rfl) (by kernel_rfl) ?_
  simp only [List.take_succ_cons, List.take_zero, List.drop_succ_cons, List.drop_zero]
  repeat still_step
  still_call (HC1 _).out
  repeat still_step
  still_call (HC2 _).out
  repeat still_step
  refine wpStill_nil ?_
  change wpList _ _ _ _ _ W1.drew
  have hG2 : Hid (∃ q os', W1.drew = grow (W.drewN q) os') := by
    obtain ⟨os', h⟩ := hG.out
    exact ⟨1, os', by rw [h]; rfl⟩
  clear hG c0 c1 c2 c3
  generalize W1.drew = W2 at *
  have HO : Hid (Calls Try.prog 86 #[.slice (some ⟨W2.heap.size, 0, none⟩) 2 2] (W2.alloc (.cells #[.int .i64 r, .int .i64 s] 3)) fun e w' => e = .returned (.int .i64 (orI r s)) ∧ (W2.alloc (.cells #[.int .i64 r, .int .i64 s] 3)) = w') := by
    obtain ⟨_, f0, f1⟩ := fact_two W2 r s 3
    exact or_two r s _ _ f0 f1
  go_wp2_with (go_at_call 86; refine HO.out.mono ?_; rintro e w' ⟨rfl, rfl⟩)
  go_ret
  obtain ⟨q, os', h⟩ := hG2.out
  exact ⟨rfl, q, _, by rw [alloc_eq_grow, h, grow_grow]⟩

theorem cmpS_lays (blk off size : Nat) (w : World) : CmpLays Try.prog 85 #[] encS 3 cmpS blk off size w :=
  fun _ _ _ _ x y => cmpS_any x y _

theorem cmpI (x y : Int) : Lib.compareInt x y = if x < y then -1 else if y < x then 1 else 0 := by
  unfold Lib.compareInt
  by_cases h1 : x < y
  · simp [h1]
  · by_cases h2 : y < x <;> simp [h1, h2]

theorem ltS (x y : Int × Int × Int) : ltOf cmpS x y = decide (x.1 < y.1 ∨ x.1 = y.1 ∧ x.2.2 < y.2.2) := by
  unfold ltOf cmpS orI
  rw [cmpI, cmpI]
  by_cases h1 : x.1 < y.1
  · simp [h1]
  · by_cases h2 : y.1 < x.1
    · simp [h1, h2]; omega
    · have : x.1 = y.1 := by omega
      by_cases h3 : x.2.2 < y.2.2
      · simp [h3, this]
      · by_cases h4 : y.2.2 < x.2.2 <;> simp [h1, h2, h3, h4]

theorem swoS : SWO (ltOf cmpS) where
  irrefl x := by rw [ltS]; simp
  trans x y z h1 h2 := by rw [ltS] at *; simp at *; omega
  ntrans x y z h1 h2 := by rw [ltS] at *; simp at *; omega

theorem Grew.ext_low {w w1 w2 : World} {v v' : Value} (h : Grew w1 v w2 v') (hx : Ext w w1) (hl : ∀ b, v.ownBlock = some b → w.heap.size ≤ b) : Ext w w2 :=
  ⟨h.os.trans hx.os, h.tape.trans hx.tape, h.output.trans hx.output, Nat.le_trans hx.size h.size, fun b hb => (h.block b (Nat.lt_of_lt_of_le hb hx.size) (fun e => by have := hl b e; omega)).trans (hx.block b hb)⟩

theorem collect_any (gf : Nat) (pr po : Array Value) (eg : ∀ args w, (callFunc gf args).run Try.prog w = .ok (.enter gf args) w) (xs : List (Int × Int × Int)) (w : World)
    (hseq : Yields Try.prog gf pr po (fun x => #[valS x]) [150, 153] w.heap.size xs w) (hlen : xs.length ≤ 1000000) :
    Calls Try.prog 97 #[.func (.func gf) pr po] w fun e w' => ∃ v, e = .returned v ∧ OwnL 3 encS 153 w' v xs ∧ (∀ b, v.ownBlock = some b → w.heap.size ≤ b) ∧ Ext w w' := by
  have hc := Lib.hid (appendSeq_any gf pr po eg xs w hseq hlen)
  go_enter Try.func97, Try.ntmps97
  go_wp2_with (go_at_call 102; refine hc.out.mono ?_; rintro e w2 ⟨v, rfl, h1, h2, h3⟩)
  go_ret
  exact ⟨v, rfl, h1, h2, h3⟩

theorem sortedFunc_any (gf : Nat) (pr po : Array Value) (eg : ∀ args w, (callFunc gf args).run Try.prog w = .ok (.enter gf args) w) (xs : List (Int × Int × Int)) (w : World)
    (hseq : Yields Try.prog gf pr po (fun x => #[valS x]) [150, 153] w.heap.size xs w) (hlen : xs.length ≤ 1000000) :
    Calls Try.prog 83 #[.func (.func gf) pr po, .func (.func 85) #[] #[]] w fun e w' =>
      ∃ v ys, e = .returned v ∧ ys.Perm xs ∧ ys.Pairwise (fun x y => ltOf cmpS y x = false) ∧ OwnL 3 encS 153 w' v ys ∧ Ext w w' := by
  have hc := Lib.hid (collect_any gf pr po eg xs w hseq hlen)
  have hs := fun v W ho => Lib.hid (sortFunc_own Try.sortS 3 (by decide) Try.isAgg153 Try.sizeOf153 encS encS_len encS_one cmpS swoS 85 #[] (enters_of Try.func85 (by kernel_rfl) rfl) 153 v xs W (fun blk => cmpS_lays blk 0 xs.length W) ho (by omega))
  change ∀ v W ho, Hid (Calls Try.prog 98 _ _ _) at hs
  go_enter Try.func83, Try.ntmps83
  go_wp2_with (go_at_call 97; refine hc.out.mono ?_; rintro e w2 ⟨v, rfl, h1, h2, h3⟩; have H1 := Lib.hid h1; have H2 := Lib.hid h2; clear h1 h2)
  refine (hs v w2 H1.out).out.mono ?_
  rintro e w3 ⟨rfl, ys, hp, ho, h4, h5⟩
  have HP := Lib.hid hp
  have HO := Lib.hid ho
  have H4 := Lib.hid h4
  have H5 := Lib.hid (h5.ext_low h3 H2.out)
  clear hp ho h4 h5 hs
  go_wp2
  go_ret
  exact ⟨v, ys, rfl, HP.out, HO.out, H4.out, H5.out⟩

end Go.Proofs.Ytdgplebmlggmcaa
/- A region that draws its order: operations that give one value in every world that extends a given one come first, in the order of the text; then the others, in their one forced order. -/
namespace Go.Proofs.Ytdgplebmlggmcaa
open Go.RowKit

/-- The rules for a walk in a world that extends one of which a draw has been made. -/
theorem Ext.rulesD {w w' : World} (h : Ext w.drew w') : (∀ b o, b < w.heap.size → w'.cell? ⟨b, o, none⟩ = w.cell? ⟨b, o, none⟩) ∧ (∀ b o, b < w.heap.size → w'.frozen? ⟨b, o, none⟩ = w.frozen? ⟨b, o, none⟩) :=
  ⟨fun _ o hb => h.cell o hb, fun _ o hb => h.frozen o hb⟩

section
variable {F : Fence} {nF : Nat} {P : Program} {ops : Array Oper} {md : Region.Mode} {C : World → Prop}

/-- The head's operations in whatever order; then L. -/
def headIn (F : Fence) (nF : Nat) (P : Program) (md : Region.Mode) (ops : Array Oper) (C : World → Prop) (m : Nat) (L : Array Bool → Act → Prop) : Nat → Array Bool → Act → Prop
  | 0, listed, a => L listed a
  | f + 1, listed, a => Region.ready md ops listed ≠ [] ∧ ∀ i ∈ Region.ready md ops listed, i < m ∧ qOpIn F nF P ops C i (headIn F nF P md ops C m L f (listed.setIfInBounds i true)) a

theorem anyIn_of_head {m g : Nat} {L : Array Bool → Act → Prop} {Q : Exit → Act → World → Prop} (hro : F.round = none) (hL : ∀ listed a w, C w → L listed a → wpAnyIn F nF P md ops Q g listed a w) :
    ∀ (f : Nat) (listed : Array Bool) (a : Act) (w : World), C w → headIn F nF P md ops C m L f listed a → wpAnyIn F nF P md ops Q (f + g) listed a w
  | 0, _, _, _, hC, h => by rw [Nat.zero_add]; exact hL _ _ _ hC h
  | f + 1, _, _, _, hC, h => by
    rw [show f + 1 + g = (f + g) + 1 by omega]
    exact ⟨fun h0 => absurd h0 h.1, fun i hi => wpOpIn_of_qOpIn hro hC (fun a' w' hC' h' => anyIn_of_head hro hL f _ a' w' hC' h') (h.2 i hi).2⟩

theorem headIn_first {m i : Nat} {oi : Oper} {v : Value} {L : Array Bool → Act → Prop} (hi : ops[i]? = some oi) (hsel : ∀ (j : Nat) (o : Oper) cs b, ops[j]? = some o → o.op ≠ .select cs b)
    (hs : Region.sinkB md ops m = true) (hc : Region.chainB md ops m = true) (hm : m < ops.size) (him : i < m) (hdone : ∀ listed a, L listed a → ∀ j ∈ Region.ready md ops listed, m ≤ j) :
    ∀ (f : Nat) (listed : Array Bool) (a : Act), HeadInv md ops m listed →
      (∀ j oj, ops[j]? = some oj → j ≠ i → listed.getD j true = false → (∀ e ∈ oj.after, Region.binds md e = true → e.on ≠ i) → oi.apart ops oj = true) →
      i ∈ Region.ready md ops listed → YieldsQuiet F nF P ops C oi v a → headIn F nF P md ops C m L f (listed.setIfInBounds i true) (a.put oi.dst v) → headIn F nF P md ops C m L (f + 1) listed a := by
  have early : ∀ {listed : Array Bool}, HeadInv md ops m listed → i ∈ Region.ready md ops listed → ∀ j ∈ Region.ready md ops listed, j < m := fun inv hr j hj => by
    rcases Nat.lt_or_ge j m with h | h
    · exact h
    · exact absurd hj (tail_waits hs hc hm inv _ i rfl him (mem_ready.1 hr).1 j h)
  intro f
  induction f with
  | zero =>
    intro listed a inv _ hr hy H
    refine ⟨fun h => (by rw [h] at hr; cases hr), fun j hj => ⟨early inv hr j hj, ?_⟩⟩
    by_cases hji : j = i
    · subst hji; exact hy.qOpIn hi H
    · have h1 := hdone _ _ H j (ready_mono hj hji)
      have h2 := early inv hr j hj
      omega
  | succ f ih =>
    intro listed a inv hfree hr hy H
    refine ⟨fun h => (by rw [h] at hr; cases hr), fun j hj => ⟨early inv hr j hj, ?_⟩⟩
    by_cases hji : j = i
    · subst hji; exact hy.qOpIn hi H
    · have h1 := (H.2 j (ready_mono hj hji)).2
      obtain ⟨hjun, oj, hoj, hall⟩ := mem_ready.1 hj
      have hnot : ∀ e ∈ oj.after, Region.binds md e = true → e.on ≠ i := fun e he hb heq => by
        have h3 := hall e he hb
        rw [heq, getD_both (mem_ready.1 hr).1] at h3
        cases h3
      have h2 := qOpIn_put hoj (hfree j oj hoj hji hjun hnot) (fun cs b => hsel i oi cs b hi) (fun cs b => hsel j oj cs b hoj) hy h1
      have hfree' : ∀ k ok, ops[k]? = some ok → k ≠ i → (listed.setIfInBounds j true).getD k true = false → (∀ e ∈ ok.after, Region.binds md e = true → e.on ≠ i) → oi.apart ops ok = true := fun k ok hk hki hun hno => by
        refine hfree k ok hk hki ?_ hno
        by_cases hjk : j = k
        · subst hjk; exact hjun
        · rw [getD_set_ne true hjk] at hun; exact hun
      refine qOpIn_mono (fun a' h3 => ih (listed.setIfInBounds j true) a' (inv.set hj (early inv hr j hj)) hfree' (ready_mono hr (Ne.symm hji)) h3.1 ?_) h2
      rw [Array.setIfInBounds_comm _ _ hji]
      exact h3.2

theorem anyIn_of_seq {Q : Exit → Act → World → Prop} : ∀ (l : List Oper) (k : Nat) (listed : Array Bool) (a : Act) (w : World), (∀ j, l[j]? = ops[k + j]?) →
    Region.seqB md ops l.length k listed = true → wpListIn F nF P ops Q l a w → wpAnyIn F nF P md ops Q l.length listed a w
  | [], _, _, _, _, _, hB, h => ⟨by simpa [Region.seqB] using hB, h⟩
  | o :: l, k, listed, a, w, hl, hB, h => by
    have h0 : ops[k]? = some o := by simpa using (hl 0).symm
    simp only [List.length_cons, Region.seqB, Bool.and_eq_true, decide_eq_true_eq] at hB
    refine ⟨fun h1 => (by rw [hB.1] at h1; cases h1), fun i hi => ?_⟩
    rw [hB.1] at hi
    have hik : i = k := by simpa using hi
    subst hik
    have hw : wpOpIn F nF P ops Q i (wpListIn F nF P ops Q l) a w := by unfold wpOpIn; simp only [h0]; exact h
    exact wpOpIn_mono (fun a' w' h' => anyIn_of_seq l (i + 1) _ a' w' (fun j => by have := hl (j + 1); simpa [Nat.add_assoc, Nat.add_comm 1 j] using this) hB.2 h') hw

theorem headIn_lex {m g : Nat} {Lq : Act → Prop} (hsel : Region.noSelect ops = true) (hs : Region.sinkB md ops m = true) (hc : Region.chainB md ops m = true) (hm : m < ops.size) :
    ∀ (l : List Oper) (k : Nat) (listed : Array Bool) (a : Act), (∀ j, j < l.length → l[j]? = ops[k + j]?) → k + l.length = m → HeadInv md ops m listed →
    Region.lexHead md ops g l.length k listed = true → wpQuietIn F nF P ops C Lq l a →
    headIn F nF P md ops C m (fun listed' a' => Region.seqB md ops g m listed' = true ∧ Lq a') l.length listed a
  | [], k, listed, a, _, hk, _, hB, h => by
    have : k = m := by simpa using hk
    subst this
    exact ⟨by simpa [Region.lexHead] using hB, h⟩
  | o :: l, k, listed, a, hl, hk, inv, hB, h => by
    have h0 : ops[k]? = some o := by simpa using (hl 0 (by simp)).symm
    simp only [List.length_cons, Region.lexHead, Bool.and_eq_true] at hB
    obtain ⟨⟨hr, hf⟩, hB'⟩ := hB
    have hkm : k < m := by simp only [List.length_cons] at hk; omega
    have hr' : k ∈ Region.ready md ops listed := by simpa using hr
    have hst : qOpIn F nF P ops C k (wpQuietIn F nF P ops C Lq l) a := by unfold qOpIn; simp only [h0]; exact h
    obtain ⟨v, hy, hK⟩ := yieldsQuiet_of_qOpIn h0 hst
    exact headIn_first h0 (Region.noSelect_spec hsel) hs hc hm hkm (fun listed' a' hL => seqB_ready hL.1) l.length listed a inv (Region.free_spec h0 hf) hr' hy
      (headIn_lex hsel hs hc hm l (k + 1) _ _ (fun j hj => by have := hl (j + 1) (by simp; omega); simpa [Nat.add_assoc, Nat.add_comm 1 j] using this) (by simp only [List.length_cons] at hk; omega) (inv.set hr' hkm) hB' hK)

theorem wpIn_tail {id : Nat} {Q : Exit → Act → World → Prop} {a : Act} {w : World} {l : List Oper} (m : Nat) (hro : F.round = none) (hmo : P.follows .mixedOrders = true) (hB : Region.lexTailB .any l.toArray m = true)
    (h : wpQuietIn F nF P l.toArray (Ext w.drew) (fun a' => ∀ w', Ext w.drew w' → wpListIn F nF P l.toArray Q (l.drop m) a' w') (l.take m) a) : (Code.region id l.toArray true).wpIn F nF P Q a w := by
  simp only [Region.lexTailB, Bool.and_eq_true, decide_eq_true_eq] at hB
  obtain ⟨⟨⟨⟨hsel, hm⟩, hs⟩, hc⟩, hlex⟩ := hB
  have hm' : m < l.length := by simpa using hm
  have htl : (l.take m).length = m := by simp; omega
  have hdl : (l.drop m).length = l.toArray.size - m := by simp
  have inv0 : HeadInv .any l.toArray m (Array.replicate l.toArray.size false) :=
    ⟨by simp, fun j oj _ hl => (by rw [getD_replicate_false] at hl; cases hl), fun t _ ht => getD_in (by simpa using ht) (getD_replicate_false _ _)⟩
  have H := headIn_lex (md := .any) (g := l.toArray.size - m) hsel hs hc hm (l.take m) 0 _ a (fun j hj => by
    have hj' : j < m := by rw [htl] at hj; exact hj
    simp [hj']) (by simpa using htl) inv0 (by rw [htl]; exact hlex) h
  refine wpIn_region_any hmo ?_
  have := anyIn_of_head (Q := Q) (g := l.toArray.size - m) hro (fun listed a' w' hC hL => by
    have hq := anyIn_of_seq (md := .any) (Q := Q) (l.drop m) m listed a' w' (fun j => by simp [List.getElem?_drop]) (by rw [hdl]; exact hL.1) (hL.2 w' hC)
    rw [hdl] at hq
    exact hq) (l.take m).length _ a w.drew (Ext.refl _) H
  rw [htl, show m + (l.toArray.size - m) = l.toArray.size by simp; omega] at this
  exact this

/-- The same with no tail. -/
theorem wpIn_grown {id : Nat} {Q : Exit → Act → World → Prop} {a : Act} {w : World} {l : List Oper} (hro : F.round = none) (hmo : P.follows .mixedOrders = true) (hB : Region.lexB .any l.toArray = true)
    (h : wpQuietIn F nF P l.toArray (Ext w.drew) (fun a' => ∀ w', Ext w.drew w' → Q .normal a' w') l a) : (Code.region id l.toArray true).wpIn F nF P Q a w :=
  wpIn_region_quiet (C := Ext w.drew) hro hmo hB (Ext.refl _) (by simpa using h)

/-- An operation of the head that only reads or computes, and one that calls. -/
theorem quietIn_val {o : Oper} {a : Act} {K : Act → Prop} {W : World} (v : Value) (h : ∀ w, Ext W w → Oper.quietAtIn F nF P o a (Ext W) w v) (hK : K (a.put o.dst v)) : Oper.quietIn F nF P o a (Ext W) K := ⟨v, h, hK⟩

end

end Go.Proofs.Ytdgplebmlggmcaa
/- The blows of a run: the iterator over its strikes. -/
namespace Go.Proofs.Ytdgplebmlggmcaa
open Go.RowKit
attribute [local go_sem] Oper.semAt_some

/-- When a pin strikes behind the beginning of a section. -/
def aft (c : Wk) (s : Int) (p : Int × Int) : Int := (p.2 - s * (c.steps / c.sections)) % c.steps
/-- Whether a pin strikes in a run of n sections from section s on. -/
def strB (c : Wk) (t s n : Int) (p : Int × Int) : Bool := decide (p.1 % c.tunes = t) && decide (aft c s p < n * (c.steps / c.sections))
def strikesOf (c : Wk) (t s n : Int) (ps : List (Int × Int)) : List (Int × Int × Int) := (ps.filter (strB c t s n)).map fun p => (aft c s p, (ham c p).1, p.1)
def strikes (c : Wk) (t s n : Int) : List (Int × Int × Int) := strikesOf c t s n c.pins

def runVal (c : Wk) (a1 : Option Addr) (c1 : Nat) (a2 : Option Addr) (c2 : Nat) (a3 : Option Addr) (c3 : Nat) (t s n : Int) : Value :=
  .agg #[.int .i64 c.steps, .int .i64 c.sections, .slice a1 c.runs.length c1, .int .i64 c.tunes, .slice a2 c.hammers.length c2, .slice a3 c.pins.length c3, .int .i64 t, .int .i64 s, .int .i64 n]

theorem strikesOf_take (c : Wk) (t s n : Int) (k : Nat) (hk : k < c.pins.length) : strikesOf c t s n (c.pins.take (k + 1)) = strikesOf c t s n (c.pins.take k) ++ if strB c t s n c.pins[k] then [(aft c s c.pins[k], (ham c c.pins[k]).1, c.pins[k].1)] else [] := by
  unfold strikesOf
  rw [List.take_succ_eq_append_getElem hk, List.filter_append, List.map_append]
  cases h : strB c t s n c.pins[k] <;> simp [h]

theorem strikesOf_prefix (c : Wk) (t s n : Int) (k : Nat) : strikesOf c t s n (c.pins.take k) <+: strikes c t s n := by
  unfold strikes strikesOf
  conv => rhs; rw [← List.take_append_drop k c.pins]
  rw [List.filter_append, List.map_append]
  exact List.prefix_append _ _

theorem field_bell (x y : Int) (w : World) : (Instr.field 91 (.agg #[.int .i64 x, .int .i64 y]) 0).run Try.prog w = .ok (.int .i64 x) w := by kernel_rfl

set_option maxRecDepth 100000 in
set_option maxHeartbeats 4000000 in
theorem all_yields (c : Wk) (a1 : Option Addr) (c1 : Nat) (a2 : Option Addr) (c2 : Nat) (a3 : Option Addr) (c3 : Nat) (t s n : Int) (w : World) (hw : RdW w c a1 c1 a2 c2 a3 c3) (hok : worksOk c = true) (ht : inn 0 (c.tunes - 1) t = true) (hs : inn 0 (c.sections - 1) s = true) (hn : inn 0 c.sections n = true) :
    Yields Try.prog 84 #[runVal c a1 c1 a2 c2 a3 c3 t s n] #[] (fun x => #[valS x]) [150, 153] w.heap.size (strikes c t s n) w := by
  intro l J Jx W hx hJ hJx hY h0
  obtain ⟨b1, b2, b3, b4, b5, b6, b7⟩ := worksOk_bounds hok
  obtain ⟨s1, s2, s3, s4, s5, _, _, _, t1, t2⟩ := partsOk_bounds b1
  obtain ⟨ht0, ht1⟩ := inn_iff.1 ht
  obtain ⟨hs0, hs1⟩ := inn_iff.1 hs
  obtain ⟨hn0, hn1⟩ := inn_iff.1 hn
  have HR := Lib.hid hw
  have HY := Lib.hid hY
  have HJ := Lib.hid hJ
  have H6 := Lib.hid b6
  clear hw hY hJ hJx hok b1 b6 b7 ht hs hn s5
  unfold runVal
  refine (callsIn_wide (n := 3)).1 (callsIn_of_wp Try.func84 rfl trivial ?_ rfl)
  simp only [Try.ntmps84, List.size_toArray, List.length_cons, List.length_nil, Nat.reduceAdd, Nat.reduceSub, Array.replicate_succ, Array.replicate_zero, List.push_toArray, List.append_toArray, List.nil_append, List.cons_append]
  have hz0 : 0 ≤ c.steps / c.sections := Int.ediv_nonneg (by omega) (by omega)
  have hz1 : c.steps / c.sections ≤ 1000 := by
    have := Int.ediv_le_self c.sections (show 0 ≤ c.steps by omega)
    omega
  have hm0 : 0 ≤ s * (c.steps / c.sections) := Int.mul_nonneg hs0 hz0
  have hm1 : s * (c.steps / c.sections) ≤ 1000 * 1000 := Int.mul_le_mul (by omega) hz1 hz0 (by omega)
  have hm2 : 0 ≤ n * (c.steps / c.sections) := Int.mul_nonneg hn0 hz0
  have hm3 : n * (c.steps / c.sections) ≤ 1000 * 1000 := Int.mul_le_mul (by omega) hz1 hz0 (by omega)
  have hzs : (c.sections == 0) = false := by simp; omega
  gi_wp2
  have hB0 := heap_alloc_new W (.cells #[.int .i64 c.steps, .int .i64 c.sections, .slice a1 c.runs.length c1, .int .i64 c.tunes, .slice a2 c.hammers.length c2, .slice a3 c.pins.length c3, .int .i64 t, .int .i64 s, .int .i64 n] 122)
  have hx1 : Ext w (W.alloc (.cells #[.int .i64 c.steps, .int .i64 c.sections, .slice a1 c.runs.length c1, .int .i64 c.tunes, .slice a2 c.hammers.length c2, .slice a3 c.pins.length c3, .int .i64 t, .int .i64 s, .int .i64 n] 122)) := hx.alloc _
  have hj1 := HJ.out _ _ _ h0 ((Ext.refl W).alloc (.cells #[.int .i64 c.steps, .int .i64 c.sections, .slice a1 c.runs.length c1, .int .i64 c.tunes, .slice a2 c.hammers.length c2, .slice a3 c.pins.length c3, .int .i64 t, .int .i64 s, .int .i64 n] 122))
  generalize W.alloc (.cells #[.int .i64 c.steps, .int .i64 c.sections, .slice a1 c.runs.length c1, .int .i64 c.tunes, .slice a2 c.hammers.length c2, .slice a3 c.pins.length c3, .int .i64 t, .int .i64 s, .int .i64 n] 122) = W1 at *
  generalize W.heap.size = B0 at *
  clear h0 hx
  have HB0 := Lib.hid hB0
  have HX1 := Lib.hid hx1
  have HJ1 := Lib.hid hj1
  clear hB0 hx1 hj1
  gi_loopw [22] (fun i wr => ∃ k : Nat, k ≤ c.pins.length ∧ i = .int .i64 k ∧ J (strikesOf c t s n (c.pins.take k)) wr ∧
      wr.heap[B0]? = some (.cells #[.int .i64 c.steps, .int .i64 c.sections, .slice a1 c.runs.length c1, .int .i64 c.tunes, .slice a2 c.hammers.length c2, .slice a3 c.pins.length c3, .int .i64 t, .int .i64 s, .int .i64 n] 122 (0, 0)) ∧ Ext w wr)
    (fun i _ => c.pins.length - (intOf i).toNat)
  case atStart => exact ⟨0, Nat.zero_le _, rfl, HJ1.out, HB0.out, HX1.out⟩
  case round =>
    obtain ⟨k, hk, rfl, hj, hB, hxr⟩ := hrel
    by_cases hlt : k < c.pins.length
    · have r0 := cells_of hB 0 rfl
      have r1 := cells_of hB 1 rfl
      have r2 := cells_of hB 2 rfl
      have r3 := cells_of hB 3 rfl
      have r4 := cells_of hB 4 rfl
      have r5 := cells_of hB 5 rfl
      have r6 := cells_of hB 6 rfl
      have r7 := cells_of hB 7 rfl
      have r8 := cells_of hB 8 rfl
      have hBl := lt_of hB
      have HRr := Lib.hid (HR.out.ext _ _ _ _ _ _ _ hxr)
      obtain ⟨b, off, rfl, hbl, hc, hd⟩ := HRr.out.pins.cellP k hlt
      have hp := H6.out c.pins[k] (List.getElem_mem hlt)
      have HT := Lib.hid (strikesOf_take c t s n k hlt)
      have HPX := Lib.hid (strikesOf_prefix c t s n (k + 1))
      generalize c.pins[k] = p at *
      obtain ⟨p1, p2, p3, p4⟩ := pinOk_bounds hp
      have HB := Lib.hid hB
      have HJr := Lib.hid hj
      have HXr := Lib.hid hxr
      clear hB hj hxr hp
      have hq0 : 0 ≤ aft c s p := Int.emod_nonneg _ (by omega)
      have hq1 : aft c s p < c.steps := Int.emod_lt_of_pos _ (by omega)
      have HM := fun W => Lib.hid (show Calls Try.prog 64 #[.int .i64 (p.2 - s * (c.steps / c.sections)), .int .i64 c.steps] W fun e w' => e = .returned (.int .i64 (aft c s p)) ∧ W = w' from modulo_any _ _ W (by omega) (by omega))
      have HS := Lib.hid (show strB c t s n p = (decide (p.1 % c.tunes = t) && decide (aft c s p < n * (c.steps / c.sections))) from rfl)
      obtain ⟨x, hx⟩ : ∃ x : Int × Int × Int, x = (aft c s p, (ham c p).1, p.1) := ⟨_, rfl⟩
      rw [← hx] at HT
      have HXX := Lib.hid hx
      clear hx
      generalize aft c s p = q at *
      generalize strB c t s n p = bb at *
      have hq9 := fact_two wr p.1 p.2 89
      by_cases hb1 : p.1 % c.tunes = t
      case neg =>
        have hb2 : (p.1 % c.tunes != t) = true := by simpa using hb1
        have hbb : bb = false := by rw [HS.out]; simp [hb1]
        subst hbb
        gi_wp2_with (refine ⟨trivial, ?_⟩; gi_at_call 64; refine (callsIn_wide.2 (HM _).out).mono ?_; rintro e w2 ⟨rfl, rfl⟩)
        gi_quiet (fail)
        gi_wp2
        go_roundw
        case rel => exact ⟨k + 1, by omega, by go_num, by have := HT.out; simp at this; rw [this]; exact HJ.out _ _ _ HJr.out (by (repeat (first | with_reducible exact Ext.refl _ | with_reducible assumption | with_reducible refine Ext.alloc ?_ _ | with_reducible refine Ext.drew ?_ | with_reducible refine Ext.drewN ?_ _ | (with_reducible refine Ext.setCell ?_ ?hsc _; case hsc => (simp <;> omega)) | with_reducible refine Ext.trans ?_ (by assumption)))), Ext.at' (by (repeat (first | with_reducible exact Ext.refl _ | with_reducible assumption | with_reducible refine Ext.alloc ?_ _ | with_reducible refine Ext.drew ?_ | with_reducible refine Ext.drewN ?_ _ | (with_reducible refine Ext.setCell ?_ ?hsc _; case hsc => (simp <;> omega)) | with_reducible refine Ext.trans ?_ (by assumption)))) HB.out, HXr.out.trans (by (repeat (first | with_reducible exact Ext.refl _ | with_reducible assumption | with_reducible refine Ext.alloc ?_ _ | with_reducible refine Ext.drew ?_ | with_reducible refine Ext.drewN ?_ _ | (with_reducible refine Ext.setCell ?_ ?hsc _; case hsc => (simp <;> omega)) | with_reducible refine Ext.trans ?_ (by assumption))))⟩
        case measure => simp [intOf]; omega
      case pos =>
        have hb2 : (p.1 % c.tunes != t) = false := by simpa using hb1
        by_cases hb3 : q < n * (c.steps / c.sections)
        case neg =>
          have hbb : bb = false := by rw [HS.out]; simp [hb3]
          subst hbb
          gi_wp2_with (refine ⟨trivial, ?_⟩; gi_at_call 64; refine (callsIn_wide.2 (HM _).out).mono ?_; rintro e w2 ⟨rfl, rfl⟩)
          gi_quiet (fail)
          gi_wp2
          go_roundw
          case rel => exact ⟨k + 1, by omega, by go_num, by have := HT.out; simp at this; rw [this]; exact HJ.out _ _ _ HJr.out (by (repeat (first | with_reducible exact Ext.refl _ | with_reducible assumption | with_reducible refine Ext.alloc ?_ _ | with_reducible refine Ext.drew ?_ | with_reducible refine Ext.drewN ?_ _ | (with_reducible refine Ext.setCell ?_ ?hsc _; case hsc => (simp <;> omega)) | with_reducible refine Ext.trans ?_ (by assumption)))), Ext.at' (by (repeat (first | with_reducible exact Ext.refl _ | with_reducible assumption | with_reducible refine Ext.alloc ?_ _ | with_reducible refine Ext.drew ?_ | with_reducible refine Ext.drewN ?_ _ | (with_reducible refine Ext.setCell ?_ ?hsc _; case hsc => (simp <;> omega)) | with_reducible refine Ext.trans ?_ (by assumption)))) HB.out, HXr.out.trans (by (repeat (first | with_reducible exact Ext.refl _ | with_reducible assumption | with_reducible refine Ext.alloc ?_ _ | with_reducible refine Ext.drew ?_ | with_reducible refine Ext.drewN ?_ _ | (with_reducible refine Ext.setCell ?_ ?hsc _; case hsc => (simp <;> omega)) | with_reducible refine Ext.trans ?_ (by assumption))))⟩
          case measure => simp [intOf]; omega
        case pos =>
          have hbb : bb = true := by rw [HS.out]; simp [hb1, hb3]
          subst hbb
          gi_wp2_with (refine ⟨trivial, ?_⟩; gi_at_call 64; refine (callsIn_wide.2 (HM _).out).mono ?_; rintro e w2 ⟨rfl, rfl⟩)
          gi_quiet (fail)
          gi_wp2
          obtain ⟨hqb, hq0', hq1'⟩ := hq9
          have hPB := heap_alloc_new wr (.cells #[.int .i64 p.1, .int .i64 p.2] 89)
          have hx5 : Ext wr ((wr.alloc (.cells #[.int .i64 p.1, .int .i64 p.2] 89)).drewN nq) := ((Ext.refl wr).alloc _).drewN _
          have hPB5 : ((wr.alloc (.cells #[.int .i64 p.1, .int .i64 p.2] 89)).drewN nq).heap[wr.heap.size]? = some (.cells #[.int .i64 p.1, .int .i64 p.2] 89 (0, 0)) := hPB
          clear hPB hqb hq0' hq1'
          generalize ((wr.alloc (.cells #[.int .i64 p.1, .int .i64 p.2] 89)).drewN nq) = W5 at *
          generalize wr.heap.size = B5 at *
          have hB5 := hx5.at' HB.out
          have HX5 := Lib.hid hx5
          have e0 := cells_of hB5 0 rfl
          have e1 := cells_of hB5 1 rfl
          have e2 := cells_of hB5 2 rfl
          have e3 := cells_of hB5 3 rfl
          have e4 := cells_of hB5 4 rfl
          have e5 := cells_of hB5 5 rfl
          have g0 := cells_of hPB5 0 rfl
          have g1 := cells_of hPB5 1 rfl
          have HB5 := Lib.hid hB5
          have HPB5 := Lib.hid hPB5
          have HHM := fun W (hW : Ext W5 W) => Lib.hid (hammer_out c a1 c1 a2 c2 (some ⟨b, off, none⟩) c3 p W (HRr.out.hammers.ext (HX5.out.trans hW)) p1 (by omega) (by omega) t2 b3)
          clear hB5 hPB5 hx5 r0 r1 r2 r3 r4 r5 r6 r7 r8 HM HR H6 hc hd hbl hBl hz0 hz1 hm0 hm1 hm2 hm3 hq0 hq1 hb1 hb2 hb3 HS hzs
          obtain rfl := HXX.out
          have hB0l := lt_of HB5.out
          have hB5l := lt_of HPB5.out
          have hfb := field_bell
          (refine wpIn_tail 11 rfl (by kernel_rfl) (by kernel_rfl) ?_; simp only [List.take_succ_cons, List.take_zero, List.drop_succ_cons, List.drop_zero]; (repeat (refine wpQuietIn_step (fun _ _ _ _ => trivial) (fun K hK => ?_); rw [if_pos (by go_simp)]; apply quietIn_val; (focus (intro wq hwq; obtain ⟨hrq1, hrq2⟩ := hwq.rulesD; first | (go_simp; done) | (go_simp; rfl) | (go_simp; ( refine (callsIn_wide.2 (HHM _ ((Ext.refl _).drew.trans hwq)).out).mono ?_; rintro e w3 ⟨rfl, hb3⟩; exact ⟨rfl, hwq.trans hb3⟩)))); go_simp; refine hK _ ?_; clear hK K)); refine wpQuietIn_nil ?_; intro wq hwq)
          have hxq : Ext wr wq := HX5.out.trans ((Ext.refl W5).drew.trans hwq)
          obtain ⟨fn, tmps, assign, body, hy, hR⟩ := HY.out (strikesOf c t s n (c.pins.take k)) (q, (ham c p).1, p.1) wq (by have h1 := HT.out; have h2 := HPX.out; rw [h1] at h2; simpa using h2) (HJ.out _ _ _ HJr.out hxq) 2
          dsimp only [valS] at hy
          have HXQ := Lib.hid hxq
          clear hwq hxq e0 e1 e2 e3 e4 e5 g0 g1 hfb HHM
          gi_wp2
          refine hR.mono ?_
          rintro e W' (⟨rfl, hJ', hk'⟩ | ⟨rfl, hJx'⟩)
          · gi_wp2
            go_roundw
            case rel => exact ⟨k + 1, by omega, by go_num, by have h1 := HT.out; rw [h1]; simpa using hJ', hk'.cells _ _ _ _ (HXQ.out.at' HB.out) (by decide), hk'.ext (HXr.out.trans HXQ.out) (Nat.le_refl _)⟩
            case measure => simp [intOf]; omega
          · gi_wp2
            refine bodyPost_ret (results_none rfl _ _ _) rfl ?_
            exact ⟨⟨_, rfl⟩, .inr ⟨_, by have h1 := HT.out; have h2 := HPX.out; rw [h1] at h2; simpa using h2, hJx'⟩⟩
    · obtain rfl : k = c.pins.length := by omega
      gi_wp2
      go_end0
      rw [List.take_length] at hj
      exact ⟨⟨_, rfl⟩, .inl hj⟩

end Go.Proofs.Ytdgplebmlggmcaa
/- The blows of a run, in order; Plays. -/
namespace Go.Proofs.Ytdgplebmlggmcaa
open Go.RowKit Go.Sort

theorem Row.cellS {w : World} {a : Option Addr} {c : Nat} {xs : List (Int × Int × Int)} (h : Row 3 encS w a c xs) (j : Nat) (hj : j < xs.length) :
    ∃ b off, a = some ⟨b, off, none⟩ ∧ b < w.heap.size ∧ w.cell? ⟨b, off + j * 3, none⟩ = some (.int .i64 xs[j].1) ∧ w.cell? ⟨b, off + j * 3 + 1, none⟩ = some (.int .i64 xs[j].2.1) ∧ w.cell? ⟨b, off + j * 3 + 2, none⟩ = some (.int .i64 xs[j].2.2) := by
  obtain ⟨b, off, ha, hb, hc⟩ := h.at' j hj
  exact ⟨b, off, ha, hb, hc 0 (by omega), hc 1 (by omega), hc 2 (by omega)⟩

def leS (x y : Int × Int × Int) : Bool := !ltOf cmpS y x
/-- The blows of a run, in order: when, and which bell. -/
def blowsL (c : Wk) (t s n : Int) : List (Int × Int) := ((strikes c t s n).mergeSort leS).map fun x => (x.1, x.2.1)

theorem aft_inj (c : Wk) (s : Int) (p q : Int × Int) (hs : 1 ≤ c.steps) (hp0 : 0 ≤ p.2) (hp1 : p.2 < c.steps) (hq0 : 0 ≤ q.2) (hq1 : q.2 < c.steps) (h : aft c s p = aft c s q) : p.2 = q.2 := by
  unfold aft at h
  have h1 : (p.2 - q.2) % c.steps = 0 := by
    have := Int.emod_eq_emod_iff_emod_sub_eq_zero.1 h
    rw [← this]
    congr 1
    omega
  obtain ⟨d, hd⟩ := Int.dvd_of_emod_eq_zero h1
  rcases Int.lt_trichotomy d 0 with h2 | h2 | h2
  · have : c.steps * d ≤ c.steps * (-1) := Int.mul_le_mul_of_nonneg_left (by omega) (by omega)
    omega
  · subst h2; omega
  · have : c.steps * 1 ≤ c.steps * d := Int.mul_le_mul_of_nonneg_left (by omega) (by omega)
    omega

theorem strikes_apart (c : Wk) (t s n : Int) (hok : worksOk c = true) : ∀ x ∈ strikes c t s n, ∀ y ∈ strikes c t s n, x.1 = y.1 → x.2.2 = y.2.2 → x = y := by
  obtain ⟨b1, _, _, _, _, b6, _⟩ := worksOk_bounds hok
  obtain ⟨s1, _⟩ := partsOk_bounds b1
  intro x hx y hy h1 h2
  unfold strikes strikesOf at hx hy
  obtain ⟨p, hp, rfl⟩ := List.mem_map.1 hx
  obtain ⟨q, hq, rfl⟩ := List.mem_map.1 hy
  obtain ⟨_, _, p3, p4⟩ := pinOk_bounds (b6 p (List.mem_filter.1 hp).1)
  obtain ⟨_, _, q3, q4⟩ := pinOk_bounds (b6 q (List.mem_filter.1 hq).1)
  have e2 := aft_inj c s p q s1 p3 (by omega) q3 (by omega) h1
  have e1 : p.1 = q.1 := h2
  have : p = q := Prod.ext e1 e2
  rw [this]

theorem leS_iff (x y : Int × Int × Int) : leS x y = true ↔ (x.1 < y.1 ∨ x.1 = y.1 ∧ x.2.2 ≤ y.2.2) := by
  unfold leS
  rw [ltS]
  simp
  omega

theorem sorted_one (xs ys : List (Int × Int × Int)) (hu : ∀ x ∈ xs, ∀ y ∈ xs, x.1 = y.1 → x.2.2 = y.2.2 → x = y) (hp : ys.Perm xs) (hs : ys.Pairwise fun x y => ltOf cmpS y x = false) : ys = xs.mergeSort leS := by
  have hm : (xs.mergeSort leS).Perm xs := List.mergeSort_perm xs leS
  have hsm : (xs.mergeSort leS).Pairwise fun x y => leS x y = true := List.pairwise_mergeSort (le := leS) (fun a b c h1 h2 => by rw [leS_iff] at *; omega) (fun a b => by rw [Bool.or_eq_true, leS_iff, leS_iff]; omega) xs
  have hs' : ys.Pairwise fun x y => leS x y = true := hs.imp fun {x y} h => by unfold leS; rw [h]; rfl
  refine List.Perm.eq_of_pairwise (le := fun x y => leS x y = true) (fun a b ha hb h1 h2 => ?_) hs' hsm (hp.trans hm.symm)
  rw [leS_iff] at h1 h2
  exact hu a (hp.mem_iff.1 ha) b (hm.mem_iff.1 hb) (by omega) (by omega)

theorem strikes_len (c : Wk) (t s n : Int) : (strikes c t s n).length ≤ c.pins.length := by
  unfold strikes strikesOf
  rw [List.length_map]
  exact List.length_filter_le _ _

theorem Try.infoB : (Try.prog.info? 66).map (fun i => (i.zero, i.size, i.bytes)) = some (some (.agg #[.int .i64 0, .int .i64 0]), 2, 16) := by kernel_rfl

def two (x : Int × Int × Int) : Int × Int := (x.1, x.2.1)

set_option maxRecDepth 100000 in
set_option maxHeartbeats 2000000 in
theorem blows_low (c : Wk) (a1 : Option Addr) (c1 : Nat) (a2 : Option Addr) (c2 : Nat) (a3 : Option Addr) (c3 : Nat) (t s n : Int) (w : World) (hw : RdW w c a1 c1 a2 c2 a3 c3) (hok : worksOk c = true) (ht : inn 0 (c.tunes - 1) t = true) (hs : inn 0 (c.sections - 1) s = true) (hn : inn 0 c.sections n = true) :
    Calls Try.prog 61 #[runVal c a1 c1 a2 c2 a3 c3 t s n] w fun e w' => ∃ v, e = .returned v ∧ OwnL 2 encP 66 w' v (blowsL c t s n) ∧ (∀ b, v.ownBlock = some b → w.heap.size ≤ b) ∧ Ext w w' := by
  have hx0 : Ext w (w.alloc (.cells #[.int .i64 c.steps, .int .i64 c.sections, .slice a1 c.runs.length c1, .int .i64 c.tunes, .slice a2 c.hammers.length c2, .slice a3 c.pins.length c3, .int .i64 t, .int .i64 s, .int .i64 n] 122)) := (Ext.refl w).alloc _
  have hlen := strikes_len c t s n
  have hpl := (worksOk_bounds hok).2.2.2.2.1
  have hy := all_yields c a1 c1 a2 c2 a3 c3 t s n _ (hw.ext _ _ _ _ _ _ _ hx0) hok ht hs hn
  have HS := Lib.hid (sortedFunc_any 84 #[runVal c a1 c1 a2 c2 a3 c3 t s n] #[] (enters_of Try.func84 (by kernel_rfl) rfl) (strikes c t s n) _ hy (by omega))
  have HU := Lib.hid (strikes_apart c t s n hok)
  obtain ⟨iB, hi, hz0, hz1, hz2⟩ := info_parts Try.infoB
  clear hy hok ht hs hn hw
  unfold runVal at *
  go_enter Try.func61, Try.ntmps61
  go_wp2_with (go_at_call 83; refine HS.out.mono ?_; rintro e w2 ⟨v, ys, rfl, hp, ho, h4, h5⟩; have HP := Lib.hid hp; have HO := Lib.hid ho; have HR := Lib.hid (h4.sl encS_len); have HX := Lib.hid (hx0.trans h5); obtain ⟨vb, vn, rfl⟩ := h4.is; clear hp ho h4 h5)
  have hyl : ys.length ≤ 400 := by have := HP.out.length_eq; omega
  obtain ⟨a', c', hv', hrow⟩ := HR.out
  cases hv'
  have HROW := Lib.hid hrow
  clear hrow HR HS hx0
  go_loopw [2, 11] (fun v i wr => ∃ k : Nat, k ≤ ys.length ∧ i = .int .i64 k ∧ OwnL 2 encP 66 wr v ((ys.take k).map two) ∧ Grew w2 (.slice none 0 0) wr v) (fun _ i _ => ys.length - (intOf i).toNat)
  case atStart => exact ⟨0, Nat.zero_le _, rfl, by simpa using OwnL.nil 2 encP 66 w2, Grew.refl _ _⟩
  case round =>
    obtain ⟨k, hk, rfl, ho, hg⟩ := hrel
    have HOr := Lib.hid ho
    have HG := Lib.hid hg
    have hgx := hg.ext rfl
    clear ho hg
    by_cases hlt : k < ys.length
    · obtain ⟨b, off, rfl, hbl, k0, k1, k2⟩ := (HROW.out.ext hgx).cellS k hlt
      have HT : Hid ((ys.take (k + 1)).map two = (ys.take k).map two ++ [two ys[k]]) := by
        show (ys.take (k + 1)).map two = _
        rw [List.take_succ_eq_append_getElem hlt, List.map_append]
        rfl
      have hll : ((ys.take k).map two).length ≤ 400 := by
        rw [List.length_map, List.length_take]; omega
      generalize ys[k] = x at *
      have HLL := Lib.hid hll
      clear hll
      go_wp2_with (at_builtin; refine wpList_append_one rfl _ _ 39 rfl 2 encP encP_len encP_one (by decide) 66 iB _ 16 Try.underlying39 hi hz0 hz1 hz2 rfl _ _ rfl (HOr.out.kept (by (repeat (first | with_reducible exact Ext.refl _ | with_reducible assumption | with_reducible refine Ext.alloc ?_ _ | with_reducible refine Ext.drew ?_ | with_reducible refine Ext.drewN ?_ _ | (with_reducible refine Ext.setCell ?_ ?hsc _; case hsc => (simp <;> omega)) | with_reducible refine Ext.trans ?_ (by assumption))))) _ _ (two x) rfl ⟨_, _, heap_alloc2_new _ _ _, rfl⟩ (by omega) (by unfold maxLen; omega) (by have := HLL.out; unfold maxLen; omega) (by have := HLL.out; omega) ?_; intro v' w4 hown' hgrow')
      go_roundw
      case rel => exact ⟨k + 1, by omega, by go_num, by rw [HT.out]; exact hown', (HG.out.call (by (repeat (first | with_reducible exact Ext.refl _ | with_reducible assumption | with_reducible refine Ext.alloc ?_ _ | with_reducible refine Ext.drew ?_ | with_reducible refine Ext.drewN ?_ _ | (with_reducible refine Ext.setCell ?_ ?hsc _; case hsc => (simp <;> omega)) | with_reducible refine Ext.trans ?_ (by assumption))))).trans hgrow'⟩
      case measure => simp [intOf]; omega
    · go_wp2
      go_ret
      refine ⟨_, rfl, ?_, fun b hb => HG.out.low (fun b hb => (by cases hb)) HX.out.size b hb, HX.out.trans hgx⟩
      have h1 := sorted_one _ _ HU.out HP.out HO.out
      have h2 := HOr.out
      rw [List.take_of_length_le (by omega)] at h2
      have h3 : blowsL c t s n = ys.map two := by unfold blowsL; rw [← h1]; rfl
      rw [h3]
      exact h2

theorem blows_any (c : Wk) (a1 : Option Addr) (c1 : Nat) (a2 : Option Addr) (c2 : Nat) (a3 : Option Addr) (c3 : Nat) (t s n : Int) (w : World) (hw : RdW w c a1 c1 a2 c2 a3 c3) (hok : worksOk c = true) (ht : inn 0 (c.tunes - 1) t = true) (hs : inn 0 (c.sections - 1) s = true) (hn : inn 0 c.sections n = true) :
    Calls Try.prog 61 #[runVal c a1 c1 a2 c2 a3 c3 t s n] w fun e w' => ∃ v, e = .returned v ∧ OwnL 2 encP 66 w' v (blowsL c t s n) ∧ Ext w w' :=
  (blows_low c a1 c1 a2 c2 a3 c3 t s n w hw hok ht hs hn).mono fun _ _ ⟨v, h1, h2, _, h3⟩ => ⟨v, h1, h2, h3⟩

end Go.Proofs.Ytdgplebmlggmcaa
/- Plays; gcd and total. -/
namespace Go.Proofs.Ytdgplebmlggmcaa
open Go.RowKit

theorem gcd_any (m n : Nat) (w : World) (hm : m ≤ 1000000000) (hn : n ≤ 1000000000) :
    Calls Try.prog 62 #[.int .i64 m, .int .i64 n] w fun e w' => e = .returned (.int .i64 (Nat.gcd m n : Nat)) ∧ Ext w w' := by
  go_enter Try.func62, Try.ntmps62
  go_wp2
  go_loopw [0, 1] (fun a b wr => ∃ x y : Nat, a = .int .i64 x ∧ b = .int .i64 y ∧ x ≤ 1000000000 ∧ y ≤ 1000000000 ∧ Nat.gcd x y = Nat.gcd m n ∧ Ext w wr) (fun _ b _ => (intOf b).toNat)
  case atStart => exact ⟨m, n, rfl, rfl, hm, hn, rfl, Ext.refl _⟩
  case round =>
    obtain ⟨x, y, rfl, rfl, hx, hy, hg, hxr⟩ := hrel
    have HG := Lib.hid hg
    clear hg
    by_cases h0 : 0 < y
    · have hz : ((y : Int) == 0) = false := by simp; omega
      have hlt := Nat.mod_lt x h0
      have HR := Lib.hid (show Nat.gcd y (x % y) = Nat.gcd m n by rw [← HG.out, Nat.gcd_comm x y, Nat.gcd_rec y x, Nat.gcd_comm])
      have h1 : (0 : Int) < (y : Int) := by omega
      go_wp2
      go_region
      all_goals go_wp2
      all_goals
        go_roundw
        case rel => exact ⟨y, x % y, rfl, by simp, by omega, by omega, HR.out, hxr.trans (by (repeat (first | with_reducible exact Ext.refl _ | with_reducible assumption | with_reducible refine Ext.alloc ?_ _ | with_reducible refine Ext.drew ?_ | with_reducible refine Ext.drewN ?_ _ | (with_reducible refine Ext.setCell ?_ ?hsc _; case hsc => (simp <;> omega)) | with_reducible refine Ext.trans ?_ (by assumption))))⟩
        case measure => simp [intOf]; omega
    · obtain rfl : y = 0 := by omega
      have HR := Lib.hid (show x = Nat.gcd m n by rw [← HG.out, Nat.gcd_zero_right])
      go_wp2
      go_ret
      exact ⟨ret_int (by rw [← HR.out]), hxr⟩

theorem sum_take (xs : List Int) (k : Nat) (hk : k < xs.length) : (xs.take (k + 1)).sum = (xs.take k).sum + xs[k] := by
  rw [List.take_succ_eq_append_getElem hk, List.sum_append]; simp

theorem total_any (xs : List Int) (a : Option Addr) (c : Nat) (w : World) (hr : Row 1 encI w a c xs) (hb : ∀ k, -1000000000000000 ≤ (xs.take k).sum ∧ (xs.take k).sum ≤ 1000000000000000) :
    Calls Try.prog 63 #[.slice a xs.length c] w fun e w' => e = .returned (.int .i64 xs.sum) ∧ w = w' := by
  have hlen := hr.len
  have HR := Lib.hid hr
  have HB := Lib.hid hb
  clear hr hb
  go_enter Try.func63, Try.ntmps63
  go_wp2
  go_loop [2, 7] (fun s i => ∃ k : Nat, k ≤ xs.length ∧ i = .int .i64 k ∧ s = .int .i64 (xs.take k).sum) (fun _ i => xs.length - (intOf i).toNat)
  case atStart => exact ⟨0, Nat.zero_le _, rfl, by simp⟩
  case round =>
    obtain ⟨k, hk, rfl, rfl⟩ := hrel
    by_cases hlt : k < xs.length
    · obtain ⟨b, off, rfl, hbl, hc⟩ := HR.out.cellI k hlt
      have HS := Lib.hid (sum_take xs k hlt)
      obtain ⟨u1, u2⟩ := HB.out k
      obtain ⟨u3, u4⟩ := HB.out (k + 1)
      rw [HS.out] at u3 u4
      generalize xs[k] = y at *
      generalize hz : (xs.take k).sum = z at *
      have HZ := Lib.hid hz
      clear hz
      go_wp2
      go_round
      case rel => exact ⟨k + 1, by omega, by go_num, by rw [HS.out]⟩
      case measure => simp [intOf]; omega
    · go_wp2
      go_ret
      exact ⟨ret_int (by rw [List.take_of_length_le (by omega)]), rfl⟩

/-- What a run returns. -/
def playsL (c : Wk) (t n s : Int) : List (Int × Int) := if runErr c t n s = 0 then blowsL c t s (c.runs.getD n.toNat 0) else []

theorem runErr_ok {c : Wk} {t n s : Int} (h : runErr c t n s = 0) : worksOk c = true ∧ inn 0 (c.tunes - 1) t = true ∧ inn 0 (c.runs.length - 1) n = true ∧ inn 0 (c.sections - 1) s = true := by
  unfold runErr at h
  cases h1 : worksOk c
  · rw [h1] at h; simp at h
  · cases h2 : inn 0 (c.tunes - 1) t <;> cases h3 : inn 0 (c.runs.length - 1) n <;> cases h4 : inn 0 (c.sections - 1) s <;> rw [h1, h2, h3, h4] at h <;> simp at h <;> simp

theorem runIn_ok {c : Wk} {n : Int} (hok : worksOk c = true) (hn : inn 0 (c.runs.length - 1) n = true) : inn 0 c.sections (c.runs.getD n.toNat 0) = true := by
  obtain ⟨n0, n1⟩ := inn_iff.1 hn
  obtain ⟨_, _, _, _, _, _, _, hr, _⟩ := partsOk_bounds (worksOk_bounds' hok)
  have hl : n.toNat < c.runs.length := by omega
  rw [List.getD_eq_getElem?_getD, List.getElem?_eq_getElem hl]
  have := hr _ (List.getElem_mem hl)
  exact inn_iff.2 ⟨by simp; omega, by simp; omega⟩

set_option maxRecDepth 100000 in
set_option maxHeartbeats 2000000 in
theorem plays_any (c : Wk) (a1 : Option Addr) (c1 : Nat) (a2 : Option Addr) (c2 : Nat) (a3 : Option Addr) (c3 : Nat) (t n s : Int) (w : World) (hw : RdW w c a1 c1 a2 c2 a3 c3) :
    Calls Try.prog 22 #[(.agg #[.int .i64 c.steps, .int .i64 c.sections, .slice a1 c.runs.length c1, .int .i64 c.tunes, .slice a2 c.hammers.length c2, .slice a3 c.pins.length c3]), .int .i64 t, .int .i64 n, .int .i64 s] w (RetL2 2 encP (playsL c t n s) (runErr c t n s) w) := by
  have hx0 : Ext w (w.alloc (.cells #[.int .i64 c.steps, .int .i64 c.sections, .slice a1 c.runs.length c1, .int .i64 c.tunes, .slice a2 c.hammers.length c2, .slice a3 c.pins.length c3] 26)) := (Ext.refl w).alloc _
  have hw0 := hw.ext _ _ _ _ _ _ _ hx0
  by_cases he : runErr c t n s = 0
  · obtain ⟨hok, ht, hn, hs⟩ := runErr_ok he
    have HN := Lib.hid (newRun_ok c a1 c1 a2 c2 a3 c3 t n s _ hw0 hok ht hn hs)
    have HB := fun W (hW : Ext w W) => Lib.hid (blows_low c a1 c1 a2 c2 a3 c3 t s (c.runs.getD n.toNat 0) W (hw.ext _ _ _ _ _ _ _ hW) hok ht hs (runIn_ok hok hn))
    have HP : Hid (playsL c t n s = blowsL c t s (c.runs.getD n.toNat 0) ∧ runErr c t n s = 0) := ⟨by unfold playsL; rw [if_pos he], he⟩
    unfold runVal at HB
    clear he hok ht hn hs hw hw0
    generalize c.runs.getD n.toNat 0 = y at *
    go_enter Try.func22, Try.ntmps22
    go_wp2_with (first
      | (go_at_call 60; refine HN.out.mono ?_; rintro e w2 ⟨rfl, hb2⟩; have hx2 := hx0.trans hb2)
      | (go_at_call 61; refine (HB _ (hx2.alloc _)).out.mono ?_; rintro e w3 ⟨v, rfl, h1, hlo, h2⟩; have H1 := Lib.hid h1; have HLO := Lib.hid (fun b hb => Nat.le_trans (hx2.alloc _).size (hlo b hb)); clear hlo; obtain ⟨va, vn, vc, rfl⟩ := h1.is3; have hx3 := (hx2.alloc _).trans h2; clear h1 h2))
    go_ret2
    rw [HP.out.1, HP.out.2]
    exact ⟨_, rfl, H1.out.sl encP_len, HLO.out, hx3⟩
  · have HN : Hid (Calls Try.prog 60 #[(.agg #[.int .i64 c.steps, .int .i64 c.sections, .slice a1 c.runs.length c1, .int .i64 c.tunes, .slice a2 c.hammers.length c2, .slice a3 c.pins.length c3]), .int .i64 t, .int .i64 n, .int .i64 s] (w.alloc (.cells #[.int .i64 c.steps, .int .i64 c.sections, .slice a1 c.runs.length c1, .int .i64 c.tunes, .slice a2 c.hammers.length c2, .slice a3 c.pins.length c3] 26)) fun e w' =>
      e = .returned (.tuple #[.agg #[.int .i64 0, .int .i64 0, .slice none 0 0, .int .i64 0, .slice none 0 0, .slice none 0 0, .int .i64 0, .int .i64 0, .int .i64 0], .int .i64 (runErr c t n s)]) ∧ Ext (w.alloc (.cells #[.int .i64 c.steps, .int .i64 c.sections, .slice a1 c.runs.length c1, .int .i64 c.tunes, .slice a2 c.hammers.length c2, .slice a3 c.pins.length c3] 26)) w') := by
      cases hok : worksOk c
      · refine (newRun_bad c a1 c1 a2 c2 a3 c3 t n s _ hw0 hok).mono ?_
        rintro e w2 ⟨rfl, hb⟩
        exact ⟨by unfold runErr; rw [hok]; rfl, hb⟩
      · cases hin : (inn 0 (c.tunes - 1) t && inn 0 (c.runs.length - 1) n && inn 0 (c.sections - 1) s)
        · refine (newRun_none c a1 c1 a2 c2 a3 c3 t n s _ hw0 hok hin).mono ?_
          rintro e w2 ⟨rfl, hb⟩
          exact ⟨by unfold runErr; rw [hok, hin]; rfl, hb⟩
        · exact absurd (by unfold runErr; rw [hok, hin]; rfl) he
    have HP : Hid (playsL c t n s = []) := by show playsL c t n s = []; unfold playsL; rw [if_neg he]
    have he1 : (runErr c t n s != 0) = true := by simpa using he
    have he0 : ¬ runErr c t n s = 0 := he
    generalize runErr c t n s = er at *
    have HE := Lib.hid he
    clear he he0 hw hw0
    go_enter Try.func22, Try.ntmps22
    go_wp2_with (go_at_call 60; refine HN.out.mono ?_; rintro e w2 ⟨rfl, hb2⟩; have hx2 := hx0.trans hb2)
    go_ret2
    rw [HP.out]
    exact ⟨_, rfl, OwnL.sl (OwnL.nil 2 encP 0 _) encP_len, fun b hb => (by cases hb), by (repeat (first | with_reducible exact Ext.refl _ | with_reducible assumption | with_reducible refine Ext.alloc ?_ _ | with_reducible refine Ext.drew ?_ | with_reducible refine Ext.drewN ?_ _ | (with_reducible refine Ext.setCell ?_ ?hsc _; case hsc => (simp <;> omega)) | with_reducible refine Ext.trans ?_ (by assumption)))⟩

end Go.Proofs.Ytdgplebmlggmcaa
