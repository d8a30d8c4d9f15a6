/- Part 2 of a proof: Snd8, Reg, Reg2, Reg3, Reg4, Reg45, Reg5, Reg6, Reg7, Reg8, Tri. -/
import Derived.Test.YtboifcengmgcaaaGreatT1
import Derived.Orders
import Derived.OrdersIn
import Derived.RangeFuncIn
import Derived.RangeFuncBound
import Derived.RangeFuncLeaves
import Derived.Scope
set_option linter.unusedSimpArgs false
set_option linter.unusedVariables false
/- The shadow's operations are sound, VIII: all of them. -/
namespace Go.Proofs.YtboifcengmgcaaaGreat
open Go.RowKit
section
variable {P : Program} {w0 w : World} {N0 NA : Nat → Prop} {ρ : Nat → Option Nat} {H : Nat → Option Blk} {T : Nat → SV} {a : Act} {o : Oper}
theorem aggS_rep {x : SV} {v : Value} (h : RepS w NA ρ H x v) {xs : List SV} (hx : aggS x = some xs) : ∃ vs : Array Value, v = .agg vs ∧ RepL w NA ρ H xs vs.toList := by
  unfold aggS at hx
  split at hx
  · cases hx
    cases h with
    | agg _ vs hs hv => exact ⟨vs, rfl, by simpa using hs, fun i x v hx hv' => hv i x v hx (by simpa using hv')⟩
  · cases hx
    cases h with
    | c _ _ r => cases r with
      | agg _ vs hs hv => exact ⟨vs, rfl, RepL.of_closed (by simpa using hs) (fun i x v hx hv' => hv i x v hx (by simpa using hv'))⟩
  · cases hx
    cases h with
    | c _ _ r => cases r with
      | val => exact ⟨_, rfl, rep_vals _⟩
  · cases hx
theorem good_eqC (h : RepH w0 N0 NA ρ H w) (ht : ∀ i, RepS w NA ρ H (T i) (a.tmps.getD i undef)) {neg : Bool} {t t' : TypeId} {x z : Operand} (ho : o.op = .binOp (if neg then .neq else .eql) t x z t') {ks : List Bool} (hg : P.eqGuardType P.depth t = false) (hf : flatT P 12 t = some ks) (hag : isAggT P t = some true)
    {site : Nat} {y : SV} {ef : Option (Nat × Blk)} (hact : actF site (ev T) H (.eqC neg ks x z) = some (y, ef)) : Good P w0 N0 NA ρ H o a w (setH H ef) y := by
  simp only [actF] at hact
  split at hact
  case h_2 => cases hact
  case h_1 xs ys hx hy =>
  simp only [Option.map_eq_some_iff, Prod.mk.injEq] at hact
  obtain ⟨r, he, rfl, rfl⟩ := hact
  obtain ⟨us, hu, ru⟩ := aggS_rep (rep_ev ht x) hx
  obtain ⟨vs, hv, rv⟩ := aggS_rep (rep_ev ht z) hy
  obtain ⟨ag, q1, _, q3⟩ := flat_eq 12 9988 t ks hf
  rw [hag] at q1; cases q1
  have hq := q3 w us.toList vs.toList r (eqL_of he ru rv)
  simp only [view, if_true, Array.toArray_toList] at hq
  refine good_pure h (v := .bool (if neg then !r else r)) ?_ (.c _ _ (.val _))
  cases neg with
  | true =>
    simp only [if_true] at ho ⊢
    simp only [execOp, ho, hu, hv, Sem.run_bind, run_eqGuard_agg w .neq t x z us vs hg, Result.andThen_ok, run_neq_struct, Sem.run_pure]
    rw [show (10000 : Nat) = 9988 + 12 from rfl, hq]
    simp
  | false =>
    simp only [Bool.false_eq_true, if_false] at ho ⊢
    simp only [execOp, ho, hu, hv, Sem.run_bind, run_eqGuard_agg w .eql t x z us vs hg, Result.andThen_ok, run_eql_struct, Sem.run_pure]
    rw [show (10000 : Nat) = 9988 + 12 from rfl, hq]
    simp
theorem act_good (h : RepH w0 N0 NA ρ H w) (ht : ∀ i, RepS w NA ρ H (T i) (a.tmps.getD i undef)) {so : SOp} (hc : compOp P o = some so) {site : Nat} {y : SV} {ef : Option (Nat × Blk)} (hact : actF site (ev T) H so = some (y, ef)) :
    Good P w0 N0 NA ρ H o a w (setH H ef) y := by
  unfold compOp at hc
  split at hc
  · rename_i x ho; cases hc; exact good_mov h ht (.inl ho) hact
  · rename_i x ho; cases hc; exact good_mov h ht (.inr ho) hact
  · rename_i c x z ho; cases hc; exact good_pick h ht ho hact
  · rename_i t x ho; cases hc; exact good_box h ht ho hact
  · rename_i t ho
    split at hc
    case h_2 => cases hc
    case h_1 it hi =>
    simp only [Option.map_eq_some_iff] at hc
    obtain ⟨z, hz, rfl⟩ := hc
    exact good_alloc h ht ho hi hz hact
  · rename_i t ps ho
    split at hc
    · rename_i it n e hi hu
      split at hc
      case h_2 => cases hc
      case h_1 z ie hz hie =>
      simp only [Option.map_eq_some_iff] at hc
      obtain ⟨l, hl, rfl⟩ := hc
      exact good_build h ht ho (fun parts cells hf => by simp only [Program.built, hi, hu, hz, hie]; exact hf) hl hact
    · rename_i it fields hi hu
      split at hc
      case h_2 => cases hc
      case h_1 z pl hz hpl =>
      simp only [Option.map_eq_some_iff] at hc
      obtain ⟨l, hl, rfl⟩ := hc
      exact good_build h ht ho (fun parts cells hf => by simp only [Program.built, hi, hu, hz, hpl]; exact hf) hl hact
    · cases hc
  · rename_i t len ps ho
    split at hc
    case h_2 => cases hc
    case h_1 e hu =>
    split at hc
    case h_2 => cases hc
    case h_1 ie hi =>
    split at hc
    case h_2 => cases hc
    case h_1 z hz =>
    split at hc
    case isFalse => cases hc
    case isTrue hcond =>
    cases hc
    exact good_buildSl h ht ho hu hi hz hcond.1 hcond.2.1 hcond.2.2.1 hcond.2.2.2.1 hcond.2.2.2.2 hact
  · rename_i t x ho
    split at hc
    case h_2 => cases hc
    case h_1 ag n ha hn =>
    split at hc
    case isFalse => cases hc
    case isTrue hcond =>
    cases hc
    exact good_load h ht ho ha hn hcond hact
  · rename_i t x z ho
    split at hc
    case h_2 => cases hc
    case h_1 n hn =>
    cases hc
    exact good_store h ht ho hn hact
  · rename_i s x f ho
    split at hc
    case h_2 => cases hc
    case h_1 fs hu =>
    split at hc
    case h_2 => cases hc
    case h_1 fd hf =>
    split at hc
    case h_2 => cases hc
    case h_1 n hn =>
    split at hc
    case isTrue => cases hc
    case isFalse hn0 =>
    cases hc
    exact good_fld h ht ho hu hf hn hn0 hact
  · rename_i s x f ho
    split at hc
    case h_2 => cases hc
    case h_1 fs hu =>
    split at hc
    case h_2 => cases hc
    case h_1 fd hf =>
    split at hc
    case h_2 => cases hc
    case h_1 ag n ha hn =>
    split at hc
    case isFalse => cases hc
    case isTrue hcond =>
    cases hc
    exact good_field h ht ho hu hf ha hn hcond hact
  · rename_i t x i ho
    split at hc
    · rename_i e hu
      simp only [Option.map_eq_some_iff] at hc
      obtain ⟨k, hk, rfl⟩ := hc
      exact good_idxS h ht ho hu hk hact
    · rename_i n e hu
      simp only [Option.map_eq_some_iff] at hc
      obtain ⟨k, hk, rfl⟩ := hc
      exact good_idxA h ht ho hu hk hact
    · cases hc
  · rename_i t x i ho
    split at hc
    case h_3 => cases hc
    case h_2 hu => cases hc; exact good_strAt h ht ho hu hact
    case h_1 n e hu =>
    split at hc
    case h_2 => cases hc
    case h_1 ag k ha hk =>
    split at hc
    case isFalse => cases hc
    case isTrue hcond =>
    cases hc
    exact good_index h ht ho hu ha hk hcond hact
  · rename_i op t x z t' ho
    split at hc
    · split at hc
      · split at hc
        case isFalse => cases hc
        case isTrue => cases hc; exact good_shift (l := true) h ht (by simpa using ho) hact
      · split at hc
        case isFalse => cases hc
        case isTrue => cases hc; exact good_shift (l := false) h ht (by simpa using ho) hact
      · cases hc
        exact good_bin h ht ho ⟨by assumption, by assumption⟩ hact
    · rename_i hu
      split at hc
      · cases hc; exact good_binB (neg := false) h ht (by simpa using ho) hu hact
      · cases hc; exact good_binB (neg := true) h ht (by simpa using ho) hu hact
      · cases hc
    · rename_i fs hu
      split at hc
      case isTrue => cases hc
      case isFalse hg =>
      split at hc
      · rename_i ks hf; cases hc; exact good_eqC (neg := false) h ht (by simpa using ho) (by simpa using hg) hf (by simp [isAggT, hu, aggD]) hact
      · rename_i ks hf; cases hc; exact good_eqC (neg := true) h ht (by simpa using ho) (by simpa using hg) hf (by simp [isAggT, hu, aggD]) hact
      · cases hc
    · rename_i n e hu
      split at hc
      case isTrue => cases hc
      case isFalse hg =>
      split at hc
      · rename_i ks hf; cases hc; exact good_eqC (neg := false) h ht (by simpa using ho) (by simpa using hg) hf (by simp [isAggT, hu, aggD]) hact
      · rename_i ks hf; cases hc; exact good_eqC (neg := true) h ht (by simpa using ho) (by simpa using hg) hf (by simp [isAggT, hu, aggD]) hact
      · cases hc
    · split at hc
      · split at hc
        · cases hc; simp [actF] at hact
        · cases hc; simp [actF] at hact
        · cases hc
      · cases hc
    · cases hc
  · rename_i op t x ho; cases hc; exact good_un h ht ho hact
  · rename_i src dst x ho
    split at hc
    case h_2 => cases hc
    case h_1 k' k hs hd =>
    cases hc
    exact good_conv h ht ho hs hd hact
  · rename_i t l c ho
    split at hc
    case h_2 => cases hc
    case h_1 e hu =>
    split at hc
    case h_2 => cases hc
    case h_1 ie hi =>
    split at hc
    case h_2 => cases hc
    case h_1 z hz =>
    split at hc
    case isFalse => cases hc
    case isTrue hcond =>
    cases hc
    exact good_makeSl h ht ho hu hi hz hcond.1 hcond.2.1 hcond.2.2 hact
  · rename_i x i ho; cases hc; exact good_ext h ht ho hact
  · rename_i x t ho
    split at hc
    · rename_i e hu; cases hc; exact good_len h ht ho hu hact
    · rename_i k e hu; cases hc; exact good_mlen h ht ho hu hact
    · cases hc
  · rename_i s x t t' ho
    split at hc
    case isFalse => cases hc
    case isTrue htt =>
    subst htt
    split at hc
    case h_2 => cases hc
    case h_1 e hu =>
    split at hc
    case h_2 => cases hc
    case h_1 ie hi =>
    split at hc
    case h_2 => cases hc
    case h_1 z hz =>
    split at hc
    case isFalse => cases hc
    case isTrue hcond =>
    cases hc
    exact good_append h ht ho hu hi hz hcond.1 hcond.2 hact
  · rename_i xs ts ho; cases hc; exact good_max h ht ho hact
  · rename_i xs ts ho; cases hc; exact good_min h ht ho hact
  · split at hc
    case h_2 => cases hc
    case h_1 fn hfn =>
    split at hc
    case isFalse => cases hc
    case isTrue =>
    cases hc
    simp [actF] at hact
  · cases hc; simp [actF] at hact
  · cases hc; simp [actF] at hact
  · rename_i f fs cs ho; cases hc; exact good_mkFn h ht ho hact
  · rename_i t x lo hi ho
    split at hc
    · rename_i e hu
      simp only [Option.map_eq_some_iff] at hc
      obtain ⟨k, hk, rfl⟩ := hc
      exact good_slcS h ht ho hu hk hact
    · rename_i n e hu
      split at hc
      case isFalse => cases hc
      case isTrue hn =>
      simp only [Option.map_eq_some_iff] at hc
      obtain ⟨k, hk, rfl⟩ := hc
      exact good_slcA h ht ho hu hk hn hact
    · cases hc
  · rename_i t ho
    split at hc
    case h_2 => cases hc
    case h_1 kd e hm => cases hc; exact good_mkMap h ho hact
  · rename_i t m k v ho
    split at hc
    case h_2 => cases hc
    case h_1 kd e hm => cases hc; exact good_mapUpd h ht (.inl ho) hm hact
  · rename_i t m k v ho
    split at hc
    case h_2 => cases hc
    case h_1 kd e hm => cases hc; exact good_mapUpd h ht (.inr ho) hm hact
  · rename_i t m k ok ho
    split at hc
    case h_2 => cases hc
    case h_1 kd e hm =>
    split at hc
    case h_2 => cases hc
    case h_1 ie hi =>
    simp only [Option.map_eq_some_iff] at hc
    obtain ⟨z, hz, rfl⟩ := hc
    exact good_lookup h ht ho hm hi hz hact
  · rename_i t x ho
    split at hc
    case h_1 => cases hc
    case h_2 => cases hc
    case h_3 hni hnn =>
    cases hc
    cases hu : P.underlying t with
    | none => exact absurd hu hnn
    | some td => exact good_mkIfc h ht ho hu (fun ms e => hni ms (by rw [hu, e])) hact
  · rename_i t m ho
    split at hc
    case h_2 => cases hc
    case h_1 kd e hm =>
    cases hc
    exact good_rng h ht ho hm hact
  · cases hc; simp [actF] at hact
  · rename_i x ho; cases hc; exact good_ent h ht ho hact
  · rename_i x ho; cases hc; exact good_nilC h ht ho hact
  · cases hc; simp [actF] at hact
  · cases hc; simp [actF] at hact
  · cases hc
theorem act_closed (h : RepH w0 N0 NA ρ H w) (ht : ∀ i, RepS w NA ρ H (T i) (a.tmps.getD i undef)) (hna : ∀ b, NA b → b < w0.heap.size) {e : TypeId} {k : Nat} {zs : List Value} {len : Nat} {ps : List (Nat × Operand)} (hc : compOp P o = some (.buildSl e k zs len ps)) {site : Nat} {y : SV} {ef : Option (Nat × Blk)}
    (hact : actF site (ev T) H (.buildSl e k zs len ps) = some (y, ef)) : ∃ rows v w', y = .own site len ∧ ef = some (site, .arr e k rows) ∧ (execOp a.eval o).run P w = .ok (.value v) w' ∧ Ext w w' ∧ RepC w' (Mut NA ρ H) (.sl k rows) v ∧ ∃ ad, v = .slice ad rows.length rows.length := by
  unfold compOp at hc
  split at hc
  case h_7 t len' ps' ho =>
    split at hc
    case h_2 => cases hc
    case h_1 e hu =>
    split at hc
    case h_2 => cases hc
    case h_1 ie hi =>
    split at hc
    case h_2 => cases hc
    case h_1 z hz =>
    split at hc
    case isFalse => cases hc
    case isTrue hcond =>
    cases hc
    exact good_buildC h ht ho hu hi hz hcond.1 hcond.2.1 hcond.2.2.1 hcond.2.2.2.1 hcond.2.2.2.2 hna hact
  all_goals (exfalso; (repeat' (split at hc)) <;> simp_all)
end
end Go.Proofs.YtboifcengmgcaaaGreat
/- Regions of the shadow: steps; two that have nothing to do with one another change places. -/
namespace Go.Proofs.YtboifcengmgcaaaGreat
open Go.RowKit
def SC (P : Program) (f : FuncId) (cs : List CV) (r : CV) : Prop :=
  ∀ (w : World) (NA : Nat → Prop) (vs : Array Value), (∀ b, NA b → b < w.heap.size) → vs.size = cs.length → (∀ (i : Nat) x v, cs[i]? = some x → vs[i]? = some v → RepC w NA x v) →
    Calls P f vs w fun e w' => ∃ v, e = .returned v ∧ RepC w' NA r v ∧ Ext w w'
inductive Flat : CV → Prop
  | val (v : Value) : Flat (.val v)
  | agg (xs : List CV) : (∀ (i : Nat) x, xs[i]? = some x → Flat x) → Flat (.agg xs)
  | tup (xs : List CV) : (∀ (i : Nat) x, xs[i]? = some x → Flat x) → Flat (.tup xs)
theorem Flat.rep {w : World} {N N' : Nat → Prop} {x : CV} {v : Value} (hf : Flat x) (h : RepC w N x v) : RepC w N' x v := by
  induction h with
  | val v => exact .val v
  | agg xs vs hs _ ih =>
    cases hf with
    | agg _ hx => exact .agg xs vs hs (fun i x v h1 h2 => ih i x v h1 h2 (hx i x h1))
  | tup xs vs hs _ ih =>
    cases hf with
    | tup _ hx => exact .tup xs vs hs (fun i x v h1 h2 => ih i x v h1 h2 (hx i x h1))
  | nil => cases hf
  | sl => cases hf
  | slx => cases hf
  | fn => cases hf
  | ref => cases hf
  | nilm => cases hf
  | map => cases hf
  | ifc => cases hf
def SV.isC : SV → Bool
  | .c _ => true
  | _ => false
def SV.pure : SV → Bool
  | .agg xs => xs.all SV.isC
  | x => x.isC
def methF (P : Program) (t : TypeId) (nm : String) : Option FuncId := match P.info? t, P.underlying t with
  | some i, some u => match i.methods.find? (·.name == nm) with
    | some m => match m.path.isEmpty, m.func, u with
      | true, some (_, false), .pointer _ => none
      | true, some (f, false), _ => some f
      | _, _, _ => none
    | none => none
  | _, _ => none
def bodyB (P : Program) (f : FuncId) : Bool := match P.funcs[f]? with
  | some fn => fn.body.isSome && !(fn.name == "runtime.NumGoroutine")
  | none => false
def one1 (t : TypeId) (k : Nat) (rows : List (List CV)) : Nat → Option Blk := fun i => if i = 900 then some (.arr t k rows) else none
abbrev FSh := Option (List (Option CV))
def holeX (id n : Nat) : Option CV → SV
  | some c => .c c
  | none => .own id n
def holeS (sh : FSh) (id n : Nat) : SV := match sh with
  | none => .own id n
  | some l => .agg (l.map (holeX id n))
def FC (P : Program) (f : FuncId) (cs : List CV) (sh : FSh) (t : TypeId) (k : Nat) (rows : List (List CV)) : Prop :=
  ∀ (w : World) (NA : Nat → Prop) (vs : Array Value), (∀ b, NA b → b < w.heap.size) → vs.size = cs.length → (∀ (i : Nat) x v, cs[i]? = some x → vs[i]? = some v → RepC w NA x v) →
    Calls P f vs w fun e w' => ∃ v p, e = .returned v ∧ Ext w w' ∧ (∀ b, p = some b → w.heap.size ≤ b) ∧ RepB w' NA (fun _ => p) (one1 t k rows) 900 (.arr t k rows) ∧ RepS w' NA (fun _ => p) (one1 t k rows) (holeS sh 900 rows.length) v
def MS (P : Program) (f : FuncId) (sh : FSh) (cs : List CV) (t : TypeId) (k : Nat) (rows : List (List CV)) (r : CV) : Prop :=
  ∀ (w : World) (NA : Nat → Prop) (p : Option Nat) (v0 : Value) (vs : Array Value), (∀ b, NA b → b < w.heap.size) → (∀ b, p = some b → ¬ NA b) →
    RepB w NA (fun _ => p) (one1 t k rows) 900 (.arr t k rows) → RepS w NA (fun _ => p) (one1 t k rows) (holeS sh 900 rows.length) v0 → vs.size = cs.length →
    (∀ (i : Nat) x v, cs[i]? = some x → vs[i]? = some v → RepC w (fun b => NA b ∨ p = some b) x v) →
    Calls P f (#[v0] ++ vs) w fun e w' => ∃ v, e = .returned v ∧ RepB w' NA (fun _ => p) (one1 t k rows) 900 (.arr t k rows) ∧
      (∀ b cs t', p = some b → w.heap[b]? = some (.cells cs t' (0, 0)) → ∃ cs', w'.heap[b]? = some (.cells cs' t' (0, 0)) ∧ cs'.size = cs.size) ∧ w.grownBy w' p ∧ RepC w' (fun b => NA b ∨ p = some b) r v
def refs1 : SV → List Nat
  | .own id _ | .ptr id _ | .pow id _ _ _ | .om id => [id]
  | _ => []
def refs : SV → List Nat
  | .own id _ | .ptr id _ | .pow id _ _ _ | .om id | .it id => [id]
  | .fn _ fs cs => fs.flatMap refs1 ++ cs.flatMap refs1
  | _ => []
def refP : SV → List Nat
  | .pow id _ _ _ => [id]
  | _ => []
def refsA : SV → List Nat
  | .agg xs => xs.flatMap refs
  | x => refs x
structure SRop where
  dst : Option Nat
  guard : Option (Nat × Bool)
  op : SOp
  free : List Nat
  keep : Bool
def SRop.site (o : SRop) : Nat := o.dst.getD 0
inductive DoesS (P : Program) (b : Nat) (o : SRop) (T : Nat → SV) (H : Nat → Option Blk) : SV → Option (Nat × Blk) → Prop
  | act (x : SV) (e : Option (Nat × Blk)) : actF (b + o.site) (ev T) H o.op = some (x, e) → DoesS P b o T H x e
  | frz (e : TypeId) (k : Nat) (zs : List Value) (len : Nat) (ps : List (Nat × Operand)) (i l j : Nat) (t : TypeId) (k' : Nat) (rows : List (List CV)) (y : CV) : (y = .sl k' rows ∨ y = .slx k' rows) → o.op = .buildSl e k zs len ps → actF (b + o.site) (ev T) H o.op = some (.own i l, some (j, .arr t k' rows)) → DoesS P b o T H (.c y) none
  | frzA (e : TypeId) (k bytes : Nat) (s z : Operand) (i l j : Nat) (t : TypeId) (k' : Nat) (rows : List (List CV)) : o.op = .append e k bytes s z → actF (b + o.site) (ev T) H o.op = some (.own i l, some (j, .arr t k' rows)) → DoesS P b o T H (.c (.sl k' rows)) (some (j, .arr t k' (rows ++ [[]])))
  | call (f : FuncId) (xs : List Operand) (cs : List CV) (r : CV) : o.op = .call f xs → closeAll H (xs.map (ev T)) = some cs → SC P f cs r → ((xs.map (ev T)).all SV.pure = true ∨ Flat r) → DoesS P b o T H (openC r) none
  | callI (nm : String) (x0 : Operand) (xs : List Operand) (t : TypeId) (f : FuncId) (x : CV) (cs : List CV) (r : CV) : o.op = .callI nm x0 xs → ev T x0 = .c (.ifc t x) → methF P t nm = some f → bodyB P f = true → closeAll H (xs.map (ev T)) = some cs → SC P f (x :: cs) r →
      ((xs.map (ev T)).all SV.pure = true ∨ Flat r) → DoesS P b o T H (openC r) none
  | callC (f : FuncId) (xs : List Operand) (cs : List CV) (r : CV) : o.op = .callG f xs → closeAll H (xs.map (ev T)) = some cs → SC P f cs r → ((xs.map (ev T)).all SV.pure = true ∨ Flat r) → DoesS P b o T H (openC r) none
  | callN (f : FuncId) (xs : List Operand) (cs : List CV) (sh : FSh) (t : TypeId) (k : Nat) (rows : List (List CV)) : o.op = .callG f xs → closeAll H (xs.map (ev T)) = some cs → (xs.map (ev T)).all SV.pure = true → H (b + o.site) = none → FC P f cs sh t k rows →
      DoesS P b o T H (holeS sh (b + o.site) rows.length) (some (b + o.site, .arr t k rows))
  | callO (f : FuncId) (x0 : Operand) (xr : List Operand) (id : Nat) (cs : List CV) (sh : FSh) (t : TypeId) (k : Nat) (rows : List (List CV)) (r : CV) : o.op = .callG f (x0 :: xr) → ev T x0 = holeS sh id rows.length → id ∈ refsA (ev T x0) → H id = some (.arr t k rows) → closeAll H (xr.map (ev T)) = some cs →
      (xr.map (ev T)).all SV.pure = true → MS P f sh cs t k rows r → DoesS P b o T H (openC r) (some (id, .arr t k rows))
abbrev SS := (Nat → SV) × (Nat → Option Blk)
def SV.un : SV := .c (.val undef)
def goes (x : SV) (b : Bool) : Option Bool := match x with
  | .c (.val (.bool t)) => some (t == b)
  | .c (.val (.tuple _)) => some false
  | _ => none
def OutS (P : Program) (b : Nat) (o : SRop) (T : Nat → SV) (H : Nat → Option Blk) (x : SV) (e : Option (Nat × Blk)) : Prop := match o.guard with
  | none => DoesS P b o T H x e
  | some (g, q) => ∃ t, goes (T g) q = some t ∧ if t = true then DoesS P b o T H x e else x = .un ∧ e = none
def Step (P : Program) (b : Nat) (o : SRop) (S S' : SS) : Prop := ∃ x e, OutS P b o S.1 S.2 x e ∧ S' = (putT S.1 o.dst x, setH S.2 e)
def fp (g : Operand → SV) : SOp → List Nat
  | .load _ _ a => refs (g a)
  | .store _ a _ => refs (g a)
  | .fld _ x => refP (g x)
  | .idxS _ x _ => refs (g x)
  | .idxA _ _ x _ => refP (g x)
  | .len x => refs (g x)
  | .append _ _ _ s x => refs (g s) ++ refs (g x)
  | .call _ xs | .callG _ xs | .callI _ _ xs => xs.flatMap fun x => refsA (g x)
  | .mapUpd _ _ m _ _ | .lookup _ _ _ _ m _ | .mlen m | .ent m => refs (g m)
  | _ => []
def wr : SOp → Bool
  | .store .. | .append .. | .mapUpd .. | .callG .. => true
  | _ => false
def al : SOp → Bool
  | .box .. | .alloc .. | .buildSl .. | .makeSl .. | .append .. | .mkMap .. | .callG .. | .rng .. => true
  | _ => false
def lk : SOp → Bool
  | .load .. | .store .. | .fld .. | .idxS .. | .idxA .. | .len .. | .append .. | .call .. | .callG .. | .callI .. | .mapUpd .. | .lookup .. | .mlen .. | .ent .. => true
  | _ => false
theorem fp_lk {g : Operand → SV} {so : SOp} (h : lk so = false) : fp g so = [] := by cases so <;> simp [lk] at h <;> rfl
theorem rowsOf_congr {H H' : Nat → Option Blk} {k : Nat} {x : SV} (h : ∀ id ∈ refs x, H id = H' id) : rowsOf H k x = rowsOf H' k x := by
  cases x with
  | own id len => have := h id (by simp [refs]); simp only [rowsOf, this]
  | c y => cases y with
    | val v => cases v with
      | slice a n c => (cases a <;> cases n <;> cases c <;> rfl)
      | _ => rfl
    | _ => rfl
  | _ => rfl
theorem act_congr {g g' : Operand → SV} {H H' : Nat → Option Blk} {site : Nat} {so : SOp} (hg : ∀ x ∈ so.opds, g x = g' x) (hH : ∀ id ∈ fp g so, H id = H' id) (hs : al so = true → H site = H' site) : actF site g H so = actF site g' H' so := by
  cases so with
  | mov x => simp only [actF]; rw [hg x (by simp [SOp.opds])]
  | pick c x z => simp only [actF]; rw [hg c (by simp [SOp.opds]), hg x (by simp [SOp.opds]), hg z (by simp [SOp.opds])]
  | box t x => simp only [actF]; rw [hg x (by simp [SOp.opds]), hs rfl]
  | alloc t z => simp only [actF]; rw [hs rfl]
  | build z ps =>
    simp only [actF]
    have : (ps.map fun p => (p.1, p.2.1, g p.2.2)) = ps.map fun p => (p.1, p.2.1, g' p.2.2) := List.map_congr_left fun p hp => by rw [hg p.2.2 (by simp only [SOp.opds, List.mem_map]; exact ⟨p, hp, rfl⟩)]
    rw [this]
  | buildSl e k z len ps =>
    simp only [actF]
    have : (ps.map fun p => (p.1 * k, k, g p.2)) = ps.map fun p => (p.1 * k, k, g' p.2) := List.map_congr_left fun p hp => by rw [hg p.2 (by simp only [SOp.opds, List.mem_map]; exact ⟨p, hp, rfl⟩)]
    rw [this, hs rfl]
  | load ag n x =>
    have hx := hg x (by simp [SOp.opds])
    simp only [actF, ← hx]
    simp only [fp] at hH
    cases hc : g x with
    | ptr id j => have := hH id (by simp [hc, refs]); simp only [this]
    | pow id len i j => have := hH id (by simp [hc, refs]); simp only [this]
    | c y => cases y <;> rfl
    | _ => rfl
  | store n x z =>
    have hx := hg x (by simp [SOp.opds])
    have hz := hg z (by simp [SOp.opds])
    simp only [actF, ← hx, ← hz]
    simp only [fp] at hH
    cases hq : (g z).cells with
    | none => cases hc : g x <;> rfl
    | some vs =>
      cases hc : g x with
      | ptr id j => have := hH id (by simp [hc, refs]); simp only [this]
      | pow id len i j => have := hH id (by simp [hc, refs]); simp only [this]
      | _ => rfl
  | fld off x =>
    have hx := hg x (by simp [SOp.opds])
    simp only [actF, ← hx]
    simp only [fp] at hH
    cases hc : g x with
    | pow id len i j => have := hH id (by simp [hc, refP]); simp only [this]
    | c y => cases y <;> rfl
    | _ => rfl
  | field ag off n x => simp only [actF]; rw [hg x (by simp [SOp.opds])]
  | idxS k x i =>
    have hx := hg x (by simp [SOp.opds])
    have hi := hg i (by simp [SOp.opds])
    simp only [actF, ← hx, ← hi]
    simp only [fp] at hH
    cases hc : g x with
    | own id len => have := hH id (by simp [hc, refs]); simp only [this]
    | c y => cases y <;> rfl
    | _ => rfl
  | idxA len k x i =>
    have hx := hg x (by simp [SOp.opds])
    have hi := hg i (by simp [SOp.opds])
    simp only [actF, ← hx, ← hi]
    simp only [fp] at hH
    cases hc : g x with
    | pow id l i0 j => have := hH id (by simp [hc, refP]); simp only [this]
    | c y => cases y <;> rfl
    | _ => rfl
  | index len k ag x i => simp only [actF]; rw [hg x (by simp [SOp.opds]), hg i (by simp [SOp.opds])]
  | bin op x y => simp only [actF]; rw [hg x (by simp [SOp.opds]), hg y (by simp [SOp.opds])]
  | binB op x y => simp only [actF]; rw [hg x (by simp [SOp.opds]), hg y (by simp [SOp.opds])]
  | eqC neg ks x y => simp only [actF]; rw [hg x (by simp [SOp.opds]), hg y (by simp [SOp.opds])]
  | un op x => simp only [actF]; rw [hg x (by simp [SOp.opds])]
  | len x =>
    have hx := hg x (by simp [SOp.opds])
    simp only [actF, ← hx]
    simp only [fp] at hH
    cases hc : g x with
    | own id len => have := hH id (by simp [hc, refs]); simp only [this]
    | c y => cases y with
      | val v => cases v with
        | slice a n c => (cases a <;> cases n <;> cases c <;> rfl)
        | _ => rfl
      | _ => rfl
    | _ => rfl
  | append e k bytes s x =>
    have hx := hg x (by simp [SOp.opds])
    have hs' := hg s (by simp [SOp.opds])
    simp only [actF, ← hx, ← hs']
    simp only [fp] at hH
    rw [rowsOf_congr (H := H) (H' := H') (fun id hid => hH id (List.mem_append_right _ hid)), hs rfl]
    cases rowsOf H' k (g x) with
    | none => rfl
    | some src =>
      cases hc : g s with
      | own id len => have := hH id (by simp [hc, refs]); simp only [this]
      | c y => cases y with
        | val v => cases v with
          | slice a n c => (cases a <;> cases n <;> cases c <;> rfl)
          | _ => rfl
        | _ => rfl
      | _ => rfl
  | makeSl e k bytes z l c => simp only [actF]; rw [hg l (by simp [SOp.opds]), hg c (by simp [SOp.opds]), hs rfl]
  | ext x i => simp only [actF]; rw [hg x (by simp [SOp.opds])]
  | conv k x => simp only [actF]; rw [hg x (by simp [SOp.opds])]
  | max xs => simp only [actF]; rw [List.map_congr_left fun x hx => hg x (by simpa [SOp.opds] using hx)]
  | min xs => simp only [actF]; rw [List.map_congr_left fun x hx => hg x (by simpa [SOp.opds] using hx)]
  | call f xs => rfl
  | callV x xs => rfl
  | callM f xs => rfl
  | callG f xs => rfl
  | callI nm x xs => rfl
  | rng ag kd m => simp only [actF]; rw [hg m (by simp [SOp.opds]), hs rfl]
  | nxt x => rfl
  | strAt x i => simp only [actF]; rw [hg x (by simp [SOp.opds]), hg i (by simp [SOp.opds])]
  | isNil neg kd x => rfl
  | nilC x => simp only [actF]; rw [hg x (by simp [SOp.opds])]
  | ent x =>
    have hx := hg x (by simp [SOp.opds])
    simp only [actF, ← hx]
    simp only [fp] at hH
    cases hc : g x with
    | it id => have := hH id (by simp [hc, refs]); simp only [this]
    | _ => rfl
  | boxZ t x => simp only [actF]; rw [hg x (by simp [SOp.opds])]
  | mkFn f fs cs =>
    simp only [actF]
    rw [List.map_congr_left (l := fs) fun x hx => hg x (by simp [SOp.opds, hx]), List.map_congr_left (l := cs) fun x hx => hg x (by simp [SOp.opds, hx])]
  | slcS k x lo hi =>
    simp only [actF]
    have e1 : ∀ d, bound g d lo = bound g' d lo := fun d => by
      cases lo with
      | none => rfl
      | some z => simp only [bound]; rw [hg z (by simp [SOp.opds])]
    have e2 : ∀ d, bound g d hi = bound g' d hi := fun d => by
      cases hi with
      | none => rfl
      | some z => simp only [bound]; rw [hg z (by simp [SOp.opds])]
    rw [hg x (by simp [SOp.opds])]
    simp only [e1, e2]
  | slcA len k x lo hi =>
    simp only [actF]
    have e1 : ∀ d, bound g d lo = bound g' d lo := fun d => by
      cases lo with
      | none => rfl
      | some z => simp only [bound]; rw [hg z (by simp [SOp.opds])]
    have e2 : ∀ d, bound g d hi = bound g' d hi := fun d => by
      cases hi with
      | none => rfl
      | some z => simp only [bound]; rw [hg z (by simp [SOp.opds])]
    rw [hg x (by simp [SOp.opds])]
    simp only [e1, e2]
  | shift l x y => simp only [actF]; rw [hg x (by simp [SOp.opds]), hg y (by simp [SOp.opds])]
  | mkMap ag kd => simp only [actF]; rw [hs rfl]
  | mapUpd ag kd m k v =>
    have hm := hg m (by simp [SOp.opds])
    simp only [actF, ← hm, hg k (by simp [SOp.opds]), hg v (by simp [SOp.opds])]
    simp only [fp] at hH
    cases hc : g m with
    | om id =>
      have := hH id (by rw [hc]; simp [refs])
      cases keyS ag kd (g' k) with
      | none => rfl
      | some key => cases toC (g' v) with
        | none => rfl
        | some y => simp only [this]
    | _ => rfl
  | lookup ag kd z ok m k =>
    have hm := hg m (by simp [SOp.opds])
    simp only [actF, ← hm, hg k (by simp [SOp.opds])]
    simp only [fp] at hH
    have : entsS H ag kd (g m) = entsS H' ag kd (g m) := by
      cases hc : g m with
      | om id => have := hH id (by simp [hc, refs]); simp only [entsS, this]
      | c y => cases y with
        | val v => cases v with
          | map r => cases r <;> rfl
          | _ => rfl
        | _ => rfl
      | _ => rfl
    rw [this]
  | mlen x =>
    have hm := hg x (by simp [SOp.opds])
    simp only [actF, ← hm]
    simp only [fp] at hH
    cases hc : g x with
    | om id => have := hH id (by rw [hc]; simp [refs]); simp only [this]
    | c y => cases y with
      | val v => cases v with
        | map r => cases r <;> rfl
        | _ => rfl
      | _ => rfl
    | _ => rfl
  | mkIfc t x => simp only [actF]; rw [hg x (by simp [SOp.opds])]
theorem act_eff {g : Operand → SV} {H : Nat → Option Blk} {site : Nat} {so : SOp} {x : SV} {id : Nat} {B : Blk} (h : actF site g H so = some (x, some (id, B))) : (al so = true ∧ id = site) ∨ (wr so = true ∧ id ∈ fp g so) := by
  cases so with
  | box t y =>
    simp only [actF] at h
    split at h
    · split at h <;> simp at h
      exact .inl ⟨rfl, h.2.1.symm⟩
    · cases h
  | alloc t z =>
    simp only [actF] at h
    split at h <;> simp at h
    exact .inl ⟨rfl, h.2.1.symm⟩
  | buildSl e k z len ps =>
    simp only [actF] at h
    split at h
    · split at h
      · split at h
        · split at h <;> simp at h
          exact .inl ⟨rfl, h.2.1.symm⟩
        · cases h
      · cases h
    · cases h
  | makeSl e k bytes z l c =>
    simp only [actF] at h
    split at h
    · split at h <;> simp at h
      exact .inl ⟨rfl, h.2.1.symm⟩
    · cases h
  | store n y z =>
    simp only [actF] at h
    split at h
    · rename_i i j vs hy hz
      split at h
      · split at h
        · split at h <;> simp at h
          exact .inr ⟨rfl, by simp [fp, hy, refs, h.2.1]⟩
        · cases h
      · cases h
    · rename_i i len q j vs hy hz
      split at h
      · split at h
        · split at h
          · split at h
            · split at h <;> simp at h
              exact .inr ⟨rfl, by simp [fp, hy, refs, h.2.1]⟩
            · cases h
          · cases h
        · cases h
      · cases h
    · cases h
  | append e k bytes s y =>
    simp only [actF] at h
    split at h
    · split at h
      · rename_i i len hs
        split at h
        · split at h <;> simp at h
          exact .inr ⟨rfl, by simp [fp, hs, refs, h.2.1]⟩
        · cases h
      · split at h
        · split at h <;> simp at h
          exact .inl ⟨rfl, h.2.1.symm⟩
        · cases h
      · split at h
        · split at h
          · cases h
            exact .inl ⟨rfl, rfl⟩
          · cases h
        · cases h
      · cases h
    · cases h
  | mkMap ag kd =>
    simp only [actF] at h
    split at h <;> simp at h
    exact .inl ⟨rfl, h.2.1.symm⟩
  | rng ag kd m =>
    simp only [actF] at h
    split at h <;> simp at h
    exact .inl ⟨rfl, h.2.1.symm⟩
  | mapUpd ag kd m k v =>
    simp only [actF] at h
    split at h
    · rename_i i key x' hm hk hv
      split at h
      · split at h <;> simp at h
        exact .inr ⟨rfl, by simp [fp, hm, refs, h.2.1]⟩
      · cases h
    · cases h
  | _ => exfalso; simp only [actF] at h; (repeat' (split at h)) <;> simp at h
theorem act_app {g : Operand → SV} {H : Nat → Option Blk} {site : Nat} {so : SOp} {e : TypeId} {k bytes : Nat} {s z : Operand} {i l j : Nat} {t : TypeId} {k' : Nat} {rows : List (List CV)} (hop : so = .append e k bytes s z) (h : actF site g H so = some (.own i l, some (j, .arr t k' rows))) :
    i = j ∧ l = rows.length ∧ (j = site ∨ ∃ t k rows, H j = some (.arr t k rows)) := by
  subst hop
  simp only [actF] at h
  split at h
  case h_2 => cases h
  split at h
  · split at h
    case h_2 => cases h
    case h_1 hH =>
    split at h
    case isFalse => cases h
    simp only [Option.some.injEq, Prod.mk.injEq, SV.own.injEq, Blk.arr.injEq] at h
    obtain ⟨⟨rfl, rfl⟩, rfl, rfl, rfl, rfl⟩ := h
    exact ⟨rfl, by simp, .inr ⟨_, _, _, hH⟩⟩
  · split at h
    case h_2 => cases h
    split at h
    case isFalse => cases h
    simp only [Option.some.injEq, Prod.mk.injEq, SV.own.injEq, Blk.arr.injEq] at h
    obtain ⟨⟨rfl, rfl⟩, rfl, rfl, rfl, rfl⟩ := h
    exact ⟨rfl, rfl, .inl rfl⟩
  · split at h
    case h_2 => cases h
    split at h
    case isFalse => cases h
    simp only [Option.some.injEq, Prod.mk.injEq, SV.own.injEq, Blk.arr.injEq] at h
    obtain ⟨⟨rfl, rfl⟩, rfl, rfl, rfl, rfl⟩ := h
    exact ⟨rfl, by simp, .inl rfl⟩
  · cases h
end Go.Proofs.YtboifcengmgcaaaGreat
/- Regions of the shadow, II: whatever order is drawn. -/
namespace Go.Proofs.YtboifcengmgcaaaGreat
open Go.RowKit
theorem fp_congr {g g' : Operand → SV} {so : SOp} (hg : ∀ x ∈ so.opds, g x = g' x) : fp g so = fp g' so := by
  cases so with
  | load ag n a => simp only [fp]; rw [hg a (by simp [SOp.opds])]
  | store n a x => simp only [fp]; rw [hg a (by simp [SOp.opds])]
  | fld off x => simp only [fp]; rw [hg x (by simp [SOp.opds])]
  | idxS k x i => simp only [fp]; rw [hg x (by simp [SOp.opds])]
  | idxA len k x i => simp only [fp]; rw [hg x (by simp [SOp.opds])]
  | len x => simp only [fp]; rw [hg x (by simp [SOp.opds])]
  | append e k bytes s x => simp only [fp]; rw [hg s (by simp [SOp.opds]), hg x (by simp [SOp.opds])]
  | call f xs =>
    simp only [fp]
    have h : ∀ x ∈ xs, g x = g' x := fun x hx => hg x (by simpa [SOp.opds] using hx)
    clear hg
    induction xs with
    | nil => rfl
    | cons x xs ih => simp only [List.flatMap_cons]; rw [h x (by simp), ih (fun y hy => h y (by simp [hy]))]
  | callG f xs =>
    simp only [fp]
    have h : ∀ x ∈ xs, g x = g' x := fun x hx => hg x (by simpa [SOp.opds] using hx)
    clear hg
    induction xs with
    | nil => rfl
    | cons x xs ih => simp only [List.flatMap_cons]; rw [h x (by simp), ih (fun y hy => h y (by simp [hy]))]
  | callI nm x0 xs =>
    simp only [fp]
    have h : ∀ x ∈ xs, g x = g' x := fun x hx => hg x (by simp [SOp.opds, hx])
    clear hg
    induction xs with
    | nil => rfl
    | cons x xs ih => simp only [List.flatMap_cons]; rw [h x (by simp), ih (fun y hy => h y (by simp [hy]))]
  | mapUpd ag kd m k v => simp only [fp]; rw [hg m (by simp [SOp.opds])]
  | lookup ag kd z ok m k => simp only [fp]; rw [hg m (by simp [SOp.opds])]
  | mlen m => simp only [fp]; rw [hg m (by simp [SOp.opds])]
  | ent m => simp only [fp]; rw [hg m (by simp [SOp.opds])]
  | _ => rfl
theorem closeP_congr {H H' : Nat → Option Blk} {x : SV} (h : ∀ id ∈ refs1 x, H id = H' id) : closeP H x = closeP H' x := by
  cases x with
  | own id len => have := h id (by simp [refs1]); simp only [closeP, this]
  | ptr id j => have := h id (by simp [refs1]); simp only [closeP, this]
  | om id => have := h id (by simp [refs1]); simp only [closeP, this]
  | _ => rfl
theorem closePL_congr {H H' : Nat → Option Blk} : ∀ {xs : List SV} (_ : ∀ id ∈ xs.flatMap refs1, H id = H' id), closePL H xs = closePL H' xs
  | [], _ => rfl
  | x :: xs, h => by
    simp only [closePL]
    rw [closeP_congr (fun id hid => h id (by simp [List.flatMap_cons, hid])), closePL_congr (xs := xs) (fun id hid => h id (by rw [List.flatMap_cons]; exact List.mem_append_right _ hid))]
theorem close1_congr {H H' : Nat → Option Blk} {x : SV} (h : ∀ id ∈ refs x, H id = H' id) : close1 H x = close1 H' x := by
  cases x with
  | own id len => exact closeP_congr (x := .own id len) (fun i hi => h i (by simpa [refs, refs1] using hi))
  | ptr id j => exact closeP_congr (x := .ptr id j) (fun i hi => h i (by simpa [refs, refs1] using hi))
  | om id => exact closeP_congr (x := .om id) (fun i hi => h i (by simpa [refs, refs1] using hi))
  | fn f fs cs =>
    simp only [close1]
    rw [closePL_congr (xs := fs) (fun id hid => h id (by simp only [refs]; exact List.mem_append_left _ hid)), closePL_congr (xs := cs) (fun id hid => h id (by simp only [refs]; exact List.mem_append_right _ hid))]
  | _ => rfl
theorem closeL_congr {H H' : Nat → Option Blk} : ∀ {xs : List SV} (_ : ∀ id ∈ xs.flatMap refs, H id = H' id), closeL H xs = closeL H' xs
  | [], _ => rfl
  | x :: xs, h => by
    simp only [closeL]
    rw [close1_congr (fun id hid => h id (by simp [List.flatMap_cons, hid])), closeL_congr (xs := xs) (fun id hid => h id (by rw [List.flatMap_cons]; exact List.mem_append_right _ hid))]
theorem close_congr {H H' : Nat → Option Blk} {x : SV} (h : ∀ id ∈ refsA x, H id = H' id) : close H x = close H' x := by
  cases x with
  | agg xs => simp only [close]; rw [closeL_congr h]
  | own id len => exact close1_congr (x := .own id len) h
  | ptr id j => exact close1_congr (x := .ptr id j) h
  | om id => exact close1_congr (x := .om id) h
  | fn f fs cs => exact close1_congr (x := .fn f fs cs) h
  | _ => rfl
theorem closeAll_congr {H H' : Nat → Option Blk} : ∀ {xs : List SV} (_ : ∀ id ∈ xs.flatMap refsA, H id = H' id), closeAll H xs = closeAll H' xs
  | [], _ => rfl
  | x :: xs, h => by
    simp only [closeAll]
    rw [close_congr (fun id hid => h id (by simp [List.flatMap_cons, hid])), closeAll_congr (xs := xs) (fun id hid => h id (by rw [List.flatMap_cons]; exact List.mem_append_right _ hid))]
def opT : Operand → Option Nat
  | .tmp t => some t
  | _ => none
def SRop.looks (o : SRop) : List Nat := o.op.opds.filterMap opT ++ (match o.guard with
  | some (g, _) => [g]
  | none => [])
def apartS (x y : SRop) : Bool :=
  (match x.dst with
   | some d => !y.looks.contains d && y.dst != some d
   | none => true) &&
  (match y.dst with
   | some d => !x.looks.contains d
   | none => true)
def comp2 (b : Nat) (x y : SRop) (F G : List Nat) : Bool :=
  (!(wr x.op || wr y.op) || F.all (!G.contains ·)) && (!al x.op || !G.contains (b + x.site)) && (!al y.op || !F.contains (b + y.site)) && (!(al x.op && al y.op) || x.site != y.site)
theorem ev_put {T : Nat → SV} {d : Option Nat} {x : SV} {o : Operand} (h : ∀ i, d = some i → opT o ≠ some i) : ev (putT T d x) o = ev T o := by
  cases o with
  | tmp t =>
    cases d with
    | none => rfl
    | some d =>
      have : t ≠ d := fun e => h d rfl (by rw [e]; rfl)
      simp [ev, putT, this]
  | _ => rfl
section
variable {P : Program} {b : Nat}
theorem DoesS.congr {o : SRop} {T T' : Nat → SV} {H H' : Nat → Option Blk} {x : SV} {e : Option (Nat × Blk)} (hg : ∀ y ∈ o.op.opds, ev T y = ev T' y) (hH : ∀ id ∈ fp (ev T) o.op, H id = H' id) (hs : al o.op = true → H (b + o.site) = H' (b + o.site))
    (h : DoesS P b o T H x e) : DoesS P b o T' H' x e := by
  cases h with
  | act x e h => exact .act x e ((act_congr hg hH hs).symm.trans h)
  | frz e k zs len ps i l j t k' rows y hy h1 h2 => exact .frz e k zs len ps i l j t k' rows y hy h1 ((act_congr hg hH hs).symm.trans h2)
  | frzA e k by' s z i l j t k' rows h1 h2 => exact .frzA e k by' s z i l j t k' rows h1 ((act_congr hg hH hs).symm.trans h2)
  | call f xs cs r h1 h2 h3 h4 =>
    have hm : xs.map (ev T) = xs.map (ev T') := List.map_congr_left fun y hy => hg y (by rw [h1]; exact hy)
    rw [h1] at hH
    refine .call f xs cs r h1 ?_ h3 (by rw [← hm]; exact h4)
    rw [← hm, ← closeAll_congr (H := H) (H' := H')]
    · exact h2
    · intro id hid
      refine hH id ?_
      simp only [fp, List.mem_flatMap] at hid ⊢
      obtain ⟨y, hy, hid⟩ := hid
      obtain ⟨z, hz, rfl⟩ := List.mem_map.1 hy
      exact ⟨z, hz, hid⟩
  | callC f xs cs r h1 h2 h3 h4 =>
    have hm : xs.map (ev T) = xs.map (ev T') := List.map_congr_left fun y hy => hg y (by rw [h1]; exact hy)
    rw [h1] at hH
    refine .callC f xs cs r h1 ?_ h3 (by rw [← hm]; exact h4)
    rw [← hm, ← closeAll_congr (H := H) (H' := H')]
    · exact h2
    · intro id hid
      refine hH id ?_
      simp only [fp, List.mem_flatMap] at hid ⊢
      obtain ⟨y, hy, hid⟩ := hid
      obtain ⟨z, hz, rfl⟩ := List.mem_map.1 hy
      exact ⟨z, hz, hid⟩
  | callI nm x0 xs t f x cs r h1 hx hm0 hb h2 h3 h4 =>
    have hm : xs.map (ev T) = xs.map (ev T') := List.map_congr_left fun y hy => hg y (by rw [h1]; exact List.mem_cons_of_mem _ hy)
    rw [h1] at hH
    refine .callI nm x0 xs t f x cs r h1 (by rw [← hg x0 (by rw [h1]; exact List.mem_cons_self)]; exact hx) hm0 hb ?_ h3 (by rw [← hm]; exact h4)
    rw [← hm, ← closeAll_congr (H := H) (H' := H')]
    · exact h2
    · intro id hid
      refine hH id ?_
      simp only [fp, List.mem_flatMap] at hid ⊢
      obtain ⟨y, hy, hid⟩ := hid
      obtain ⟨z, hz, rfl⟩ := List.mem_map.1 hy
      exact ⟨z, hz, hid⟩
  | callN f xs cs sh t k rows h1 h2 h3 h4 h5 =>
    have hm : xs.map (ev T) = xs.map (ev T') := List.map_congr_left fun y hy => hg y (by rw [h1]; exact hy)
    rw [h1] at hH hs
    refine .callN f xs cs sh t k rows h1 ?_ (by rw [← hm]; exact h3) ((hs rfl).symm.trans h4) h5
    rw [← hm, ← closeAll_congr (H := H) (H' := H')]
    · exact h2
    · intro id hid
      refine hH id ?_
      simp only [fp, List.mem_flatMap] at hid ⊢
      obtain ⟨y, hy, hid⟩ := hid
      obtain ⟨z, hz, rfl⟩ := List.mem_map.1 hy
      exact ⟨z, hz, hid⟩
  | callO f x0 xr id cs sh t k rows r h1 h2 h3 h4 h5 h6 h7 =>
    have hm : xr.map (ev T) = xr.map (ev T') := List.map_congr_left fun y hy => hg y (by rw [h1]; exact List.mem_cons_of_mem _ hy)
    have h0 : ev T x0 = ev T' x0 := hg x0 (by rw [h1]; exact List.mem_cons_self)
    rw [h1] at hH
    have hid : id ∈ fp (ev T) (.callG f (x0 :: xr)) := by simp only [fp, List.flatMap_cons, List.mem_append]; exact .inl h3
    refine .callO f x0 xr id cs sh t k rows r h1 (by rw [← h0]; exact h2) (by rw [← h0]; exact h3) (by rw [← hH id hid]; exact h4) ?_ (by rw [← hm]; exact h6) h7
    rw [← hm, ← closeAll_congr (H := H) (H' := H')]
    · exact h5
    · intro id hid
      refine hH id ?_
      simp only [fp, List.mem_flatMap] at hid ⊢
      obtain ⟨y, hy, hid⟩ := hid
      obtain ⟨z, hz, rfl⟩ := List.mem_map.1 hy
      exact ⟨z, List.mem_cons_of_mem _ hz, hid⟩
theorem DoesS.eff {o : SRop} {T : Nat → SV} {H : Nat → Option Blk} {x : SV} {id : Nat} {B : Blk} (h : DoesS P b o T H x (some (id, B))) : (al o.op = true ∧ id = b + o.site) ∨ (wr o.op = true ∧ id ∈ fp (ev T) o.op) := by
  cases h with
  | act _ _ h => exact act_eff h
  | frzA e k by' s z i l j t k' rows h1 h2 => exact act_eff h2
  | callN f xs cs sh t k rows h1 h2 h3 h4 h5 => exact .inl ⟨by rw [h1]; rfl, rfl⟩
  | callO f x0 xr id cs sh t k rows r h1 h2 h3 h4 h5 h6 h7 => exact .inr ⟨by rw [h1]; rfl, by rw [h1]; simp only [fp, List.flatMap_cons, List.mem_append]; exact .inl h3⟩
theorem OutS.congr {o : SRop} {T T' : Nat → SV} {H H' : Nat → Option Blk} {x : SV} {e : Option (Nat × Blk)} (hg : ∀ y ∈ o.op.opds, ev T y = ev T' y) (hgd : ∀ g q, o.guard = some (g, q) → T g = T' g) (hH : ∀ id ∈ fp (ev T) o.op, H id = H' id) (hs : al o.op = true → H (b + o.site) = H' (b + o.site))
    (h : OutS P b o T H x e) : OutS P b o T' H' x e := by
  unfold OutS at *
  split
  · rename_i hq; rw [hq] at h; exact h.congr hg hH hs
  · rename_i g q hq
    rw [hq] at h
    obtain ⟨t, h1, h2⟩ := h
    refine ⟨t, by rw [← hgd g q hq]; exact h1, ?_⟩
    split
    · rename_i ht; rw [if_pos ht] at h2; exact h2.congr hg hH hs
    · rename_i ht; rw [if_neg ht] at h2; exact h2
theorem OutS.eff {o : SRop} {T : Nat → SV} {H : Nat → Option Blk} {x : SV} {id : Nat} {B : Blk} (h : OutS P b o T H x (some (id, B))) : (al o.op = true ∧ id = b + o.site) ∨ (wr o.op = true ∧ id ∈ fp (ev T) o.op) := by
  unfold OutS at h
  split at h
  · exact h.eff
  · obtain ⟨t, _, h2⟩ := h
    split at h2
    · exact h2.eff
    · cases h2.2
theorem putT_comm (T : Nat → SV) {d d' : Option Nat} (x y : SV) (h : ∀ i, d = some i → d' ≠ some i) : putT (putT T d x) d' y = putT (putT T d' y) d x := by
  cases d with
  | none => rfl
  | some d =>
    cases d' with
    | none => rfl
    | some d' =>
      funext i
      have hne : d ≠ d' := fun e => h d rfl (by rw [e])
      simp only [putT]
      by_cases h1 : i = d
      · have : i ≠ d' := fun e => hne (h1.symm.trans e)
        simp [h1, hne]
      · by_cases h2 : i = d' <;> simp [h1, h2, Ne.symm hne]
theorem setH_comm (H : Nat → Option Blk) {e e' : Option (Nat × Blk)} (h : ∀ i B j C, e = some (i, B) → e' = some (j, C) → i ≠ j) : setH (setH H e) e' = setH (setH H e') e := by
  cases e with
  | none => rfl
  | some p =>
    cases e' with
    | none => rfl
    | some q =>
      obtain ⟨i, B⟩ := p
      obtain ⟨j, C⟩ := q
      have hne := h i B j C rfl rfl
      funext k
      simp only [setH]
      by_cases h1 : k = i
      · have : k ≠ j := fun e => hne (h1.symm.trans e)
        simp [h1, hne]
      · by_cases h2 : k = j <;> simp [h1, h2, Ne.symm hne]
theorem setH_at {H : Nat → Option Blk} {e : Option (Nat × Blk)} {id : Nat} (h : ∀ i B, e = some (i, B) → i ≠ id) : setH H e id = H id := by
  cases e with
  | none => rfl
  | some p =>
    obtain ⟨i, B⟩ := p
    have := h i B rfl
    simp [setH, Ne.symm this]
theorem swap {x y : SRop} {S S1 S2 : SS} (hx : Step P b x S S1) (hy : Step P b y S1 S2) (ha : apartS x y = true) (hc : comp2 b x y (fp (ev S.1) x.op) (fp (ev S.1) y.op) = true) :
    fp (ev S1.1) y.op = fp (ev S.1) y.op ∧ ∃ S1', Step P b y S S1' ∧ Step P b x S1' S2 ∧ fp (ev S1'.1) x.op = fp (ev S.1) x.op := by
  obtain ⟨T, H⟩ := S
  obtain ⟨vx, ex, ox, rfl⟩ := hx
  obtain ⟨vy, ey, oy, rfl⟩ := hy
  simp only [] at *
  -- the temporaries
  have hdx : ∀ i, x.dst = some i → i ∉ y.looks ∧ y.dst ≠ some i := fun i hi => by
    simp [apartS, hi] at ha; exact ha.1
  have hdy : ∀ i, y.dst = some i → i ∉ x.looks := fun i hi => by
    simp [apartS, hi] at ha; exact ha.2
  have evy : ∀ z ∈ y.op.opds, ev (putT T x.dst vx) z = ev T z := fun z hz => ev_put fun i hi hz' => (hdx i hi).1 (by
    unfold SRop.looks; exact List.mem_append_left _ (List.mem_filterMap.2 ⟨z, hz, hz'⟩))
  have evx : ∀ z ∈ x.op.opds, ev (putT T y.dst vy) z = ev T z := fun z hz => ev_put fun i hi hz' => hdy i hi (by
    unfold SRop.looks; exact List.mem_append_left _ (List.mem_filterMap.2 ⟨z, hz, hz'⟩))
  have gy : ∀ g q, y.guard = some (g, q) → putT T x.dst vx g = T g := fun g q hg => by
    cases hd : x.dst with
    | none => rfl
    | some d =>
      have : g ≠ d := fun e => (hdx d hd).1 (by unfold SRop.looks; rw [hg, ← e]; simp)
      simp [putT, this]
  have gx : ∀ g q, x.guard = some (g, q) → putT T y.dst vy g = T g := fun g q hg => by
    cases hd : y.dst with
    | none => rfl
    | some d =>
      have : g ≠ d := fun e => hdy d hd (by unfold SRop.looks; rw [hg, ← e]; simp)
      simp [putT, this]
  have fy := fp_congr evy
  have fx := fp_congr evx
  -- the blocks
  unfold comp2 at hc
  simp only [Bool.and_eq_true, Bool.or_eq_true, Bool.not_eq_true', List.all_eq_true] at hc
  obtain ⟨⟨⟨c1, c2⟩, c3⟩, c4⟩ := hc
  have exI : ∀ i B, ex = some (i, B) → (al x.op = true ∧ i = b + x.site) ∨ (wr x.op = true ∧ i ∈ fp (ev T) x.op) := fun i B he => by subst he; exact ox.eff
  have oy' : OutS P b y T (setH H ex) vy ey := oy.congr evy gy (fun _ _ => rfl) (fun _ => rfl)
  have eyI : ∀ i B, ey = some (i, B) → (al y.op = true ∧ i = b + y.site) ∨ (wr y.op = true ∧ i ∈ fp (ev T) y.op) := fun i B he => by subst he; exact oy'.eff
  have disj : (wr x.op = true ∨ wr y.op = true) → ∀ i ∈ fp (ev T) x.op, i ∉ fp (ev T) y.op := fun hw i hi hj => by
    rcases c1 with c1 | c1
    · rcases hw with hw | hw <;> simp [hw] at c1
    · have := c1 i hi
      simp at this; exact this hj
  have sxG : al x.op = true → b + x.site ∉ fp (ev T) y.op := fun h hm => by
    rcases c2 with c2 | c2
    · rw [h] at c2; cases c2
    · simp at c2; exact c2 hm
  have syF : al y.op = true → b + y.site ∉ fp (ev T) x.op := fun h hm => by
    rcases c3 with c3 | c3
    · rw [h] at c3; cases c3
    · simp at c3; exact c3 hm
  have sne : al x.op = true → al y.op = true → b + x.site ≠ b + y.site := fun h1 h2 => by
    rcases c4 with c4 | c4
    · simp [h1, h2] at c4
    · simpa using c4
  refine ⟨fy, (putT T y.dst vy, setH H ey), ⟨vy, ey, ?_, rfl⟩, ⟨vx, ex, ?_, ?_⟩, fx⟩
  · refine oy'.congr (fun _ _ => rfl) (fun _ _ _ => rfl) (fun id hid => setH_at fun i B he e => ?_) (fun hal => setH_at fun i B he e => ?_)
    · subst e
      rcases exI i B he with ⟨h1, h2⟩ | ⟨h1, h2⟩
      · exact sxG h1 (h2 ▸ hid)
      · exact disj (.inl h1) i h2 hid
    · subst e
      rcases exI _ B he with ⟨h1, h2⟩ | ⟨h1, h2⟩
      · exact sne h1 hal h2.symm
      · exact syF hal h2
  · refine ox.congr (fun z hz => (evx z hz).symm) (fun g q hg => (gx g q hg).symm) (fun id hid => (setH_at fun i B he e => ?_).symm) (fun hal => (setH_at fun i B he e => ?_).symm)
    · subst e
      rcases eyI i B he with ⟨h1, h2⟩ | ⟨h1, h2⟩
      · exact syF h1 (h2 ▸ hid)
      · exact disj (.inr h1) i hid h2
    · subst e
      rcases eyI _ B he with ⟨h1, h2⟩ | ⟨h1, h2⟩
      · exact sne hal h1 h2
      · exact sxG hal h2
  · simp only [Prod.mk.injEq]
    refine ⟨putT_comm T vx vy (fun i hi => (hdx i hi).2), setH_comm H fun i B j C h1 h2 e => ?_⟩
    subst e
    rcases exI i B h1 with ⟨a1, a2⟩ | ⟨a1, a2⟩
    · rcases eyI i C h2 with ⟨b1, b2⟩ | ⟨b1, b2⟩
      · exact sne a1 b1 (a2.symm.trans b2)
      · exact sxG a1 (a2 ▸ b2)
    · rcases eyI i C h2 with ⟨b1, b2⟩ | ⟨b1, b2⟩
      · exact syF b1 (b2 ▸ a2)
      · exact disj (.inl a1) i a2 b2
inductive Runs (P : Program) (b : Nat) : List (SRop × List Nat) → SS → SS → Prop
  | nil (S : SS) : Runs P b [] S S
  | cons (o : SRop) (L : List (SRop × List Nat)) (S S1 S2 : SS) : Step P b o S S1 → Runs P b L S1 S2 → Runs P b ((o, fp (ev S.1) o.op) :: L) S S2
theorem Runs.front : ∀ (L1 : List (SRop × List Nat)) {y : SRop} {G : List Nat} {L2 : List (SRop × List Nat)} {S S2 : SS}, Runs P b (L1 ++ (y, G) :: L2) S S2 → (∀ p ∈ L1, apartS p.1 y = true ∧ comp2 b p.1 y p.2 G = true) →
    Runs P b ((y, G) :: (L1 ++ L2)) S S2
  | [], _, _, _, _, _, h, _ => h
  | (x, F) :: L1, y, G, L2, S, S2, h, hp => by
    cases h with
    | cons _ _ _ S1 _ hx h =>
      have ih := Runs.front L1 h (fun p hp' => hp p (by simp [hp']))
      generalize hg : G = G' at ih
      cases ih with
      | cons _ _ _ Sm _ hy h' =>
        obtain ⟨h1, h2⟩ := hp (x, fp (ev S.1) x.op) (by simp)
        have hG : fp (ev S1.1) y.op = fp (ev S.1) y.op := by
          obtain ⟨vx, ex, ox, rfl⟩ := hx
          refine fp_congr fun z hz => ev_put fun i hi hz' => ?_
          simp [apartS, hi] at h1
          exact h1.1.1 (by unfold SRop.looks; exact List.mem_append_left _ (List.mem_filterMap.2 ⟨z, hz, hz'⟩))
        rw [hg, hG] at h2
        obtain ⟨_, S1', s1, s2, s3⟩ := swap hx hy h1 h2
        rw [hG]
        refine .cons y _ S S1' S2 s1 ?_
        rw [← s3]
        exact .cons x _ S1' Sm S2 s2 h'
end
end Go.Proofs.YtboifcengmgcaaaGreat
/- Regions of the shadow, III: a run of the shadow is a walk of the region. -/
namespace Go.Proofs.YtboifcengmgcaaaGreat
open Go.RowKit
section
variable {P : Program} {w0 w : World} {N0 NA : Nat → Prop} {n : Nat} {T : Nat → SV} {H : Nat → Option Blk} {a : Act}
def markM (M : List FuncId) : SOp → SOp
  | .call f xs => if M.contains f then .callM f xs else if M.contains (f + 1000000) then .callG f xs else .call f xs
  | o => o
def CompR (P : Program) (M : List FuncId) (n : Nat) (ops : Array Oper) (o : Oper) (so : SRop) : Prop :=
  (∃ s0, compOp P o = some s0 ∧ markM M s0 = so.op.erase) ∧ so.dst = o.dst ∧ (∀ d, o.dst = some d → d < n) ∧
    match o.guard with
    | none => so.guard = none
    | some (j, q) => ∃ oj g, ops[j]? = some oj ∧ oj.dst = some g ∧ so.guard = some (g, q)
theorem sub_rep {ρ : Nat → Option Nat} {x : CV} {v : Value} (r : RepC w (Mut NA ρ H) x v) : RepC w (fun b => NA b ∧ ¬ Own ρ H b) x v :=
  r.move ⟨Nat.le_refl _, fun b _ hn => ⟨rfl, fun hm => hn (.inl hm.1)⟩⟩
theorem closeP_rep {ρ : Nat → Option Nat} (h : RepH w0 N0 NA ρ H w) {x : SV} {y : CV} {v : Value} (hx : RepS w NA ρ H x v) (hc : closeP H x = some y) : RepC w (fun b => NA b ∧ ¬ Own ρ H b) y v ∧ (x.isC = true → RepC w (Mut NA ρ H) y v) := by
  cases hx with
  | c y' _ r => simp [closeP] at hc; subst hc; exact ⟨sub_rep r, fun _ => r⟩
  | own id len t k rows _ hH hl ho hv =>
    simp only [closeP, hH] at hc
    split at hc
    case isFalse => cases hc
    case isTrue hle =>
    cases hc
    refine ⟨?_, fun h => by cases h⟩
    rcases hv hle with ⟨q0, q1, rfl⟩ | ⟨b, cap, cs, t2, q1, rfl, q3, q4, q5, q6⟩
    · have : rows = [] := List.length_eq_zero_iff.1 (by omega)
      subst this; exact .nil k none 0 (Nat.zero_le _)
    · rcases h.blk id _ hH with ⟨e1, _⟩ | ⟨b', cs', cap', e1, e2, e3, e4, e5, e6, e7⟩
      · rw [q1] at e1; cases e1
      · rw [q1] at e1; cases e1
        rw [q3] at e2; cases e2
        rw [hle]
        have hown : Own ρ H b := ⟨id, by rw [hH]; simp, q1⟩
        refine .sl k rows b 0 cap (fun j i => cs.getD (j * k + i) undef) (by omega) q6 (h.lt hown) (fun hn => hn.2 hown) e6 (fun j row i x hj hx => ?_) (fun j row i x hj hx => ?_)
        · obtain ⟨v, hv1, _⟩ := e7 j row i x hj hx
          rw [Nat.zero_add, cell_of_row w b (j * k + i) cs _ (0, 0) q3]
          simp [hv1]
        · obtain ⟨v, hv1, hv2⟩ := e7 j row i x hj hx
          have : cs.getD (j * k + i) undef = v := by simp [hv1]
          rw [this]; exact sub_rep hv2
  | ptrB id j t cells b hH hb =>
    simp only [closeP, hH] at hc
    split at hc
    case h_2 => cases hc
    case h_1 xs hxs =>
    split at hc
    case isFalse => cases hc
    case isTrue hone =>
    cases hc
    refine ⟨?_, fun h => by cases h⟩
    obtain ⟨b', cs, e1, e2, e3, e4⟩ := h.blk id _ hH
    rw [hb] at e1; cases e1
    have hown : Own ρ H b := ⟨id, by rw [hH]; simp, hb⟩
    have hr : RepL w NA ρ H (cells.drop j) (cs.toList.drop j) := by
      refine ⟨by simp [e3], fun i x v hx hv => ?_⟩
      rw [List.getElem?_drop] at hx hv
      exact e4 (j + i) x v hx (by simpa using hv)
    obtain ⟨c1, c2⟩ := hr.closed hxs
    have hat : ∀ (i : Nat) x, xs[i]? = some x → ∃ v, cs[j + i]? = some v ∧ RepC w (Mut NA ρ H) x v := fun i x hx => by
      have hi : i < (cs.toList.drop j).length := by rw [c1]; exact (List.getElem?_eq_some_iff.1 hx).1
      have h1 := List.getElem?_eq_getElem hi
      refine ⟨_, ?_, c2 i x _ hx h1⟩
      rw [List.getElem?_drop] at h1
      rw [Array.getElem?_toList] at h1; exact h1
    refine .ref xs b j (fun i => cs.getD (j + i) undef) (h.lt hown) (fun hn => hn.2 hown) hone (fun i x hx => ?_) (fun i x hx => ?_)
    · obtain ⟨v, hv1, _⟩ := hat i x hx
      rw [cell_of_row w b (j + i) cs _ (0, 0) e2]
      simp [hv1]
    · obtain ⟨v, hv1, hv2⟩ := hat i x hx
      have : cs.getD (j + i) undef = v := by simp [hv1]
      simp only [this]; exact sub_rep hv2
  | om id ag kd es b hH hb =>
    simp only [closeP, hH] at hc
    cases hc
    refine ⟨?_, fun h => by cases h⟩
    obtain ⟨b', ents, clock, e1, e2, e3, e4⟩ := h.blk id _ hH
    rw [hb] at e1; cases e1
    have hown : Own ρ H b := ⟨id, by rw [hH]; simp, hb⟩
    exact .map ag kd es b ents clock (h.lt hown) (fun hn => hn.2 hown) e2 e3 (fun i p e hp he => sub_rep (e4 i p e hp he))
  | _ => simp [closeP] at hc
theorem closePL_rep {ρ : Nat → Option Nat} (h : RepH w0 N0 NA ρ H w) : ∀ {xs : List SV} {cs : List CV} {vs : List Value}, RepL w NA ρ H xs vs → closePL H xs = some cs → vs.length = cs.length ∧ ∀ (i : Nat) x v, cs[i]? = some x → vs[i]? = some v → RepC w (fun b => NA b ∧ ¬ Own ρ H b) x v := by
  intro xs
  induction xs with
  | nil => intro cs vs hr hc; simp [closePL] at hc; subst hc; exact ⟨by have := hr.1; simpa using this, fun i x v h => by simp at h⟩
  | cons x xs ih =>
    intro cs vs hr hc
    simp only [closePL] at hc
    split at hc
    case h_2 => cases hc
    case h_1 y ys hy hys =>
    cases hc
    match vs, hr with
    | [], hr => exact absurd hr.1 (by simp)
    | v :: vs, hr =>
      obtain ⟨h1, h2⟩ := ih (vs := vs) ⟨by have := hr.1; simpa using this, fun i x v hx hv => hr.2 (i + 1) x v (by simpa using hx) (by simpa using hv)⟩ hys
      obtain ⟨g1, _⟩ := closeP_rep h (hr.2 0 _ _ rfl rfl) hy
      refine ⟨by simp [h1], fun i z u hz hu => ?_⟩
      cases i with
      | zero => simp at hz hu; subst hz; subst hu; exact g1
      | succ i => exact h2 i z u (by simpa using hz) (by simpa using hu)
theorem close1_rep {ρ : Nat → Option Nat} (h : RepH w0 N0 NA ρ H w) {x : SV} {y : CV} {v : Value} (hx : RepS w NA ρ H x v) (hc : close1 H x = some y) : RepC w (fun b => NA b ∧ ¬ Own ρ H b) y v ∧ (x.isC = true → RepC w (Mut NA ρ H) y v) := by
  cases hx with
  | fn f fs cs vf vc h1 h2 h3 h4 =>
    simp only [close1] at hc
    split at hc
    case h_2 => cases hc
    case h_1 ys zs hy hz =>
    cases hc
    obtain ⟨a1, a2⟩ := closePL_rep h (xs := fs) (vs := vf.toList) ⟨by simpa using h1, fun i x v hx hv => h3 i x v hx (by simpa using hv)⟩ hy
    obtain ⟨b1, b2⟩ := closePL_rep h (xs := cs) (vs := vc.toList) ⟨by simpa using h2, fun i x v hx hv => h4 i x v hx (by simpa using hv)⟩ hz
    exact ⟨.fn f ys zs vf vc (by simpa using a1) (by simpa using b1) (fun i x v hx hv => a2 i x v hx (by simpa using hv)) (fun i x v hx hv => b2 i x v hx (by simpa using hv)), fun h => by cases h⟩
  | c y' _ r => exact closeP_rep h (.c y' v r) hc
  | own id len t k rows _ a1 a2 a3 a4 => exact closeP_rep h (.own id len t k rows v a1 a2 a3 a4) hc
  | ptrB id j t cells b a1 a2 => exact closeP_rep h (.ptrB id j t cells b a1 a2) hc
  | om id ag kd es b a1 a2 => exact closeP_rep h (.om id ag kd es b a1 a2) hc
  | _ => simp [close1, closeP] at hc
theorem closeAll_rep {ρ : Nat → Option Nat} (h : RepH w0 N0 NA ρ H w) : ∀ {xs : List SV} {cs : List CV} {vs : List Value}, RepL w NA ρ H xs vs → closeAll H xs = some cs →
    vs.length = cs.length ∧ (∀ (i : Nat) x v, cs[i]? = some x → vs[i]? = some v → RepC w (fun b => NA b ∧ ¬ Own ρ H b) x v) ∧ (xs.all SV.pure = true → ∀ (i : Nat) x v, cs[i]? = some x → vs[i]? = some v → RepC w (Mut NA ρ H) x v) := by
  have L : ∀ {xs : List SV} {cs : List CV} {vs : List Value}, RepL w NA ρ H xs vs → closeL H xs = some cs → vs.length = cs.length ∧ (∀ (i : Nat) x v, cs[i]? = some x → vs[i]? = some v → RepC w (fun b => NA b ∧ ¬ Own ρ H b) x v) ∧
      (xs.all SV.isC = true → ∀ (i : Nat) x v, cs[i]? = some x → vs[i]? = some v → RepC w (Mut NA ρ H) x v) := by
    intro xs
    induction xs with
    | nil => intro cs vs hr hc; simp [closeL] at hc; subst hc; exact ⟨by have := hr.1; simpa using this, fun i x v h => by simp at h, fun _ i x v h => by simp at h⟩
    | cons x xs ih =>
      intro cs vs hr hc
      simp only [closeL] at hc
      split at hc
      case h_2 => cases hc
      case h_1 y ys hy hys =>
      cases hc
      match vs, hr with
      | [], hr => exact absurd hr.1 (by simp)
      | v :: vs, hr =>
        obtain ⟨h1, h2, h3⟩ := ih (vs := vs) ⟨by have := hr.1; simpa using this, fun i x v hx hv => hr.2 (i + 1) x v (by simpa using hx) (by simpa using hv)⟩ hys
        obtain ⟨g1, g2⟩ := close1_rep h (hr.2 0 _ _ rfl rfl) hy
        refine ⟨by simp [h1], fun i z u hz hu => ?_, fun ha i z u hz hu => ?_⟩
        · cases i with
          | zero => simp at hz hu; subst hz; subst hu; exact g1
          | succ i => exact h2 i z u (by simpa using hz) (by simpa using hu)
        · simp only [List.all_cons, Bool.and_eq_true] at ha
          cases i with
          | zero => simp at hz hu; subst hz; subst hu; exact g2 ha.1
          | succ i => exact h3 ha.2 i z u (by simpa using hz) (by simpa using hu)
  have full : ∀ {x : SV} {y : CV} {v : Value}, RepS w NA ρ H x v → close H x = some y → RepC w (fun b => NA b ∧ ¬ Own ρ H b) y v ∧ (x.pure = true → RepC w (Mut NA ρ H) y v) := by
    intro x y v hx hc
    cases hx with
    | agg xs vs hs hv =>
      simp only [close, Option.map_eq_some_iff] at hc
      obtain ⟨ys, hys, rfl⟩ := hc
      obtain ⟨h1, h2, h3⟩ := L (xs := xs) (vs := vs.toList) ⟨by simpa using hs, fun i x v hx hv' => hv i x v hx (by simpa using hv')⟩ hys
      exact ⟨.agg ys vs (by simpa using h1) (fun i x v hx hv => h2 i x v hx (by simpa using hv)), fun hp => .agg ys vs (by simpa using h1) (fun i x v hx hv => h3 hp i x v hx (by simpa using hv))⟩
    | c y' _ r => exact close1_rep h (.c y' v r) hc
    | own id len t k rows _ a1 a2 a3 a4 => exact close1_rep h (.own id len t k rows v a1 a2 a3 a4) hc
    | ptrB id j t cells b a1 a2 => exact close1_rep h (.ptrB id j t cells b a1 a2) hc
    | om id ag kd es b a1 a2 => exact close1_rep h (.om id ag kd es b a1 a2) hc
    | fn f fs cs vf vc a1 a2 a3 a4 => exact close1_rep h (.fn f fs cs vf vc a1 a2 a3 a4) hc
    | tup xs vs hs hv => simp [close, close1, closeP] at hc
    | ptrA => simp [close, close1, closeP] at hc
    | pel => simp [close, close1, closeP] at hc
    | yl => simp [close, close1, closeP] at hc
    | it => simp [close, close1, closeP] at hc
    | dead => simp [close, close1, closeP] at hc
  intro xs
  induction xs with
  | nil => intro cs vs hr hc; simp [closeAll] at hc; subst hc; exact ⟨by have := hr.1; simpa using this, fun i x v h => by simp at h, fun _ i x v h => by simp at h⟩
  | cons x xs ih =>
    intro cs vs hr hc
    simp only [closeAll] at hc
    split at hc
    case h_2 => cases hc
    case h_1 y ys hy hys =>
    cases hc
    match vs, hr with
    | [], hr => exact absurd hr.1 (by simp)
    | v :: vs, hr =>
      obtain ⟨h1, h2, h3⟩ := ih (vs := vs) ⟨by have := hr.1; simpa using this, fun i x v hx hv => hr.2 (i + 1) x v (by simpa using hx) (by simpa using hv)⟩ hys
      obtain ⟨g1, g2⟩ := full (hr.2 0 _ _ rfl rfl) hy
      refine ⟨by simp [h1], fun i z u hz hu => ?_, fun ha i z u hz hu => ?_⟩
      · cases i with
        | zero => simp at hz hu; subst hz; subst hu; exact g1
        | succ i => exact h2 i z u (by simpa using hz) (by simpa using hu)
      · simp only [List.all_cons, Bool.and_eq_true] at ha
        cases i with
        | zero => simp at hz hu; subst hz; subst hu; exact g2 ha.1
        | succ i => exact h3 ha.2 i z u (by simpa using hz) (by simpa using hu)
theorem openC_rep {ρ : Nat → Option Nat} {r : CV} {v : Value} (h : RepC w (Mut NA ρ H) r v) : RepS w NA ρ H (openC r) v := by
  cases h with
  | tup xs vs hs hv =>
    refine .tup (xs.map .c) vs (by simpa using hs) (fun i x v hx hv' => ?_)
    rw [List.getElem?_map] at hx
    cases hy : xs[i]? with
    | none => rw [hy] at hx; simp at hx
    | some y => rw [hy] at hx; simp at hx; subst hx; exact .c y v (hv i y v hy hv')
  | val v => exact .c _ _ (.val v)
  | agg xs vs hs hv => exact .c _ _ (.agg xs vs hs hv)
  | nil k ad c h => exact .c _ _ (.nil k ad c h)
  | sl k rows b off c u h1 h2 h3 h4 h5 h6 h7 => exact .c _ _ (.sl k rows b off c u h1 h2 h3 h4 h5 h6 h7)
  | slx k rows ad h => exact .c _ _ (.slx k rows ad h)
  | fn f fs cs vf vc h1 h2 h3 h4 => exact .c _ _ (.fn f fs cs vf vc h1 h2 h3 h4)
  | ref xs b off u h1 h2 h3 h4 h5 => exact .c _ _ (.ref xs b off u h1 h2 h3 h4 h5)
  | nilm ag kd => exact .c _ _ (.nilm ag kd)
  | map ag kd es b ents clock h1 h2 h3 h4 h5 => exact .c _ _ (.map ag kd es b ents clock h1 h2 h3 h4 h5)
  | ifc t x v h => exact .c _ _ (.ifc t x v h)
theorem comp_call {o : Oper} {f : FuncId} {xs : List Operand} (h : compOp P o = some (.call f xs)) : ∃ ts, o.op = .call { callee := .value (.func f), args := ⟨xs⟩, argTypes := ts } ∧ ∃ fn, P.funcs[f]? = some fn ∧ fn.body.isNone = false ∧ (fn.name == "runtime.NumGoroutine") = false := by
  unfold compOp at h
  split at h
  all_goals first
    | (exfalso; (repeat' (split at h)) <;> simp at h; done)
    | skip
  rename_i f' xs' ts ho
  split at h
  case h_2 => cases h
  case h_1 fn hfn =>
  split at h
  case isFalse => cases h
  case isTrue hc =>
  simp at h
  obtain ⟨rfl, rfl⟩ := h
  refine ⟨ts, ho, fn, hfn, ?_, by simpa using hc.2⟩
  cases hb : fn.body with
  | none => rw [hb] at hc; simp at hc
  | some b => rfl
theorem ext_rep {ρ : Nat → Option Nat} {w' : World} (h : RepH w0 N0 NA ρ H w) (e : Ext w w') : RepH w0 N0 NA ρ H w' ∧ Trans NA w ρ H w' ρ H := by
  have calm : Calm w (Mut NA ρ H) w' (Mut NA ρ H) := ⟨e.size, fun b hb hn => ⟨e.block' hb, hn⟩⟩
  have keep : ∀ i, KeepI w ρ H w' ρ H i := fun i => ⟨fun B hi _ => ⟨B, hi, rfl, rfl⟩, fun t k rows hi => ⟨rows, hi, Nat.le_refl _, fun _ => ⟨rfl, fun b cs t' hb hc => ⟨cs, by rw [e.block' (h.lt ⟨i, by rw [hi]; simp, hb⟩)]; exact hc, rfl⟩⟩⟩⟩
  refine ⟨⟨h.inj, fun i B hi => (h.blk i B hi).move calm keep rfl (fun b hb => e.block' (h.lt ⟨i, by rw [hi]; simp, hb⟩)), ⟨e.os.trans h.fr.os, e.tape.trans h.fr.tape, e.output.trans h.fr.output, Nat.le_trans h.fr.size e.size, fun b hb hn => ?_⟩, h.low⟩, calm, keep⟩
  rw [← h.fr.block b hb hn]
  exact e.block' (Nat.lt_of_lt_of_le hb h.fr.size)
def WF (r : Option Nat) : Fence := { Fence.wide with round := r }
theorem callsIn_WF {r : Option Nat} {m : Nat} {f : FuncId} {args : Array Value} {R : Ending → World → Prop} (h : Calls P f args w R) : CallsIn (WF r) m P f args w R :=
  (callsIn_wide (n := m)).2 h
theorem WF_depth {r : Option Nat} {X : Prop} (h : (WF r).depth.isSome = true) : X := by simp [WF, Fence.wide] at h
theorem comp_nodefer {o : Oper} {so : SOp} (h : compOp P o = some so) : ∀ c, o.op ≠ .defer c := fun c e => by
  unfold compOp at h
  rw [e] at h
  cases h
theorem erase_boxZ {s0 : SOp} {M : List FuncId} {so : SOp} (h : markM M s0 = so.erase) (hg : so.gen = false) (hng : ∀ f xs, so ≠ .callG f xs) : s0 = so.erase := by
  cases s0 with
  | call f xs =>
    simp only [markM] at h
    split at h
    · exfalso
      cases so <;> simp [SOp.erase, SOp.gen] at h hg
    · split at h
      · exfalso
        cases so <;> simp [SOp.erase] at h
        exact hng _ _ rfl
      · exact h
  | _ => exact h
theorem comp_callG {P : Program} {o : Oper} {f : FuncId} {xs : List Operand} (h : compOp P o = some (.callG f xs)) : False := by
  unfold compOp at h
  split at h
  all_goals first
    | (simp only [Option.some.injEq, reduceCtorEq] at h; done)
    | ((repeat' (split at h)) <;> simp at h; done)
theorem mark_callG {M : List FuncId} {s0 : SOp} {f : FuncId} {xs : List Operand} (h : markM M s0 = .callG f xs) : s0 = .call f xs ∨ s0 = .callG f xs := by
  cases s0 with
  | call g ys =>
    simp only [markM] at h
    split at h
    · cases h
    · split at h
      · simp only [SOp.callG.injEq] at h
        obtain ⟨rfl, rfl⟩ := h
        exact .inl rfl
      · cases h
  | _ => exact .inr h
theorem mut_one {NA : Nat → Prop} {p : Option Nat} {t : TypeId} {k : Nat} {rows : List (List CV)} {b : Nat} : Mut NA (fun _ => p) (one1 t k rows) b ↔ NA b ∨ p = some b := by
  constructor
  · rintro (h | ⟨i, h1, h2⟩)
    · exact .inl h
    · exact .inr h2
  · rintro (h | h)
    · exact .inl h
    · exact .inr ⟨900, by simp [one1], h⟩
theorem mut_new {ρ : Nat → Option Nat} {id : Nat} {p : Option Nat} {B : Blk} {t : TypeId} {k : Nat} {rows : List (List CV)} {b : Nat} (h : Mut NA (setR ρ id p) (setH H (some (id, B))) b) : Mut (Mut NA ρ H) (fun _ => p) (one1 t k rows) b := by
  rcases h with h | ⟨i, h1, h2⟩
  · exact .inl (.inl h)
  · by_cases hi : i = id
    · subst hi; simp [setR] at h2; exact mut_one.2 (.inr h2)
    · simp [setH, hi] at h1; simp [setR, hi] at h2; exact .inl (.inr ⟨i, h1, h2⟩)
theorem hole_mv {w : World} {NA NA' : Nat → Prop} {ρ ρ' : Nat → Option Nat} {H H' : Nat → Option Blk} {id id' n : Nat} {t : TypeId} {k : Nat} {rows : List (List CV)} {sh : FSh} {v : Value} (h1 : H id = some (.arr t k rows)) (h2 : H' id' = some (.arr t k rows)) (h3 : ρ' id' = ρ id)
    (h4 : ∀ b, Mut NA' ρ' H' b → Mut NA ρ H b) (h : RepS w NA ρ H (holeS sh id n) v) : RepS w NA' ρ' H' (holeS sh id' n) v := by
  have calm : Calm w (Mut NA ρ H) w (Mut NA' ρ' H') := ⟨Nat.le_refl _, fun b _ hn => ⟨rfl, fun hm => hn (h4 b hm)⟩⟩
  have own : ∀ v, RepS w NA ρ H (.own id n) v → RepS w NA' ρ' H' (.own id' n) v := fun v hv => by
    cases hv with
    | own _ _ t2 k2 rows2 _ a1 a2 a3 a4 =>
      rw [h1] at a1; cases a1
      exact .own id' n t k rows v h2 a2 a3 (by rw [h3]; exact a4)
  cases sh with
  | none => exact own v h
  | some l =>
    simp only [holeS] at h ⊢
    cases h with
    | agg _ vs hs hv =>
      refine .agg _ vs (by simpa using hs) (fun i x u hx hu => ?_)
      rw [List.getElem?_map, Option.map_eq_some_iff] at hx
      obtain ⟨y, hy, rfl⟩ := hx
      have := hv i (holeX id n y) u (by rw [List.getElem?_map, hy]; rfl) hu
      cases y with
      | none => exact own u this
      | some c =>
        cases this with
        | c _ _ r => exact .c _ _ (r.move calm)
theorem new_ext {ρ : Nat → Option Nat} {w' : World} (h : RepH w0 N0 NA ρ H w) {id : Nat} (hid : H id = none) (B : Blk) (he : Ext w w') {p : Option Nat} (hp : ∀ b, p = some b → w.heap.size ≤ b) (hB : RepB w' NA (setR ρ id p) (setH H (some (id, B))) id B) :
    RepH w0 N0 NA (setR ρ id p) (setH H (some (id, B))) w' ∧ Trans NA w ρ H w' (setR ρ id p) (setH H (some (id, B))) := by
  have hρ : ∀ i, i ≠ id → setR ρ id p i = ρ i := fun i hi => by simp [setR, hi]
  have hH : ∀ i, i ≠ id → setH H (some (id, B)) i = H i := fun i hi => by simp [setH, hi]
  have hold : ∀ b, b < w.heap.size → w'.heap[b]? = w.heap[b]? := fun b hb => he.block' hb
  have ownlt : ∀ b, Own ρ H b → b < w.heap.size := fun b hb => h.lt hb
  have calm : Calm w (Mut NA ρ H) w' (Mut NA (setR ρ id p) (setH H (some (id, B)))) := by
    refine ⟨he.size, fun b hb hn => ⟨hold b hb, fun hm => ?_⟩⟩
    rcases hm with hm | ⟨i, h1, h2⟩
    · exact hn (.inl hm)
    · by_cases hi : i = id
      · subst hi; simp [setR] at h2; have := hp b h2; omega
      · rw [hρ i hi] at h2; rw [hH i hi] at h1; exact hn (.inr ⟨i, h1, h2⟩)
  have keep : ∀ i, KeepI w ρ H w' (setR ρ id p) (setH H (some (id, B))) i := by
    intro i
    refine ⟨fun B' hi _ => ?_, fun t k rows hi => ?_⟩
    · have : i ≠ id := fun e => by rw [e, hid] at hi; cases hi
      exact ⟨B', by rw [hH i this]; exact hi, rfl, hρ i this⟩
    · have : i ≠ id := fun e => by rw [e, hid] at hi; cases hi
      refine ⟨rows, by rw [hH i this]; exact hi, Nat.le_refl _, fun _ => ⟨hρ i this, fun b cs t' hb hc => ⟨cs, ?_, rfl⟩⟩⟩
      rw [hold b (ownlt b ⟨i, by rw [hi]; simp, hb⟩)]; exact hc
  refine ⟨⟨?_, ?_, ⟨he.os.trans h.fr.os, he.tape.trans h.fr.tape, he.output.trans h.fr.output, Nat.le_trans h.fr.size he.size, fun b hb hn => ?_⟩, ?_⟩, calm, keep⟩
  · intro i j b h1 h2 h3 h4
    by_cases hi : i = id
    · by_cases hj : j = id
      · rw [hi, hj]
      · subst hi
        rw [hρ j hj] at h4; rw [hH j hj] at h2
        simp [setR] at h3
        have := ownlt b ⟨j, h2, h4⟩
        have := hp b h3
        omega
    · by_cases hj : j = id
      · subst hj
        rw [hρ i hi] at h3; rw [hH i hi] at h1
        simp [setR] at h4
        have := ownlt b ⟨i, h1, h3⟩
        have := hp b h4
        omega
      · rw [hρ i hi] at h3; rw [hρ j hj] at h4; rw [hH i hi] at h1; rw [hH j hj] at h2
        exact h.inj i j b h1 h2 h3 h4
  · intro i B' hi
    by_cases hii : i = id
    · subst hii; simp [setH] at hi; subst hi; exact hB
    · rw [hH i hii] at hi
      exact (h.blk i B' hi).move calm keep (hρ i hii) (fun b hb => hold b (ownlt b ⟨i, by rw [hi]; simp, hb⟩))
  · rw [← h.fr.block b hb hn]
    exact hold b (Nat.lt_of_lt_of_le hb h.fr.size)
  · rintro b ⟨i, h1, h2⟩ hb
    by_cases hi : i = id
    · subst hi; simp [setR] at h2; have := h.fr.size; have := hp b h2; omega
    · rw [hρ i hi] at h2; rw [hH i hi] at h1; exact h.low b ⟨i, h1, h2⟩ hb
theorem act_all {ρ : Nat → Option Nat} {M : List FuncId} {o : Oper} {s0 so : SOp} (hna : ∀ b, NA b → b < w0.heap.size) (h : RepH w0 N0 NA ρ H w) (ht : ∀ i, RepS w NA ρ H (T i) (a.tmps.getD i undef)) (hc : compOp P o = some s0) (hm : markM M s0 = so.erase) {site : Nat} {y : SV} {ef : Option (Nat × Blk)}
    (hact : actF site (ev T) H so = some (y, ef)) : Good P w0 N0 NA ρ H o a w (setH H ef) y := by
  have hg : so.gen = false := by cases so <;> first | rfl | (simp [actF] at hact)
  have e := erase_boxZ hm hg (fun f xs e => by subst e; simp [actF] at hact)
  subst e
  cases so with
  | boxZ t x =>
    have ho : o.op = .box t x := by
      simp only [SOp.erase] at hc
      unfold compOp at hc
      split at hc
      all_goals first
        | (simp only [Option.some.injEq, SOp.box.injEq] at hc; obtain ⟨rfl, rfl⟩ := hc; assumption)
        | (exfalso; (repeat' (split at hc)) <;> simp at hc; done)
    exact good_boxZ h hna ht ho hact
  | _ => exact act_good h ht (by simpa [SOp.erase] using hc) hact
theorem comp_callI {P : Program} {o : Oper} {nm : String} {x0 : Operand} {xs : List Operand} (h : compOp P o = some (.callI nm x0 xs)) : ∃ ts, o.op = .call { callee := .invoke x0 nm, args := ⟨xs⟩, argTypes := ts } := by
  unfold compOp at h
  split at h
  all_goals first
    | (simp only [Option.some.injEq, SOp.callI.injEq] at h; obtain ⟨rfl, rfl, rfl⟩ := h; exact ⟨_, by assumption⟩)
    | (exfalso; (repeat' (split at h)) <;> simp at h; done)
theorem run_method {P : Program} {w : World} {t : TypeId} {i : TypeInfo} {u : TypeDesc} {m : Go.Method} {f : FuncId} {v : Value} {nm : String} (hi : P.info? t = some i) (hu : P.underlying t = some u) (hfm : i.methods.find? (·.name == nm) = some m) (hp : m.path.isEmpty = true) (hf : m.func = some (f, false)) (hn : ∀ e, u ≠ .pointer e) :
    (method (P.types.size + Made.depth) t v nm).run P w = .ok (f, v) w := by
  obtain ⟨k, hk⟩ : ∃ k, P.types.size + Made.depth = k + 1 := ⟨P.types.size + 99, by show P.types.size + 100 = P.types.size + 99 + 1; omega⟩
  rw [hk]
  have hpe : m.path.toList = [] := by simpa using hp
  have hrec : ∀ o, (receiverAt t (.val v) false o).run P w = .ok v w := fun o => by
    unfold receiverAt
    simp only [Sem.run_bind, run_underlying hu, Result.andThen_ok]
    cases u <;> first | (exact absurd rfl (hn _)) | (simp [Place.get])
  unfold method
  simp [run_typeInfo w hi, hfm, hpe, follow, hf, hrec]
theorem run_invoke {o : Oper} {nm : String} {x0 : Operand} {xs : List Operand} {ts : Array TypeId} {t : TypeId} {f : FuncId} {v : Value} (ho : o.op = .call { callee := .invoke x0 nm, args := ⟨xs⟩, argTypes := ts }) (hv : a.eval x0 = .iface t v) (hm : methF P t nm = some f) (hb : bodyB P f = true) :
    (execOp a.eval o).run P w = .ok (.enter f (#[v] ++ (xs.map a.eval).toArray)) w := by
  unfold bodyB at hb
  split at hb
  case h_2 => cases hb
  case h_1 fn hfn =>
  simp only [Bool.and_eq_true, Bool.not_eq_true'] at hb
  have hb' : ¬ fn.body = none := fun e => by rw [e] at hb; simp at hb
  have hnm' : ¬ fn.name = "runtime.NumGoroutine" := by simpa using hb.2
  unfold methF at hm
  split at hm
  case h_2 => cases hm
  case h_1 i u hi hu =>
  split at hm
  case h_2 => cases hm
  case h_1 m hfm =>
  have hmeth : (method (P.types.size + Made.depth) t v nm).run P w = .ok (f, v) w := by
    split at hm
    case h_1 => cases hm
    case h_3 => cases hm
    case h_2 f' hpe hfu hnp =>
    cases hm
    exact run_method hi hu hfm hpe hfu hnp
  simp [execOp, ho, resolve, invoke, callMethod, hv, hmeth, callFunc, hfn, hb', hnm']
  exact List.take_of_length_le (by simp)
theorem gone_rep {ρ : Nat → Option Nat} (h : RepH w0 N0 NA ρ H w) {id : Nat} {t : TypeId} {k : Nat} {rows : List (List CV)} (hid : H id = some (.arr t k rows)) :
    RepH w0 N0 NA (setR ρ id none) (setH H (some (id, .arr t k (rows ++ [[]])))) w ∧ Trans NA w ρ H w (setR ρ id none) (setH H (some (id, .arr t k (rows ++ [[]])))) := by
  have hρ : ∀ i, i ≠ id → setR ρ id none i = ρ i := fun i hi => by simp [setR, hi]
  have hH : ∀ i, i ≠ id → setH H (some (id, .arr t k (rows ++ [[]]))) i = H i := fun i hi => by simp [setH, hi]
  have own : ∀ b, Own (setR ρ id none) (setH H (some (id, .arr t k (rows ++ [[]])))) b → Own ρ H b := fun b ⟨i, h1, h2⟩ => by
    by_cases hi : i = id
    · subst hi; simp [setR] at h2
    · rw [hρ i hi] at h2; rw [hH i hi] at h1; exact ⟨i, h1, h2⟩
  have calm : Calm w (Mut NA ρ H) w (Mut NA (setR ρ id none) (setH H (some (id, .arr t k (rows ++ [[]]))))) := by
    refine ⟨Nat.le_refl _, fun b hb hn => ⟨rfl, fun hm => ?_⟩⟩
    rcases hm with hm | hm
    · exact hn (.inl hm)
    · exact hn (.inr (own b hm))
  have keep : ∀ i, KeepI w ρ H w (setR ρ id none) (setH H (some (id, .arr t k (rows ++ [[]])))) i := by
    intro i
    by_cases hi : i = id
    · subst hi
      refine ⟨fun B' he hk => by rw [hid] at he; cases he; exact absurd rfl hk, fun t' k' rows' he => ?_⟩
      rw [hid] at he; cases he
      exact ⟨rows ++ [[]], by simp [setH], by simp, fun e => by simp at e⟩
    · exact ⟨fun B' he _ => ⟨B', by rw [hH i hi]; exact he, rfl, hρ i hi⟩, fun t' k' rows' he => ⟨rows', by rw [hH i hi]; exact he, Nat.le_refl _, fun _ => ⟨hρ i hi, fun b cs t' hb hc => ⟨cs, hc, rfl⟩⟩⟩⟩
  refine ⟨⟨?_, ?_, h.fr, fun b hb => h.low b (own b hb)⟩, calm, keep⟩
  · intro i j b h1 h2 h3 h4
    by_cases hi : i = id
    · subst hi; simp [setR] at h3
    · by_cases hj : j = id
      · subst hj; simp [setR] at h4
      · rw [hρ i hi] at h3; rw [hρ j hj] at h4; rw [hH i hi] at h1; rw [hH j hj] at h2
        exact h.inj i j b h1 h2 h3 h4
  · intro i B hi
    by_cases hii : i = id
    · subst hii; simp [setH] at hi; subst hi; exact .inl ⟨by simp [setR], .inr (by simp)⟩
    · rw [hH i hii] at hi
      exact (h.blk i B hi).move calm keep (hρ i hii) (fun _ _ => rfl)
theorem gone_val {ρ : Nat → Option Nat} (hna : ∀ b, NA b → b < w0.heap.size) (h : RepH w0 N0 NA ρ H w) {id : Nat} {t : TypeId} {k : Nat} {rows : List (List CV)} (hid : H id = some (.arr t k rows)) {v : Value} (hv : RepS w NA ρ H (.own id rows.length) v) :
    RepC w (Mut NA (setR ρ id none) (setH H (some (id, .arr t k (rows ++ [[]]))))) (.sl k rows) v := by
  obtain ⟨_, calm, _⟩ := gone_rep h hid
  cases hv with
  | own _ _ t2 k2 rows2 _ a1 a2 a3 a4 =>
    rw [hid] at a1; cases a1
    rcases a4 rfl with ⟨_, q1, rfl⟩ | ⟨b, cap, cs, t2, q1, rfl, q3, q4, q5, q6⟩
    · rw [List.length_eq_zero_iff.1 q1]
      exact .nil k none 0 (by unfold maxLen; omega)
    · rcases h.blk id _ hid with ⟨e1, _⟩ | ⟨b', cs', cap', e1, e2, e3, e4, e5, e6, e7⟩
      · rw [e1] at q1; cases q1
      · rw [q1] at e1; cases e1
        rw [q3] at e2; cases e2
        have hown : Own ρ H b := ⟨id, by rw [hid]; simp, q1⟩
        refine .sl k rows b 0 cap (fun j i => cs.getD (j * k + i) undef) q5 q6 (h.lt hown) (fun hm => ?_) e6 (fun j row i x hj hx => ?_) (fun j row i x hj hx => ?_)
        · rcases hm with hm | ⟨i, h1, h2⟩
          · exact (h.low b hown (hna b hm)).2 hm
          · by_cases hi : i = id
            · subst hi; simp [setR] at h2
            · simp only [setH, setR, if_neg hi] at h1 h2
              exact hi (h.inj i id b h1 (by rw [hid]; simp) h2 q1)
        · obtain ⟨u, hu, _⟩ := e7 j row i x hj hx
          have hlt := (Array.getElem?_eq_some_iff.1 hu).1
          have e0 : cs.getD (j * k + i) undef = u := by rw [Array.getD_eq_getD_getElem?, hu]; rfl
          rw [e0, Nat.zero_add]
          unfold World.cell?
          simp [q3, hu]
        · obtain ⟨u, hu, hu2⟩ := e7 j row i x hj hx
          have e0 : cs.getD (j * k + i) undef = u := by rw [Array.getD_eq_getD_getElem?, hu]; rfl
          rw [e0]; exact hu2.move calm
theorem does_sound {ρ : Nat → Option Nat} {M : List FuncId} {bs m : Nat} {r : Option Nat} {o : Oper} {so : SRop} {ops : Array Oper} (hna : ∀ b, NA b → b < w0.heap.size) (h : RepH w0 N0 NA ρ H w) (ht : ∀ i, RepS w NA ρ H (T i) (a.tmps.getD i undef)) (hc : CompR P M n ops o so) {x : SV} {e : Option (Nat × Blk)} (hd : DoesS P bs so T H x e)
    {K : Act → World → Prop} {Q : Exit → Act → World → Prop} (hK : ∀ v w' ρ', RepH w0 N0 NA ρ' (setH H e) w' → Trans NA w ρ H w' ρ' (setH H e) → RepS w' NA ρ' (setH H e) x v → K (a.put o.dst v) w') : o.wpIn (WF r) m P a w K Q := by
  obtain ⟨⟨s0, hc0, hm0⟩, _⟩ := hc
  refine ⟨fun _ _ => trivial, ?_⟩
  rw [Oper.semAt_eq _ _ _ (comp_nodefer hc0)]
  cases hd with
  | act _ _ hact =>
    obtain ⟨nx, v, w', hr, hnx, ρ', h1, h2, h3⟩ := act_all (P := P) hna h ht hc0 hm0 hact
    rw [hr]
    rcases hnx with rfl | ⟨rfl, rfl⟩
    · exact hK v w' ρ' h1 h2 h3
    · exact hK undef w' ρ' h1 h2 h3
  | frz e' k zs len ps i l j t k' rows y hy hop hact =>
    rw [hop] at hact
    have e1 : s0 = .buildSl e' k zs len ps := by rw [hop] at hm0; exact erase_boxZ (so := .buildSl e' k zs len ps) hm0 rfl (fun _ _ e => by cases e)
    subst e1
    obtain ⟨rows', v, w', e1, e2, hr, he, hrep, ad, hvx⟩ := act_closed (P := P) h ht hna hc0 hact
    cases e1; cases e2
    rw [hr]
    obtain ⟨r1, r2⟩ := ext_rep h he
    rcases hy with rfl | rfl
    · exact hK v w' ρ r1 r2 (.c _ _ hrep)
    · subst hvx
      exact hK _ w' ρ r1 r2 (.c _ _ (.slx _ _ ad hrep))
  | frzA e1 k1 by1 z1 z2 i l j t k' rows hop hact =>
    obtain ⟨nx, v, w', hr, hnx, ρ', h1, h2, h3⟩ := act_all (P := P) hna h ht hc0 hm0 hact
    obtain ⟨rfl, rfl, _⟩ := act_app hop hact
    have hid : setH H (some (i, .arr t k' rows)) i = some (.arr t k' rows) := by simp [setH]
    obtain ⟨g1, g2⟩ := gone_rep h1 hid
    have g3 := gone_val hna h1 hid h3
    have e2 : setH (setH H (some (i, .arr t k' rows))) (some (i, .arr t k' (rows ++ [[]]))) = setH H (some (i, .arr t k' (rows ++ [[]]))) := setH_twice _ _ _
    rw [e2] at g1 g2 g3
    rw [hr]
    rcases hnx with rfl | ⟨rfl, rfl⟩
    · exact hK v w' _ g1 (h2.trans g2) (.c _ _ g3)
    · exact hK undef w' _ g1 (h2.trans g2) (.c _ _ g3)
  | call f xs cs r' hop hcl hsc hp =>
    have e1 : s0 = .call f xs := by rw [hop] at hm0; exact erase_boxZ (so := .call f xs) hm0 rfl (fun _ _ e => by cases e)
    subst e1
    obtain ⟨ts, ho, fn, hfn, hb, hnm⟩ := comp_call hc0
    have hev := rep_evs ht xs
    obtain ⟨l1, l2, l3⟩ := closeAll_rep h hev hcl
    have hrun : (execOp a.eval o).run P w = .ok (.enter f (xs.map a.eval).toArray) w := by
      have hb' : ¬ fn.body = none := fun e => by rw [e] at hb; cases hb
      have hnm' : ¬ fn.name = "runtime.NumGoroutine" := by simpa using hnm
      simp [execOp, ho, resolve, Act.eval, Deferred.ofValue, invoke, callFunc, hfn, hb', hnm']
    rw [hrun]
    refine ⟨WF_depth, ?_⟩
    have ownlt : ∀ b, Mut NA ρ H b → b < w.heap.size := fun b hb => by
      rcases hb with hb | hb
      · exact Nat.lt_of_lt_of_le (hna b hb) h.fr.size
      · exact h.lt hb
    have fin : ∀ v w', RepC w' (Mut NA ρ H) r' v → Ext w w' → K (a.put o.dst v) w' := fun v w' hr he => by
      obtain ⟨r1, r2⟩ := ext_rep h he
      exact hK v w' ρ r1 r2 (openC_rep hr)
    rcases hp with hp | hp
    · refine callsIn_WF ((hsc w (Mut NA ρ H) (xs.map a.eval).toArray ownlt (by simpa using l1) (fun i x v hx hv => l3 hp i x v hx (by simpa using hv))).mono fun e w' hh => ?_)
      obtain ⟨v, rfl, hr, he⟩ := hh
      exact fin v w' hr he
    · refine callsIn_WF ((hsc w (fun b => NA b ∧ ¬ Own ρ H b) (xs.map a.eval).toArray (fun b hb => ownlt b (.inl hb.1)) (by simpa using l1) (fun i x v hx hv => l2 i x v hx (by simpa using hv))).mono fun e w' hh => ?_)
      obtain ⟨v, rfl, hr, he⟩ := hh
      exact fin v w' (hp.rep hr) he
  | callI nm x0 xs t f x cs r' hop hx hmf hbd hcl hsc hp =>
    have e1 : s0 = .callI nm x0 xs := by rw [hop] at hm0; exact erase_boxZ (so := .callI nm x0 xs) hm0 rfl (fun _ _ e => by cases e)
    subst e1
    obtain ⟨ts, ho⟩ := comp_callI hc0
    have hev := rep_evs ht xs
    obtain ⟨l1, l2, l3⟩ := closeAll_rep h hev hcl
    have hx0 := rep_ev ht x0
    rw [hx] at hx0
    have hxr : ∃ v, a.eval x0 = .iface t v ∧ RepC w (Mut NA ρ H) x v := by
      generalize a.eval x0 = u at hx0
      cases hx0 with
      | c _ _ q => cases q with
        | ifc _ _ v q => exact ⟨v, rfl, q⟩
    obtain ⟨v0, hv0, hr0⟩ := hxr
    have hrun : (execOp a.eval o).run P w = .ok (.enter f (#[v0] ++ (xs.map a.eval).toArray)) w := run_invoke ho hv0 hmf hbd
    rw [hrun]
    refine ⟨WF_depth, ?_⟩
    have sz : (#[v0] ++ (xs.map a.eval).toArray).size = (x :: cs).length := by simp at l1 ⊢; omega
    have args : ∀ {N : Nat → Prop}, RepC w N x v0 → (∀ (i : Nat) x v, cs[i]? = some x → (xs.map a.eval)[i]? = some v → RepC w N x v) → ∀ (i : Nat) y v, (x :: cs)[i]? = some y → (#[v0] ++ (xs.map a.eval).toArray)[i]? = some v → RepC w N y v := fun b1 b2 i y v hy hv => by
      cases i with
      | zero =>
        simp at hy
        subst hy
        rw [Array.getElem?_append_left (by simp)] at hv
        simp at hv
        subst hv; exact b1
      | succ i =>
        rw [Array.getElem?_append_right (by simp)] at hv
        exact b2 i y v (by simpa using hy) (by simpa using hv)
    have ownlt : ∀ b, Mut NA ρ H b → b < w.heap.size := fun b hb => by
      rcases hb with hb | hb
      · exact Nat.lt_of_lt_of_le (hna b hb) h.fr.size
      · exact h.lt hb
    have fin : ∀ v w', RepC w' (Mut NA ρ H) r' v → Ext w w' → K (a.put o.dst v) w' := fun v w' hr he => by
      obtain ⟨r1, r2⟩ := ext_rep h he
      exact hK v w' ρ r1 r2 (openC_rep hr)
    rcases hp with hp | hp
    · refine callsIn_WF ((hsc w (Mut NA ρ H) _ ownlt sz (args hr0 (l3 hp))).mono fun e w' hh => ?_)
      obtain ⟨v, rfl, hr, he⟩ := hh
      exact fin v w' hr he
    · refine callsIn_WF ((hsc w (fun b => NA b ∧ ¬ Own ρ H b) _ (fun b hb => ownlt b (.inl hb.1)) sz (args (sub_rep hr0) l2)).mono fun e w' hh => ?_)
      obtain ⟨v, rfl, hr, he⟩ := hh
      exact fin v w' (hp.rep hr) he
  | callC f xs cs r' hop hcl hsc hp =>
    have e1 : s0 = .call f xs := by
      rw [hop] at hm0
      rcases mark_callG hm0 with h | h
      · exact h
      · subst h; exact (comp_callG hc0).elim
    subst e1
    obtain ⟨ts, ho, fn, hfn, hb, hnm⟩ := comp_call hc0
    have hev := rep_evs ht xs
    obtain ⟨l1, l2, l3⟩ := closeAll_rep h hev hcl
    have hrun : (execOp a.eval o).run P w = .ok (.enter f (xs.map a.eval).toArray) w := by
      have hb' : ¬ fn.body = none := fun e => by rw [e] at hb; cases hb
      have hnm' : ¬ fn.name = "runtime.NumGoroutine" := by simpa using hnm
      simp [execOp, ho, resolve, Act.eval, Deferred.ofValue, invoke, callFunc, hfn, hb', hnm']
    rw [hrun]
    refine ⟨WF_depth, ?_⟩
    have ownlt : ∀ b, Mut NA ρ H b → b < w.heap.size := fun b hb => by
      rcases hb with hb | hb
      · exact Nat.lt_of_lt_of_le (hna b hb) h.fr.size
      · exact h.lt hb
    have fin : ∀ v w', RepC w' (Mut NA ρ H) r' v → Ext w w' → K (a.put o.dst v) w' := fun v w' hr he => by
      obtain ⟨r1, r2⟩ := ext_rep h he
      exact hK v w' ρ r1 r2 (openC_rep hr)
    rcases hp with hp | hp
    · refine callsIn_WF ((hsc w (Mut NA ρ H) (xs.map a.eval).toArray ownlt (by simpa using l1) (fun i x v hx hv => l3 hp i x v hx (by simpa using hv))).mono fun e w' hh => ?_)
      obtain ⟨v, rfl, hr, he⟩ := hh
      exact fin v w' hr he
    · refine callsIn_WF ((hsc w (fun b => NA b ∧ ¬ Own ρ H b) (xs.map a.eval).toArray (fun b hb => ownlt b (.inl hb.1)) (by simpa using l1) (fun i x v hx hv => l2 i x v hx (by simpa using hv))).mono fun e w' hh => ?_)
      obtain ⟨v, rfl, hr, he⟩ := hh
      exact fin v w' (hp.rep hr) he
  | callN f xs cs sh t k rows hop hcl hp hnone hfc =>
    have e1 : s0 = .call f xs := by
      rw [hop] at hm0
      rcases mark_callG hm0 with h | h
      · exact h
      · subst h; exact (comp_callG hc0).elim
    subst e1
    obtain ⟨ts, ho, fn, hfn, hb, hnm⟩ := comp_call hc0
    have hev := rep_evs ht xs
    obtain ⟨l1, l2, l3⟩ := closeAll_rep h hev hcl
    have hrun : (execOp a.eval o).run P w = .ok (.enter f (xs.map a.eval).toArray) w := by
      have hb' : ¬ fn.body = none := fun e => by rw [e] at hb; cases hb
      have hnm' : ¬ fn.name = "runtime.NumGoroutine" := by simpa using hnm
      simp [execOp, ho, resolve, Act.eval, Deferred.ofValue, invoke, callFunc, hfn, hb', hnm']
    rw [hrun]
    refine ⟨WF_depth, ?_⟩
    have ownlt : ∀ b, Mut NA ρ H b → b < w.heap.size := fun b hb => by
      rcases hb with hb | hb
      · exact Nat.lt_of_lt_of_le (hna b hb) h.fr.size
      · exact h.lt hb
    refine callsIn_WF ((hfc w (Mut NA ρ H) (xs.map a.eval).toArray ownlt (by simpa using l1) (fun i x v hx hv => l3 hp i x v hx (by simpa using hv))).mono fun e w' hh => ?_)
    obtain ⟨v, p, rfl, he, hpb, hB, hr⟩ := hh
    obtain ⟨r1, r2⟩ := new_ext h hnone (.arr t k rows) he hpb (by
      rcases hB with ⟨b1, b2⟩ | ⟨b, cs, cap, b1, b2, b3, b4, b5, b6, b7⟩
      · exact .inl ⟨by simpa [setR] using b1, b2⟩
      · exact .inr ⟨b, cs, cap, by simpa [setR] using b1, b2, b3, b4, b5, b6, fun j row i x hr hx => by
          obtain ⟨v, c1, c2⟩ := b7 j row i x hr hx
          exact ⟨v, c1, c2.move ⟨Nat.le_refl _, fun b _ hn => ⟨rfl, fun hm => hn (mut_new hm)⟩⟩⟩⟩)
    exact hK v w' _ r1 r2 (hole_mv (H := one1 t k rows) (t := t) (k := k) (rows := rows) (by simp [one1]) (by simp [setH]) (by simp [setR]) (fun b hm => mut_new hm) hr)
  | callO f x0 xr id cs sh t k rows r' hop hx0 _ hid hcl hp hms =>
    have e1 : s0 = .call f (x0 :: xr) := by
      rw [hop] at hm0
      rcases mark_callG hm0 with h | h
      · exact h
      · subst h; exact (comp_callG hc0).elim
    subst e1
    obtain ⟨ts, ho, fn, hfn, hb, hnm⟩ := comp_call hc0
    have hev := rep_evs ht xr
    obtain ⟨l1, l2, l3⟩ := closeAll_rep h hev hcl
    have hrun : (execOp a.eval o).run P w = .ok (.enter f ((x0 :: xr).map a.eval).toArray) w := by
      have hb' : ¬ fn.body = none := fun e => by rw [e] at hb; cases hb
      have hnm' : ¬ fn.name = "runtime.NumGoroutine" := by simpa using hnm
      simp [execOp, ho, resolve, Act.eval, Deferred.ofValue, invoke, callFunc, hfn, hb', hnm']
    rw [hrun]
    refine ⟨WF_depth, ?_⟩
    have ownlt : ∀ b, Mut NA ρ H b → b < w.heap.size := fun b hb => by
      rcases hb with hb | hb
      · exact Nat.lt_of_lt_of_le (hna b hb) h.fr.size
      · exact h.lt hb
    have hv0 := rep_ev ht x0
    rw [hx0] at hv0
    have hB := h.blk id _ hid
    have hMut : Mut (fun b => Mut NA ρ H b ∧ ¬ ρ id = some b) (fun _ => ρ id) (one1 t k rows) = Mut NA ρ H := by
      funext b
      refine propext (mut_one.trans ⟨?_, fun hb => ?_⟩)
      · rintro (hb | hb)
        · exact hb.1
        · exact .inr ⟨id, by rw [hid]; simp, hb⟩
      · by_cases e : ρ id = some b
        · exact .inr e
        · exact .inl ⟨hb, e⟩
    have hMut2 : (fun b => (Mut NA ρ H b ∧ ¬ ρ id = some b) ∨ ρ id = some b) = Mut NA ρ H := by
      refine Eq.trans ?_ hMut
      funext b
      exact propext (mut_one (NA := fun b => Mut NA ρ H b ∧ ¬ ρ id = some b) (p := ρ id) (t := t) (k := k) (rows := rows) (b := b)).symm
    have hset : setH H (some (id, .arr t k rows)) = H := by
      funext i
      by_cases hi : i = id
      · subst hi; simp [setH, hid]
      · simp [setH, hi]
    have hc := hms w (fun b => Mut NA ρ H b ∧ ¬ ρ id = some b) (ρ id) (a.eval x0) (xr.map a.eval).toArray (fun b hb => ownlt b hb.1) (fun b e hb => hb.2 e)
      (by simp only [RepB] at hB ⊢; rw [hMut]; exact hB) (hole_mv (H := H) hid (by simp [one1]) rfl (fun b hm => by rw [hMut] at hm; exact hm) hv0) (by simpa using l1) (fun i x v hx hv => by rw [hMut2]; exact l3 hp i x v hx (by simpa using hv))
    have eargs : ((x0 :: xr).map a.eval).toArray = #[a.eval x0] ++ (xr.map a.eval).toArray := by simp
    rw [eargs]
    refine callsIn_WF (hc.mono fun e w' hh => ?_)
    obtain ⟨v, rfl, hB', hsz, hgr, hans⟩ := hh
    have hkeep : KeepI w ρ H w' (setR ρ id (ρ id)) (setH H (some (id, .arr t k rows))) id := by
      refine ⟨fun B hB0 hk => ?_, fun t2 k2 rows2 he => ?_⟩
      · rw [hid] at hB0; cases hB0; exact absurd rfl hk
      · rw [hid] at he; cases he
        exact ⟨rows, by simp [setH], Nat.le_refl _, fun _ => ⟨by simp [setR], fun b cs t' hb hc => hsz b cs t' hb hc⟩⟩
    obtain ⟨r1, r2⟩ := upd_rep (B1 := .arr t k rows) (r := ρ id) h hid hgr (.inl rfl) hkeep (fun _ => by
      rw [setR_same, hset]
      simp only [RepB] at hB' ⊢
      rw [hMut] at hB'
      exact hB')
    rw [setR_same] at r1 r2
    refine hK v w' ρ r1 r2 ?_
    rw [hset]
    rw [hMut2] at hans
    exact openC_rep hans
theorem yielded_eq {ops : Array Oper} {j g : Nat} {oj : Oper} {t : Bool} (hj : ops[j]? = some oj) (hg : oj.dst = some g) (ht : a.tmps.getD g undef = .bool t) : yielded ops a.tmps j = some t := by
  unfold yielded
  have h1 : a.tmps[g]? = some (.bool t) := by
    rcases Nat.lt_or_ge g a.tmps.size with h | h
    · have : a.tmps.getD g undef = a.tmps[g] := by simp [h]
      rw [this] at ht
      rw [Array.getElem?_eq_getElem h, ht]
    · simp [h] at ht
      cases ht
  simp [hj, hg, h1]
theorem yielded_none {ops : Array Oper} {j g : Nat} {oj : Oper} {u : Array Value} (hj : ops[j]? = some oj) (hg : oj.dst = some g) (ht : a.tmps.getD g undef = .tuple u) : yielded ops a.tmps j = none := by
  unfold yielded
  rcases Nat.lt_or_ge g a.tmps.size with h | h
  · have : a.tmps.getD g undef = a.tmps[g] := by simp [h]
    rw [this] at ht
    have h1 : a.tmps[g]? = some (.tuple u) := by rw [Array.getElem?_eq_getElem h, ht]
    simp [hj, hg, h1]
  · have h1 : a.tmps[g]? = none := by simp [h]
    simp [hj, hg, h1]
structure RepW (w0 : World) (N0 NA : Nat → Prop) (n : Nat) (ρ : Nat → Option Nat) (T : Nat → SV) (H : Nat → Option Blk) (a : Act) (w : World) : Prop where
  size : a.tmps.size = n
  heap : RepH w0 N0 NA ρ H w
  tmp : ∀ i, RepS w NA ρ H (T i) (a.tmps.getD i undef)
theorem want_of {o : Oper} {so : SRop} {ops : Array Oper} {ρ : Nat → Option Nat} (ht : ∀ i, RepS w NA ρ H (T i) (a.tmps.getD i undef)) {j : Nat} {q : Bool} (hg : o.guard = some (j, q)) {oj : Oper} {g : Nat} (g1 : ops[j]? = some oj) (g2 : oj.dst = some g) {t : Bool} (hT : goes (T g) q = some t) :
    Region.wanted o (yielded ops a.tmps) = t := by
  have hw := ht g
  unfold goes at hT
  split at hT
  · rename_i t' hT'
    rw [hT'] at hw
    have htv : a.tmps.getD g undef = .bool t' := by
      generalize a.tmps.getD g undef = u at hw ⊢
      cases hw with
      | c _ _ r => cases r; rfl
    have hy := yielded_eq (a := a) g1 g2 htv
    cases hT
    simp [Region.wanted, hg, hy]
  · rename_i u hT'
    rw [hT'] at hw
    have htv : a.tmps.getD g undef = .tuple u := by
      generalize a.tmps.getD g undef = u at hw ⊢
      cases hw with
      | c _ _ r => cases r; rfl
    have hy := yielded_none (a := a) g1 g2 htv
    cases hT
    simp [Region.wanted, hg, hy]
  · cases hT
theorem step_sound {o : Oper} {so : SRop} {ops : Array Oper} {M : List FuncId} {bs m : Nat} {r : Option Nat} {i : Nat} (hi : ops[i]? = some o) (hna : ∀ b, NA b → b < w0.heap.size) (hc : CompR P M n ops o so) {ρ : Nat → Option Nat} (hr : RepW w0 N0 NA n ρ T H a w) {S' : SS} (hs : Step P bs so (T, H) S') {K : Act → World → Prop} {Q : Exit → Act → World → Prop}
    (hK : ∀ a' w' ρ', RepW w0 N0 NA n ρ' S'.1 S'.2 a' w' → Trans NA w ρ H w' ρ' S'.2 → a'.defers = a.defers → K a' w') : wpOpIn (WF r) m P ops Q i K a w := by
  obtain ⟨x, e, ho, rfl⟩ := hs
  obtain ⟨hsz, h, ht⟩ := hr
  obtain ⟨c1, c2, c3, c4⟩ := hc
  have fin : ∀ v w' ρ', RepH w0 N0 NA ρ' (setH H e) w' → Trans NA w ρ H w' ρ' (setH H e) → RepS w' NA ρ' (setH H e) x v → K (a.put o.dst v) w' := fun v w' ρ' h1 h2 h3 => by
    refine hK _ _ ρ' ⟨(put_size a _ _).trans hsz, h1, ?_⟩ h2 (put_defers a _ _)
    simp only [c2]
    exact rep_put (fun i hi' => by rw [hsz]; exact c3 i hi') (fun i => h2.mv (ht i)) h3
  unfold wpOpIn
  simp only [hi]
  unfold OutS at ho
  cases hg : o.guard with
  | none =>
    rw [hg] at c4
    rw [c4] at ho
    rw [if_pos (by simp [Region.wanted, hg])]
    exact does_sound (n := n) (ops := ops) hna h ht ⟨c1, c2, c3, by rw [hg]; exact c4⟩ ho fin
  | some p =>
    obtain ⟨j, q⟩ := p
    rw [hg] at c4
    obtain ⟨oj, g, g1, g2, g3⟩ := c4
    rw [g3] at ho
    obtain ⟨t, hT, ho⟩ := ho
    simp only at hT
    have hwant : Region.wanted o (yielded ops a.tmps) = t := want_of (so := so) ht hg g1 g2 hT
    by_cases htb : t = true
    · rw [if_pos htb] at ho
      rw [if_pos (hwant.trans htb)]
      exact does_sound (n := n) (ops := ops) hna h ht ⟨c1, c2, c3, by rw [hg]; exact ⟨oj, g, g1, g2, g3⟩⟩ ho fin
    · rw [if_neg htb] at ho
      obtain ⟨rfl, rfl⟩ := ho
      rw [if_neg (by rw [hwant]; exact htb)]
      exact ⟨fun _ _ => trivial, fin undef w ρ h (Trans.refl _ _ _ _) (.c _ _ (.val _))⟩
end
end Go.Proofs.YtboifcengmgcaaaGreat
/- Regions of the shadow, IV: runs over lists; operations that stand by themselves. -/
namespace Go.Proofs.YtboifcengmgcaaaGreat
open Go.RowKit
universe u
abbrev TL := List (Nat × SV)
abbrev HL := List (Nat × Blk)
def lookT : TL → Nat → SV
  | [], _ => .dead
  | (j, x) :: r, i => if i = j then x else lookT r i
def lookH : HL → Nat → Option Blk
  | [], _ => none
  | (j, B) :: r, i => if i = j then some B else lookH r i
def putL (T : TL) (d : Option Nat) (x : SV) : TL := match d with
  | some d => (d, x) :: T
  | none => T
def setL1 : HL → Nat → Blk → HL
  | [], id, B => [(id, B)]
  | (j, C) :: r, id, B => if j = id then (id, B) :: r else (j, C) :: setL1 r id B
def setL (H : HL) : Option (Nat × Blk) → HL
  | none => H
  | some (id, B) => setL1 H id B
theorem lookT_put (T : TL) (d : Option Nat) (x : SV) : lookT (putL T d x) = putT (lookT T) d x := by
  cases d <;> rfl
theorem lookH_set1 : ∀ (H : HL) (id : Nat) (B : Blk), lookH (setL1 H id B) = setH (lookH H) (some (id, B))
  | [], id, B => by funext i; simp [setL1, lookH, setH]
  | (j, C) :: r, id, B => by
    funext i
    have ih := congrFun (lookH_set1 r id B) i
    simp only [setL1]
    by_cases h : j = id
    · subst h
      simp only [if_pos, lookH, setH]
      by_cases hi : i = j <;> simp [hi]
    · rw [if_neg h]
      simp only [lookH, ih, setH]
      by_cases hi : i = j
      · subst hi; simp [h]
      · simp [hi]
theorem lookH_set (H : HL) (e : Option (Nat × Blk)) : lookH (setL H e) = setH (lookH H) e := by
  cases e with
  | none => rfl
  | some p => exact lookH_set1 H p.1 p.2
def tot (F H : Nat → Option Blk) : Nat → Option Blk := fun i => match H i with
  | some B => some B
  | none => F i
theorem tot_set (F H : Nat → Option Blk) (e : Option (Nat × Blk)) : tot F (setH H e) = setH (tot F H) e := by
  cases e with
  | none => rfl
  | some p =>
    obtain ⟨id, B⟩ := p
    funext i
    simp only [tot, setH]
    by_cases h : i = id <;> simp [h]
theorem tot_some {F H : Nat → Option Blk} {i : Nat} {B : Blk} (h : H i = some B) : tot F H i = some B := by simp [tot, h]
theorem tot_none {F H : Nat → Option Blk} {i : Nat} (h : H i = none) : tot F H i = F i := by simp [tot, h]
mutual
def SV.inP (D : Nat → Prop) : SV → Prop
  | .own id _ | .ptr id _ | .pow id _ _ _ | .yl id | .om id | .it id => D id
  | .agg xs | .tup xs => inPL D xs
  | .fn _ a b => inPL D a ∧ inPL D b
  | _ => True
def inPL (D : Nat → Prop) : List SV → Prop
  | [] => True
  | x :: xs => x.inP D ∧ inPL D xs
end
theorem inPL_get {D : Nat → Prop} : ∀ {xs : List SV}, inPL D xs → ∀ (i : Nat) x, xs[i]? = some x → x.inP D
  | [], _, i, x, hx => by simp at hx
  | y :: ys, h, i, x, hx => by
    cases i with
    | zero => simp at hx; subst hx; exact h.1
    | succ i => exact inPL_get h.2 i x (by simpa using hx)
theorem inPL_mk {D : Nat → Prop} : ∀ {xs : List SV}, (∀ (i : Nat) x, xs[i]? = some x → x.inP D) → inPL D xs
  | [], _ => trivial
  | x :: xs, h => ⟨h 0 x rfl, inPL_mk fun i y hy => h (i + 1) y (by simpa using hy)⟩
theorem RepS.inP {w : World} {NA : Nat → Prop} {ρ : Nat → Option Nat} {H : Nat → Option Blk} {x : SV} {v : Value} (h : RepS w NA ρ H x v) : x.inP (fun i => H i ≠ none) := by
  induction h with
  | c x v r => trivial
  | agg xs vs h1 _ ih => exact inPL_mk fun i x hx => ih i x (vs[i]'(by rw [h1]; exact (List.getElem?_eq_some_iff.1 hx).1)) hx (Array.getElem?_eq_getElem _)
  | tup xs vs h1 _ ih => exact inPL_mk fun i x hx => ih i x (vs[i]'(by rw [h1]; exact (List.getElem?_eq_some_iff.1 hx).1)) hx (Array.getElem?_eq_getElem _)
  | own id len t k rows v hH => show H id ≠ none; rw [hH]; simp
  | ptrB id j t cells b hH => show H id ≠ none; rw [hH]; simp
  | ptrA id len i j t k rows v hH => show H id ≠ none; rw [hH]; simp
  | pel k rows i j b off c hc hi => trivial
  | fn f fs cs vf vc h1 h2 _ _ ih1 ih2 =>
    exact ⟨inPL_mk fun i x hx => ih1 i x (vf[i]'(by rw [h1]; exact (List.getElem?_eq_some_iff.1 hx).1)) hx (Array.getElem?_eq_getElem _),
      inPL_mk fun i x hx => ih2 i x (vc[i]'(by rw [h2]; exact (List.getElem?_eq_some_iff.1 hx).1)) hx (Array.getElem?_eq_getElem _)⟩
  | yl id lo b hH => show H id ≠ none; rw [hH]; simp
  | om id ag kd es b hH => show H id ≠ none; rw [hH]; simp
  | it id ag kd l c b hH => show H id ≠ none; rw [hH]; simp
  | dead v => trivial
theorem RepS.less {w : World} {NA : Nat → Prop} {ρ : Nat → Option Nat} {H H' : Nat → Option Blk} {D : Nat → Prop} (hs : ∀ id B, H' id = some B → H id = some B) (hD : ∀ id B, H id = some B → D id → H' id = some B) {x : SV} {v : Value}
    (h : RepS w NA ρ H x v) (hx : x.inP D) : RepS w NA ρ H' x v := by
  have calm : Calm w (Mut NA ρ H) w (Mut NA ρ H') := ⟨Nat.le_refl _, fun b _ hn => ⟨rfl, fun hm => by
    rcases hm with hm | ⟨i, h1, h2⟩
    · exact hn (.inl hm)
    · cases hB : H' i with
      | none => exact h1 hB
      | some B => exact hn (.inr ⟨i, by rw [hs i B hB]; simp, h2⟩)⟩⟩
  induction h with
  | c x v r => exact .c x v (r.move calm)
  | agg xs vs h1 _ ih => exact .agg xs vs h1 (fun i x v hx' hv => ih i x v hx' hv (inPL_get hx i x hx'))
  | tup xs vs h1 _ ih => exact .tup xs vs h1 (fun i x v hx' hv => ih i x v hx' hv (inPL_get hx i x hx'))
  | own id len t k rows v hH hl ho hv => exact .own id len t k rows v (hD id _ hH hx) hl ho hv
  | ptrB id j t cells b hH hb => exact .ptrB id j t cells b (hD id _ hH hx) hb
  | ptrA id len i j t k rows v hH hl ho hv => exact .ptrA id len i j t k rows v (hD id _ hH hx) hl ho hv
  | pel k rows i j b off c hc hi => exact .pel k rows i j b off c (hc.move calm) hi
  | fn f fs cs vf vc h1 h2 _ _ ih1 ih2 =>
    exact .fn f fs cs vf vc h1 h2 (fun i x v hx' hv => ih1 i x v hx' hv (inPL_get hx.1 i x hx')) (fun i x v hx' hv => ih2 i x v hx' hv (inPL_get hx.2 i x hx'))
  | yl id lo b hH hb => exact .yl id lo b (hD id _ hH hx) hb
  | om id ag kd es b hH hb => exact .om id ag kd es b (hD id _ hH hx) hb
  | it id ag kd l c b hH hb => exact .it id ag kd l c b (hD id _ hH hx) hb
  | dead v => exact .dead v
abbrev Inv := Nat → Bool → (Nat → Option Blk) → Prop
def ClosedF (F : Nat → Option Blk) : Prop := ∀ id t cells, F id = some (.box t cells) → inPL (fun i => F i ≠ none) cells
def YT (P : Program) (Iv : Inv) (A : Nat → Prop) (G : SV → Value → Prop) (id k : Nat) (row : List CV) : Prop :=
  ∀ (w0 : World) (N0 NA : Nat → Prop) (ρ : Nat → Option Nat) (F E : Nat → Option Blk) (l : Nat) (vs : Array Value) (w : World) (r : Option Nat) (m : Nat),
    (∀ b, NA b → b < w0.heap.size) → (∀ b, NA b → ¬ N0 b) → Iv k false F → ClosedF F → (∀ i, A i → E i = none) → (∀ i, E i ≠ none → F i = none) → (∀ i t cells, E i = some (.box t cells) → inPL (fun j => E j ≠ none ∨ ∃ lo, F j = some (.loop lo)) cells) →
    RepH w0 N0 NA ρ (tot F E) w → ρ id = some l → (∃ lo, F id = some (.loop lo)) → (∀ x v, G x v → RepS w NA ρ (tot F E) x v) → vs.size = row.length →
    (∀ (i : Nat) x v, row[i]? = some x → vs[i]? = some v → RepC w (Mut NA ρ (tot F E)) x v) →
    YieldAt (WF r) m P l vs w fun e w' => ∃ stop F' ρ', e = .returned (.bool (!stop)) ∧ Iv (k + 1) stop F' ∧ ClosedF F' ∧ (∀ i, F' i ≠ none → F i ≠ none ∨ A i) ∧ RepH w0 N0 NA ρ' (tot F' E) w' ∧ Trans NA w ρ (tot F E) w' ρ' (tot F' E)
mutual
def SV.inE (ks ys : List Nat) : SV → Bool
  | .own id _ | .ptr id _ | .pow id _ _ _ | .om id | .it id => ks.contains id
  | .yl id => ys.contains id
  | .agg xs | .tup xs => inEL ks ys xs
  | .fn _ a b => inEL ks ys a && inEL ks ys b
  | _ => true
def inEL (ks ys : List Nat) : List SV → Bool
  | [] => true
  | x :: xs => x.inE ks ys && inEL ks ys xs
end
mutual
theorem inE_inP {ks ys : List Nat} : ∀ x : SV, x.inE ks ys = true → x.inP (fun i => i ∈ ks ∨ i ∈ ys)
  | .own _ _, h | .ptr _ _, h | .pow _ _ _ _, h | .om _, h | .it _, h => .inl (by simpa [SV.inE] using h)
  | .yl _, h => .inr (by simpa [SV.inE] using h)
  | .agg xs, h | .tup xs, h => inEL_inP xs h
  | .fn _ a b, h => by
    simp only [SV.inE, Bool.and_eq_true] at h
    exact ⟨inEL_inP a h.1, inEL_inP b h.2⟩
  | .c _, _ | .pel _ _ _ _, _ | .dead, _ => trivial
theorem inEL_inP {ks ys : List Nat} : ∀ xs : List SV, inEL ks ys xs = true → inPL (fun i => i ∈ ks ∨ i ∈ ys) xs
  | [], _ => trivial
  | x :: xs, h => by
    simp only [inEL, Bool.and_eq_true] at h
    exact ⟨inE_inP x h.1, inEL_inP xs h.2⟩
end
mutual
theorem inP_mono {D D' : Nat → Prop} (h : ∀ i, D i → D' i) : ∀ x : SV, x.inP D → x.inP D'
  | .own _ _, hx | .ptr _ _, hx | .pow _ _ _ _, hx | .yl _, hx | .om _, hx | .it _, hx => h _ hx
  | .agg xs, hx | .tup xs, hx => inPL_mono h xs hx
  | .fn _ a b, hx => ⟨inPL_mono h a hx.1, inPL_mono h b hx.2⟩
  | .c _, _ | .pel _ _ _ _, _ | .dead, _ => trivial
theorem inPL_mono {D D' : Nat → Prop} (h : ∀ i, D i → D' i) : ∀ xs : List SV, inPL D xs → inPL D' xs
  | [], _ => trivial
  | x :: xs, hx => ⟨inP_mono h x hx.1, inPL_mono h xs hx.2⟩
end
theorem lookH_mem {H : HL} {i : Nat} : i ∈ H.map (·.1) → ∃ B, lookH H i = some B := by
  induction H with
  | nil => intro h; simp at h
  | cons p r ih =>
    obtain ⟨j, C⟩ := p
    intro h
    by_cases hi : i = j
    · exact ⟨C, by simp [lookH, hi]⟩
    · simp only [List.map_cons, List.mem_cons] at h
      obtain ⟨B, hB⟩ := ih (h.resolve_left hi)
      exact ⟨B, by simp [lookH, hi, hB]⟩
theorem mem_lookH {H : HL} {i : Nat} (h : lookH H i ≠ none) : i ∈ H.map (·.1) := by
  induction H with
  | nil => exact absurd rfl h
  | cons p r ih =>
    obtain ⟨j, C⟩ := p
    by_cases hi : i = j
    · simp [hi]
    · simp only [lookH, if_neg hi] at h
      simp only [List.map_cons, List.mem_cons]; exact .inr (ih h)
theorem look_in {H : HL} {i : Nat} {B : Blk} (h : lookH H i = some B) : (i, B) ∈ H := by
  induction H with
  | nil => simp [lookH] at h
  | cons p r ih =>
    obtain ⟨j, C⟩ := p
    by_cases hi : i = j
    · subst hi; simp [lookH] at h; subst h; simp
    · simp only [lookH, if_neg hi] at h
      exact List.mem_cons_of_mem _ (ih h)
def clE (ys : List Nat) (H : HL) : Bool := H.all fun p => match p.2 with
  | .box _ cs => inEL (H.map (·.1)) ys cs
  | .loop _ => false
  | _ => true
theorem clE_spec {ys : List Nat} {H : HL} (h : clE ys H = true) : (∀ i lo, lookH H i ≠ some (.loop lo)) ∧ ∀ i t cs, lookH H i = some (.box t cs) → inPL (fun j => lookH H j ≠ none ∨ j ∈ ys) cs := by
  unfold clE at h
  rw [List.all_eq_true] at h
  refine ⟨fun i lo hi => ?_, fun i t cs hi => ?_⟩
  · have := h _ (look_in hi); simp at this
  · have := h _ (look_in hi)
    simp only at this
    refine inPL_mono (fun j hj => ?_) cs (inEL_inP cs this)
    rcases hj with hj | hj
    · obtain ⟨B, hB⟩ := lookH_mem hj
      exact .inl (by rw [hB]; simp)
    · exact .inr hj
structure Cf where
  P : Program
  M : List FuncId
  n : Nat
  b : Nat
  K : List Nat
  Iv : Inv
  A : Nat → Prop
  G : SV → Value → Prop
  o : Bool
def Rg (b i : Nat) : Prop := (b ≤ i ∧ i < b + 1000) ∨ i = 1000000000 + b
def Up (b i : Nat) : Prop := b ≤ i % 1000000000
def kOf (b : Nat) (H : HL) : Nat × Bool := match lookH H (1000000000 + b) with
  | some (.gh k s) => (k, s)
  | _ => (0, false)
inductive Hold {α : Sort u} (x : α) : Type
  | mk
def callP (P : Program) (f : FuncId) (xs : Option (List CV)) (p : Bool) (K : SV → Option (Nat × Blk) → Prop) (_ : Hold K) : Prop := ∃ cs, xs = some cs ∧ ∃ r, SC P f cs r ∧ (p = true ∨ Flat r) ∧ K (openC r) none
def guardP (t b : Bool) (A C : Unit → Prop) (_ : Hold A) (_ : Hold C) : Prop := (t = b → A ()) ∧ (¬ t = b → C ())
def optK (r : Option (SV × Option (Nat × Blk))) (K : SV → Option (Nat × Blk) → Prop) (_ : Hold K) : Prop := match r with
  | some (x, e) => K x e
  | none => False
theorem optK_some (x : SV) (e : Option (Nat × Blk)) (K : SV → Option (Nat × Blk) → Prop) : optK (some (x, e)) K .mk = K x e := rfl
def buildP (r : Option (SV × Option (Nat × Blk))) (K : SV → Option (Nat × Blk) → Prop) (_ : Hold K) : Prop := optK r K .mk ∨ match r with
  | some (.own _ _, some (_, .arr _ k rows)) => K (.c (.sl k rows)) none ∨ K (.c (.slx k rows)) none
  | _ => False
theorem buildP_own {x : SV} {e : Option (Nat × Blk)} {K : SV → Option (Nat × Blk) → Prop} (h : K x e) : buildP (some (x, e)) K .mk := .inl h
theorem buildP_frz {i l j k : Nat} {t : TypeId} {rows : List (List CV)} {K : SV → Option (Nat × Blk) → Prop} (h : K (.c (.sl k rows)) none) : buildP (some (.own i l, some (j, .arr t k rows))) K .mk := .inr (.inl h)
def appP (r : Option (SV × Option (Nat × Blk))) (K : SV → Option (Nat × Blk) → Prop) (_ : Hold K) : Prop := optK r K .mk ∨ match r with
  | some (.own _ _, some (j, .arr t k rows)) => K (.c (.sl k rows)) (some (j, .arr t k (rows ++ [[]])))
  | _ => False
theorem appP_own {x : SV} {e : Option (Nat × Blk)} {K : SV → Option (Nat × Blk) → Prop} (h : K x e) : appP (some (x, e)) K .mk := .inl h
def callIP (P : Program) (nm : String) (v : SV) (xs : Option (List CV)) (p : Bool) (K : SV → Option (Nat × Blk) → Prop) (_ : Hold K) : Prop :=
  ∃ t x f cs r, v = .c (.ifc t x) ∧ methF P t nm = some f ∧ bodyB P f = true ∧ xs = some cs ∧ SC P f (x :: cs) r ∧ (p = true ∨ Flat r) ∧ K (openC r) none
theorem callI_of {P : Program} {nm : String} {t : TypeId} {x : CV} {p : Bool} {f : FuncId} {cs : List CV} {K : SV → Option (Nat × Blk) → Prop} {r : CV} (h : SC P f (x :: cs) r) (hm : methF P t nm = some f) (hb : bodyB P f = true) (hp : p = true ∨ Flat r) (hK : K (openC r) none) : callIP P nm (.c (.ifc t x)) (some cs) p K .mk := ⟨t, x, f, cs, r, rfl, hm, hb, rfl, h, hp, hK⟩
def callGP (P : Program) (site : Nat) (f : FuncId) (vs : List SV) (H : HL) (K : SV → Option (Nat × Blk) → Prop) (_ : Hold K) : Prop :=
  (∃ cs, closeAll (lookH H) vs = some cs ∧ ∃ r, SC P f cs r ∧ (vs.all SV.pure = true ∨ Flat r) ∧ K (openC r) none) ∨
  (∃ cs sh t k rows, closeAll (lookH H) vs = some cs ∧ vs.all SV.pure = true ∧ lookH H site = none ∧ FC P f cs sh t k rows ∧ K (holeS sh site rows.length) (some (site, .arr t k rows))) ∨
  (∃ v0 vr id cs sh t k rows r, vs = v0 :: vr ∧ v0 = holeS sh id rows.length ∧ id ∈ refsA v0 ∧ lookH H id = some (.arr t k rows) ∧ closeAll (lookH H) vr = some cs ∧ vr.all SV.pure = true ∧ MS P f sh cs t k rows r ∧ K (openC r) (some (id, .arr t k rows)))
theorem callG_c {P : Program} {site : Nat} {f : FuncId} {vs : List SV} {H : HL} {K : SV → Option (Nat × Blk) → Prop} {cs : List CV} {r : CV} (h : SC P f cs r) (hc : closeAll (lookH H) vs = some cs) (hp : vs.all SV.pure = true ∨ Flat r) (hK : K (openC r) none) : callGP P site f vs H K .mk := .inl ⟨cs, hc, r, h, hp, hK⟩
def doesP (P : Program) (b : Nat) (o : SRop) (T : TL) (H : HL) (K : SV → Option (Nat × Blk) → Prop) (_ : Hold K) : Prop := match o.op with
  | .call f xs => callP P f (closeAll (lookH H) (xs.map (ev (lookT T)))) ((xs.map (ev (lookT T))).all SV.pure) K .mk
  | .buildSl e k z len ps => buildP (actF (b + o.site) (ev (lookT T)) (lookH H) (.buildSl e k z len ps)) K .mk
  | .append e k bytes s z => appP (actF (b + o.site) (ev (lookT T)) (lookH H) (.append e k bytes s z)) K .mk
  | .callI nm x xs => callIP P nm (ev (lookT T) x) (closeAll (lookH H) (xs.map (ev (lookT T)))) ((xs.map (ev (lookT T))).all SV.pure) K .mk
  | .callG f xs => callGP P (b + o.site) f (xs.map (ev (lookT T))) H K .mk
  | op => optK (actF (b + o.site) (ev (lookT T)) (lookH H) op) K .mk
def boolP (v : SV) (A : Bool → Prop) (C : Unit → Prop) (_ : Hold A) (_ : Hold C) : Prop := match v with
  | .c (.val (.bool t)) => A t
  | .c (.val (.tuple _)) => C ()
  | _ => False
theorem boolP_of (t : Bool) (A : Bool → Prop) (C : Unit → Prop) : boolP (.c (.val (.bool t))) A C .mk .mk = A t := rfl
theorem boolP_un (A : Bool → Prop) (C : Unit → Prop) : boolP .un A C .mk .mk = C () := rfl
def outP (P : Program) (b : Nat) (o : SRop) (T : TL) (H : HL) (K : SV → Option (Nat × Blk) → Prop) (_ : Hold K) : Prop := match o.guard with
  | none => doesP P b o T H K .mk
  | some (g, q) => boolP (lookT T g) (fun t => guardP t q (fun _ => doesP P b o T H K .mk) (fun _ => K .un none) .mk .mk) (fun _ => K .un none) .mk .mk
theorem callP_of {P : Program} {f : FuncId} {cs : List CV} {p : Bool} {K : SV → Option (Nat × Blk) → Prop} {r : CV} (h : SC P f cs r) (hp : p = true ∨ Flat r) (hK : K (openC r) none) : callP P f (some cs) p K .mk := ⟨cs, rfl, r, h, hp, hK⟩
theorem guardP_of {t b : Bool} {A C : Unit → Prop} (h1 : t = b → A ()) (h2 : ¬ t = b → C ()) : guardP t b A C .mk .mk := ⟨h1, h2⟩
theorem guardP_same (t : Bool) (A C : Unit → Prop) : guardP t t A C .mk .mk = A () := by simp [guardP]
theorem guardP_tf (A C : Unit → Prop) : guardP true false A C .mk .mk = C () := by simp [guardP]
theorem guardP_ft (A C : Unit → Prop) : guardP false true A C .mk .mk = C () := by simp [guardP]
def entB (P : Program) (f : FuncId) : Bool := match P.funcs[f]? with
  | some fn => fn.body.isSome && !(fn.name == "runtime.NumGoroutine")
  | none => false
def callVP (cf : Cf) (v : SV) (xs : Option (List CV)) (p : Bool) (H : HL) (K : SV → HL → Prop) (_ : Hold K) : Prop := match v with
  | .c (.fn f fs es) => entB cf.P f = true ∧ ∃ cs, xs = some cs ∧ ∃ r, SC cf.P f (fs ++ cs ++ es) r ∧ (p = true ∨ Flat r) ∧ K (openC r) H
  | .yl id => ∃ cs k ys, xs = some cs ∧ p = true ∧ clE ys H = true ∧ (∀ j ∈ ys, ∃ v, cf.G (.yl j) v) ∧ lookH H (1000000000 + cf.b) = some (.gh k false) ∧ YT cf.P cf.Iv cf.A cf.G id k cs ∧ K (.c (.val (.bool true))) (setL1 H (1000000000 + cf.b) (.gh (k + 1) false)) ∧
      K (.c (.val (.bool false))) (setL1 H (1000000000 + cf.b) (.gh (k + 1) true))
  | _ => False
def ansM (w : World) (NA : Nat → Prop) (p : Option Nat) (v0 v : Value) : Option CV → Prop
  | none => v = v0
  | some r => RepC w (fun b => NA b ∨ p = some b) r v
def MC (P : Program) (f : FuncId) (t : TypeId) (k : Nat) (rows : List (List CV)) (cs : List CV) (R : List (List CV) → Prop) (res : Option CV) : Prop :=
  ∀ (w : World) (NA : Nat → Prop) (p : Option Nat) (v0 : Value) (vs : Array Value), (∀ b, NA b → b < w.heap.size) → (∀ b, p = some b → ¬ NA b) →
    RepB w NA (fun _ => p) (one1 t k rows) 900 (.arr t k rows) → v0.oneCell' = true → OwnV w p k rows.length v0 → vs.size = cs.length →
    (∀ (i : Nat) x v, cs[i]? = some x → vs[i]? = some v → RepC w (fun b => NA b ∨ p = some b) x v) →
    Calls P f (#[v0] ++ vs) w fun e w' => ∃ v rows', e = .returned v ∧ R rows' ∧ rows'.length = rows.length ∧ RepB w' NA (fun _ => p) (one1 t k rows') 900 (.arr t k rows') ∧
      (∀ b cs t', p = some b → w.heap[b]? = some (.cells cs t' (0, 0)) → ∃ cs', w'.heap[b]? = some (.cells cs' t' (0, 0)) ∧ cs'.size = cs.size) ∧ w.grownBy w' p ∧ ansM w' NA p v0 v res
def resM (id len : Nat) : Option CV → SV
  | none => .own id len
  | some r => openC r
def callMP (P : Program) (f : FuncId) (vs : List SV) (H : HL) (K : SV → HL → Prop) (_ : Hold K) : Prop := f ≠ 0 ∧ match vs with
  | .own id len :: ys => ∃ t k rows cs R res, lookH H id = some (.arr t k rows) ∧ len = rows.length ∧ closeAll (lookH H) ys = some cs ∧ ys.all SV.pure = true ∧ MC P f t k rows cs R res ∧
      ∀ rows', R rows' → rows'.length = rows.length → K (resM id len res) (setL1 H id (.arr t k rows'))
  | _ => False
theorem callM_of {P : Program} {f : FuncId} {id len : Nat} {ys : List SV} {H : HL} {K : SV → HL → Prop} {t : TypeId} {k : Nat} {rows : List (List CV)} {cs : List CV} {R : List (List CV) → Prop} {res : Option CV} (h : MC P f t k rows cs R res) (hf : f ≠ 0) (hH : lookH H id = some (.arr t k rows)) (hl : len = rows.length)
    (hc : closeAll (lookH H) ys = some cs) (hp : ys.all SV.pure = true) (hK : ∀ rows', R rows' → rows'.length = rows.length → K (resM id len res) (setL1 H id (.arr t k rows'))) : callMP P f (.own id len :: ys) H K .mk := ⟨hf, t, k, rows, cs, R, res, hH, hl, hc, hp, h, hK⟩
def nextP (v : SV) (H : HL) (K : SV → HL → Prop) (_ : Hold K) : Prop := match v with
  | .it id => ∃ ag kd left cur, lookH H id = some (.it ag kd left cur) ∧ (left = [] → K (.tup [.c (.val (.bool false))]) H) ∧
      ∀ p rest, left.Perm (p :: rest) → K (.tup [.c (.val (.bool true)), .c (keyC ag kd p.1), .c p.2]) (setL1 H id (.it ag kd rest (some p)))
  | _ => False
theorem next_of {id : Nat} {H : HL} {K : SV → HL → Prop} {ag : Bool} {kd : IntKind} {left : List (List Int × CV)} {cur : Option (List Int × CV)} (hH : lookH H id = some (.it ag kd left cur)) (h0 : left = [] → K (.tup [.c (.val (.bool false))]) H)
    (h1 : ∀ p rest, left.Perm (p :: rest) → K (.tup [.c (.val (.bool true)), .c (keyC ag kd p.1), .c p.2]) (setL1 H id (.it ag kd rest (some p)))) : nextP (.it id) H K .mk := ⟨ag, kd, left, cur, hH, h0, h1⟩
def isNilP (neg : Bool) (r : Option (Option Bool)) (K : SV → Prop) (_ : ∀ _ : Unit, True) : Prop := match r with
  | some (some b) => K (.c (.val (.bool (b != neg))))
  | some none => K (.c (.val (.bool true))) ∧ K (.c (.val (.bool false)))
  | none => False
def genD (cf : Cf) (o : SRop) (T : TL) (H : HL) (K : SV → HL → Prop) (_ : Hold K) : Prop := match o.op with
  | .callV x xs => callVP cf (ev (lookT T) x) (closeAll (lookH H) (xs.map (ev (lookT T)))) ((xs.map (ev (lookT T))).all SV.pure) H K .mk
  | .callM f xs => callMP cf.P f (xs.map (ev (lookT T))) H K .mk
  | .nxt x => nextP (ev (lookT T) x) H K .mk
  | .isNil neg kd x => isNilP neg (nilS (lookH H) kd (ev (lookT T) x)) (fun r => K r H) (fun _ => trivial)
  | _ => False
def genP (cf : Cf) (o : SRop) (T : TL) (H : HL) (K : SV → HL → Prop) (_ : Hold K) : Prop := match o.guard with
  | none => genD cf o T H K .mk
  | some (g, q) => boolP (lookT T g) (fun t => guardP t q (fun _ => genD cf o T H K .mk) (fun _ => K .un H) .mk .mk) (fun _ => K .un H) .mk .mk
theorem callV_fn {cf : Cf} {f : FuncId} {fs cs es : List CV} {p : Bool} {H : HL} {K : SV → HL → Prop} {r : CV} (he : entB cf.P f = true) (h : SC cf.P f (fs ++ cs ++ es) r) (hp : p = true ∨ Flat r) (hK : K (openC r) H) : callVP cf (.c (.fn f fs es)) (some cs) p H K .mk := ⟨he, cs, rfl, r, h, hp, hK⟩
theorem callV_yl {cf : Cf} {id k : Nat} {cs : List CV} {H : HL} {K : SV → HL → Prop} (h : YT cf.P cf.Iv cf.A cf.G id k cs) (ys : List Nat) (hn : clE ys H = true) (hys : ∀ j ∈ ys, ∃ v, cf.G (.yl j) v) (hH : lookH H (1000000000 + cf.b) = some (.gh k false))
    (hK : K (.c (.val (.bool true))) (setL1 H (1000000000 + cf.b) (.gh (k + 1) false))) (hK2 : K (.c (.val (.bool false))) (setL1 H (1000000000 + cf.b) (.gh (k + 1) true))) : callVP cf (.yl id) (some cs) true H K .mk := ⟨cs, k, ys, rfl, rfl, hn, hys, hH, h, hK, hK2⟩
def freeOK (b : Nat) (o : SRop) (acc : List (SRop × List Nat)) (T : TL) : Prop := match o.free with
  | [] => True
  | fs => (fs.all fun i => match acc[i]? with
    | some (x, F) => comp2 b x o F (fp (ev (lookT T)) o.op)
    | none => false) = true
def runP (cf : Cf) : List SRop → List (SRop × List Nat) → TL → HL → (Q : TL → HL → Prop) → Hold Q → Prop
  | [], _, T, H, Q, _ => Q T H
  | o :: os, acc, T, H, Q, _ => match o.op.gen with
    | true => genP cf o T H (fun x H' => runP cf os (acc ++ [(o, [])]) (putL T o.dst x) H' Q .mk) .mk
    | false => freeOK cf.b o acc T ∧ outP cf.P cf.b o T H (fun x e => runP cf os (acc ++ [(o, if o.keep then fp (ev (lookT T)) o.op else [])]) (putL T o.dst x) (setL H e) Q .mk) .mk
section
variable {P : Program} {b : Nat}
theorem doesP_does {o : SRop} {T : TL} {H : HL} {K : SV → Option (Nat × Blk) → Prop} (h : doesP P b o T H K .mk) : ∃ x e, DoesS P b o (lookT T) (lookH H) x e ∧ K x e := by
  unfold doesP at h
  split at h
  · rename_i f xs hop
    obtain ⟨cs, hcs, r, h1, h2, h3⟩ := h
    exact ⟨_, _, .call f xs cs r hop hcs h1 h2, h3⟩
  · rename_i e k z len ps hop
    rw [← hop] at h
    rcases h with h | h
    · unfold optK at h
      split at h
      case h_2 => exact h.elim
      case h_1 x e hx => exact ⟨x, e, .act x e hx, h⟩
    · split at h
      case h_2 => exact h.elim
      case h_1 i l j t k' rows hx =>
        rcases h with h | h
        · exact ⟨_, _, .frz e k z len ps i l j t k' rows _ (.inl rfl) hop hx, h⟩
        · exact ⟨_, _, .frz e k z len ps i l j t k' rows _ (.inr rfl) hop hx, h⟩
  · rename_i e k bytes s z hop
    rw [← hop] at h
    rcases h with h | h
    · unfold optK at h
      split at h
      case h_2 => exact h.elim
      case h_1 x e hx => exact ⟨x, e, .act x e hx, h⟩
    · split at h
      case h_2 => exact h.elim
      case h_1 i l j t k' rows hx => exact ⟨_, _, .frzA e k bytes s z i l j t k' rows hop hx, h⟩
  · rename_i nm x0 xs hop
    obtain ⟨t, x, f, cs, r, h1, h2, h3, h4, h5, h6, h7⟩ := h
    exact ⟨_, _, .callI nm x0 xs t f x cs r hop h1 h2 h3 h4 h5 h6, h7⟩
  · rename_i f xs hop
    rcases h with ⟨cs, hcs, r, h1, h2, h3⟩ | ⟨cs, sh, t, k, rows, h1, h2, h3, h4, h5⟩ | ⟨v0, vr, id, cs, sh, t, k, rows, r, h1, h2, h3, h4, h5, h6, h7, h8⟩
    · exact ⟨_, _, .callC f xs cs r hop hcs h1 h2, h3⟩
    · exact ⟨_, _, .callN f xs cs sh t k rows hop h1 h2 h3 h4, h5⟩
    · cases xs with
      | nil => cases h1
      | cons x0 xr =>
        simp only [List.map_cons, List.cons.injEq] at h1
        obtain ⟨h1, h1'⟩ := h1
        subst h1'
        exact ⟨_, _, .callO f x0 xr id cs sh t k rows r hop (h1.trans h2) (by rw [h1]; exact h3) h4 h5 h6 h7, h8⟩
  · unfold optK at h
    split at h
    case h_2 => exact h.elim
    case h_1 x e hx => exact ⟨x, e, .act x e hx, h⟩
theorem outP_out {o : SRop} {T : TL} {H : HL} {K : SV → Option (Nat × Blk) → Prop} (h : outP P b o T H K .mk) : ∃ x e, OutS P b o (lookT T) (lookH H) x e ∧ K x e := by
  unfold outP at h
  unfold OutS
  split at h
  · rename_i hg
    (try rw [hg]); exact doesP_does h
  · rename_i g q hg
    (try rw [hg])
    unfold boolP at h
    split at h
    case h_3 => exact h.elim
    case h_2 u hu => exact ⟨.un, none, ⟨false, by rw [hu]; rfl, ⟨rfl, rfl⟩⟩, h⟩
    case h_1 t ht =>
    by_cases htb : t = q
    · obtain ⟨x, e, h1, h2⟩ := doesP_does (h.1 htb)
      exact ⟨x, e, ⟨true, by rw [ht]; simp [goes, htb], by rw [if_pos rfl]; exact h1⟩, h2⟩
    · exact ⟨.un, none, ⟨false, by rw [ht]; simp [goes, htb], by rw [if_neg (by decide)]; exact ⟨rfl, rfl⟩⟩, h.2 htb⟩
def kept (p : SRop × List Nat) : SRop × List Nat := (p.1, if p.1.keep then p.2 else [])
inductive Seg (cf : Cf) (Q : TL → HL → Prop) : List (SRop × List Nat) → List SRop → TL → HL → Prop
  | done (acc : List (SRop × List Nat)) (L : List (SRop × List Nat)) (T : TL) (H : HL) (T' : TL) (H' : HL) : (∀ p ∈ L, p.1.op.gen = false) → Runs cf.P cf.b L (lookT T, lookH H) (lookT T', lookH H') →
      (∀ (j : Nat) o F, L[j]? = some (o, F) → ∀ i ∈ o.free, ∃ x G, (acc ++ L.map kept)[i]? = some (x, G) ∧ comp2 cf.b x o G F = true) → Q T' H' → Seg cf Q acc (L.map (·.1)) T H
  | gen (acc : List (SRop × List Nat)) (L : List (SRop × List Nat)) (g : SRop) (os : List SRop) (T : TL) (H : HL) (T' : TL) (H' : HL) (R : SV → HL → Prop) : (∀ p ∈ L, p.1.op.gen = false) → Runs cf.P cf.b L (lookT T, lookH H) (lookT T', lookH H') →
      (∀ (j : Nat) o F, L[j]? = some (o, F) → ∀ i ∈ o.free, ∃ x G, (acc ++ L.map kept)[i]? = some (x, G) ∧ comp2 cf.b x o G F = true) → g.op.gen = true → genP cf g T' H' R .mk →
      (∀ x H2, R x H2 → Seg cf Q (acc ++ L.map kept ++ [(g, [])]) os (putL T' g.dst x) H2) → Seg cf Q acc (L.map (·.1) ++ g :: os) T H
theorem seg_cons {cf : Cf} {Q : TL → HL → Prop} {acc : List (SRop × List Nat)} {o : SRop} {os : List SRop} {T : TL} {H : HL} {x : SV} {e : Option (Nat × Blk)} (hg : o.op.gen = false) (hf : freeOK cf.b o acc T) (hs : OutS cf.P cf.b o (lookT T) (lookH H) x e)
    (h : Seg cf Q (acc ++ [(o, if o.keep then fp (ev (lookT T)) o.op else [])]) os (putL T o.dst x) (setL H e)) : Seg cf Q acc (o :: os) T H := by
  have step : Step cf.P cf.b o (lookT T, lookH H) (lookT (putL T o.dst x), lookH (setL H e)) := ⟨x, e, hs, by rw [lookT_put, lookH_set]⟩
  have free : ∀ (L : List (SRop × List Nat)), (∀ (j : Nat) o' F, L[j]? = some (o', F) → ∀ i ∈ o'.free, ∃ x G, (acc ++ [(o, if o.keep then fp (ev (lookT T)) o.op else [])] ++ L.map kept)[i]? = some (x, G) ∧ comp2 cf.b x o' G F = true) →
      ∀ (j : Nat) o' F, ((o, fp (ev (lookT T)) o.op) :: L)[j]? = some (o', F) → ∀ i ∈ o'.free, ∃ x G, (acc ++ ((o, fp (ev (lookT T)) o.op) :: L).map kept)[i]? = some (x, G) ∧ comp2 cf.b x o' G F = true := fun L hL j o' F hj i hi => by
    cases j with
    | zero =>
      simp at hj
      obtain ⟨rfl, rfl⟩ := hj
      unfold freeOK at hf
      split at hf
      · rename_i hq; rw [hq] at hi; cases hi
      · rw [List.all_eq_true] at hf
        have := hf i hi
        split at this
        · rename_i y G hy
          exact ⟨y, G, by rw [List.getElem?_append_left (List.getElem?_eq_some_iff.1 hy).1]; exact hy, this⟩
        · cases this
    | succ j =>
      obtain ⟨y, G, hy, hc⟩ := hL j o' F (by simpa using hj) i hi
      refine ⟨y, G, ?_, hc⟩
      rw [List.map_cons, ← hy, List.append_assoc]
      rfl
  cases h with
  | done _ L _ _ T' H' h1 h2 h3 h4 =>
    exact .done acc ((o, fp (ev (lookT T)) o.op) :: L) T H T' H' (fun p hp => by
      rcases List.mem_cons.1 hp with rfl | hp
      · exact hg
      · exact h1 p hp) (.cons o L _ _ _ step h2) (free L h3) h4
  | gen _ L g os' _ _ T' H' R h1 h2 h3 h4 h5 h6 =>
    exact .gen acc ((o, fp (ev (lookT T)) o.op) :: L) g os' T H T' H' R (fun p hp => by
      rcases List.mem_cons.1 hp with rfl | hp
      · exact hg
      · exact h1 p hp) (.cons o L _ _ _ step h2) (free L h3) h4 h5 (fun x H2 hx => by
        have := h6 x H2 hx
        simp only [List.append_assoc, List.cons_append, List.nil_append] at this
        simp only [List.map_cons, List.append_assoc, List.cons_append]
        exact this)
theorem runP_seg {cf : Cf} : ∀ (os : List SRop) (acc : List (SRop × List Nat)) (T : TL) (H : HL) (Q : TL → HL → Prop), runP cf os acc T H Q .mk → Seg cf Q acc os T H
  | [], acc, T, H, Q, h => .done acc [] T H T H (fun p hp => by cases hp) (.nil _) (fun j o F hj => by simp at hj) h
  | o :: os, acc, T, H, Q, h => by
    unfold runP at h
    split at h
    · rename_i hg
      exact .gen acc [] o os T H T H _ (fun p hp => by cases hp) (.nil _) (fun j o F hj => by simp at hj) hg h (fun x H2 hx => by
        simp only [List.map_nil, List.append_nil]
        exact runP_seg os _ _ _ Q hx)
    · rename_i hg
      obtain ⟨hf, h⟩ := h
      obtain ⟨x, e, h1, h2⟩ := outP_out h
      exact seg_cons hg hf h1 (runP_seg os _ _ _ Q h2)
def maskOf (ms : List Nat) (o : Oper) : Nat := o.after.toList.foldl (fun s e => if Region.binds .any e then s ||| 2 ^ e.on ||| ms.getD e.on 0 else s) 0
def masks : List Oper → List Nat → List Nat
  | [], ms => ms
  | o :: os, ms => masks os (ms ++ [maskOf ms o])
theorem maskOf_spec (ms : List Nat) (o : Oper) {i : Nat} (h : (maskOf ms o).testBit i = true) : ∃ e ∈ o.after, Region.binds .any e = true ∧ (i = e.on ∨ (ms.getD e.on 0).testBit i = true) := by
  have key : ∀ (l : List Edge) (s : Nat), (l.foldl (fun s e => if Region.binds .any e then s ||| 2 ^ e.on ||| ms.getD e.on 0 else s) s).testBit i = true → s.testBit i = true ∨ ∃ e ∈ l, Region.binds .any e = true ∧ (i = e.on ∨ (ms.getD e.on 0).testBit i = true) := by
    intro l
    induction l with
    | nil => intro s h; exact .inl h
    | cons e l ih =>
      intro s h
      rw [List.foldl_cons] at h
      rcases ih _ h with h1 | ⟨e', he', h1⟩
      · by_cases hb : Region.binds .any e = true
        · rw [if_pos hb, Nat.testBit_or, Nat.testBit_or, Bool.or_eq_true, Bool.or_eq_true] at h1
          rcases h1 with (h1 | h1) | h1
          · exact .inl h1
          · rw [Nat.testBit_two_pow] at h1
            exact .inr ⟨e, by simp, hb, .inl (by simpa using (of_decide_eq_true h1).symm)⟩
          · exact .inr ⟨e, by simp, hb, .inr h1⟩
        · rw [if_neg hb] at h1; exact .inl h1
      · exact .inr ⟨e', by simp [he'], h1⟩
  rcases key o.after.toList 0 h with h1 | ⟨e, he, h1⟩
  · simp at h1
  · exact ⟨e, by simpa using he, h1⟩
theorem masks_get : ∀ (os : List Oper) (ms : List Nat) (j : Nat) (o : Oper), os[j]? = some o → ∃ ms', ms' <+: masks os ms ∧ ms'.length = ms.length + j ∧ (masks os ms).getD (ms.length + j) 0 = maskOf ms' o := by
  have pre : ∀ (os : List Oper) (ms : List Nat), ms <+: masks os ms := by
    intro os
    induction os with
    | nil => intro ms; exact List.prefix_refl _
    | cons o os ih => intro ms; exact (List.prefix_append ms _).trans (ih _)
  intro os
  induction os with
  | nil => intro ms j o h; simp at h
  | cons o' os ih =>
    intro ms j o h
    cases j with
    | zero =>
      simp at h; subst h
      refine ⟨ms, pre (o' :: os) ms, rfl, ?_⟩
      obtain ⟨t, ht⟩ := pre os (ms ++ [maskOf ms o'])
      show (masks os (ms ++ [maskOf ms o'])).getD _ 0 = _
      rw [← ht]
      simp [List.getD_eq_getElem?_getD]
    | succ j =>
      obtain ⟨ms', h1, h2, h3⟩ := ih (ms ++ [maskOf ms o']) j o (by simpa using h)
      refine ⟨ms', h1, by simp at h2; omega, ?_⟩
      show (masks os (ms ++ [maskOf ms o'])).getD _ 0 = _
      rw [← h3]; congr 1; simp; omega
theorem masks_spec (os : List Oper) {j : Nat} {o : Oper} (hj : os[j]? = some o) {i : Nat} (h : ((masks os []).getD j 0).testBit i = true) : ∃ e ∈ o.after, Region.binds .any e = true ∧ (i = e.on ∨ ((masks os []).getD e.on 0).testBit i = true) := by
  obtain ⟨ms', h1, h2, h3⟩ := masks_get os [] j o hj
  simp at h3
  rw [List.getD_eq_getElem?_getD, h3] at h
  obtain ⟨e, he, hb, hor⟩ := maskOf_spec ms' o h
  refine ⟨e, he, hb, hor.imp id fun ht => ?_⟩
  obtain ⟨t, ht'⟩ := h1
  rw [← ht']
  rw [List.getD_eq_getElem?_getD] at ht ⊢
  cases hg : ms'[e.on]? with
  | none => rw [hg] at ht; simp at ht
  | some m =>
    rw [List.getElem?_append_left (List.getElem?_eq_some_iff.1 hg).1, hg]
    rw [hg] at ht; exact ht
end
end Go.Proofs.YtboifcengmgcaaaGreat
/- Regions of the shadow: what is shown of some blocks holds beside others. -/
namespace Go.Proofs.YtboifcengmgcaaaGreat
open Go.RowKit
theorem act_needs {g : Operand → SV} {H : Nat → Option Blk} {site : Nat} {so : SOp} {r : SV × Option (Nat × Blk)} (h : actF site g H so = some r) : ∀ id ∈ fp g so, H id ≠ none := by
  intro id hid hn
  cases so with
  | load ag n x =>
    simp only [fp] at hid
    simp only [actF] at h
    cases hc : g x <;> rw [hc] at h hid <;> simp [refs] at hid <;> first
      | (subst hid; simp [hn] at h; done)
      | (simp at h; done)
  | store n x z =>
    simp only [fp] at hid
    simp only [actF] at h
    cases hc : g x <;> rw [hc] at h hid <;> simp [refs] at hid
    all_goals cases hz : (g z).cells <;> rw [hz] at h
    all_goals first
      | (simp at h; done)
      | (subst hid; simp only [hn] at h; split at h <;> cases h)
  | fld off x =>
    simp only [fp] at hid
    simp only [actF] at h
    cases hc : g x <;> rw [hc] at h hid <;> simp [refP] at hid <;> first
      | (subst hid; simp [hn] at h; done)
      | (simp at h; done)
  | idxS k x i =>
    simp only [fp] at hid
    simp only [actF] at h
    split at h
    case h_2 => cases h
    cases hc : g x <;> rw [hc] at h hid <;> simp [refs] at hid <;> first
      | (subst hid; simp [hn] at h; done)
      | (simp at h; done)
  | idxA len k x i =>
    simp only [fp] at hid
    simp only [actF] at h
    split at h
    case h_2 => cases h
    split at h
    case isFalse => cases h
    cases hc : g x <;> rw [hc] at h hid <;> simp [refP] at hid <;> first
      | (subst hid; simp [hn] at h; done)
      | (simp at h; done)
  | len x =>
    simp only [fp] at hid
    simp only [actF] at h
    cases hc : g x <;> rw [hc] at h hid <;> simp [refs] at hid <;> first
      | (subst hid; simp [hn] at h; done)
      | (simp at h; done)
  | append e k bytes s x =>
    simp only [fp, List.mem_append] at hid
    simp only [actF] at h
    cases hr : rowsOf H k (g x) with
    | none => rw [hr] at h; simp at h
    | some src =>
      rw [hr] at h
      rcases hid with hid | hid
      · cases hc : g s <;> rw [hc] at h hid <;> simp [refs] at hid <;> first
          | (subst hid; simp [hn] at h; done)
          | (simp at h; done)
      · cases hc : g x <;> rw [hc] at hr hid <;> simp [refs] at hid <;> first
          | (subst hid; simp [rowsOf, hn] at hr; done)
          | (simp [rowsOf] at hr; done)
  | call f xs => simp [actF] at h
  | callG f xs => simp [actF] at h
  | callI nm x xs => simp [actF] at h
  | mapUpd ag kd m k v =>
    simp only [fp] at hid
    simp only [actF] at h
    split at h
    case h_2 => cases h
    case h_1 i key x hm hk hv =>
    rw [hm] at hid
    simp [refs] at hid
    subst hid
    simp [hn] at h
  | lookup ag kd z ok m k =>
    simp only [fp] at hid
    simp only [actF] at h
    split at h
    case h_2 => cases h
    case h_1 es key he hk =>
    cases hc : g m <;> rw [hc] at he hid <;> simp [refs] at hid <;> first
      | (subst hid; simp [entsS, hn] at he; done)
      | (simp [entsS] at he; done)
  | mlen x =>
    simp only [fp] at hid
    simp only [actF] at h
    cases hc : g x <;> rw [hc] at h hid <;> simp [refs] at hid <;> first
      | (subst hid; simp [hn] at h; done)
      | (simp at h; done)
  | ent x =>
    simp only [fp] at hid
    simp only [actF] at h
    cases hc : g x <;> rw [hc] at h hid <;> simp [refs] at hid <;> first
      | (subst hid; simp [hn] at h; done)
      | (simp at h; done)
  | _ => simp [fp] at hid
section
variable {P : Program} {b : Nat} {F : Nat → Option Blk}
theorem act_tot {g : Operand → SV} {H : Nat → Option Blk} {site : Nat} {so : SOp} {r : SV × Option (Nat × Blk)} (hs : al so = true → F site = none) (h : actF site g H so = some r) : actF site g (tot F H) so = some r := by
  have hn := act_needs h
  rw [← h]
  refine (act_congr (fun _ _ => rfl) (fun id hid => ?_) (fun hal => ?_)).symm
  · cases hB : H id with
    | none => exact absurd hB (hn id hid)
    | some B => exact (tot_some hB).symm
  · cases hB : H site with
    | none => rw [tot_none hB, hs hal]
    | some B => exact (tot_some hB).symm
theorem closeP_tot {H : Nat → Option Blk} {x : SV} {y : CV} (h : closeP H x = some y) : closeP (tot F H) x = some y := by
  cases x with
  | own id len =>
    simp only [closeP] at h ⊢
    cases hB : H id with
    | none => rw [hB] at h; cases h
    | some B => rw [tot_some hB]; rw [hB] at h; exact h
  | ptr id j =>
    simp only [closeP] at h ⊢
    cases hB : H id with
    | none => rw [hB] at h; cases h
    | some B => rw [tot_some hB]; rw [hB] at h; exact h
  | om id =>
    simp only [closeP] at h ⊢
    cases hB : H id with
    | none => rw [hB] at h; cases h
    | some B => rw [tot_some hB]; rw [hB] at h; exact h
  | _ => exact h
theorem closePL_tot {H : Nat → Option Blk} : ∀ {xs : List SV} {ys : List CV}, closePL H xs = some ys → closePL (tot F H) xs = some ys
  | [], _, h => h
  | x :: xs, ys, h => by
    simp only [closePL] at h ⊢
    split at h
    case h_2 => cases h
    case h_1 y zs h1 h2 => rw [closeP_tot h1, closePL_tot h2]; exact h
theorem close1_tot {H : Nat → Option Blk} {x : SV} {y : CV} (h : close1 H x = some y) : close1 (tot F H) x = some y := by
  cases x with
  | fn f fs cs =>
    simp only [close1] at h ⊢
    split at h
    case h_2 => cases h
    case h_1 y zs h1 h2 => rw [closePL_tot h1, closePL_tot h2]; exact h
  | own id len => exact closeP_tot (x := .own id len) h
  | ptr id j => exact closeP_tot (x := .ptr id j) h
  | om id => exact closeP_tot (x := .om id) h
  | _ => exact h
theorem closeL_tot {H : Nat → Option Blk} : ∀ {xs : List SV} {ys : List CV}, closeL H xs = some ys → closeL (tot F H) xs = some ys
  | [], _, h => h
  | x :: xs, ys, h => by
    simp only [closeL] at h ⊢
    split at h
    case h_2 => cases h
    case h_1 y zs h1 h2 => rw [close1_tot h1, closeL_tot h2]; exact h
theorem close_tot {H : Nat → Option Blk} {x : SV} {y : CV} (h : close H x = some y) : close (tot F H) x = some y := by
  cases x with
  | agg xs =>
    simp only [close, Option.map_eq_some_iff] at h ⊢
    obtain ⟨ys, h1, h2⟩ := h
    exact ⟨ys, closeL_tot h1, h2⟩
  | own id len => exact close1_tot (x := .own id len) h
  | ptr id j => exact close1_tot (x := .ptr id j) h
  | om id => exact close1_tot (x := .om id) h
  | fn f fs cs => exact close1_tot (x := .fn f fs cs) h
  | _ => exact h
theorem closeAll_tot {H : Nat → Option Blk} : ∀ {xs : List SV} {ys : List CV}, closeAll H xs = some ys → closeAll (tot F H) xs = some ys
  | [], _, h => h
  | x :: xs, ys, h => by
    simp only [closeAll] at h ⊢
    split at h
    case h_2 => cases h
    case h_1 y zs h1 h2 => rw [close_tot h1, closeAll_tot h2]; exact h
theorem does_tot {o : SRop} {T : Nat → SV} {H : Nat → Option Blk} {x : SV} {e : Option (Nat × Blk)} (hs : al o.op = true → F (b + o.site) = none) (h : DoesS P b o T H x e) : DoesS P b o T (tot F H) x e := by
  cases h with
  | act x e h => exact .act x e (act_tot hs h)
  | frz e k zs len ps i l j t k' rows y hy h1 h2 => exact .frz e k zs len ps i l j t k' rows y hy h1 (act_tot hs h2)
  | frzA e k by' s z i l j t k' rows h1 h2 => exact .frzA e k by' s z i l j t k' rows h1 (act_tot hs h2)
  | call f xs cs r h1 h2 h3 h4 => exact .call f xs cs r h1 (closeAll_tot h2) h3 h4
  | callC f xs cs r h1 h2 h3 h4 => exact .callC f xs cs r h1 (closeAll_tot h2) h3 h4
  | callI nm x0 xs t f x cs r h1 hx hm hb h2 h3 h4 => exact .callI nm x0 xs t f x cs r h1 hx hm hb (closeAll_tot h2) h3 h4
  | callN f xs cs sh t k rows h1 h2 h3 h4 h5 => exact .callN f xs cs sh t k rows h1 (closeAll_tot h2) h3 (by rw [tot_none h4]; exact hs (by rw [h1]; rfl)) h5
  | callO f x0 xr id cs sh t k rows r h1 h2 h3 h4 h5 h6 h7 => exact .callO f x0 xr id cs sh t k rows r h1 h2 h3 (tot_some h4) (closeAll_tot h5) h6 h7
theorem out_tot {o : SRop} {T : Nat → SV} {H : Nat → Option Blk} {x : SV} {e : Option (Nat × Blk)} (hs : al o.op = true → F (b + o.site) = none) (h : OutS P b o T H x e) : OutS P b o T (tot F H) x e := by
  unfold OutS at *
  split
  · rename_i hq; rw [hq] at h; exact does_tot hs h
  · rename_i g q hq
    rw [hq] at h
    obtain ⟨t, h1, h2⟩ := h
    refine ⟨t, h1, ?_⟩
    split
    · rename_i ht; rw [if_pos ht] at h2; exact does_tot hs h2
    · rename_i ht; rw [if_neg ht] at h2; exact h2
theorem runs_tot : ∀ {L : List (SRop × List Nat)} {S S' : SS}, (∀ p ∈ L, al p.1.op = true → F (b + p.1.site) = none) → Runs P b L S S' → Runs P b L (S.1, tot F S.2) (S'.1, tot F S'.2) := by
  intro L S S' hs h
  induction h with
  | nil S => exact .nil _
  | cons o L S S1 S2 hstep _ ih =>
    obtain ⟨x, e, h1, rfl⟩ := hstep
    refine .cons o L (S.1, tot F S.2) _ _ ⟨x, e, out_tot (hs _ List.mem_cons_self) h1, rfl⟩ ?_
    have := ih (fun p hp => hs p (by simp [hp]))
    simp only [tot_set] at this
    exact this
theorem DoesS.how {o : SRop} {T : Nat → SV} {H : Nat → Option Blk} {x : SV} {id : Nat} {B : Blk} (h : DoesS P b o T H x (some (id, B))) : (∃ r, actF (b + o.site) (ev T) H o.op = some (r, some (id, B))) ∨ id = b + o.site ∨ ∃ t k rows, H id = some (.arr t k rows) := by
  cases h with
  | act _ _ hact => exact .inl ⟨_, hact⟩
  | frzA e k by' s z i l j t k' rows h1 h2 => exact .inr (act_app h1 h2).2.2
  | callN f xs cs sh t k rows h1 h2 h3 h4 h5 => exact .inr (.inl rfl)
  | callO f x0 xr id cs sh t k rows r h1 h2 h3 h4 h5 h6 h7 => exact .inr (.inr ⟨t, k, rows, h4⟩)
theorem OutS.how {o : SRop} {T : Nat → SV} {H : Nat → Option Blk} {x : SV} {id : Nat} {B : Blk} (h : OutS P b o T H x (some (id, B))) : (∃ r, actF (b + o.site) (ev T) H o.op = some (r, some (id, B))) ∨ id = b + o.site ∨ ∃ t k rows, H id = some (.arr t k rows) := by
  unfold OutS at h
  split at h
  · exact h.how
  · obtain ⟨t, _, h⟩ := h
    split at h
    · exact h.how
    · cases h.2
theorem DoesS.there {o : SRop} {T : Nat → SV} {H : Nat → Option Blk} {x : SV} {id : Nat} {B : Blk} (h : DoesS P b o T H x (some (id, B))) (hw : wr o.op = true) (hi : id ∈ fp (ev T) o.op) : H id ≠ none ∨ (al o.op = true ∧ id = b + o.site) := by
  cases h with
  | act _ _ hact => exact .inl (act_needs hact id hi)
  | frzA e k by' s z i l j t k' rows h1 h2 => exact .inl (act_needs h2 id hi)
  | callN f xs cs sh t k rows h1 h2 h3 h4 h5 => exact .inr ⟨by rw [h1]; rfl, rfl⟩
  | callO f x0 xr id cs sh t k rows r h1 h2 h3 h4 h5 h6 h7 => left; rw [h4]; simp
theorem OutS.there {o : SRop} {T : Nat → SV} {H : Nat → Option Blk} {x : SV} {id : Nat} {B : Blk} (h : OutS P b o T H x (some (id, B))) (hw : wr o.op = true) (hi : id ∈ fp (ev T) o.op) : H id ≠ none ∨ (al o.op = true ∧ id = b + o.site) := by
  unfold OutS at h
  split at h
  · exact h.there hw hi
  · obtain ⟨t, _, h⟩ := h
    split at h
    · exact h.there hw hi
    · cases h.2
theorem runs_dom : ∀ {L : List (SRop × List Nat)} {S S' : SS}, Runs P b L S S' → ∀ i, S'.2 i ≠ none → S.2 i ≠ none ∨ ∃ p ∈ L, al p.1.op = true ∧ i = b + p.1.site := by
  intro L S S' h
  induction h with
  | nil S => exact fun i hi => .inl hi
  | cons o L S S1 S2 hstep _ ih =>
    intro i hi
    rcases ih i hi with h1 | ⟨p, hp, h2⟩
    · obtain ⟨x, e, ho, rfl⟩ := hstep
      cases e with
      | none => exact .inl h1
      | some q =>
        obtain ⟨id, B⟩ := q
        by_cases hid : i = id
        · subst hid
          rcases ho.eff with ⟨a1, a2⟩ | ⟨a1, a2⟩
          · exact .inr ⟨_, List.mem_cons_self, a1, a2⟩
          · rcases ho.there a1 a2 with h | ⟨h3, h4⟩
            · exact .inl h
            · exact .inr ⟨_, List.mem_cons_self, h3, h4⟩
        · left
          simp only [setH, if_neg hid] at h1
          exact h1
    · exact .inr ⟨p, by simp [hp], h2⟩
theorem runs_gh : ∀ {L : List (SRop × List Nat)} {S S' : SS}, Runs P b L S S' → ∀ i, (∀ p ∈ L, i ≠ b + p.1.site) → (S.2 i = none ∨ ∃ k s, S.2 i = some (.gh k s)) → S'.2 i = S.2 i := by
  intro L S S' h
  induction h with
  | nil S => exact fun i _ _ => rfl
  | cons o L S S1 S2 hstep _ ih =>
    intro i hi hg
    have key : S1.2 i = S.2 i := by
      obtain ⟨x, e, ho, rfl⟩ := hstep
      cases e with
      | none => rfl
      | some q =>
        obtain ⟨id, B⟩ := q
        by_cases hid : i = id
        · subst hid
          exfalso
          rcases ho.eff with ⟨a1, a2⟩ | ⟨a1, a2⟩
          · exact hi _ List.mem_cons_self a2
          · have hact : ∃ r, actF (b + o.site) (ev S.1) S.2 o.op = some (r, some (i, B)) := by
              rcases ho.how with h | h | ⟨t, k, rows, h⟩
              · exact h
              · exact absurd h (hi _ List.mem_cons_self)
              · rcases hg with hg | ⟨k', s', hg⟩
                · rw [h] at hg; cases hg
                · rw [h] at hg; cases hg
            obtain ⟨r, hact⟩ := hact
            have hn := act_needs hact i a2
            rcases hg with hg | ⟨k, s, hg⟩
            · exact hn hg
            · -- no operation writes such a block
              generalize o.op = so at *
              cases so with
              | store n x z =>
                simp only [fp] at a2
                simp only [actF] at hact
                cases hc : ev S.1 x <;> rw [hc] at hact a2 <;> simp [refs] at a2
                all_goals cases hz : (ev S.1 z).cells <;> rw [hz] at hact
                all_goals first
                  | (simp at hact; done)
                  | (subst a2; simp only [hg] at hact; split at hact <;> cases hact)
              | append e k' bytes s' x =>
                simp only [actF] at hact
                split at hact
                case h_2 => cases hact
                case h_1 src hsrc =>
                split at hact
                · rename_i i' len hs
                  split at hact
                  · split at hact <;> simp at hact
                    obtain ⟨_, rfl, _⟩ := hact
                    simp_all
                  · cases hact
                · split at hact
                  · split at hact <;> simp at hact
                    obtain ⟨_, rfl, _⟩ := hact
                    simp_all
                  · cases hact
                · split at hact
                  · split at hact <;> simp at hact
                    obtain ⟨_, rfl, _⟩ := hact
                    simp_all
                  · cases hact
                · cases hact
              | mapUpd ag kd m k' v =>
                simp only [actF] at hact
                split at hact
                case h_2 => cases hact
                case h_1 i' key x hm hk hv =>
                split at hact
                · split at hact <;> simp at hact
                  obtain ⟨_, rfl, _⟩ := hact
                  simp_all
                · cases hact
              | callG f xs => simp [actF] at hact
              | _ => simp [wr] at a1
        · simp [setH, hid]
    rw [ih i (fun p hp => hi p (by simp [hp])) (by rw [key]; exact hg), key]
end
end Go.Proofs.YtboifcengmgcaaaGreat
/- Regions of the shadow, V: regions compiled, and their law. -/
namespace Go.Proofs.YtboifcengmgcaaaGreat
open Go.RowKit
def Defs (lo : Nat) (NA : Nat → Prop) (ρ : Nat → Option Nat) (H : Nat → Option Blk) (ds : List Deferred) (w : World) : Prop :=
  ∃ Ds : List Nat, ds = Ds.map (fun D => { target := .collected D, args := #[] }) ∧ Ds.Nodup ∧ ∀ D ∈ Ds, lo ≤ D ∧ D < w.heap.size ∧ ¬ Mut NA ρ H D ∧ w.heap[D]? = some (.deferred (some []))
theorem Defs.move {lo : Nat} {NA : Nat → Prop} {ρ ρ' : Nat → Option Nat} {H H' : Nat → Option Blk} {ds : List Deferred} {w w' : World} (h : Defs lo NA ρ H ds w) (t : Trans NA w ρ H w' ρ' H') : Defs lo NA ρ' H' ds w' := by
  obtain ⟨Ds, h1, h2, h3⟩ := h
  refine ⟨Ds, h1, h2, fun D hD => ?_⟩
  obtain ⟨l, a, b, c⟩ := h3 D hD
  obtain ⟨e1, e2⟩ := t.1.same D a b
  exact ⟨l, Nat.lt_of_lt_of_le a t.1.size, e2, e1.trans c⟩
structure Cx where
  w0 : World
  N0 : Nat → Prop
  NA : Nat → Prop
  ws : World
  ρs : Nat → Option Nat
  Hs : Nat → Option Blk
  na : ∀ b, NA b → b < w0.heap.size
  nn : ∀ b, NA b → ¬ N0 b
structure StAt (cf : Cf) (cx : Cx) (T : TL) (H : HL) (a : Act) (w : World) (F : Nat → Option Blk) (ρ : Nat → Option Nat) : Prop where
  iv : cf.Iv (kOf cf.b H).1 (kOf cf.b H).2 F
  cl : ClosedF F
  out : ∀ i, Rg cf.b i → F i = none
  ol : cf.o = true → ∀ i, Up cf.b i → F i = none
  dis : ∀ i, lookH H i ≠ none → F i = none
  yd : lookH H (1000000000 + cf.b) = none ∨ ∃ k s, lookH H (1000000000 + cf.b) = some (.gh k s)
  av : ∀ i, lookH H i ≠ none → Rg cf.b i
  dm : ∀ i, F i ≠ none → cx.Hs i ≠ none ∨ cf.A i
  rep : RepW cx.w0 cx.N0 cx.NA cf.n ρ (lookT T) (tot F (lookH H)) a w
  gh : ∀ x v, cf.G x v → RepS w cx.NA ρ (tot F (lookH H)) x v
  tr : Trans cx.NA cx.ws cx.ρs cx.Hs w ρ (tot F (lookH H))
  df : Defs cx.ws.heap.size cx.NA ρ (tot F (lookH H)) a.defers w
theorem StAt.na {cf : Cf} {cx : Cx} {T : TL} {H : HL} {a : Act} {w : World} {F : Nat → Option Blk} {ρ : Nat → Option Nat} (h : StAt cf cx T H a w F ρ) (hA : ∀ i, Rg cf.b i → ¬ cf.A i) : ∀ i, cf.A i → lookH H i = none := fun i hi => by
  cases hB : lookH H i with
  | none => rfl
  | some B => exact absurd hi (hA i (h.av i (by rw [hB]; simp)))
def RepSt (cf : Cf) (cx : Cx) (T : TL) (H : HL) (a : Act) (w : World) : Prop := ∃ F ρ, StAt cf cx T H a w F ρ
structure Cf.ok (cf : Cf) : Prop where
  n : cf.n ≤ 1000
  b : cf.b + 1000 ≤ 1000000000
  A : ∀ i, Rg cf.b i → ¬ cf.A i
  A2 : cf.o = true → ∀ i, Up cf.b i → ¬ cf.A i
  G : ∀ x v, cf.G x v → x.inP (fun i => Rg cf.b i → i ∈ cf.K)
theorem Runs.foot {P : Program} {b : Nat} {L : List (SRop × List Nat)} {S S' : SS} (h : Runs P b L S S') : ∀ p ∈ L, ∃ g, p.2 = fp g p.1.op := by
  induction h with
  | nil => intro p hp; cases hp
  | cons o L S S1 S2 _ _ ih =>
    intro p hp
    rcases List.mem_cons.1 hp with rfl | hp
    · exact ⟨_, rfl⟩
    · exact ih p hp
theorem not_ready {ops : Array Oper} {listed : Array Bool} (ord : Nat → Nat → Bool) (hord : ∀ j o, ops[j]? = some o → ∀ i, ord i j = true → ∃ e ∈ o.after, Region.binds .any e = true ∧ (i = e.on ∨ ord i e.on = true))
    (hcl : ∀ j, listed.getD j false = true → ∀ i, ord i j = true → listed.getD i false = true) {i j : Nat} (hij : ord i j = true) (hi : ¬ listed.getD i false = true) : j ∉ Region.ready .any ops listed := fun hj => by
  obtain ⟨_, o, ho, hall⟩ := mem_ready.1 hj
  obtain ⟨e, he, hb, hor⟩ := hord j o ho i hij
  have h1 := hall e he hb
  rcases hor with h | h
  · rw [h] at hi; exact hi h1
  · exact hi (hcl e.on h1 i h)
theorem any_sound {P : Program} {M : List FuncId} {b : Nat} {w0 : World} {N0 NA : Nat → Prop} (hna : ∀ b, NA b → b < w0.heap.size) {n : Nat} {ops : Array Oper} {Q : Exit → Act → World → Prop} {S' : SS} {r : Option Nat} {md : Nat} (rest : List Nat) (d : Nat) (ord : Nat → Nat → Bool)
    (hord : ∀ j o, ops[j]? = some o → ∀ i, ord i j = true → ∃ e ∈ o.after, Region.binds .any e = true ∧ (i = e.on ∨ ord i e.on = true)) (hedge : ∀ j o, ops[j]? = some o → ∀ e ∈ o.after, Region.binds .any e = true → e.on < j)
    (K : Act → World → (Nat → Option Nat) → Prop) (hK : ∀ a' w' ρ' listed', listed'.size = ops.size → (∀ i, listed'.getD i true = false ↔ i ∈ rest) → (∀ j, listed'.getD j false = true → ∀ i, ord i j = true → listed'.getD i false = true) →
      RepW w0 N0 NA n ρ' S'.1 S'.2 a' w' → K a' w' ρ' → wpAnyIn (WF r) md P .any ops Q d listed' a' w') : ∀ (m : Nat) (L : List (Nat × SRop × List Nat)) (listed : Array Bool) (S : SS) (ρ : Nat → Option Nat) (a : Act) (w : World), L.length = m → listed.size = ops.size →
      (∀ i, listed.getD i true = false ↔ i ∈ L.map (·.1) ∨ i ∈ rest) → (∀ i ∈ L.map (·.1), ∀ j ∈ rest, i < j) → (∀ j ∈ rest, ∃ g ∈ rest, (g = j ∨ ord g j = true) ∧ ∀ i ∈ L.map (·.1), ord i g = true) →
      L.Pairwise (fun p q => p.1 < q.1 ∧ (ord p.1 q.1 = true ∨ (apartS p.2.1 q.2.1 = true ∧ comp2 b p.2.1 q.2.1 p.2.2 q.2.2 = true))) →
      (∀ j, listed.getD j false = true → ∀ i, ord i j = true → listed.getD i false = true) → (∀ p ∈ L, ∃ o, ops[p.1]? = some o ∧ CompR P M n ops o p.2.1) →
      Runs P b (L.map (·.2)) S S' → RepW w0 N0 NA n ρ S.1 S.2 a w → (∀ a' w' ρ', Trans NA w ρ S.2 w' ρ' S'.2 → a'.defers = a.defers → K a' w' ρ') → wpAnyIn (WF r) md P .any ops Q (m + d) listed a w := by
  intro m
  induction m with
  | zero =>
    intro L listed S ρ a w hL hsz hI _ _ hpw hcl hcr hrun hrep hT
    have : L = [] := List.length_eq_zero_iff.1 hL
    subst this
    generalize hl : List.map (fun x : Nat × SRop × List Nat => x.2) [] = l at hrun
    cases hrun with
    | nil =>
      rw [Nat.zero_add]
      exact hK a w ρ listed hsz (fun i => by rw [hI i]; simp) hcl hrep (hT a w ρ (Trans.refl _ _ _ _) rfl)
    | cons => cases hl
  | succ m ih =>
    intro L listed S ρ a w hL hsz hI hlt hbar hpw hcl hcr hrun hrep hT
    have hlisted : ∀ i, i < ops.size → i ∉ L.map (·.1) → i ∉ rest → listed.getD i false = true := fun i hi hn hn2 => by
      have h1 : ¬ listed.getD i true = false := fun h => ((hI i).1 h).elim hn hn2
      have h2 : i < listed.size := by omega
      have e1 : listed.getD i true = listed[i] := by simp [h2]
      have e2 : listed.getD i false = listed[i] := by simp [h2]
      rw [e1] at h1
      rw [e2]
      simpa using h1
    have hnotL : ∀ i, i ∈ L.map (·.1) ∨ i ∈ rest → ¬ listed.getD i false = true := fun i hi h => by
      have h3 := (hI i).2 hi
      rcases Nat.lt_or_ge i listed.size with h' | h'
      · have e1 : listed.getD i true = listed[i] := by simp [h']
        have e2 : listed.getD i false = listed[i] := by simp [h']
        rw [e1] at h3
        rw [e2, h3] at h; cases h
      · simp [h'] at h
    rw [show m + 1 + d = (m + d) + 1 by omega]
    refine ⟨fun h0 => ?_, fun j hj => ?_⟩
    · exfalso
      cases L with
      | nil => simp at hL
      | cons p L1 =>
        obtain ⟨o, ho, _⟩ := hcr p (by simp)
        have hpl : p.1 < ops.size := (Array.getElem?_eq_some_iff.1 ho).1
        have hm : p.1 ∈ Region.ready .any ops listed := by
          rw [mem_ready]
          refine ⟨(hI p.1).2 (by simp), o, ho, fun e he hb => ?_⟩
          have hlt' := hedge p.1 o ho e he hb
          refine hlisted e.on (by omega) (fun hmem => ?_) (fun hmem => ?_)
          · rw [List.map_cons, List.mem_cons] at hmem
            rcases hmem with h | h
            · omega
            · obtain ⟨q, hq, hqe⟩ := List.mem_map.1 h
              have := (List.pairwise_cons.1 hpw).1 q hq
              omega
          · have := hlt p.1 (by simp) _ hmem; omega
        rw [h0] at hm; cases hm
    · have hjL : j ∈ L.map (·.1) := by
        rcases (hI j).1 (mem_ready.1 hj).1 with h | h
        · exact h
        · exfalso
          obtain ⟨g, hg, hor, hall⟩ := hbar j h
          rcases hor with rfl | hor
          · cases L with
            | nil => simp at hL
            | cons p L1 => exact not_ready ord hord hcl (hall p.1 (by simp)) (hnotL p.1 (.inl (by simp))) hj
          · exact not_ready ord hord hcl hor (hnotL g (.inr hg)) hj
      obtain ⟨hjun, o, ho, hall⟩ := mem_ready.1 hj
      obtain ⟨p, hp, hpj⟩ := List.mem_map.1 hjL
      obtain ⟨L1, L2, rfl⟩ := List.append_of_mem hp
      obtain ⟨j', y, G⟩ := p
      simp only at hpj; subst hpj
      have hno : ∀ q ∈ L1, ord q.1 j' = false := fun q hq => by
        cases hoq : ord q.1 j' with
        | false => rfl
        | true => exact absurd hj (not_ready ord hord hcl hoq (hnotL q.1 (.inl (List.mem_map.2 ⟨q, by simp [hq], rfl⟩))))
      rw [List.map_append, List.map_cons] at hrun
      have hfr := Runs.front (L1.map (·.2)) hrun (fun r hr => by
        obtain ⟨q, hq, rfl⟩ := List.mem_map.1 hr
        have := (List.pairwise_append.1 hpw).2.2 q hq (j', y, G) (by simp)
        rcases this.2 with h | h
        · rw [hno q hq] at h; cases h
        · exact h)
      obtain ⟨o', ho', hcy⟩ := hcr (j', y, G) (by simp)
      generalize hg : G = G' at hfr
      cases hfr with
      | cons _ _ _ S1 _ hstep hrest =>
        refine step_sound (i := j') (M := M) ho' hna hcy hrep hstep fun a' w' ρ' hr' htr hdf => ?_
        have hlen : (L1 ++ L2).length = m := by simp at hL ⊢; omega
        have hj'sz : j' < listed.size := by
          rw [hsz]; exact (Array.getElem?_eq_some_iff.1 ho).1
        have nodup : ∀ q ∈ L1 ++ L2, q.1 ≠ j' := fun q hq => by
          rcases List.mem_append.1 hq with h | h
          · have := (List.pairwise_append.1 hpw).2.2 q h (j', y, G) (by simp); omega
          · have := (List.pairwise_cons.1 (List.pairwise_append.1 hpw).2.1).1 q h; simp at this; omega
        have hsub : ∀ i, i ∈ (L1 ++ L2).map (·.1) → i ∈ (L1 ++ (j', y, G) :: L2).map (·.1) := fun i hi => by
          simp only [List.map_append, List.map_cons, List.mem_append, List.mem_cons] at hi ⊢
          rcases hi with h | h
          · exact .inl h
          · exact .inr (.inr h)
        have hj'rest : j' ∉ rest := fun h => by
          have := hlt j' (by simp) j' h; omega
        refine ih (L1 ++ L2) (listed.setIfInBounds j' true) S1 ρ' a' w' hlen (by simpa using hsz) (fun i => ?_) (fun i hi => hlt i (hsub i hi)) (fun j hj => ?_) ?_ (fun i hi k hk => ?_) (fun q hq => hcr q (by
            rcases List.mem_append.1 hq with h | h <;> simp [h])) (by rw [List.map_append]; exact hrest) hr' (fun a2 w2 ρ2 ht2 hd2 => hT a2 w2 ρ2 (htr.trans ht2) (hd2.trans hdf))
        · by_cases hij : i = j'
          · subst hij
            constructor
            · intro h; simp [hj'sz] at h
            · rintro (h | h)
              · obtain ⟨q, hq, hqe⟩ := List.mem_map.1 h
                exact absurd hqe (nodup q hq)
              · exact absurd h hj'rest
          · rw [getD_set_ne true (Ne.symm hij), hI i]
            simp only [List.map_append, List.map_cons, List.mem_append, List.mem_cons]
            constructor
            · rintro ((h | h | h) | h)
              · exact .inl (.inl h)
              · exact absurd h hij
              · exact .inl (.inr h)
              · exact .inr h
            · rintro ((h | h) | h)
              · exact .inl (.inl h)
              · exact .inl (.inr (.inr h))
              · exact .inr h
        · obtain ⟨g, h1, h2, h3⟩ := hbar j hj
          exact ⟨g, h1, h2, fun i hi => h3 i (hsub i hi)⟩
        · refine hpw.sublist ?_
          exact List.Sublist.append_left (List.sublist_cons_self _ _) _
        · by_cases hij : i = j'
          · subst hij
            obtain ⟨e, he, hb, hor⟩ := hord i o ho k hk
            have h1 := hall e he hb
            refine getD_set_true ?_
            rcases hor with h | h
            · rw [h]; exact h1
            · exact hcl e.on h1 k h
          · have hi' : listed.getD i false = true := by
              simp only [Array.getD_eq_getD_getElem?] at hi ⊢
              rwa [Array.getElem?_setIfInBounds_ne (Ne.symm hij)] at hi
            exact getD_set_true (hcl i hi' k hk)
def harmless (x y : SRop) : Bool :=
  (!wr x.op || !lk y.op) && (!wr y.op || !lk x.op) && (!al x.op || !lk y.op) && (!al y.op || !lk x.op) && (!(al x.op && al y.op) || x.site != y.site)
theorem harmless_comp {b : Nat} {x y : SRop} {g g' : Operand → SV} (h : harmless x y = true) : comp2 b x y (fp g x.op) (fp g' y.op) = true := by
  unfold harmless at h
  simp only [Bool.and_eq_true, Bool.or_eq_true, Bool.not_eq_true'] at h
  obtain ⟨⟨⟨⟨h1, h2⟩, h3⟩, h4⟩, h5⟩ := h
  unfold comp2
  simp only [Bool.and_eq_true, Bool.or_eq_true, Bool.not_eq_true']
  refine ⟨⟨⟨?_, ?_⟩, ?_⟩, h5⟩
  · cases hx : lk x.op with
    | false => right; rw [fp_lk hx]; rfl
    | true =>
      cases hy : lk y.op with
      | false => right; rw [fp_lk hy]; simp
      | true =>
        left
        rcases h1 with h1 | h1
        · rcases h2 with h2 | h2
          · simp [h1, h2]
          · rw [hx] at h2; cases h2
        · rw [hy] at h1; cases h1
  · rcases h3 with h3 | h3
    · exact .inl h3
    · right; rw [fp_lk h3]; rfl
  · rcases h4 with h4 | h4
    · exact .inl h4
    · right; rw [fp_lk h4]; rfl
def dstOK (n : Nat) : Option Nat → Bool
  | some d => decide (d < n)
  | none => true
end Go.Proofs.YtboifcengmgcaaaGreat
/- Regions of the shadow, VI: operations that stand by themselves; the law of regions. -/
namespace Go.Proofs.YtboifcengmgcaaaGreat
open Go.RowKit
section
variable {cf : Cf} {cx : Cx}
theorem comp_callV {P : Program} {o : Oper} {x : Operand} {xs : List Operand} (h : compOp P o = some (.callV x xs)) : ∃ t ts, x = .tmp t ∧ o.op = .call { callee := .value (.tmp t), args := ⟨xs⟩, argTypes := ts } := by
  unfold compOp at h
  split at h
  all_goals first
    | (simp only [Option.some.injEq, SOp.callV.injEq] at h; obtain ⟨rfl, rfl⟩ := h; exact ⟨_, _, rfl, by assumption⟩)
    | (exfalso; (repeat' (split at h)) <;> simp at h; done)
theorem mark_callV {M : List FuncId} {s0 : SOp} {x : Operand} {xs : List Operand} (h : markM M s0 = .callV x xs) : s0 = .callV x xs := by
  cases s0 with
  | call f ys => simp only [markM] at h; (repeat' (split at h)) <;> cases h
  | _ => exact h
theorem comp_callM {P : Program} {o : Oper} {f : FuncId} {xs : List Operand} (hf : f ≠ 0) (h : compOp P o = some (.callM f xs)) : False := by
  unfold compOp at h
  split at h
  all_goals first
    | (simp only [Option.some.injEq, SOp.callM.injEq] at h; exact hf h.1.symm)
    | ((repeat' (split at h)) <;> simp at h; done)
theorem mark_callM {M : List FuncId} {s0 : SOp} {f : FuncId} {xs : List Operand} (h : markM M s0 = .callM f xs) : s0 = .call f xs ∨ s0 = .callM f xs := by
  cases s0 with
  | call g ys =>
    simp only [markM] at h
    split at h
    · simp only [SOp.callM.injEq] at h
      obtain ⟨rfl, rfl⟩ := h
      exact .inl rfl
    · split at h <;> cases h
  | _ => exact .inr h
theorem comp_nxt {P : Program} {o : Oper} {x : Operand} (h : compOp P o = some (.nxt x)) : o.op = .next x false := by
  unfold compOp at h
  split at h
  all_goals first
    | (simp only [Option.some.injEq, SOp.nxt.injEq] at h; subst h; assumption)
    | (exfalso; (repeat' (split at h)) <;> simp at h; done)
theorem mark_nxt {M : List FuncId} {s0 : SOp} {x : Operand} (h : markM M s0 = .nxt x) : s0 = .nxt x := by
  cases s0 with
  | call f ys => simp only [markM] at h; (repeat' (split at h)) <;> cases h
  | _ => exact h
theorem comp_isNil {P : Program} {o : Oper} {neg : Bool} {kd : Nat} {x : Operand} (h : compOp P o = some (.isNil neg kd x)) : ∃ t t' v td, o.op = .binOp (if neg then .neq else .eql) t x (.const v) t' ∧ P.underlying t = some td ∧ nilT td v = some kd := by
  unfold compOp at h
  split at h
  case h_14 op t x' y t' ho =>
    split at h
    case h_5 td _ _ _ _ hu =>
      split at h
      case h_2 => cases h
      case h_1 v =>
      split at h
      · rename_i kd' hn
        simp only [Option.some.injEq, SOp.isNil.injEq] at h
        obtain ⟨rfl, rfl, rfl⟩ := h
        exact ⟨t, t', v, td, by simpa using ho, hu, hn⟩
      · rename_i kd' hn
        simp only [Option.some.injEq, SOp.isNil.injEq] at h
        obtain ⟨rfl, rfl, rfl⟩ := h
        exact ⟨t, t', v, td, by simpa using ho, hu, hn⟩
      · cases h
    all_goals (exfalso; (repeat' (split at h)) <;> simp at h; done)
  all_goals (exfalso; first | (simp at h; done) | ((repeat' (split at h)) <;> simp at h; done))
theorem mark_isNil {M : List FuncId} {s0 : SOp} {neg : Bool} {kd : Nat} {x : Operand} (h : markM M s0 = .isNil neg kd x) : s0 = .isNil neg kd x := by
  cases s0 with
  | call f ys => simp only [markM] at h; (repeat' (split at h)) <;> cases h
  | _ => exact h
theorem nilS_tot {F H : Nat → Option Blk} {kd : Nat} {x : SV} {r : Option Bool} (h : nilS H kd x = some r) : nilS (tot F H) kd x = some r := by
  cases x with
  | own id len =>
    match kd with
    | 0 =>
      simp only [nilS] at h ⊢
      cases hB : H id with
      | none => rw [hB] at h; cases h
      | some B => rw [tot_some hB]; rw [hB] at h; exact h
    | 1 | 2 | 3 | 4 => exact h
    | n + 5 => exact h
  | _ => unfold nilS at h ⊢; split at h <;> simp_all
theorem perm_push {α : Type} (f : α → Nat) : ∀ (L : List α) (seen : Array Nat) (x : α), (L.map f).Nodup → x ∈ L → seen.contains (f x) = false → (L.filter fun q => !seen.contains (f q)).Perm (x :: L.filter fun q => !(seen.push (f x)).contains (f q))
  | [], _, _, _, hx, _ => by cases hx
  | y :: L, seen, x, hn, hx, hs => by
    simp only [List.map_cons, List.nodup_cons, List.mem_map, not_exists, not_and] at hn
    rcases List.mem_cons.1 hx with rfl | hx
    · have e1 : L.filter (fun q => !(seen.push (f x)).contains (f q)) = L.filter (fun q => !seen.contains (f q)) := List.filter_congr fun q hq => by
        have : (f q == f x) = false := by simpa using hn.1 q hq
        simp only [contains_push, this, Bool.or_false]
      have e2 : (seen.push (f x)).contains (f x) = true := by simp [contains_push]
      rw [List.filter_cons_of_pos (by rw [hs]; rfl), List.filter_cons_of_neg (by rw [e2]; decide), e1]
    · have hne : (f y == f x) = false := by
        have := hn.1 x hx
        simp only [beq_eq_false_iff_ne, ne_eq]
        exact fun e => this e.symm
      have ih := perm_push f L seen x hn.2 hx hs
      cases hc : seen.contains (f y) with
      | true =>
        rw [List.filter_cons_of_neg (by rw [hc]; decide), List.filter_cons_of_neg (by rw [contains_push, hc]; simp)]
        exact ih
      | false =>
        rw [List.filter_cons_of_pos (by rw [hc]; rfl), List.filter_cons_of_pos (by rw [contains_push, hc, hne]; rfl)]
        exact (ih.cons y).trans (.swap x y _)
theorem unseen_push {ag : Bool} {kd : IntKind} {es : List (List Int × CV)} {ents : Array MapEntry} {clock : Nat} {seen : Array Nat} {e : MapEntry} (hE : Ents ag kd es ents clock) (he : e ∈ ents.toList) (hs : seen.contains e.born = false) :
    ∃ (i : Nat) (p : List Int × CV), es[i]? = some p ∧ ents[i]? = some e ∧ (unseen es ents seen).Perm (p :: unseen es ents (seen.push e.born)) := by
  obtain ⟨i, hi, hie⟩ := List.getElem_of_mem he
  have hsz : ents.toList.length = es.length := by simpa using hE.size
  have hi3 : i < es.length := by omega
  refine ⟨i, es[i], List.getElem?_eq_getElem hi3, ?_, ?_⟩
  · rw [Array.getElem?_eq_getElem (by simpa using hi)]
    simpa using hie
  · have hmem : (es[i], e) ∈ es.zip ents.toList := by
      rw [List.mem_iff_getElem]
      exact ⟨i, by simp only [List.length_zip]; omega, by simp [← hie]⟩
    have hnd : ((es.zip ents.toList).map fun q => q.2.born).Nodup := by
      have : ((es.zip ents.toList).map fun q => q.2.born) = ents.toList.map (·.born) := by
        rw [← List.map_snd_zip (l₁ := es) (l₂ := ents.toList) (by omega), List.map_map]
        simp [Function.comp_def, List.map_snd_zip (l₁ := es) (l₂ := ents.toList) (by omega)]
      rw [this]; exact hE.born
    have := perm_push (fun q : (List Int × CV) × MapEntry => q.2.born) _ seen _ hnd hmem hs
    exact (this.map (·.1))
theorem kOf_eq {b : Nat} {H H' : HL} (h : lookH H' (1000000000 + b) = lookH H (1000000000 + b)) : kOf b H' = kOf b H := by unfold kOf; rw [h]
theorem rep_evals {w : World} {NA : Nat → Prop} {ρ : Nat → Option Nat} {H : Nat → Option Blk} {T : Nat → SV} {a : Act} (ht : ∀ i, RepS w NA ρ H (T i) (a.tmps.getD i undef)) (xs : List Operand) : RepL w NA ρ H (xs.map (ev T)) (xs.map a.eval) := evals_rep ht xs
theorem StAt.put {T : TL} {H H' : HL} {a : Act} {w w' : World} {F F' : Nat → Option Blk} {ρ ρ' : Nat → Option Nat} (h : StAt cf cx T H a w F ρ) {d : Option Nat} (hd : ∀ i, d = some i → i < cf.n) {x : SV} {v : Value} (iv : cf.Iv (kOf cf.b H').1 (kOf cf.b H').2 F') (cl : ClosedF F') (out : ∀ i, Rg cf.b i → F' i = none) (ol : cf.o = true → ∀ i, Up cf.b i → F' i = none)
    (dis : ∀ i, lookH H' i ≠ none → F' i = none) (yd : lookH H' (1000000000 + cf.b) = none ∨ ∃ k s, lookH H' (1000000000 + cf.b) = some (.gh k s)) (av : ∀ i, lookH H' i ≠ none → Rg cf.b i) (dm : ∀ i, F' i ≠ none → cx.Hs i ≠ none ∨ cf.A i) (hr : RepH cx.w0 cx.N0 cx.NA ρ' (tot F' (lookH H')) w') (tr : Trans cx.NA w ρ (tot F (lookH H)) w' ρ' (tot F' (lookH H')))
    (hx : RepS w' cx.NA ρ' (tot F' (lookH H')) x v) : StAt cf cx (putL T d x) H' (a.put d v) w' F' ρ' := by
  refine ⟨iv, cl, out, ol, dis, yd, av, dm, ⟨(put_size a _ _).trans h.rep.size, hr, ?_⟩, fun x v hx => tr.mv (h.gh x v hx), h.tr.trans tr, ?_⟩
  · rw [lookT_put]
    exact rep_put (fun i hi => by rw [h.rep.size]; exact hd i hi) (fun i => tr.mv (h.rep.tmp i)) hx
  · rw [put_defers]; exact h.df.move tr
theorem lookH_gh (H : HL) (id k : Nat) (s : Bool) : lookH (setL1 H id (.gh k s)) = setH (lookH H) (some (id, .gh k s)) := lookH_set1 H id _
theorem gh_rep {w0 w : World} {N0 NA : Nat → Prop} {ρ : Nat → Option Nat} {H : Nat → Option Blk} {id k k' : Nat} {s s' : Bool} (hid : H id = some (.gh k s)) (h : RepH w0 N0 NA ρ H w) :
    RepH w0 N0 NA ρ (setH H (some (id, .gh k' s'))) w ∧ Trans NA w ρ H w ρ (setH H (some (id, .gh k' s'))) := by
  have hρ : ρ id = none := h.blk id _ hid
  have hne : ∀ i, setH H (some (id, .gh k' s')) i ≠ none ↔ H i ≠ none := fun i => by
    by_cases hi : i = id
    · subst hi; simp [setH, hid]
    · simp [setH, hi]
  have own : ∀ b, Own ρ (setH H (some (id, .gh k' s'))) b ↔ Own ρ H b := fun b => by
    constructor
    · rintro ⟨i, h1, h2⟩; exact ⟨i, (hne i).1 h1, h2⟩
    · rintro ⟨i, h1, h2⟩; exact ⟨i, (hne i).2 h1, h2⟩
  have calm : Calm w (Mut NA ρ H) w (Mut NA ρ (setH H (some (id, .gh k' s')))) := ⟨Nat.le_refl _, fun b _ hn => ⟨rfl, fun hm => hn (hm.imp_right (own b).1)⟩⟩
  have keep : ∀ i, KeepI w ρ H w ρ (setH H (some (id, .gh k' s'))) i := fun i => by
    by_cases hi : i = id
    · subst hi
      refine ⟨fun B hB _ => ?_, fun t q rows hB => ?_⟩
      · rw [hid] at hB; cases hB; exact ⟨.gh k' s', by simp [setH], rfl, rfl⟩
      · rw [hid] at hB; cases hB
    · have e : setH H (some (id, .gh k' s')) i = H i := by simp [setH, hi]
      exact ⟨fun B hB _ => ⟨B, e.trans hB, rfl, rfl⟩, fun t q rows hB => ⟨rows, e.trans hB, Nat.le_refl _, fun _ => ⟨rfl, fun b cs t' _ hc => ⟨cs, hc, rfl⟩⟩⟩⟩
  refine ⟨⟨fun i j b h1 h2 => h.inj i j b ((hne i).1 h1) ((hne j).1 h2), fun i B hB => ?_, h.fr, fun b hb => h.low b ((own b).1 hb)⟩, calm, keep⟩
  by_cases hi : i = id
  · subst hi; simp [setH] at hB; subst hB; exact hρ
  · simp [setH, hi] at hB
    exact (h.blk i B hB).move calm keep rfl (fun _ _ => rfl)
theorem gen_callM {d : Option Nat} (ok : cf.ok) {T : TL} {H : HL} {R : SV → HL → Prop} {a : Act} {w : World} {F : Nat → Option Blk} {ρ : Nat → Option Nat} (h : StAt cf cx T H a w F ρ) (hd : ∀ i, d = some i → i < cf.n)
    {f : FuncId} {x0 : Operand} {xr : List Operand} {id len : Nat} (hx0 : RepS w cx.NA ρ (tot F (lookH H)) (.own id len) (a.eval x0)) {t : TypeId} {k : Nat} {rows : List (List CV)} {cs : List CV} {R' : List (List CV) → Prop} {res : Option CV}
    (hH : lookH H id = some (.arr t k rows)) (hlen : len = rows.length) (hcl : closeAll (lookH H) (xr.map (ev (lookT T))) = some cs) (hpu : (xr.map (ev (lookT T))).all SV.pure = true) (hmc : MC cf.P f t k rows cs R' res)
    (hR : ∀ rows', R' rows' → rows'.length = rows.length → R (resM id len res) (setL1 H id (.arr t k rows')))
    {K : Act → World → Prop} (hK : ∀ x H2 a' w', R x H2 → RepSt cf cx (putL T d x) H2 a' w' → K a' w') :
    Calls cf.P f ((x0 :: xr).map a.eval).toArray w fun e w' => ∃ v, e = .returned v ∧ K (a.put d v) w' := by
  generalize hv0 : a.eval x0 = v0 at hx0
  cases hx0 with
  | own _ _ t' k' rows0 _ g1 g2 g3 g4 =>
  have hHt : tot F (lookH H) id = some (.arr t k rows) := tot_some hH
  rw [hHt] at g1
  cases g1
  have hown := g4 hlen
  have hcl' := closeAll_tot (F := F) hcl
  obtain ⟨l1, _, l3⟩ := closeAll_rep h.rep.heap (rep_evals h.rep.tmp xr) hcl'
  have hB := h.rep.heap.blk id _ hHt
  have ownlt : ∀ b, Mut cx.NA ρ (tot F (lookH H)) b → b < w.heap.size := fun b hb => by
    rcases hb with hb | hb
    · exact Nat.lt_of_lt_of_le (cx.na b hb) h.rep.heap.fr.size
    · exact h.rep.heap.lt hb
  have hMut : ∀ rows', Mut (fun b => Mut cx.NA ρ (tot F (lookH H)) b ∧ ¬ ρ id = some b) (fun _ => ρ id) (one1 t k rows') = Mut cx.NA ρ (tot F (lookH H)) := fun rows' => by
    funext b
    refine propext (mut_one.trans ⟨?_, fun hb => ?_⟩)
    · rintro (hb | hb)
      · exact hb.1
      · exact .inr ⟨id, by rw [hHt]; simp, hb⟩
    · by_cases e : ρ id = some b
      · exact .inr e
      · exact .inl ⟨hb, e⟩
  have hMut2 : (fun b => (Mut cx.NA ρ (tot F (lookH H)) b ∧ ¬ ρ id = some b) ∨ ρ id = some b) = Mut cx.NA ρ (tot F (lookH H)) := by
    refine Eq.trans ?_ (hMut rows)
    funext b
    exact propext (mut_one (NA := fun b => Mut cx.NA ρ (tot F (lookH H)) b ∧ ¬ ρ id = some b) (p := ρ id) (t := t) (k := k) (rows := rows) (b := b)).symm
  have hMut3 : ∀ rows', Mut cx.NA ρ (setH (tot F (lookH H)) (some (id, .arr t k rows'))) = Mut cx.NA ρ (tot F (lookH H)) := fun rows' => by
    funext b
    have hne : ∀ i, setH (tot F (lookH H)) (some (id, .arr t k rows')) i ≠ none ↔ tot F (lookH H) i ≠ none := fun i => by
      by_cases hi : i = id
      · subst hi; simp [setH, hHt]
      · simp [setH, hi]
    refine propext ⟨?_, ?_⟩
    · rintro (hb | ⟨i, h1, h2⟩)
      · exact .inl hb
      · exact .inr ⟨i, (hne i).1 h1, h2⟩
    · rintro (hb | ⟨i, h1, h2⟩)
      · exact .inl hb
      · exact .inr ⟨i, (hne i).2 h1, h2⟩
  have hc := hmc w (fun b => Mut cx.NA ρ (tot F (lookH H)) b ∧ ¬ ρ id = some b) (ρ id) v0 (xr.map a.eval).toArray (fun b hb => ownlt b hb.1) (fun b e hb => hb.2 e)
    (by simp only [RepB] at hB ⊢; rw [hMut]; exact hB) g3 (by rw [← hlen]; exact hown) (by simpa using l1) (fun i x v hx hv => by rw [hMut2]; exact l3 hpu i x v hx (by simpa using hv))
  have eargs : ((x0 :: xr).map a.eval).toArray = #[v0] ++ (xr.map a.eval).toArray := by simp [hv0]
  rw [eargs]
  refine hc.mono fun e w' hh => ?_
  obtain ⟨v, rows', rfl, hR', hl', hB', hsz, hgr, hans⟩ := hh
  refine ⟨v, rfl, ?_⟩
  have hkeep : KeepI w ρ (tot F (lookH H)) w' (setR ρ id (ρ id)) (setH (tot F (lookH H)) (some (id, .arr t k rows'))) id := by
    refine ⟨fun B hB0 hk => ?_, fun t2 k2 rows2 he => ?_⟩
    · rw [hHt] at hB0; cases hB0; exact absurd rfl hk
    · rw [hHt] at he; cases he
      exact ⟨rows', by simp [setH], by omega, fun _ => ⟨by simp [setR], fun b cs t' hb hc => hsz b cs t' hb hc⟩⟩
  obtain ⟨r1, r2⟩ := upd_rep (B1 := .arr t k rows') (r := ρ id) h.rep.heap hHt hgr (.inl rfl) hkeep (fun _ => by
    rw [setR_same]
    simp only [RepB] at hB' ⊢
    rw [hMut] at hB'
    rw [hMut3]
    exact hB')
  rw [setR_same] at r1 r2
  have e2 : setH (tot F (lookH H)) (some (id, .arr t k rows')) = tot F (lookH (setL1 H id (.arr t k rows'))) := by rw [lookH_set1, tot_set]
  have hidn : id ≠ 1000000000 + cf.b := fun e => by
    rcases h.yd with hy | ⟨k', s, hy⟩
    · rw [← e, hH] at hy; cases hy
    · rw [← e, hH] at hy; cases hy
  have hgh : lookH (setL1 H id (.arr t k rows')) (1000000000 + cf.b) = lookH H (1000000000 + cf.b) := by
    rw [lookH_set1]; simp [setH, Ne.symm hidn]
  have dom : ∀ i, lookH (setL1 H id (.arr t k rows')) i ≠ none → lookH H i ≠ none := fun i hi => by
    rw [lookH_set1] at hi
    by_cases e : i = id
    · rw [e, hH]; simp
    · simpa [setH, e] using hi
  have rep : RepS w' cx.NA ρ (tot F (lookH (setL1 H id (.arr t k rows')))) (resM id len res) v := by
    rw [← e2]
    cases res with
    | none =>
      have hv : v = v0 := hans
      subst hv
      refine .own id len t k rows' v (by simp [setH]) (by omega) g3 (fun _ => ?_)
      rcases hown with hn | ⟨b, cap, cs, t', h1, h2, h3, h4, h5, h6⟩
      · exact .inl hn
      · obtain ⟨cs', h7, h8⟩ := hsz b cs t' h1 h3
        exact .inr ⟨b, cap, cs', t', h1, h2, h7, h8.trans h4, h5, h6⟩
    | some r =>
      have hr : RepC w' (fun b => (Mut cx.NA ρ (tot F (lookH H)) b ∧ ¬ ρ id = some b) ∨ ρ id = some b) r v := hans
      rw [hMut2, ← hMut3 rows'] at hr
      exact openC_rep hr
  exact hK _ _ _ _ (hR rows' hR' hl') ⟨F, ρ, h.put hd (by rw [kOf_eq hgh]; exact h.iv) h.cl h.out h.ol (fun i hi => h.dis i (dom i hi)) (by rw [hgh]; exact h.yd) (fun i hi => h.av i (dom i hi)) h.dm (by rw [← e2]; exact r1) (by rw [← e2]; exact r2) rep⟩
theorem gen_nxt {d : Option Nat} {T : TL} {H : HL} {R : SV → HL → Prop} {a : Act} {w : World} {F : Nat → Option Blk} {ρ : Nat → Option Nat} (h : StAt cf cx T H a w F ρ) (hd : ∀ i, d = some i → i < cf.n)
    {x : Operand} {o : Oper} (ho : o.op = .next x false) (hp : nextP (ev (lookT T) x) H R .mk) {K : Act → World → Prop} (hK : ∀ x H2 a' w', R x H2 → RepSt cf cx (putL T d x) H2 a' w' → K a' w') :
    ∃ v w', (execOp a.eval o).run cf.P w = .ok (.value v) w' ∧ K (a.put d v) w' := by
  unfold nextP at hp
  split at hp
  case h_2 => exact hp.elim
  case h_1 id hid =>
  obtain ⟨ag, kd, left, cur, hH, hp0, hp1⟩ := hp
  have hxv := rep_ev h.rep.tmp x
  rw [hid] at hxv
  generalize hv : a.eval x = v at hxv
  cases hxv with
  | it _ _ _ _ _ b hH' hb =>
  have hHt : tot F (lookH H) id = some (.it ag kd left cur) := tot_some hH
  rw [hHt] at hH'
  cases hH'
  obtain ⟨b', e1, hit⟩ := h.rep.heap.blk id _ hHt
  rw [hb] at e1; cases e1
  have stop : ∀ (_ : left = []), RepSt cf cx (putL T d (.tup [.c (.val (.bool false))])) H (a.put d (.tuple #[.bool false])) w := fun _ =>
    ⟨F, ρ, h.put hd h.iv h.cl h.out h.ol h.dis h.yd h.av h.dm h.rep.heap (Trans.refl _ _ _ _) (.tup _ _ rfl (fun j x u hx hu => by
      match j with
      | 0 => cases hx; cases hu; exact .c _ _ (.val _)
      | j + 1 => simp at hx))⟩
  rcases hit with ⟨hl, _, s, q, c, h3⟩ | ⟨Bm, since, seen, c0, ents, clock, es, h1, h2, h3, h4, h5, h6, h7, h8, h9, h10, h11⟩
  · refine ⟨_, _, ?_, hK _ _ _ _ (hp0 hl) (stop hl)⟩
    simp [execOp, ho, hv, Instr.next, getObj, Sem.run, h3, Result.andThen]
  have ownb : Mut cx.NA ρ (tot F (lookH H)) b := .inr ⟨id, by rw [hHt]; simp, hb⟩
  have hne : Bm ≠ b := fun e => h3 (e ▸ ownb)
  rcases run_next_at (P := cf.P) w o.type b Bm since c0 seen ents clock h1 h4 h7 h8 with ⟨h0, hrun⟩ | ⟨e, he, w1, hal, hrun⟩
  · have hl : left = [] := by
      have h12 : unseen es ents seen = [] := by
        unfold unseen
        rw [List.filter_eq_nil_iff.2 (fun q hq => by
          have := all_seen ents seen h0 q.2 (List.of_mem_zip hq).2
          rw [this]; decide)]
        rfl
      rw [h12] at h10
      exact h10.eq_nil
    refine ⟨_, _, ?_, hK _ _ _ _ (hp0 hl) (stop hl)⟩
    simp [execOp, ho, hv, hrun]
  · obtain ⟨hem, hes⟩ := mem_left he
    obtain ⟨i, p, g1, g2, g3⟩ := unseen_push h5 hem hes
    have hr1 : w1.heap[b]? = some (.mapIter (some Bm) since seen c0) := by rcases hal with rfl | rfl <;> exact h1
    have hset := MapKept.heap_set (o' := .mapIter (some Bm) since (seen.push e.born) clock) hr1
    have hg : w.grownBy (ChangeMaps.setBlock w1 b (.mapIter (some Bm) since (seen.push e.born) clock)) (ρ id) := by
      rw [hb]
      have hq : ∀ q : Nat, w1.heap[q]? = w.heap[q]? := fun q => by rcases hal with rfl | rfl <;> rfl
      have hz : w1.heap.size = w.heap.size := by rcases hal with rfl | rfl <;> rfl
      refine ⟨by rcases hal with rfl | rfl <;> rfl, by rcases hal with rfl | rfl <;> rfl, by rcases hal with rfl | rfl <;> rfl, by simp [ChangeMaps.setBlock, hz], fun q _ hq' => (hset.2 q fun e => hq' (by rw [e])).trans (hq q)⟩
    obtain ⟨r1, r2⟩ := upd_rep (B1 := .it ag kd (unseen es ents (seen.push e.born)) (some p)) h.rep.heap hHt hg (.inl rfl)
      ⟨fun B2 he _ => by rw [hHt] at he; cases he; exact ⟨.it ag kd (unseen es ents (seen.push e.born)) (some p), by simp [setH], rfl, by simp [setR]⟩, fun t2 k2 r2 he => by rw [hHt] at he; cases he⟩
      (fun tr => by
        obtain ⟨q1, q2⟩ := tr.1.same Bm h2 h3
        exact ⟨b, by simp [setR, hb], .inr ⟨Bm, since, seen.push e.born, clock, ents, clock, es, hset.1, Nat.lt_of_lt_of_le h2 tr.1.size, q2, q1.trans h4, h5, fun i p e hp he => (h6 i p e hp he).move tr.1, h7, h9, h9, .refl _, fun p' hp' => by
          cases hp'
          exact ⟨i, e, seen, g1, g2, rfl, rfl⟩⟩⟩)
    rw [setR_same] at r1 r2
    have e2 : setH (tot F (lookH H)) (some (id, .it ag kd (unseen es ents (seen.push e.born)) (some p))) = tot F (lookH (setL1 H id (.it ag kd (unseen es ents (seen.push e.born)) (some p)))) := by rw [lookH_set1, tot_set]
    rw [e2] at r1 r2
    have hidn : id ≠ 1000000000 + cf.b := fun e => by
      rcases h.yd with hy | ⟨k', s, hy⟩
      · rw [← e, hH] at hy; cases hy
      · rw [← e, hH] at hy; cases hy
    have hgh : lookH (setL1 H id (.it ag kd (unseen es ents (seen.push e.born)) (some p))) (1000000000 + cf.b) = lookH H (1000000000 + cf.b) := by
      rw [lookH_set1]; simp [setH, Ne.symm hidn]
    have dom : ∀ i, lookH (setL1 H id (.it ag kd (unseen es ents (seen.push e.born)) (some p))) i ≠ none → lookH H i ≠ none := fun i hi => by
      rw [lookH_set1] at hi
      by_cases e : i = id
      · rw [e, hH]; simp
      · simpa [setH, e] using hi
    have hk := (h5.key i p e g1 g2).1
    refine ⟨.tuple #[.bool true, e.key, e.val], _, by simp [execOp, ho, hv, hrun], hK _ _ _ _ (hp1 p _ (h10.trans g3)) ⟨F, ρ, h.put hd (by rw [kOf_eq hgh]; exact h.iv) h.cl h.out h.ol (fun i hi => h.dis i (dom i hi)) (by rw [hgh]; exact h.yd) (fun i hi => h.av i (dom i hi)) h.dm r1 r2 ?_⟩⟩
    refine .tup _ _ rfl (fun j x u hx hu => ?_)
    match j with
    | 0 => cases hx; cases hu; exact .c _ _ (.val _)
    | 1 => cases hx; cases hu; rw [hk]; exact .c _ _ (keyC_rep ag kd p.1)
    | 2 => cases hx; cases hu; exact r2.mv (.c _ _ (h6 i p e g1 g2))
    | j + 3 => simp at hx
theorem gen_isNil {d : Option Nat} {T : TL} {H : HL} {R : SV → HL → Prop} {a : Act} {w : World} {F : Nat → Option Blk} {ρ : Nat → Option Nat} (h : StAt cf cx T H a w F ρ) (hd : ∀ i, d = some i → i < cf.n)
    {neg : Bool} {kd : Nat} {x : Operand} {o : Oper} (ho : compOp cf.P o = some (.isNil neg kd x)) (hp : isNilP neg (nilS (lookH H) kd (ev (lookT T) x)) (fun r => R r H) (fun _ => trivial)) {K : Act → World → Prop} (hK : ∀ x H2 a' w', R x H2 → RepSt cf cx (putL T d x) H2 a' w' → K a' w') :
    ∃ v, (execOp a.eval o).run cf.P w = .ok (.value v) w ∧ K (a.put d v) w := by
  obtain ⟨t, t', u, td, h1, h2, h3⟩ := comp_isNil ho
  have fin : ∀ b, R (.c (.val (.bool b))) H → K (a.put d (.bool b)) w := fun b hb =>
    hK _ _ _ _ hb ⟨F, ρ, h.put hd h.iv h.cl h.out h.ol h.dis h.yd h.av h.dm h.rep.heap (Trans.refl _ _ _ _) (.c _ _ (.val _))⟩
  have hxv := rep_ev h.rep.tmp x
  cases hr : nilS (lookH H) kd (ev (lookT T) x) with
  | none => rw [hr] at hp; exact hp.elim
  | some r =>
    rw [hr] at hp
    obtain ⟨b, hb, hq⟩ := nilS_rep hxv (nilS_tot (F := F) hr)
    refine ⟨_, run_isNil h1 h2 h3 hb, fin _ ?_⟩
    cases r with
    | some q => rw [hq q rfl]; exact hp
    | none =>
      cases hbn : (b != neg) with
      | true => exact hp.1
      | false => exact hp.2
theorem gen_sound {ops : Array Oper} {o : Oper} {g : SRop} {i md : Nat} {r : Option Nat} (ok : cf.ok) (hi : ops[i]? = some o) (hc : CompR cf.P cf.M cf.n ops o g) (hg : g.op.gen = true) {T : TL} {H : HL} {R : SV → HL → Prop} (hp : genP cf g T H R .mk) {a : Act} {w : World} (h : RepSt cf cx T H a w)
    {K : Act → World → Prop} {Q : Exit → Act → World → Prop} (hK : ∀ x H2 a' w', R x H2 → RepSt cf cx (putL T g.dst x) H2 a' w' → K a' w') : wpOpIn (WF r) md cf.P ops Q i K a w := by
  obtain ⟨F, ρ, h⟩ := h
  obtain ⟨⟨s0, hc0, hm0⟩, c2, c3, c4⟩ := hc
  have hd : ∀ i, g.dst = some i → i < cf.n := fun i e => c3 i (c2 ▸ e)
  have un : K (a.put o.dst undef) w ↔ K (a.put g.dst undef) w := by rw [c2]
  have skip : R .un H → K (a.put o.dst undef) w := fun hR => by
    rw [← c2]
    exact hK _ _ _ _ hR ⟨F, ρ, h.put hd h.iv h.cl h.out h.ol h.dis h.yd h.av h.dm h.rep.heap (Trans.refl _ _ _ _) (.c _ _ (.val _))⟩
  have core : genD cf g T H R .mk → o.wpIn (WF r) md cf.P a w K Q := fun hp => by
    refine ⟨fun _ _ => trivial, ?_⟩
    rw [Oper.semAt_eq _ _ _ (comp_nodefer hc0)]
    unfold genD at hp
    split at hp
    case h_5 => exact hp.elim
    case h_4 neg kd x hop =>
      rw [hop] at hm0
      have hs0 := mark_isNil hm0
      subst hs0
      obtain ⟨v, hrun, hk⟩ := gen_isNil h hd hc0 hp hK
      rw [hrun]
      rw [c2] at hk
      exact hk
    case h_3 x hop =>
      rw [hop] at hm0
      have hs0 := mark_nxt hm0
      subst hs0
      obtain ⟨v, w', hrun, hk⟩ := gen_nxt h hd (comp_nxt hc0) hp hK
      rw [hrun]
      rw [c2] at hk
      exact hk
    case h_2 f xs hop =>
      rw [hop] at hm0
      have hs0 : s0 = .call f xs := by
        rcases mark_callM hm0 with h | h
        · exact h
        · subst h; exact (comp_callM hp.1 hc0).elim
      subst hs0
      obtain ⟨ts, ho, fn, hfn, hb, hnm⟩ := comp_call hc0
      replace hp := hp.2
      cases xs with
      | nil => exact hp.elim
      | cons x0 xr =>
      simp only [List.map_cons] at hp
      have hx0v := rep_ev h.rep.tmp x0
      have hev := rep_evals h.rep.tmp xr
      generalize hx0 : ev (lookT T) x0 = u0 at hp hx0v
      cases u0 with
      | own id len =>
        simp only at hp
        obtain ⟨t, k, rows, cs, R', res, hH, hlen, hcl, hpu, hmc, hR⟩ := hp
        have hrun : (execOp a.eval o).run cf.P w = .ok (.enter f ((x0 :: xr).map a.eval).toArray) w := by
          have hb' : ¬ fn.body = none := fun e => by rw [e] at hb; cases hb
          have hnm' : ¬ fn.name = "runtime.NumGoroutine" := by simpa using hnm
          simp [execOp, ho, resolve, Act.eval, Deferred.ofValue, invoke, callFunc, hfn, hb', hnm']
        rw [hrun]
        refine ⟨WF_depth, callsIn_WF ((gen_callM ok h hd hx0v hH hlen hcl hpu hmc hR hK).mono fun e w' hh => ?_)⟩
        obtain ⟨v, rfl, hk⟩ := hh
        rw [← c2]
        exact hk
      | _ => exact hp.elim
    case h_1 x xs hop =>
    rw [hop] at hm0
    have := mark_callV (x := x) (xs := xs) hm0
    subst this
    obtain ⟨t, ts, rfl, ho⟩ := comp_callV hc0
    have ht := h.rep.tmp
    have hev := rep_evals ht xs
    have hxv := rep_ev ht (.tmp t)
    unfold callVP at hp
    split at hp
    case h_3 => exact hp.elim
    case h_1 f fs es hfn =>
      obtain ⟨hent, cs, hcl, r', hsc, hpf, hR⟩ := hp
      rw [hfn] at hxv
      generalize hv : a.eval (.tmp t) = v at hxv
      cases hxv with
      | c _ _ q =>
      cases q with
      | fn _ _ _ vf vc a1 a2 a3 a4 =>
      have hcl' := closeAll_tot (F := F) hcl
      obtain ⟨l1, l2, l3⟩ := closeAll_rep h.rep.heap hev hcl'
      have hrun : (execOp a.eval o).run cf.P w = .ok (.enter f ((vf ++ (xs.map a.eval).toArray) ++ vc)) w := by
        unfold entB at hent
        split at hent
        case h_2 => cases hent
        case h_1 fn hfn' =>
        simp only [Bool.and_eq_true, Bool.not_eq_true'] at hent
        have hb' : ¬ fn.body = none := fun e => by rw [e] at hent; simp at hent
        have hnm' : ¬ fn.name = "runtime.NumGoroutine" := by simpa using hent.2
        simp [execOp, ho, resolve, hv, Deferred.ofValue, invoke, callFunc, hfn', hb', hnm']
      rw [hrun]
      refine ⟨WF_depth, ?_⟩
      have ownlt : ∀ b, Mut cx.NA ρ (tot F (lookH H)) b → b < w.heap.size := fun b hb => by
        rcases hb with hb | hb
        · exact Nat.lt_of_lt_of_le (cx.na b hb) h.rep.heap.fr.size
        · exact h.rep.heap.lt hb
      have fin : ∀ v w', RepC w' (Mut cx.NA ρ (tot F (lookH H))) r' v → Ext w w' → K (a.put o.dst v) w' := fun v w' hr he => by
        obtain ⟨r1, r2⟩ := ext_rep h.rep.heap he
        rw [← c2]
        exact hK _ _ _ _ hR ⟨F, ρ, h.put hd h.iv h.cl h.out h.ol h.dis h.yd h.av h.dm r1 r2 (openC_rep hr)⟩
      have args : ∀ {N : Nat → Prop}, (∀ (i : Nat) x v, fs[i]? = some x → vf[i]? = some v → RepC w N x v) → (∀ (i : Nat) x v, es[i]? = some x → vc[i]? = some v → RepC w N x v) → (∀ (i : Nat) x v, cs[i]? = some x → (xs.map a.eval)[i]? = some v → RepC w N x v) →
          ∀ (i : Nat) x v, (fs ++ cs ++ es)[i]? = some x → ((vf ++ (xs.map a.eval).toArray) ++ vc)[i]? = some v → RepC w N x v := fun {N} b1 b2 b3 i x v hx hv => by
        have z1 : vf.size = fs.length := a1
        have z2 : (xs.map a.eval).length = cs.length := l1
        rcases Nat.lt_or_ge i fs.length with h1 | h1
        · rw [List.append_assoc, List.getElem?_append_left h1] at hx
          rw [Array.append_assoc, Array.getElem?_append_left (by omega)] at hv
          exact b1 i x v hx hv
        · rcases Nat.lt_or_ge i (fs.length + cs.length) with h2 | h2
          · rw [List.getElem?_append_left (by simp; omega), List.getElem?_append_right h1] at hx
            rw [Array.getElem?_append_left (by simp at z2 ⊢; omega), Array.getElem?_append_right (by omega), z1] at hv
            exact b3 _ x v hx (by simpa using hv)
          · rw [List.getElem?_append_right (by simp; omega)] at hx
            rw [Array.getElem?_append_right (by simp at z2 ⊢; omega)] at hv
            simp only [List.length_append] at hx
            have : (vf ++ (xs.map a.eval).toArray).size = fs.length + cs.length := by simp at z2 ⊢; omega
            rw [this] at hv
            exact b2 _ x v hx hv
      have sz : ((vf ++ (xs.map a.eval).toArray) ++ vc).size = (fs ++ cs ++ es).length := by simp at l1 ⊢; omega
      rcases hpf with hpf | hpf
      · refine callsIn_WF ((hsc w (Mut cx.NA ρ (tot F (lookH H))) _ ownlt sz (args a3 a4 (l3 hpf))).mono fun e w' hh => ?_)
        obtain ⟨v, rfl, hr, he⟩ := hh
        exact fin v w' hr he
      · refine callsIn_WF ((hsc w (fun b => cx.NA b ∧ ¬ Own ρ (tot F (lookH H)) b) _ (fun b hb => ownlt b (.inl hb.1)) sz (args (fun i x v hx hv => sub_rep (a3 i x v hx hv)) (fun i x v hx hv => sub_rep (a4 i x v hx hv)) l2)).mono fun e w' hh => ?_)
        obtain ⟨v, rfl, hr, he⟩ := hh
        exact fin v w' (hpf.rep hr) he
    case h_2 id hyl =>
      obtain ⟨cs, k, ys, hcl, hpu, hce, hys, hgh, hY, hR1, hR2⟩ := hp
      rw [hyl] at hxv
      generalize hv : a.eval (.tmp t) = v at hxv
      cases hxv with
      | yl _ lo l hlo hl =>
      have hcl' := closeAll_tot (F := F) hcl
      obtain ⟨l1, _, l3⟩ := closeAll_rep h.rep.heap hev hcl'
      have hkof : kOf cf.b H = (k, false) := by unfold kOf; rw [hgh]
      have hiv := h.iv
      rw [hkof] at hiv
      obtain ⟨hnl, hbx⟩ := clE_spec hce
      have lp : ∀ j lo, tot F (lookH H) j = some (.loop lo) → F j = some (.loop lo) := fun j lo hj => by
        cases hB : lookH H j with
        | none => rw [tot_none hB] at hj; exact hj
        | some B => rw [tot_some hB] at hj; cases hj; exact absurd hB (hnl j lo)
      have hE : ∀ i t cells, lookH H i = some (.box t cells) → inPL (fun j => lookH H j ≠ none ∨ ∃ lo, F j = some (.loop lo)) cells := fun i t cells hi => by
        refine inPL_mono (fun j hj => hj.imp_right (fun hj => ?_)) cells (hbx i t cells hi)
        obtain ⟨v, hv⟩ := hys j hj
        have := h.gh _ _ hv
        cases this with
        | yl _ lo b hlo' _ => exact ⟨lo, lp j lo hlo'⟩
      obtain ⟨fn, tmps, assign, body, hrun, hround⟩ := hY cx.w0 cx.N0 cx.NA ρ F (lookH H) l (xs.map a.eval).toArray w r (md - 1) cx.na cx.nn hiv h.cl (h.na ok.A) h.dis hE h.rep.heap hl ⟨lo, lp id lo hlo⟩ h.gh (by simpa using l1) (fun i x v hx hv => l3 hpu i x v hx (by simpa using hv))
      have hrun' : (execOp a.eval o).run cf.P w = .ok (.round l fn tmps assign body) w := by
        simp only [execOp, ho, resolve, hv, Deferred.ofValue]
        simpa [invoke] using hrun
      rw [hrun']
      refine ⟨WF_depth, hround.mono fun e w' hh => ?_⟩
      obtain ⟨stop, F', ρ', rfl, iv', cl', dom', rep', tr'⟩ := hh
      have htgh : tot F' (lookH H) (1000000000 + cf.b) = some (.gh k false) := tot_some hgh
      obtain ⟨g1, g2⟩ := gh_rep (k' := k + 1) (s' := stop) htgh rep'
      have e2 : setH (tot F' (lookH H)) (some (1000000000 + cf.b, .gh (k + 1) stop)) = tot F' (lookH (setL1 H (1000000000 + cf.b) (.gh (k + 1) stop))) := by
        rw [lookH_gh, tot_set]
      rw [e2] at g1 g2
      have hnew : lookH (setL1 H (1000000000 + cf.b) (.gh (k + 1) stop)) (1000000000 + cf.b) = some (.gh (k + 1) stop) := by rw [lookH_gh]; simp [setH]
      have dom : ∀ i, lookH (setL1 H (1000000000 + cf.b) (.gh (k + 1) stop)) i ≠ none → lookH H i ≠ none := fun i hi => by
        rw [lookH_gh] at hi
        by_cases e : i = 1000000000 + cf.b
        · rw [e, hgh]; simp
        · simpa [setH, e] using hi
      have out' : ∀ i, Rg cf.b i → F' i = none := fun i hi => by
        cases hB : F' i with
        | none => rfl
        | some B =>
          rcases dom' i (by rw [hB]; simp) with h1 | h1
          · exact absurd (h.out i hi) h1
          · exact absurd h1 (ok.A i hi)
      have ol' : cf.o = true → ∀ i, Up cf.b i → F' i = none := fun ho i hi => by
        cases hB : F' i with
        | none => rfl
        | some B =>
          rcases dom' _ (by rw [hB]; simp) with h1 | h1
          · exact absurd (h.ol ho i hi) h1
          · exact absurd h1 (ok.A2 ho i hi)
      have dis' : ∀ i, lookH H i ≠ none → F' i = none := fun i hi => by
        cases hB : F' i with
        | none => rfl
        | some B =>
          rcases dom' i (by rw [hB]; simp) with h1 | h1
          · exact absurd (h.dis i hi) h1
          · exact absurd (h.na ok.A i h1) hi
      have st := h.put (d := g.dst) (H' := setL1 H (1000000000 + cf.b) (.gh (k + 1) stop)) hd (x := .c (.val (.bool (!stop)))) (v := .bool (!stop)) (by unfold kOf; rw [hnew]; exact iv') cl' out' ol' (fun i hi => dis' i (dom i hi)) (.inr ⟨_, _, hnew⟩)
        (fun i hi => h.av i (dom i hi)) (fun i hi => (dom' i hi).elim (h.dm i) .inr) g1 (tr'.trans g2) (.c _ _ (.val _))
      rw [← c2]
      cases stop with
      | false => exact hK _ _ _ _ hR1 ⟨F', ρ', st⟩
      | true => exact hK _ _ _ _ hR2 ⟨F', ρ', st⟩
  unfold wpOpIn
  simp only [hi]
  unfold genP at hp
  cases hgd : o.guard with
  | none =>
    rw [hgd] at c4
    rw [c4] at hp
    rw [if_pos (by simp [Region.wanted, hgd])]
    exact core hp
  | some p =>
    obtain ⟨j, q⟩ := p
    rw [hgd] at c4
    obtain ⟨oj, gg, g1, g2, g3⟩ := c4
    rw [g3] at hp
    simp only at hp
    unfold boolP at hp
    split at hp
    case h_3 => exact hp.elim
    case h_2 u hu =>
      have hw := want_of (so := g) h.rep.tmp hgd g1 g2 (t := false) (by rw [hu]; rfl)
      rw [if_neg (by rw [hw]; decide)]
      exact ⟨fun _ _ => trivial, skip hp⟩
    case h_1 t ht =>
      have hw := want_of (so := g) h.rep.tmp hgd g1 g2 (t := t == q) (by rw [ht]; rfl)
      by_cases htq : t = q
      · rw [if_pos (by rw [hw]; simpa using htq)]
        exact core (hp.1 htq)
      · rw [if_neg (by rw [hw]; simpa using htq)]
        exact ⟨fun _ _ => trivial, skip (hp.2 htq)⟩
end
end Go.Proofs.YtboifcengmgcaaaGreat
/- Regions of the shadow, VII: regions compiled; their law. -/
namespace Go.Proofs.YtboifcengmgcaaaGreat
open Go.RowKit
def compRop (P : Program) (M : List FuncId) (n : Nat) (ops : Array Oper) (o : Oper) : Option SRop := match compOp P o with
  | none => none
  | some so => if dstOK n o.dst then match o.guard with
      | none => some { dst := o.dst, guard := none, op := markM M so, free := [], keep := false }
      | some (j, b) => match ops[j]? with
        | some oj => match oj.dst with
          | some g => some { dst := o.dst, guard := some (g, b), op := markM M so, free := [], keep := false }
          | none => none
        | none => none
    else none
def compRops (P : Program) (M : List FuncId) (n : Nat) (ops : Array Oper) : List Oper → Option (List SRop)
  | [] => some []
  | o :: os => match compRop P M n ops o, compRops P M n ops os with
    | some x, some l => some (x :: l)
    | _, _ => none
def freesOf (ms : List Nat) (L : List SRop) (j : Nat) (y : SRop) : List Nat := (List.range j).filter fun i => !(ms.getD j 0).testBit i && (match L[i]? with | some x => !harmless x y | none => true)
def withFree (F : Nat → SRop → List Nat) (K : Nat → Bool) : Nat → List SRop → List SRop
  | _, [] => []
  | j, y :: l => { y with free := F j y, keep := K j } :: withFree F K (j + 1) l
def pairOK (ms : List Nat) (L : List SRop) (j : Nat) (y : SRop) (i : Nat) : Bool := (ms.getD j 0).testBit i || (match L[i]? with | some x => !x.op.gen && !y.op.gen && apartS x y | none => false)
def compReg (P : Program) (M : List FuncId) (n : Nat) (ops : Array Oper) (draw : Bool) : Option (List SRop) := match compRops P M n ops ops.toList with
  | none => none
  | some L => if draw then
      let ms := masks ops.toList []
      let fr := withFree (freesOf ms L) (fun _ => false) 0 L
      let used := fr.flatMap (·.free)
      if (ops.toList.zipIdx.all fun (o, j) => o.after.toList.all fun e => !Region.binds .any e || decide (e.on < j)) &&
        (L.zipIdx.all fun (y, j) => (List.range j).all fun i => pairOK ms L j y i) then
        some (withFree (freesOf ms L) (fun i => used.contains i) 0 L) else none
    else some L
def SRop.er (o : SRop) : SRop := { o with op := o.op.erase }
theorem erase_gen (o : SOp) : o.erase.gen = o.gen := by cases o <;> rfl
theorem erase_opds (o : SOp) : o.erase.opds = o.opds := by cases o <;> rfl
theorem erase_wr (o : SOp) : wr o.erase = wr o := by cases o <;> rfl
theorem erase_lk (o : SOp) : lk o.erase = lk o := by cases o <;> rfl
theorem erase_al (o : SOp) (h : al o = true) : al o.erase = true := by cases o <;> first | exact h | (simp [al] at h)
theorem er_looks (o : SRop) : o.er.looks = o.looks := by unfold SRop.looks SRop.er; simp only [erase_opds]
theorem er_apart (x y : SRop) : apartS x.er y.er = apartS x y := by unfold apartS; rw [er_looks, er_looks]; rfl
theorem er_harm {x y : SRop} (h : harmless x.er y.er = true) : harmless x y = true := by
  unfold harmless at h ⊢
  simp only [SRop.er, erase_wr, erase_lk] at h
  simp only [Bool.and_eq_true, Bool.or_eq_true, Bool.not_eq_true'] at h ⊢
  obtain ⟨⟨⟨⟨h1, h2⟩, h3⟩, h4⟩, h5⟩ := h
  have ax : al x.op.erase = false → al x.op = false := fun e => by
    cases hx : al x.op with
    | false => rfl
    | true => rw [erase_al _ hx] at e; cases e
  have ay : al y.op.erase = false → al y.op = false := fun e => by
    cases hy : al y.op with
    | false => rfl
    | true => rw [erase_al _ hy] at e; cases e
  refine ⟨⟨⟨⟨h1, h2⟩, h3.imp_left ax⟩, h4.imp_left ay⟩, ?_⟩
  rcases h5 with h5 | h5
  · left
    cases hx : al x.op with
    | false => simp
    | true => cases hy : al y.op with
      | false => simp
      | true => rw [erase_al _ hx, erase_al _ hy] at h5; simp at h5
  · exact .inr h5
theorem compRop_R {P : Program} {M : List FuncId} {n : Nat} {ops : Array Oper} {o : Oper} {so : SRop} (h : compRop P M n ops o = some so) : (∃ s0, compOp P o = some s0 ∧ markM M s0 = so.op) ∧ so.dst = o.dst ∧ (∀ d, o.dst = some d → d < n) ∧
    match o.guard with
    | none => so.guard = none
    | some (j, q) => ∃ oj g, ops[j]? = some oj ∧ oj.dst = some g ∧ so.guard = some (g, q) := by
  unfold compRop at h
  split at h
  case h_1 => cases h
  case h_2 op hop =>
  split at h
  case isFalse => cases h
  case isTrue hd =>
  have hd' : ∀ d, o.dst = some d → d < n := fun d he => by rw [he] at hd; simpa [dstOK] using hd
  split at h
  · rename_i hg
    cases h
    exact ⟨⟨_, hop, rfl⟩, rfl, hd', by first | rfl | rw [hg]⟩
  · rename_i j b hg
    split at h
    case h_2 => cases h
    case h_1 oj hj =>
    split at h
    case h_2 => cases h
    case h_1 g hgd =>
    cases h
    exact ⟨⟨_, hop, rfl⟩, rfl, hd', by (try rw [hg]); exact ⟨oj, g, hj, hgd, rfl⟩⟩
theorem compRops_R {P : Program} {M : List FuncId} {n : Nat} {ops : Array Oper} : ∀ {os : List Oper} {L : List SRop}, compRops P M n ops os = some L → L.length = os.length ∧ ∀ (j : Nat) o so, os[j]? = some o → L[j]? = some so → compRop P M n ops o = some so
  | [], L, h => by simp [compRops] at h; subst h; exact ⟨rfl, fun j o so hj => by simp at hj⟩
  | o :: os, L, h => by
    simp only [compRops] at h
    split at h
    case h_2 => cases h
    case h_1 x l hx hl =>
    cases h
    obtain ⟨h1, h2⟩ := compRops_R hl
    refine ⟨by simp [h1], fun j o' so ho hs => ?_⟩
    cases j with
    | zero => simp at ho hs; subst ho; subst hs; exact hx
    | succ j => exact h2 j o' so (by simpa using ho) (by simpa using hs)
theorem withFree_get (F : Nat → SRop → List Nat) (K : Nat → Bool) : ∀ (L : List SRop) (k j : Nat), (withFree F K k L)[j]? = (L[j]?).map fun y => { y with free := F (k + j) y, keep := K (k + j) }
  | [], k, j => by simp [withFree]
  | y :: l, k, 0 => by simp [withFree]
  | y :: l, k, j + 1 => by
    simp only [withFree, List.getElem?_cons_succ]
    rw [withFree_get F K l (k + 1) j, show k + 1 + j = k + (j + 1) by omega]
theorem withFree_len (F : Nat → SRop → List Nat) (K : Nat → Bool) : ∀ (L : List SRop) (k : Nat), (withFree F K k L).length = L.length
  | [], _ => rfl
  | y :: l, k => by simp [withFree, withFree_len F K l]
theorem CompR.of {P : Program} {M : List FuncId} {n : Nat} {ops : Array Oper} {o : Oper} {c so : SRop} (h : compRop P M n ops o = some c) (e1 : so.op.erase = c.op) (e2 : so.dst = c.dst) (e3 : so.guard = c.guard) : CompR P M n ops o so := by
  obtain ⟨⟨s0, a1, a2⟩, a3, a4, a5⟩ := compRop_R h
  refine ⟨⟨s0, a1, a2.trans e1.symm⟩, e2.trans a3, a4, ?_⟩
  rw [e3]; exact a5
section
variable {cf : Cf} {cx : Cx}
theorem StAt.runs (ok : cf.ok) {T : TL} {H : HL} {a : Act} {w : World} {F : Nat → Option Blk} {ρ : Nat → Option Nat} (h : StAt cf cx T H a w F ρ) {L : List (SRop × List Nat)} {T' : TL} {H' : HL} (hr : Runs cf.P cf.b L (lookT T, lookH H) (lookT T', lookH H'))
    (hd : ∀ p ∈ L, ∀ d, p.1.dst = some d → d < cf.n) {a' : Act} {w' : World} {ρ' : Nat → Option Nat} (hw : RepW cx.w0 cx.N0 cx.NA cf.n ρ' (lookT T') (tot F (lookH H')) a' w') (tr : Trans cx.NA w ρ (tot F (lookH H)) w' ρ' (tot F (lookH H'))) (hdf : a'.defers = a.defers) : StAt cf cx T' H' a' w' F ρ' := by
  have hb := ok.b
  have hn := ok.n
  have site : ∀ p ∈ L, p.1.site < 1000 := fun p hp => by
    unfold SRop.site
    cases hq : p.1.dst with
    | none => simp
    | some d => have := hd p hp d hq; simp; omega
  have rg : ∀ p ∈ L, Rg cf.b (cf.b + p.1.site) := fun p hp => .inl ⟨by omega, by have := site p hp; omega⟩
  have hgh := runs_gh hr (1000000000 + cf.b) (fun p hp => by have := site p hp; omega) h.yd
  have hdom := runs_dom hr
  refine ⟨by rw [kOf_eq hgh]; exact h.iv, h.cl, h.out, h.ol, fun i hi => ?_, ?_, fun i hi => ?_, h.dm, hw, fun x v hx => tr.mv (h.gh x v hx), h.tr.trans tr, ?_⟩
  · rcases hdom i hi with h1 | ⟨p, hp, _, rfl⟩
    · exact h.dis i h1
    · exact h.out _ (rg p hp)
  · have e : lookH H' (1000000000 + cf.b) = lookH H (1000000000 + cf.b) := hgh
    rw [e]; exact h.yd
  · rcases hdom i hi with h1 | ⟨p, hp, _, rfl⟩
    · exact h.av i h1
    · exact rg p hp
  · rw [hdf]; exact h.df.move tr
theorem al_free (ok : cf.ok) {T : TL} {H : HL} {a : Act} {w : World} {F : Nat → Option Blk} {ρ : Nat → Option Nat} (h : StAt cf cx T H a w F ρ) {L : List (SRop × List Nat)} (hd : ∀ p ∈ L, ∀ d, p.1.dst = some d → d < cf.n) : ∀ p ∈ L, al p.1.op = true → F (cf.b + p.1.site) = none := fun p hp _ => by
  have hn := ok.n
  refine h.out _ (.inl ⟨by omega, ?_⟩)
  have : p.1.site < 1000 := by
    unfold SRop.site
    cases hq : p.1.dst with
    | none => simp
    | some d => have := hd p hp d hq; simp; omega
  omega
theorem seq_sound {ops : Array Oper} {r : Option Nat} {md : Nat} {Q : Exit → Act → World → Prop} {R : TL → HL → Prop} (ok : cf.ok) (hQ : ∀ T' H' a' w', R T' H' → RepSt cf cx T' H' a' w' → Q .normal a' w') {acc : List (SRop × List Nat)} {os : List SRop} {T : TL} {H : HL} (hs : Seg cf R acc os T H) :
    ∀ (k : Nat), (∀ (j : Nat) so, os[j]? = some so → ∃ o, ops[k + j]? = some o ∧ CompR cf.P cf.M cf.n ops o so) → ∀ (a : Act) (w : World), RepSt cf cx T H a w → wpOpsIn (WF r) md cf.P ops Q (List.range' k os.length) a w := by
  have run : ∀ (L : List (SRop × List Nat)) (k : Nat) (S S' : SS) (ρ : Nat → Option Nat) (a : Act) (w : World) (rest : List Nat), (∀ (j : Nat) p, L[j]? = some p → ∃ o, ops[k + j]? = some o ∧ CompR cf.P cf.M cf.n ops o p.1) → Runs cf.P cf.b L S S' → RepW cx.w0 cx.N0 cx.NA cf.n ρ S.1 S.2 a w →
      (∀ a' w' ρ', RepW cx.w0 cx.N0 cx.NA cf.n ρ' S'.1 S'.2 a' w' → Trans cx.NA w ρ S.2 w' ρ' S'.2 → a'.defers = a.defers → wpOpsIn (WF r) md cf.P ops Q rest a' w') → wpOpsIn (WF r) md cf.P ops Q (List.range' k L.length ++ rest) a w := by
    intro L
    induction L with
    | nil =>
      intro k S S' ρ a w rest _ hr hw hk
      cases hr with
      | nil => exact hk a w ρ hw (Trans.refl _ _ _ _) rfl
    | cons p L ih =>
      intro k S S' ρ a w rest hc hr hw hk
      cases hr with
      | cons o _ _ S1 _ hstep hrest =>
      rw [List.length_cons, List.range'_succ, List.cons_append, wpOpsIn_cons]
      obtain ⟨o', ho', hc'⟩ := hc 0 _ rfl
      refine step_sound (i := k) (M := cf.M) (by simpa using ho') cx.na hc' hw hstep fun a' w' ρ' hw' ht hd => ?_
      exact ih (k + 1) S1 S' ρ' a' w' rest (fun j p hj => by
        have := hc (j + 1) p (by simpa using hj)
        rwa [show k + (j + 1) = k + 1 + j by omega] at this) hrest hw' (fun a2 w2 ρ2 h2 t2 d2 => hk a2 w2 ρ2 h2 (ht.trans t2) (d2.trans hd))
  have dsts : ∀ {L : List (SRop × List Nat)} {k : Nat}, (∀ (j : Nat) p, L[j]? = some p → ∃ o, ops[k + j]? = some o ∧ CompR cf.P cf.M cf.n ops o p.1) → ∀ p ∈ L, ∀ d, p.1.dst = some d → d < cf.n := fun {L k} hc p hp d hd => by
    obtain ⟨j, hj, rfl⟩ := List.getElem_of_mem hp
    obtain ⟨o, _, hcr⟩ := hc j _ (List.getElem?_eq_getElem hj)
    exact hcr.2.2.1 d (hcr.2.1 ▸ hd)
  induction hs with
  | done acc L T H T' H' h1 h2 h3 h4 =>
    intro k hc a w ⟨F, ρ, hst⟩
    have hc' : ∀ (j : Nat) p, L[j]? = some p → ∃ o, ops[k + j]? = some o ∧ CompR cf.P cf.M cf.n ops o p.1 := fun j p hj => hc j p.1 (by rw [List.getElem?_map, hj]; rfl)
    have := run L k _ _ ρ a w [] hc' (runs_tot (al_free ok hst (dsts hc')) h2) hst.rep (fun a' w' ρ' hw' ht hd => by
      exact hQ T' H' a' w' h4 ⟨F, ρ', hst.runs ok h2 (dsts hc') hw' ht hd⟩)
    rw [List.append_nil] at this
    rwa [List.length_map]
  | gen acc L g os T H T' H' R' h1 h2 h3 h4 h5 _ ih =>
    intro k hc a w ⟨F, ρ, hst⟩
    have hc' : ∀ (j : Nat) p, L[j]? = some p → ∃ o, ops[k + j]? = some o ∧ CompR cf.P cf.M cf.n ops o p.1 := fun j p hj => hc j p.1 (by
      rw [List.getElem?_append_left (by rw [List.length_map]; exact (List.getElem?_eq_some_iff.1 hj).1), List.getElem?_map, hj]; rfl)
    have e : List.range' k (L.map (·.1) ++ g :: os).length = List.range' k L.length ++ ((k + L.length) :: List.range' (k + L.length + 1) os.length) := by
      rw [List.length_append, List.length_map, List.length_cons, ← List.range'_append_1, List.range'_succ]
    rw [e]
    refine run L k _ _ ρ a w _ hc' (runs_tot (al_free ok hst (dsts hc')) h2) hst.rep (fun a' w' ρ' hw' ht hd => ?_)
    have st' : RepSt cf cx T' H' a' w' := ⟨F, ρ', hst.runs ok h2 (dsts hc') hw' ht hd⟩
    rw [wpOpsIn_cons]
    obtain ⟨o, ho, hcr⟩ := hc L.length g (by rw [List.getElem?_append_right (by simp)]; simp)
    refine gen_sound ok ho hcr h4 h5 st' (fun x H2 a2 w2 hx st2 => ?_)
    exact ih x H2 hx (k + L.length + 1) (fun j so hj => by
      have := hc (L.length + 1 + j) so (by
        rw [List.getElem?_append_right (by simp; omega)]
        simp only [List.length_map]
        rw [show L.length + 1 + j - L.length = j + 1 by omega]
        simpa using hj)
      rwa [show k + (L.length + 1 + j) = k + L.length + 1 + j by omega] at this) a2 w2 st2
end
end Go.Proofs.YtboifcengmgcaaaGreat
/- Regions of the shadow, VIII: whatever order is drawn; the law of regions. -/
namespace Go.Proofs.YtboifcengmgcaaaGreat
open Go.RowKit
section
variable {cf : Cf} {cx : Cx}
structure Fits (ms : List Nat) (L0 L : List SRop) : Prop where
  len : L.length = L0.length
  at_ : ∀ (i : Nat) so, L[i]? = some so → ∃ y, L0[i]? = some y ∧ so.op.erase = y.op ∧ so.dst = y.dst ∧ so.guard = y.guard ∧ so.free = freesOf ms L0 i y ∧ so.keep = ((withFree (freesOf ms L0) (fun _ => false) 0 L0).flatMap (·.free)).contains i
theorem any_reg {ops : Array Oper} {r : Option Nat} {md : Nat} {Q : Exit → Act → World → Prop} {R : TL → HL → Prop} (ok : cf.ok) (hQ : ∀ T' H' a' w', R T' H' → RepSt cf cx T' H' a' w' → Q .normal a' w') {L0 L : List SRop} {ms : List Nat} (hms : masks ops.toList [] = ms)
    (hlen0 : L0.length = ops.size) (hR : ∀ (j : Nat) o so, ops[j]? = some o → L0[j]? = some so → compRop cf.P cf.M cf.n ops o = some so) (hf : Fits ms L0 L) (hedge : ∀ j o, ops[j]? = some o → ∀ e ∈ o.after, Region.binds .any e = true → e.on < j)
    (hpair : ∀ (j : Nat) y, L0[j]? = some y → ∀ i, i < j → pairOK ms L0 j y i = true) {acc : List (SRop × List Nat)} {os : List SRop} {T : TL} {H : HL} (hs : Seg cf R acc os T H) :
    ∀ (k : Nat), acc.length = k → L.drop k = os → ∀ (listed : Array Bool) (a : Act) (w : World), listed.size = ops.size → (∀ i, listed.getD i true = false ↔ (k ≤ i ∧ i < ops.size)) → RepSt cf cx T H a w → wpAnyIn (WF r) md cf.P .any ops Q (ops.size - k) listed a w := by
  have hlenL : L.length = ops.size := hf.len.trans hlen0
  have hord : ∀ j o, ops[j]? = some o → ∀ i, (ms.getD j 0).testBit i = true → ∃ e ∈ o.after, Region.binds .any e = true ∧ (i = e.on ∨ (ms.getD e.on 0).testBit i = true) := fun j o ho i hi => by
    rw [← hms] at hi ⊢
    exact masks_spec ops.toList (by simpa using ho) hi
  have ordlt : ∀ j i, j < ops.size → (ms.getD j 0).testBit i = true → i < j := by
    intro j
    induction j using Nat.strongRecOn with
    | _ j ih =>
      intro i hj h
      have ho : ops[j]? = some ops[j] := Array.getElem?_eq_getElem hj
      obtain ⟨e, he, hb, hor⟩ := hord j _ ho i h
      have h1 := hedge j _ ho e he hb
      rcases hor with rfl | hor
      · exact h1
      · have := ih e.on h1 i (by omega) hor; omega
  have close : ∀ {listed : Array Bool} {k : Nat}, listed.size = ops.size → (∀ i, listed.getD i true = false ↔ (k ≤ i ∧ i < ops.size)) → ∀ j, listed.getD j false = true → ∀ i, (ms.getD j 0).testBit i = true → listed.getD i false = true := fun {listed k} hsz hI j hj i hij => by
    have hjl : j < listed.size := by
      rcases Nat.lt_or_ge j listed.size with h | h
      · exact h
      · simp [h] at hj
    have hjs : j < ops.size := by omega
    have hlt := ordlt j i hjs hij
    have h1 : ¬ listed.getD j true = false := by
      have e1 : listed.getD j true = listed[j] := by simp [hjl]
      have e2 : listed.getD j false = listed[j] := by simp [hjl]
      rw [e1]; rw [e2] at hj; rw [hj]; decide
    have h2 : ¬ (k ≤ j ∧ j < ops.size) := fun h => h1 ((hI j).2 h)
    have h3 : ¬ listed.getD i true = false := fun h => by have := (hI i).1 h; omega
    have hil : i < listed.size := by omega
    have e1 : listed.getD i true = listed[i] := by simp [hil]
    have e2 : listed.getD i false = listed[i] := by simp [hil]
    rw [e1] at h3; rw [e2]; simpa using h3
  -- a segment
  have seg : ∀ (acc : List (SRop × List Nat)) (L1 : List (SRop × List Nat)) (k : Nat) (T : TL) (H : HL) (T' : TL) (H' : HL) (d : Nat), acc.length = k → (∀ (j : Nat) p, L1[j]? = some p → L[k + j]? = some p.1) → k + L1.length + d = ops.size → Runs cf.P cf.b L1 (lookT T, lookH H) (lookT T', lookH H') →
      (∀ (j : Nat) o F, L1[j]? = some (o, F) → ∀ i ∈ o.free, ∃ x G, (acc ++ L1.map kept)[i]? = some (x, G) ∧ comp2 cf.b x o G F = true) → (∀ p ∈ L1, p.1.op.gen = false) →
      (d = 0 ∨ ∃ g, L[k + L1.length]? = some g ∧ g.op.gen = true) →
      (∀ (listed : Array Bool) (a' : Act) (w' : World), listed.size = ops.size → (∀ i, listed.getD i true = false ↔ (k + L1.length ≤ i ∧ i < ops.size)) → RepSt cf cx T' H' a' w' → wpAnyIn (WF r) md cf.P .any ops Q d listed a' w') →
      ∀ (listed : Array Bool) (a : Act) (w : World), listed.size = ops.size → (∀ i, listed.getD i true = false ↔ (k ≤ i ∧ i < ops.size)) → RepSt cf cx T H a w → wpAnyIn (WF r) md cf.P .any ops Q (ops.size - k) listed a w := by
    intro acc L1 k T H T' H' d hacc hat htot hruns hfree hng hgen hnext listed a w hsz hI hst
    obtain ⟨F, ρ, hst⟩ := hst
    have hopsAt : ∀ j (hj : j < ops.size), ops[j]? = some (ops[j]'hj) := fun j hj => Array.getElem?_eq_getElem hj
    have hcr : ∀ (j : Nat) p, L1[j]? = some p → ∃ o, ops[k + j]? = some o ∧ CompR cf.P cf.M cf.n ops o p.1 := fun j p hj => by
      have h1 := hat j p hj
      obtain ⟨y, y1, y2, y3, y4, _, _⟩ := hf.at_ _ _ h1
      have hlt : k + j < ops.size := by have := (List.getElem?_eq_some_iff.1 h1).1; omega
      exact ⟨_, hopsAt _ hlt, CompR.of (hR _ _ _ (hopsAt _ hlt) y1) y2 y3 y4⟩
    have dsts : ∀ p ∈ L1, ∀ dd, p.1.dst = some dd → dd < cf.n := fun p hp dd hd => by
      obtain ⟨j, hj, rfl⟩ := List.getElem_of_mem hp
      obtain ⟨o, _, hcr⟩ := hcr j _ (List.getElem?_eq_getElem hj)
      exact hcr.2.2.1 dd (hcr.2.1 ▸ hd)
    have hfoot := hruns.foot
    rw [show ops.size - k = L1.length + d by omega]
    have hz1 : ((L1.zipIdx k).map fun p => (p.2, p.1)).map (fun x => x.2) = L1 := by
      rw [List.map_map]
      have : ((fun x : Nat × SRop × List Nat => x.2) ∘ fun p : (SRop × List Nat) × Nat => (p.2, p.1)) = Prod.fst := rfl
      rw [this, List.zipIdx_map_fst]
    have hmemL : ∀ i, i ∈ ((L1.zipIdx k).map fun p => (p.2, p.1)).map (·.1) ↔ (k ≤ i ∧ i < k + L1.length) := fun i => by
      rw [List.map_map]
      have : ((fun x : Nat × SRop × List Nat => x.1) ∘ fun p : (SRop × List Nat) × Nat => (p.2, p.1)) = Prod.snd := rfl
      rw [this, List.zipIdx_map_snd, List.mem_range'_1]
    have hrest : ∀ i, i ∈ List.range' (k + L1.length) d ↔ (k + L1.length ≤ i ∧ i < ops.size) := fun i => by
      rw [List.mem_range'_1]; omega
    refine any_sound (b := cf.b) (M := cf.M) cx.na (S' := (lookT T', tot F (lookH H'))) (List.range' (k + L1.length) d) d (fun i j => (ms.getD j 0).testBit i) hord hedge (fun a' w' ρ' => Trans cx.NA w ρ (tot F (lookH H)) w' ρ' (tot F (lookH H')) ∧ a'.defers = a.defers) (fun a' w' ρ' listed' hs' hI' hcl' hw' hk => ?_)
      L1.length ((L1.zipIdx k).map fun p => (p.2, p.1)) listed (lookT T, tot F (lookH H)) ρ a w (by simp) hsz (fun i => ?_) (fun i hi j hj => ?_) (fun j hj => ?_) ?_ (close hsz hI) (fun p hp => ?_) ?_ hst.rep (fun a' w' ρ' ht hd => ⟨ht, hd⟩)
    · exact hnext listed' a' w' hs' (fun i => (hI' i).trans (hrest i)) ⟨F, ρ', hst.runs ok hruns dsts hw' hk.1 hk.2⟩
    · rw [hI i, hmemL, hrest]
      omega
    · rw [hmemL] at hi; rw [hrest] at hj; omega
    · rw [hrest] at hj
      rcases hgen with hd0 | ⟨g, hg1, hg2⟩
      · omega
      · obtain ⟨y, y1, y2, _⟩ := hf.at_ _ _ hg1
        have hyg : y.op.gen = true := by rw [← y2, erase_gen]; exact hg2
        refine ⟨k + L1.length, (hrest _).2 ⟨Nat.le_refl _, by omega⟩, ?_, fun i hi => ?_⟩
        · by_cases he : k + L1.length = j
          · exact .inl he
          · right
            have hjl : j < L0.length := by omega
            have hp := hpair j _ (List.getElem?_eq_getElem hjl) (k + L1.length) (by omega)
            unfold pairOK at hp
            rw [y1] at hp
            simpa [hyg] using hp
        · rw [hmemL] at hi
          have hp := hpair (k + L1.length) y y1 i (by omega)
          unfold pairOK at hp
          cases hx : L0[i]? with
          | none => rw [hx] at hp; simpa using hp
          | some x => rw [hx] at hp; simpa [hyg] using hp
    · rw [List.pairwise_map, List.pairwise_iff_getElem]
      intro i j hi hj hij
      simp only [List.getElem_zipIdx]
      refine ⟨by omega, ?_⟩
      simp only [List.length_zipIdx] at hi hj
      have hi1 := List.getElem?_eq_getElem hi
      have hj1 := List.getElem?_eq_getElem hj
      obtain ⟨yi, g1, g2, g3, g4, g5, g6⟩ := hf.at_ _ _ (hat i _ hi1)
      obtain ⟨yj, q1, q2, q3, q4, q5, q6⟩ := hf.at_ _ _ (hat j _ hj1)
      by_cases hb : (ms.getD (k + j) 0).testBit (k + i) = true
      · exact .inl hb
      · right
        have hp := hpair (k + j) yj q1 (k + i) (by omega)
        unfold pairOK at hp
        rw [g1] at hp
        simp only [Bool.or_eq_true, Bool.and_eq_true] at hp
        replace hp := hp.resolve_left hb
        have hap : apartS L1[i].1 L1[j].1 = true := by
          rw [← er_apart]
          rw [← hp.2]
          unfold apartS SRop.looks SRop.er
          simp only [g2, g3, g4, q2, q3, q4]
        refine ⟨hap, ?_⟩
        obtain ⟨fi, ei⟩ := hfoot L1[i] (List.getElem_mem hi)
        obtain ⟨fj, ej⟩ := hfoot L1[j] (List.getElem_mem hj)
        by_cases hh : harmless yi yj = true
        · rw [ei, ej]
          refine harmless_comp (er_harm ?_)
          rw [← hh]
          unfold harmless SRop.er SRop.site
          simp only [g2, g3, q2, q3]
        · have hfr : k + i ∈ freesOf ms L0 (k + j) yj := by
            unfold freesOf
            rw [List.mem_filter]
            refine ⟨List.mem_range.2 (by omega), ?_⟩
            rw [g1]
            simp only [Bool.and_eq_true, Bool.not_eq_true']
            exact ⟨by simpa using hb, by simpa using hh⟩
          obtain ⟨x, G, hx, hcomp⟩ := hfree j L1[j].1 L1[j].2 (by rw [hj1]) (k + i) (by rw [q5]; exact hfr)
          rw [List.getElem?_append_right (by omega), hacc, show k + i - k = i by omega, List.getElem?_map, hi1] at hx
          simp only [Option.map_some, Option.some.injEq, kept, Prod.mk.injEq] at hx
          have hkeep : L1[i].1.keep = true := by
            rw [g6]
            simp only [List.contains_eq_mem, decide_eq_true_eq, List.mem_flatMap]
            refine ⟨{ yj with free := freesOf ms L0 (0 + (k + j)) yj, keep := false }, ?_, by simpa using hfr⟩
            have := withFree_get (freesOf ms L0) (fun _ => false) L0 0 (k + j)
            rw [q1] at this
            exact List.mem_of_getElem? this
          rw [if_pos hkeep] at hx
          obtain ⟨rfl, rfl⟩ := hx
          exact hcomp
    · obtain ⟨q, hq, rfl⟩ := List.mem_map.1 hp
      obtain ⟨j, hj⟩ := List.mem_iff_getElem?.1 hq
      rw [List.getElem?_zipIdx] at hj
      obtain ⟨p, hp1, hp2⟩ := Option.map_eq_some_iff.1 hj
      subst hp2
      exact hcr j p hp1
    · rw [hz1]
      exact runs_tot (al_free ok hst dsts) hruns
  induction hs with
  | done acc L1 T H T' H' h1 h2 h3 h4 =>
    intro k hk hdrop listed a w hsz hI hst
    have hlen1 : L1.length = L.length - k := by have := congrArg List.length hdrop; simp at this; omega
    have hkl : k ≤ L.length ∨ L1.length = 0 := by omega
    have hat : ∀ (j : Nat) p, L1[j]? = some p → L[k + j]? = some p.1 := fun j p hj => by
      rw [← List.getElem?_drop, hdrop, List.getElem?_map, hj]; rfl
    by_cases hkz : k ≤ ops.size
    · refine seg acc L1 k T H T' H' 0 hk hat (by omega) h2 h3 h1 (.inl rfl) (fun listed' a' w' hs' hI' st' => ?_) listed a w hsz hI hst
      refine ⟨?_, hQ T' H' a' w' h4 st'⟩
      rw [List.eq_nil_iff_forall_not_mem]
      intro j hj
      have := (hI' j).1 (mem_ready.1 hj).1
      omega
    · have hL1 : L1 = [] := List.length_eq_zero_iff.1 (by omega)
      subst hL1
      rw [show ops.size - k = 0 by omega]
      have hRT : R T' H' := h4
      have eqs : RepSt cf cx T' H' a w := by
        generalize hl : ([] : List (SRop × List Nat)) = l at h2
        obtain ⟨F, ρ, st⟩ := hst
        have := st.runs (L := l) (a' := a) (w' := w) (ρ' := ρ) (T' := T') (H' := H') ok h2 (fun p hp => by rw [← hl] at hp; cases hp)
        generalize e1 : (lookT T, lookH H) = S at h2
        generalize e2 : (lookT T', lookH H') = S' at h2
        cases h2 with
        | nil =>
          rw [← e2] at e1
          simp only [Prod.mk.injEq] at e1
          exact ⟨F, ρ, this (by rw [← e1.1, ← e1.2]; exact st.rep) (by rw [← e1.2]; exact Trans.refl _ _ _ _) rfl⟩
        | cons => cases hl
      refine ⟨?_, hQ T' H' a w hRT eqs⟩
      rw [List.eq_nil_iff_forall_not_mem]
      intro j hj
      have := (hI j).1 (mem_ready.1 hj).1
      omega
  | gen acc L1 g os T H T' H' R' h1 h2 h3 h4 h5 _ ih =>
    intro k hk hdrop listed a w hsz hI hst
    have hlen1 : L1.length + 1 + os.length = L.length - k := by have := congrArg List.length hdrop; simp at this; omega
    have hat : ∀ (j : Nat) p, L1[j]? = some p → L[k + j]? = some p.1 := fun j p hj => by
      rw [← List.getElem?_drop, hdrop, List.getElem?_append_left (by rw [List.length_map]; exact (List.getElem?_eq_some_iff.1 hj).1), List.getElem?_map, hj]; rfl
    have hg : L[k + L1.length]? = some g := by
      rw [← List.getElem?_drop, hdrop, List.getElem?_append_right (by simp)]; simp
    refine seg acc L1 k T H T' H' (os.length + 1) hk hat (by omega) h2 h3 h1 (.inr ⟨g, hg, h4⟩) (fun listed' a' w' hs' hI' st' => ?_) listed a w hsz hI hst
    have hgs : k + L1.length < ops.size := by omega
    have ho : ops[k + L1.length]? = some ops[k + L1.length] := Array.getElem?_eq_getElem hgs
    obtain ⟨y, y1, y2, y3, y4, _, _⟩ := hf.at_ _ _ hg
    have hyg : y.op.gen = true := by rw [← y2, erase_gen]; exact h4
    have hcr := CompR.of (hR _ _ _ ho y1) y2 y3 y4
    have hunl : ∀ i, k + L1.length ≤ i → i < ops.size → ¬ listed'.getD i false = true := fun i h1 h2 h => by
      have h3 := (hI' i).2 ⟨h1, h2⟩
      have h' : i < listed'.size := by omega
      have e1 : listed'.getD i true = listed'[i] := by simp [h']
      have e2 : listed'.getD i false = listed'[i] := by simp [h']
      rw [e1] at h3
      rw [e2, h3] at h; cases h
    have hready : k + L1.length ∈ Region.ready .any ops listed' := by
      rw [mem_ready]
      refine ⟨(hI' _).2 ⟨Nat.le_refl _, hgs⟩, _, ho, fun e he hb => ?_⟩
      have hlt := hedge _ _ ho e he hb
      have h1 : ¬ listed'.getD e.on true = false := fun h => by have := (hI' e.on).1 h; omega
      have h2 : e.on < listed'.size := by omega
      have e1 : listed'.getD e.on true = listed'[e.on] := by simp [h2]
      have e2 : listed'.getD e.on false = listed'[e.on] := by simp [h2]
      rw [e1] at h1; rw [e2]; simpa using h1
    refine ⟨fun h0 => ?_, fun j hj => ?_⟩
    · rw [h0] at hready; cases hready
    · have hj1 := (hI' j).1 (mem_ready.1 hj).1
      have hje : j = k + L1.length := by
        by_cases he : k + L1.length = j
        · exact he.symm
        · exfalso
          have hjl : j < L0.length := by omega
          have hp := hpair j _ (List.getElem?_eq_getElem hjl) (k + L1.length) (by omega)
          unfold pairOK at hp
          rw [y1] at hp
          have hb : (ms.getD j 0).testBit (k + L1.length) = true := by simpa [hyg] using hp
          exact not_ready (fun i j => (ms.getD j 0).testBit i) hord (close hs' hI') hb (hunl _ (Nat.le_refl _) hgs) hj
      subst hje
      refine gen_sound ok ho hcr h4 h5 st' (fun x H2 a2 w2 hx st2 => ?_)
      have hacc' : (acc ++ L1.map kept ++ [(g, [])]).length = k + L1.length + 1 := by simp; omega
      have := ih x H2 hx (k + L1.length + 1) hacc' (by
        rw [show k + L1.length + 1 = k + (L1.length + 1) by omega, ← List.drop_drop, hdrop]
        rw [List.drop_append, List.drop_eq_nil_of_le (by simp)]
        simp [show L1.length + 1 - L1.length = 1 by omega]) (listed'.setIfInBounds (k + L1.length) true) a2 w2 (by simpa using hs') (fun i => by
        by_cases hi : i = k + L1.length
        · subst hi
          have : k + L1.length < listed'.size := by omega
          constructor
          · intro h; simp [this] at h
          · intro h; omega
        · rw [getD_set_ne true (Ne.symm hi), hI' i]
          omega) st2
      rwa [show ops.size - (k + L1.length + 1) = os.length by omega] at this
theorem wp_reg {ops : Array Oper} {id : Nat} {draw : Bool} {r : Option Nat} {md : Nat} {Q : Exit → Act → World → Prop} {L : List SRop} (ok : cf.ok) (hm : cf.P.follows .mixedOrders = true) (hc : compReg cf.P cf.M cf.n ops draw = some (L.map SRop.er)) {T : TL} {H : HL} {R : TL → HL → Prop} (hr : runP cf L [] T H R .mk) {a : Act} {w : World} (h : RepSt cf cx T H a w)
    (hQ : ∀ T' H' a' w', R T' H' → RepSt cf cx T' H' a' w' → Q .normal a' w') : (Code.region id ops draw).wpIn (WF r) md cf.P Q a w := by
  have hs := runP_seg L [] T H R hr
  unfold compReg at hc
  split at hc
  case h_1 => cases hc
  case h_2 L0 hL0 =>
  obtain ⟨hlen, hR⟩ := compRops_R hL0
  have hR' : ∀ (j : Nat) o so, ops[j]? = some o → L0[j]? = some so → compRop cf.P cf.M cf.n ops o = some so := fun j o so ho hso => hR j o so (by simpa using ho) hso
  cases draw with
  | false =>
    simp only [Bool.false_eq_true, if_false, Option.some.injEq] at hc
    refine wpIn_region ?_
    have hl2 : L.length = ops.size := by
      have := congrArg List.length hc
      simp at this hlen; omega
    rw [← hl2, List.range_eq_range']
    refine seq_sound ok hQ hs 0 (fun j so hj => ?_) a w h
    have hj' : j < L.length := (List.getElem?_eq_some_iff.1 hj).1
    have ho : ops[j]? = some (ops[j]'(by omega)) := Array.getElem?_eq_getElem (by omega)
    have h0 : L0[j]? = some so.er := by rw [hc, List.getElem?_map, hj]; rfl
    rw [Nat.zero_add]
    exact ⟨_, ho, CompR.of (hR' j _ _ ho h0) rfl rfl rfl⟩
  | true =>
    simp only [if_true] at hc
    split at hc
    case isFalse => cases hc
    case isTrue hchk =>
    simp only [Option.some.injEq] at hc
    rw [Bool.and_eq_true, List.all_eq_true, List.all_eq_true] at hchk
    obtain ⟨hk1, hk2⟩ := hchk
    refine wpIn_region_any hm ?_
    have hlen0 : L0.length = ops.size := by simpa using hlen
    have hfits : Fits (masks ops.toList []) L0 L := by
      refine ⟨?_, fun i so hi => ?_⟩
      · have := congrArg List.length hc
        rw [withFree_len, List.length_map] at this; exact this.symm
      · have h1 := withFree_get (freesOf (masks ops.toList []) L0) (fun i => ((withFree (freesOf (masks ops.toList []) L0) (fun _ => false) 0 L0).flatMap (·.free)).contains i) L0 0 i
        rw [hc, List.getElem?_map, hi] at h1
        simp only [Option.map_some, Nat.zero_add] at h1
        cases hy : L0[i]? with
        | none => rw [hy] at h1; cases h1
        | some y =>
          rw [hy] at h1
          simp only [Option.map_some, Option.some.injEq] at h1
          refine ⟨y, rfl, ?_⟩
          unfold SRop.er at h1
          simp only [SRop.mk.injEq] at h1
          obtain ⟨e1, e2, e3, e4, e5⟩ := h1
          exact ⟨e3, e1, e2, e4, e5⟩
    have := any_reg (r := r) (md := md) ok hQ rfl hlen0 hR' hfits (fun j o ho e he hb => by
      have := hk1 (o, j) (List.mem_zipIdx_iff_getElem?.2 (by simpa using ho))
      rw [List.all_eq_true] at this
      have := this e (by simpa using he)
      rw [hb] at this
      simpa using this) (fun j y hy i hij => by
      have := hk2 (y, j) (List.mem_zipIdx_iff_getElem?.2 hy)
      rw [List.all_eq_true] at this
      exact this i (List.mem_range.2 hij)) hs 0 rfl rfl (Array.replicate ops.size false) a { w with drawn := w.drawn + 1 } (by simp) (fun i => by
      constructor
      · intro hi
        rcases Nat.lt_or_ge i ops.size with h' | h'
        · exact ⟨Nat.zero_le _, h'⟩
        · simp [Nat.not_lt.2 h'] at hi
      · rintro ⟨_, hi⟩; simp [hi]) (by
      obtain ⟨F, ρ, st⟩ := h
      obtain ⟨r1, r2⟩ := ext_rep st.rep.heap (Ext.refl w).drew
      exact ⟨F, ρ, ⟨st.iv, st.cl, st.out, st.ol, st.dis, st.yd, st.av, st.dm, ⟨st.rep.size, r1, fun i => r2.mv (st.rep.tmp i)⟩, fun x v hx => r2.mv (st.gh x v hx), st.tr.trans r2, st.df.move r2⟩⟩)
    simpa using this
end
end Go.Proofs.YtboifcengmgcaaaGreat
/- The shadow's code: what holds behind it. -/
namespace Go.Proofs.YtboifcengmgcaaaGreat
open Go.RowKit
inductive SCode where
  | skip
  | reg (L : List SRop) (live : List Nat)
  | seq (a b : SCode)
  | cond (c : Operand) (a b : SCode)
  | block (id : Nat) (c : SCode)
  | loop (c : SCode)
  | exit (id : Nat)
  | ret
  | range (x : Operand) (ps : List Nat) (a b : SCode)
  | scope (c : SCode)
def compCode (P : Program) (M : List FuncId) (n : Nat) : Code → Option SCode
  | .skip => some .skip
  | .label _ => some .skip
  | .region _ ops draw => (compReg P M n ops draw).map fun L => .reg L []
  | .seq a b => match compCode P M n a, compCode P M n b with
    | some x, some y => some (.seq x y)
    | _, _ => none
  | .cond c a b => match compCode P M n a, compCode P M n b with
    | some x, some y => some (.cond c x y)
    | _, _ => none
  | .block id c => (compCode P M n c).map (.block id)
  | .loop c => (compCode P M n c).map .loop
  | .scope c => (compCode P M n c).map .scope
  | .exit id => some (.exit id)
  | .ret => some .ret
  | .rangeFunc g ps a b => match compCode P M n a, compCode P M n b with
    | some x, some y => if ps.toList.all (fun p => decide (p < n)) then some (.range g ps.toList x y) else none
    | _, _ => none
  | _ => none
def SCode.erase : SCode → SCode
  | .reg L _ => .reg (L.map SRop.er) []
  | .seq a b => .seq a.erase b.erase
  | .cond c a b => .cond c a.erase b.erase
  | .block id c => .block id c.erase
  | .loop c => .loop c.erase
  | .range x ps a b => .range x ps a.erase b.erase
  | .scope c => .scope c.erase
  | c => c
def keepT (live : List Nat) (T : TL) : TL := live.map fun i => (i, lookT T i)
theorem comp_block {P : Program} {M : List FuncId} {n id : Nat} {A : SCode} {c : Code} (h : compCode P M n c = some (.block id A)) : ∃ c', c = .block id c' ∧ compCode P M n c' = some A := by
  unfold compCode at h
  split at h
  all_goals first
    | (simp only [Option.map_eq_some_iff, SCode.block.injEq] at h
       obtain ⟨x, hx, h1, h2⟩ := h
       subst h1; subst h2
       exact ⟨_, rfl, hx⟩)
    | (exfalso; (repeat' (split at h)) <;> simp at h; done)
theorem comp_loop {P : Program} {M : List FuncId} {n : Nat} {A : SCode} {c : Code} (h : compCode P M n c = some (.loop A)) : ∃ c', c = .loop c' ∧ compCode P M n c' = some A := by
  unfold compCode at h
  split at h
  all_goals first
    | (simp only [Option.map_eq_some_iff, SCode.loop.injEq] at h
       obtain ⟨x, hx, h1⟩ := h
       subst h1
       exact ⟨_, rfl, hx⟩)
    | (exfalso; (repeat' (split at h)) <;> simp at h; done)
theorem comp_range {P : Program} {M : List FuncId} {n : Nat} {x : Operand} {ps : List Nat} {A B : SCode} {c : Code} (h : compCode P M n c = some (.range x ps A B)) : ∃ a b, c = .rangeFunc x ⟨ps⟩ a b ∧ compCode P M n a = some A ∧ compCode P M n b = some B ∧ ∀ p ∈ ps, p < n := by
  unfold compCode at h
  split at h
  case h_11 g ps' a b =>
    split at h
    case h_2 => cases h
    case h_1 x' y' hx hy =>
    split at h
    case isFalse => cases h
    case isTrue hps =>
    simp only [Option.some.injEq, SCode.range.injEq] at h
    obtain ⟨rfl, rfl, rfl, rfl⟩ := h
    refine ⟨a, b, rfl, hx, hy, fun p hp => ?_⟩
    rw [List.all_eq_true] at hps
    simpa using hps p hp
  all_goals (exfalso; (repeat' (split at h)) <;> simp at h; done)
def STri (cf : Cf) (sc : SCode) (T : TL) (H : HL) (Q : Exit → TL → HL → Prop) (_ : Hold Q := .mk) : Prop :=
  cf.ok → cf.P.follows .mixedOrders = true → ∀ c, compCode cf.P cf.M cf.n c = some sc.erase → ∀ (r : Option Nat) (md : Nat), (cf.o = true → r = none) → ∀ (cx : Cx), (∀ i, cf.b ≤ i → i < cf.b + 1000 → i ∉ cf.K → cx.Hs i = none) → (cf.o = true → ∀ i, Up cf.b i → cx.Hs i = none) →
    ∀ (a : Act) (w : World), RepSt cf cx T H a w → c.wpIn (WF r) md cf.P (fun e a' w' => ∃ T' H', Q e T' H' ∧ RepSt cf cx T' H' a' w') a w
section
variable {cf : Cf} {T : TL} {H : HL} {Q : Exit → TL → HL → Prop}
theorem STri.mono {sc : SCode} {Q' : Exit → TL → HL → Prop} (h : STri cf sc T H Q) (hq : ∀ e T H, Q e T H → Q' e T H) : STri cf sc T H Q' := fun ok hm c hc r md hr cx hx hu a w hst =>
  wpIn_mono (h ok hm c hc r md hr cx hx hu a w hst) fun e a' w' ⟨T', H', q, r⟩ => ⟨T', H', hq _ _ _ q, r⟩
theorem st_skip (h : Q .normal T H) : STri cf .skip T H Q := fun ok hm c hc r md hr cx hx hu a w hst => by
  unfold compCode at hc
  split at hc <;> first
    | exact wpIn_skip ⟨T, H, h, hst⟩
    | exact wpIn_label ⟨T, H, h, hst⟩
    | (exfalso; (repeat' (split at hc)) <;> simp [SCode.erase] at hc; done)
theorem st_ret (h : Q .ret T H) : STri cf .ret T H Q := fun ok hm c hc r md hr cx hx hu a w hst => by
  unfold compCode at hc
  split at hc <;> first
    | exact wpIn_ret ⟨T, H, h, hst⟩
    | (exfalso; (repeat' (split at hc)) <;> simp [SCode.erase] at hc; done)
theorem st_exit {id : Nat} (h : Q (.exit id) T H) : STri cf (.exit id) T H Q := fun ok hm c hc r md hr cx hx hu a w hst => by
  unfold compCode at hc
  split at hc <;> first
    | (simp [SCode.erase] at hc; subst hc; exact wpIn_exit ⟨T, H, h, hst⟩)
    | (exfalso; (repeat' (split at hc)) <;> simp [SCode.erase] at hc; done)
theorem lookT_keep (live : List Nat) (T : TL) (i : Nat) : lookT (keepT live T) i = if i ∈ live then lookT T i else .dead := by
  unfold keepT
  induction live with
  | nil => rfl
  | cons j l ih =>
    simp only [List.map_cons, lookT, ih, List.mem_cons]
    by_cases h : i = j
    · simp [h]
    · simp [h]
theorem rep_keep {cx : Cx} {a : Act} {w : World} (live : List Nat) (h : RepSt cf cx T H a w) : RepSt cf cx (keepT live T) H a w := by
  obtain ⟨F, ρ, h⟩ := h
  refine ⟨F, ρ, h.iv, h.cl, h.out, h.ol, h.dis, h.yd, h.av, h.dm, ⟨h.rep.size, h.rep.heap, fun i => ?_⟩, h.gh, h.tr, h.df⟩
  rw [lookT_keep]
  split
  · exact h.rep.tmp i
  · exact .dead _
theorem st_reg {L : List SRop} {live : List Nat} (h : runP cf L [] T H (fun T H => Q .normal (keepT live T) H) .mk) : STri cf (.reg L live) T H Q := fun ok hm c hc r md hr cx hx hu a w hst => by
  unfold compCode at hc
  split at hc <;> first
    | (simp only [SCode.erase, Option.map_eq_some_iff, SCode.reg.injEq, and_true] at hc
       obtain ⟨L', hL, rfl⟩ := hc
       exact wp_reg ok hm hL h hst fun T' H' a' w' q r => ⟨keepT live T', H', q, rep_keep live r⟩)
    | (exfalso; (repeat' (split at hc)) <;> simp [SCode.erase] at hc; done)
def seqQ (cf : Cf) (y : SCode) (Q : Exit → TL → HL → Prop) : Exit → TL → HL → Prop
  | .normal, T, H => STri cf y T H Q
  | e, T, H => Q e T H
theorem st_seq {x y : SCode} (h : STri cf x T H (seqQ cf y Q)) : STri cf (.seq x y) T H Q := fun ok hm c hc r md hr cx hx hu a w hst => by
  unfold compCode at hc
  split at hc <;> first
    | (split at hc
       case h_2 => cases hc
       case h_1 x' y' hx' hy' =>
       simp only [SCode.erase, Option.some.injEq, SCode.seq.injEq] at hc
       obtain ⟨rfl, rfl⟩ := hc
       refine wpIn_seq (wpIn_mono (h ok hm _ hx' r md hr cx hx hu a w hst) fun e a' w' hq => ?_)
       obtain ⟨T', H', q, st⟩ := hq
       cases e with
       | normal => exact q ok hm _ hy' r md hr cx hx hu a' w' st
       | _ => exact ⟨T', H', q, st⟩)
    | (exfalso; (repeat' (split at hc)) <;> simp [SCode.erase] at hc; done)
theorem st_cond {x : Operand} {A B : SCode} {t : Bool} (ht : ev (lookT T) x = .c (.val (.bool t))) (h1 : t = true → STri cf A T H Q) (h2 : t = false → STri cf B T H Q) : STri cf (.cond x A B) T H Q := fun ok hm c hc r md hr cx hx hu a w hst => by
  unfold compCode at hc
  split at hc <;> first
    | (split at hc
       case h_2 => cases hc
       case h_1 x' y' hx' hy' =>
       simp only [SCode.erase, Option.some.injEq, SCode.cond.injEq] at hc
       obtain ⟨rfl, rfl, rfl⟩ := hc
       have hst' := hst
       obtain ⟨F, ρ, st⟩ := hst
       exact wpIn_cond_split (bool_of st.rep.tmp ht) (fun e => h1 e ok hm _ hx' r md hr cx hx hu a w hst') (fun e => h2 e ok hm _ hy' r md hr cx hx hu a w hst'))
    | (exfalso; (repeat' (split at hc)) <;> simp [SCode.erase] at hc; done)
def blockQ (id : Nat) (Q : Exit → TL → HL → Prop) : Exit → TL → HL → Prop
  | .exit id', T, H => if id' = id then Q .normal T H else Q (.exit id') T H
  | e, T, H => Q e T H
theorem st_block {id : Nat} {A : SCode} (h : STri cf A T H (blockQ id Q)) : STri cf (.block id A) T H Q := fun ok hm c hc r md hr cx hx hu a w hst => by
  obtain ⟨x', rfl, hx'⟩ := comp_block hc
  refine wpIn_block (wpIn_mono (h ok hm _ hx' r md hr cx hx hu a w hst) fun e a' w' hq => ?_)
  obtain ⟨T', H', q, st⟩ := hq
  cases e with
  | exit id' =>
    simp only [Exit.inBlock]
    simp only [blockQ] at q
    by_cases he : id' = id
    · rw [if_pos he] at q ⊢; exact ⟨T', H', q, st⟩
    · rw [if_neg he] at q ⊢; exact ⟨T', H', q, st⟩
  | _ => exact ⟨T', H', q, st⟩
def loopQ (I : Nat → TL → HL → Prop) (m : Nat) (Q : Exit → TL → HL → Prop) : Exit → TL → HL → Prop
  | .normal, T, H => ∃ m', m' < m ∧ I m' T H
  | e, T, H => Q e T H
theorem st_loop {A : SCode} (I : Nat → TL → HL → Prop) {m0 : Nat} (h0 : I m0 T H) (hr : ∀ m T H, I m T H → STri cf A T H (loopQ I m Q)) : STri cf (.loop A) T H Q := fun ok hm c hc r md hro cx hx hu a w hrep => by
  obtain ⟨x', rfl, hx'⟩ := comp_loop hc
  classical
  let E : Act → World → Nat → Prop := fun a w m => ∃ T H, I m T H ∧ RepSt cf cx T H a w
  have least : ∀ a w, (∃ m, E a w m) → ∃ m, E a w m ∧ ∀ m', E a w m' → m ≤ m' := fun a w ⟨m, hm⟩ => by
    induction m using Nat.strongRecOn with
    | _ m ih =>
      by_cases h : ∃ m', m' < m ∧ E a w m'
      · obtain ⟨m', h1, h2⟩ := h; exact ih m' h1 h2
      · exact ⟨m, hm, fun m' h' => by
          rcases Nat.lt_or_ge m' m with h2 | h2
          · exact absurd ⟨m', h2, h'⟩ h
          · exact h2⟩
  refine wpIn_loop (fun a w => ∃ m, E a w m) (fun a w => if h : ∃ m, E a w m then (least a w h).choose else 0) ⟨m0, T, H, h0, hrep⟩ fun a w hI => ?_
  obtain ⟨T1, H1, i1, r1⟩ := (least a w hI).choose_spec.1
  refine wpIn_mono (hr _ T1 H1 i1 ok hm _ hx' r md hro cx hx hu a w r1) fun e a' w' hq => ?_
  obtain ⟨T', H', q, st⟩ := hq
  cases e with
  | normal =>
    obtain ⟨m', hlt, i'⟩ := q
    have hE : ∃ m, E a' w' m := ⟨m', T', H', i', st⟩
    refine ⟨hE, ?_⟩
    rw [dif_pos hE, dif_pos hI]
    exact Nat.lt_of_le_of_lt ((least a' w' hE).choose_spec.2 m' ⟨T', H', i', st⟩) hlt
  | _ => exact ⟨T', H', q, st⟩
theorem st_weak {sc : SCode} {T' : TL} {H' : HL} (hw : cf.ok → ∀ (cx : Cx), (∀ i, cf.b ≤ i → i < cf.b + 1000 → i ∉ cf.K → cx.Hs i = none) → ∀ a w, RepSt cf cx T H a w → RepSt cf cx T' H' a w) (h : STri cf sc T' H' Q) : STri cf sc T H Q :=
  fun ok hm c hc r md hr cx hx hu a w hst => h ok hm c hc r md hr cx hx hu a w (hw ok cx hx a w hst)
end
end Go.Proofs.YtboifcengmgcaaaGreat
